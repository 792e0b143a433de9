/- The walks of functions: the code comes to the answers that QgD tells. Written by a program of ours. -/
import Derived.Test.YtnkhjipmmomjoaaGreatQgW0
set_option linter.all false
set_option maxHeartbeats 4000000
set_option linter.unusedVariables false
set_option maxRecDepth 100000
namespace Go.Ev
variable {C:Bi}

/- slices.Insert[[]int,int] -/
def LJ:List Bv:=[⟨some 6,.nilS 1,none⟩]
def LK:List Bv:=[m_ 10 0,m_ 11 1,⟨some 12,.p (.slice (.t 10) (some (.t 11)) none 1),none⟩]
def LL:=[m_ 13 2,n_ 14 13,m_ 7 14]
def LN:=[m_ 15 7,B_ .eql 16 15 0]
def LO:=[m_ 17 0,m_ 6 17]
def LP:=[m_ 18 0,n_ 19 18,m_ 8 19]
def LQ:=[m_ 20 1,m_ 21 8,b_ .eql 22 20 21]
def LS:List Bv:=[m_ 23 0,m_ 24 2,⟨some 25,.app 1 8 (.t 23) (.t 24),none⟩,m_ 6 25]
def LT:List Bv:=[m_ 26 8,m_ 27 7,b_ .add 28 26 27,m_ 29 0,⟨some 30,.cap (.t 29),none⟩,b_ .gtr 31 28 30]
def LU:List Bv:=[m_ 32 0,m_ 33 1,⟨some 34,.p (.slice (.t 32) none (some (.t 33)) 1),none⟩,m_ 35 8,m_ 36 7,b_ .add 37 35 36,m_ 38 1,b_ .sub 39 37 38,⟨some 40,.appz 1 8 [iV 0] (.t 34) (.t 39),none⟩,m_ 9 40]
def uJ:List Bv:=[m_ 41 9,m_ 42 1,⟨some 43,.p (.slice (.t 41) (some (.t 42)) none 1),none⟩,m_ 44 2,⟨some 45,.copy 1 (.t 43) (.t 44),none⟩]
def uK:=tk [m_ 46 9,m_ 47 1,m_ 48 7,b_ .add 49 47 48,⟨some 50,.p (.slice (.t 46) (some (.t 49)) none 1),none⟩,m_ 51 0,m_ 52 1,⟨some 53,.p (.slice (.t 51) (some (.t 52)) none 1),none⟩] (.alt [] ⟨some 54,.copy 1 (.t 50) (.t 53),none⟩ .fin .stop)
def uL:=[m_ 55 9,m_ 6 55]
def uM:List Bv:=[m_ 56 0,m_ 57 8,m_ 58 7,b_ .add 59 57 58,⟨some 60,.p (.slice (.t 56) none (some (.t 59)) 1),none⟩,m_ 0 60]
def uN:List Bv:=[m_ 61 2,m_ 62 0,m_ 63 1,m_ 64 7,b_ .add 65 63 64,⟨some 66,.p (.slice (.t 62) (some (.t 65)) none 1),none⟩,iQ 67 (.ovl (.t 61) (.t 66)),N_ 68 67]
def uO:=tk [m_ 69 0,m_ 70 1,m_ 71 7,b_ .add 72 70 71,⟨some 73,.p (.slice (.t 69) (some (.t 72)) none 1),none⟩,m_ 74 0,m_ 75 1,⟨some 76,.p (.slice (.t 74) (some (.t 75)) none 1),none⟩] (.alt [] ⟨some 77,.copy 1 (.t 73) (.t 76),none⟩ .fin .stop)
def uP:List Bv:=[m_ 78 0,m_ 79 1,⟨some 80,.p (.slice (.t 78) (some (.t 79)) none 1),none⟩,m_ 81 2,⟨some 82,.copy 1 (.t 80) (.t 81),none⟩]
def uQ:=[m_ 83 0,m_ 6 83]
def uR:List Bv:=[m_ 84 0,m_ 85 8,⟨some 86,.p (.slice (.t 84) (some (.t 85)) none 1),none⟩,m_ 87 2,⟨some 88,.copy 1 (.t 86) (.t 87),none⟩]
def uS:List Bv:=[m_ 89 0,m_ 90 1,⟨some 91,.p (.slice (.t 89) (some (.t 90)) none 1),none⟩,m_ 92 7,q_ 93 143 [.t 91,.t 92]]
def uT:=[m_ 94 0,m_ 6 94]
def LI:Dj:=⟨3,95,[.t 6],sr LJ (sr LK (sr LL (.seq (sr LN (iz 16 (rr LO))) (sr LP (.seq (sr LQ (iz 22 (rr LS))) (.seq (sr LT (iz 31 (sr LU (sr uJ (sd uK (rr uL)))))) (sr uM (.seq (sr uN (iz 68 (sd uO (sr uP (rr uQ))))) (sr uR (sr uS (rr uT)))))))))))⟩
def K122 (D:Bi):Prop:=∀a0 a1 a2 r,g122 a0 a1 a2=some r→D 122 ⟨[oI 1024000 a0,iV a1,oI 2097152 a2],[]⟩ ⟨oI 0 r.1,[],[(0,1,r.2.map eI)]⟩
abbrev Sw:=fun x0 x1 (r:List (Nat×V))=>(0,oI 1024000 x0)::(2,oI 2097152 x1)::r
theorem F122:K122 (FO C LI):=by
 intro a0 a1 a2 r h0
 refine f0 ?_
 obtain ⟨⟨hb,hpos,hl⟩,h0⟩:=grd h0
 obtain rfl:=sj h0
 obtain ⟨i,rfl⟩:=Int.eq_ofNat_of_zero_le hb.1
 have hi:i≤a0.length:=by omega
 rw [show ((i:Nat):Int).toNat=i from rfl]
 have hbyte:(a0.length+a2.length)*8≤140737488355328:=Nat.le_trans (Nat.mul_le_mul_right 8 hl) (by decide)
 have hsm:a0.length+a2.length≤140737488355328:=by omega
 have w1:wi ((a0.length:Int)+(a2.length:Int))=((a0.length+a2.length:Nat):Int):=FB _ (by omega) (by omega)
 have w2:wi ((i:Int)+(a2.length:Int))=((i+a2.length:Nat):Int):=FB _ (by omega) (by omega)
 have w3:wi (((a0.length+a2.length:Nat):Int)-(i:Int))=((a0.length+a2.length-i:Nat):Int):=FB _ (by omega) (by omega)
 refine Az 3 (Sw a0 a2 [(1,iV i)]) [] (Ay 3 (Ao (st (c_ (Ey (e:=eI) (y:=a0.drop i) rfl rfl tv ⟨tv,tv⟩ rfl rfl (cX a0 i hi)) (o_ (Az 1 (Sw a0 a2 [(1,iV i)]) [] (Bm (Ao (st (Ca rfl tv (Yv rfl (o_ (Az 2 (Sw a0 a2 [(1,iV i),(7,iV (a2.length:Int))]) [] (Ay 6 (Vw (cb:=(a2.length:Int)==0) rfl (fun h=>absurd (eq_of_beq h) (by omega)) (fun _=>(Az 1 (Sw a0 a2 [(1,iV i),(7,iV (a2.length:Int))]) [] (Bm (Ao ?_)))))))))))))))))))
 refine st (Ca rfl tv (Yv rfl (o_ (Az 2 (Sw a0 a2 [(1,iV i),(7,iV (a2.length:Int)),(8,iV (a0.length:Int))]) [] (Ay 7 (Vw (cb:=(i:Int)==(a0.length:Int)) rfl (fun h=>?_) (fun h=>?_)))))))
 ·have e1:i=a0.length:=by have:=eq_of_beq h; omega
  subst e1
  rw [List.take_length,List.drop_length,List.append_nil]
  refine Ay 3 (Ao (st (Je (e:=eI) (l0:=a0) (l1:=a2) rfl rfl tv rfl (show (1024000:Nat)<1048576 by decide) hbyte (o_ (Az 2 [(6,oI 1024000 (a0++a2)),(2,oI 2097152 a2)] [] ?_)))))
  exact Lf (Eg rfl rfl rfl rfl rfl ⟨⟨rfl,Mr (fun _=>rfl)⟩,tv⟩)
 have hlt:i<a0.length:=by
  have:(i:Int)≠(a0.length:Int):=fun h1=>by rw [h1] at h; simp at h
  omega
 have hemp:a0.map eI≠[]:=fun e1=>by
  have:=congrArg List.length e1
  simp at this
  subst this
  simp at hlt
 have hemp2:a2.map eI≠[]:=fun e1=>by
  have:=congrArg List.length e1
  simp at this
  subst this
  simp at hpos
 refine Az 1 (Sw a0 a2 [(1,iV i),(7,iV (a2.length:Int)),(8,iV (a0.length:Int))]) [] (Ay 4 (Ao (st (c_ (Ax (v:=iV ((a0.length+a2.length:Nat):Int)) ⟨tv,tv,tv⟩ (congrArg (fun z=>some (True,V.int .i64 z)) w1) tv) (st (Ca rfl tv (st (cap_ (e:=eI) (l0:=a0) rfl fun c hc _ _=>(o_ (Ay 2 ?_))))))))))
 refine Dd ⟨[(31,.bool (decide (((a0.length+a2.length:Nat):Int)>(c:Int)))),(0,oI 1024000 a0),(1,iV i),(2,oI 2097152 a2),(7,iV (a2.length:Int)),(8,iV (a0.length:Int))],[],[(0,Et+(c:Int))]⟩
  (BF ⟨rfl,rfl,rfl,rfl,rfl,rfl,tv⟩ tv ⟨.inr (.inr ⟨29,Et+(c:Int),_,_,0,_,0,_,rfl,rfl,hemp,rfl,hemp,by decide,.inr ⟨rfl,rfl⟩⟩),tv⟩) ?_
 refine Vw (cb:=decide (((a0.length+a2.length:Nat):Int)>(c:Int))) rfl (fun hgt=>?_) (fun hle=>?_)
 ·have hgt':c<a0.length+a2.length:=by have:=of_decide_eq_true hgt; omega
  refine Ay 3 (Ao (st (c_ (Ey (e:=eI) (y:=a0.take i) rfl rfl tv ⟨tv,tv⟩ rfl rfl (by rw [show (none:Option Int).getD 0=((0:Nat):Int) from rfl]; exact slcN a0 0 i (by omega) (by omega))) (o_ (Ay 2 (Ao (st (c_ (Ax (v:=iV ((a0.length+a2.length:Nat):Int)) ⟨tv,tv,tv⟩ (congrArg (fun z=>some (True,V.int .i64 z)) w1) tv) (st (Ca rfl tv (st (c_ (Ax (v:=iV ((a0.length+a2.length-i:Nat):Int)) ⟨tv,tv,tv⟩ (congrArg (fun z=>some (True,V.int .i64 z)) w3) tv) (st (tF (e:=eI) (l0:=a0.take i) (c:=Et+(c:Int)-0) (t:=1024000) (default:Int) rfl rfl rfl (by decide) (Int.natCast_nonneg _) ?_ rfl (by omega) ?_ ?_))))))))))))))
  ·have e1:(a0.take i).length+(a0.length+a2.length-i)=a0.length+a2.length:=by simp; omega
   have:=Int.ofNat_le.2 hbyte
   rw [Int.natCast_mul] at this
   rw [←Int.natCast_add,e1]
   exact this
  ·have e1:(a0.take i).length=i:=by simp; omega
   rw [e1]; omega
  rw [show ((a0.length+a2.length-i:Nat):Int).toNat=a0.length+a2.length-i from rfl]
  refine o_ (Az 2 (Sw a0 a2 [(9,oI 2560 (a0.take i++List.replicate (a0.length+a2.length-i) (default:Int))),(1,iV i),(7,iV (a2.length:Int))]) [] ?_)
  generalize hR:a0.take i++List.replicate (a0.length+a2.length-i) (default:Int)=R
  have hRl:R.length=a0.length+a2.length:=by rw [←hR]; simp; omega
  have hRt:R.take i=a0.take i:=by rw [←hR,List.take_append_of_le_length (by simp; omega),List.take_take,Nat.min_self]
  refine Ay 3 (Ao (st (c_ (Ey (e:=eI) (y:=R.drop i) rfl rfl tv ⟨tv,tv⟩ rfl rfl (cX R i (by omega))) (st (Ca rfl tv (st (copy_ (e:=eI) (l0:=R.drop i) (l1:=a2) (t:=2560) rfl rfl tv rfl (Gr (Dd ⟨[(9,oI 2560 (ovl R i (a2.take (R.drop i).length))),(0,oI 1024000 a0),(1,iV i),(2,oI 2097152 a2),(7,iV (a2.length:Int))],[],[]⟩ (fg ⟨congrArg (fun z=>some (V.own 2560 0 1 z)) (Jq (off:=0)),rfl,rfl,rfl,rfl,tv⟩ tv) ?_)))))))))
  have hR2l:(ovl R i (a2.take (R.drop i).length)).length=a0.length+a2.length:=by rw [gO,hRl]
  generalize hR2:ovl R i (a2.take (R.drop i).length)=R2 at hR2l
  refine Ay 4 (Bg (Ag tv (c_ (Ax (v:=iV ((i+a2.length:Nat):Int)) ⟨tv,tv,tv⟩ (congrArg (fun z=>some (True,V.int .i64 z)) w2) tv) (⟨tv,Ag tv (c_ (Ey (e:=eI) (y:=R2.drop (i+a2.length)) rfl rfl tv ⟨tv,tv⟩ rfl rfl (cX R2 (i+a2.length) (by omega))) (⟨tv,d_ (Ay 2 (Bg (Ag tv (c_ (Ey (e:=eI) (y:=a0.drop i) rfl rfl tv ⟨tv,tv⟩ rfl rfl (cX a0 i hi)) (⟨tv,Bq (copy_ (e:=eI) (l0:=R2.drop (i+a2.length)) (l1:=a0.drop i) (t:=2560) rfl rfl tv rfl (d0 tv (Hb ?_))) Aw⟩)))))⟩))⟩))))
  have hfin:ovl R2 (i+a2.length) ((a0.drop i).take (R2.drop (i+a2.length)).length)=a0.take i++a2++a0.drop i:=by
   rw [←hR2]
   exact ovl_ins hRl hRt hi
  refine Dd ⟨[(9,oI 2560 (a0.take i++a2++a0.drop i)),(2,oI 2097152 a2)],[],[]⟩ (fg ⟨(congrArg (fun z=>some (V.own 2560 0 1 z)) (Jq (off:=0))).trans (congrArg (fun z=>some (V.own 2560 0 1 (z.map eI))) hfin),rfl,tv⟩ tv) (Ay 5 ?_)
  exact Lf (Eg rfl rfl rfl rfl rfl ⟨⟨rfl,Mr (fun _=>rfl)⟩,tv⟩)
 ·have hle':a0.length+a2.length≤c:=by have:=of_decide_eq_false hle; omega
  refine Js ?_
  refine Dd ⟨[(0,oI 1024000 a0),(1,iV i),(2,oI 2097152 a2),(7,iV (a2.length:Int)),(8,iV (a0.length:Int))],[],[(0,Et+(c:Int))]⟩
   (BF ⟨rfl,rfl,rfl,rfl,rfl,tv⟩ tv ⟨.inl ⟨_,rfl,.inl rfl⟩,tv⟩) ?_
  refine Ay 4 (Ao (st (c_ (Ax (v:=iV ((a0.length+a2.length:Nat):Int)) ⟨tv,tv,tv⟩ (congrArg (fun z=>some (True,V.int .i64 z)) w1) tv) (st (c_ (pZ (e:=eI) (l0:=a0) (t:=1024000) (sz:=1) (H:=a0.length+a2.length) (c:=Et+(c:Int)) rfl rfl (Nat.le_add_right _ _) (show (0:Nat)<1 by decide) rfl (by rw [aX]; omega)) (st (Ca rfl tv (Gr ?_))))))))
  rw [Nat.add_sub_cancel_left]
  have hA0:(a0.map some++List.replicate a2.length none).length=a0.length+a2.length:=by simp
  have hA1:(a0.map some++List.replicate a2.length none).take i=(a0.take i).map some:=by rw [List.take_append_of_le_length (by simpa using hi),List.map_take]
  have hA2:((a0.map some++List.replicate a2.length none).drop i).take (a0.length-i)=(a0.drop i).map some:=by
   rw [List.drop_append_of_le_length (by simpa using hi),←List.map_drop,List.take_append_of_le_length (by simp),List.take_of_length_le (by simp)]
  generalize (a0.map some++List.replicate a2.length none:List (Option (Int)))=A at hA0 hA1 hA2
  refine Az 0 [(0,.own 1024000 0 1 (A.map (eo eI 1))),(1,iV i),(2,oI 2097152 a2),(7,iV (a2.length:Int)),(8,iV (a0.length:Int))] [] (Ay 6 (Ao (st (c_ (Ax (v:=iV ((i+a2.length:Nat):Int)) ⟨tv,tv,tv⟩ (congrArg (fun z=>some (True,V.int .i64 z)) w2) tv) (st (c_ (Ey (e:=eo eI 1) (y:=A.drop (i+a2.length)) rfl rfl tv ⟨tv,tv⟩ rfl rfl (cX A (i+a2.length) (by omega))) (st (c_ (covl rfl rfl (by decide) hemp2 (fun e1=>?_)) ?_))))))))
  ·have:=congrArg List.length e1
   simp at this
   omega
  refine o_ (Az 2 [(68,.bool true),(0,.own 1024000 0 1 (A.map (eo eI 1))),(1,iV i),(2,oI 2097152 a2),(7,iV (a2.length:Int)),(8,iV (a0.length:Int))] [] (Vw (cb:=true) rfl (fun _=>(Ay 4 (Bg (Ag tv (c_ (Ax (v:=iV ((i+a2.length:Nat):Int)) ⟨tv,tv,tv⟩ (congrArg (fun z=>some (True,V.int .i64 z)) w2) tv) (⟨tv,Ag tv (c_ (Ey (e:=eo eI 1) (y:=A.drop (i+a2.length)) rfl rfl tv ⟨tv,tv⟩ rfl rfl (cX A (i+a2.length) (by omega))) (⟨tv,d_ (Ay 2 (Bg (Ag tv (c_ (Ey (e:=eo eI 1) (y:=A.drop i) rfl rfl tv ⟨tv,tv⟩ rfl rfl (cX A i (by omega))) (⟨tv,Bq (copy_ (e:=eo eI 1) (l0:=A.drop (i+a2.length)) (l1:=A.drop i) (t:=1024000) rfl rfl tv rfl (d0 tv (Hb ?_))) Aw⟩)))))⟩))⟩)))))) (fun h=>by cases h)))
  have hB:(A.drop i).take (A.drop (i+a2.length)).length=(a0.drop i).map some:=by
   rw [←hA2]; congr 1; simp; omega
  rw [hB]
  refine Dd ⟨[(0,.own 1024000 0 1 ((ovl A (i+a2.length) ((a0.drop i).map some)).map (eo eI 1))),(1,iV i),(2,oI 2097152 a2)],[],[]⟩ (fg ⟨congrArg (fun z=>some (V.own 1024000 0 1 z)) (Jq (off:=0)),rfl,rfl,tv⟩ tv) ?_
  have hR2l:(ovl A (i+a2.length) ((a0.drop i).map some)).length=a0.length+a2.length:=by rw [gO,hA0]
  have hfin:ovl (ovl A (i+a2.length) ((a0.drop i).map some)) i (a2.map some)=(a0.take i++a2++a0.drop i).map some:=DO hA0 hA1 hi
  generalize ovl A (i+a2.length) ((a0.drop i).map some)=R2 at hR2l hfin
  refine Ay 3 (Ao (st (c_ (Ey (e:=eo eI 1) (y:=R2.drop i) rfl rfl tv ⟨tv,tv⟩ rfl rfl (cX R2 i (by omega))) (st (Ca rfl tv (st (copy_ (e:=eo eI 1) (l0:=R2.drop i) (l1:=a2.map some) (t:=1024000) rfl rfl tv (congrArg (fun z=>some (1,z)) (Xr a2)) (Gr ?_))))))))
  have hT:(a2.map some).take (R2.drop i).length=a2.map some:=List.take_of_length_le (by simp; omega)
  rw [hT]
  refine Dd ⟨[(0,oI 1024000 (a0.take i++a2++a0.drop i)),(2,oI 2097152 a2)],[],[]⟩
   (fg ⟨(congrArg (fun z=>some (V.own 1024000 0 1 z)) (Jq (off:=0))).trans (congrArg (fun z=>some (V.own 1024000 0 1 z)) ((congrArg (List.map (eo eI 1)) hfin).trans (Xr _).symm)),rfl,tv⟩ tv) ?_
  refine Ay 5 ?_
  exact Lf (Eg rfl rfl rfl rfl rfl ⟨⟨rfl,Mr (fun _=>rfl)⟩,tv⟩)


/- slices.Delete[[]int,int] -/
def LV:List Bv:=[⟨some 6,.nilS 1,none⟩]
def LW:List Bv:=[m_ 8 0,m_ 9 1,m_ 10 2,m_ 11 0,n_ 12 11,⟨some 13,.chk3 (.t 8) (.t 9) (.t 10) (.t 12),none⟩]
def LX:=[m_ 14 1,m_ 15 2,b_ .eql 16 14 15]
def LY:=[m_ 17 0,m_ 6 17]
def LZ:=[m_ 18 0,n_ 19 18,m_ 7 19]
def MA:=tk [m_ 20 0,m_ 21 1,⟨some 22,.p (.slice (.t 20) none (some (.t 21)) 1),none⟩,m_ 23 0,m_ 24 2,⟨some 25,.p (.slice (.t 23) (some (.t 24)) none 1),none⟩] (.alt [] ⟨some 26,.app 1 8 (.t 22) (.t 25),none⟩ (.alt [] (m_ 0 26) .fin .stop) .stop)
def MB:List Bv:=[m_ 27 0,m_ 28 0,n_ 29 28,m_ 30 7,⟨some 31,.p (.slice (.t 27) (some (.t 29)) (some (.t 30)) 1),none⟩,⟨none,.clear 1 [iV 0] (.t 31),none⟩]
def MC:=[m_ 32 0,m_ 6 32]
def c123:Dj:=⟨3,33,[.t 6],sr LV (sr LW (.seq (sr LX (iz 16 (rr LY))) (sr LZ (sd MA (sr MB (rr MC))))))⟩
def K123 (D:Bi):Prop:=∀a0 a1 a2 r,g123 a0 a1 a2=some r→D 123 ⟨[oI 1024000 a0,iV a1,iV a2],[]⟩ ⟨oI 0 r,[],[]⟩
theorem F123:K123 (FO C c123):=by
 intro a0 a1 a2 r h0
 refine f0 ?_
 obtain ⟨⟨hb,hl⟩,h0⟩:=grd h0
 obtain rfl:=sj h0
 obtain ⟨i,rfl⟩:=Int.eq_ofNat_of_zero_le hb.1
 obtain ⟨j,rfl⟩:=Int.eq_ofNat_of_zero_le (Int.le_trans hb.1 hb.2.1)
 have hij:i≤j:=by omega
 have hx63:(a0.length:Int)<Et:=by have:=hl; simp only [Et]; omega
 have hj:j≤a0.length:=by omega
 rw [show ((i:Nat):Int).toNat=i from rfl,show ((j:Nat):Int).toNat=j from rfl]
 refine Az 3 [(0,oI 1024000 a0),(1,iV i),(2,iV j)] [] (Bm (Ao (st (Ca rfl tv (st (Ca rfl tv (st (Ca rfl tv (st (Ca rfl tv (Yv rfl (st (chk3O (e:=eI) (l0:=a0) rfl rfl rfl rfl ⟨by omega,by omega,by omega,Int.le_refl _⟩ (o_ (Az 1 [(0,oI 1024000 a0),(1,iV i),(2,iV j)] [] (Bm (Bm (Ao (st (Ca rfl tv (st (Ca rfl tv (st (c_ (Ax t3 rfl tv) (Gr (cY (Vw (cb:=(i:Int)==(j:Int)) rfl (fun h=>?_) (fun h=>?_))))))))))))))))))))))))))))
 ·have e1:i=j:=by have:=eq_of_beq h; omega
  subst e1
  rw [List.take_append_drop]
  refine Bm (Ao (st (Ca rfl tv (st (Ca rfl tv (Gr (cY ?_)))))))
  exact Lf (Eg rfl rfl rfl rfl rfl tv)
 ·have hne:i≠j:=fun e1=>by subst e1; simp at h
  have hemp:a0.map eI≠[]:=fun e1=>by
   have:=congrArg List.length e1
   simp at this
   subst this
   simp at hj
   omega
  refine Az 1 [(0,oI 1024000 a0),(1,iV i),(2,iV j)] [] (Bm (Ao (st (Ca rfl tv (Yv rfl (st (Ca rfl tv (Gr (Dd ⟨[(0,oI 1024000 a0),(1,iV i),(2,iV j),(7,iV (a0.length:Int))],[],[(0,(a0.length:Int))]⟩ (BF ⟨rfl,rfl,rfl,rfl,tv⟩ tv ⟨.inr (.inl ⟨_,_,_,_,rfl,hemp,by simp,hx63,by decide⟩),tv⟩) (Bm (Bg (Ag tv (Ca rfl tv (⟨tv,Ag tv (Ca rfl tv (⟨tv,Ag tv (c_ (Ey (e:=eI) (y:=a0.take i) rfl rfl tv ⟨tv,tv⟩ rfl rfl (by rw [show (none:Option Int).getD 0=((0:Nat):Int) from rfl]; exact slcN a0 0 i (by omega) (by omega))) (⟨tv,Ag tv (Ca rfl tv (⟨tv,Ag tv (Ca rfl tv (⟨tv,Ag tv (c_ (Ey (e:=eI) (y:=a0.drop j) rfl rfl tv ⟨tv,tv⟩ rfl rfl (cX a0 j hj)) (⟨tv,Bq (appc_ (e:=eI) (l0:=a0.take i) (l1:=a0.drop j) (t:=1024000) (sz:=1) (vy:=.own 1024000 (0+j) 1 ((a0.drop j).map eI)) (c:=(a0.length:Int)-0) rfl rfl tv rfl (show (1024000:Nat)<1048576 by decide) ?_ rfl ?_ ?_) Aw⟩))⟩))⟩))⟩))⟩))⟩))))))))))))))
  ·have:(a0.take i).length+(a0.drop j).length≤a0.length:=by simp; omega
   exact Nat.le_trans (Nat.mul_le_mul_right 8 this) (Nat.le_trans (Nat.mul_le_mul_right 8 hl) (by decide))
  ·rw [Ls (show (a0.length:Int)-0<Et by omega)]; simp; omega
  refine d0 tv (Bq (Ca rfl tv (d0 tv (Hb ?_))) Aw)
  generalize hR:a0.take i++a0.drop j=R
  have hRl:R.length≤a0.length:=by rw [←hR]; simp; omega
  refine Dd ⟨[(0,oI 1024000 R),(7,iV (a0.length:Int))],[],[(0,(a0.length:Int)-0)]⟩ (BF ⟨rfl,rfl,tv⟩ tv ⟨.inl ⟨_,rfl,.inl rfl⟩,tv⟩) (Bm (Ao (st (Ca rfl tv (st (Ca rfl tv (Yv rfl (st (Ca rfl tv (st (c_ (eN (e:=eI) (R:=R) (t:=1024000) (sz:=1) (L:=R.length) (H:=a0.length) (c:=(a0.length:Int)-0) rfl rfl rfl rfl hRl (show (0:Nat)<1 by decide) rfl (by rw [Ls (show (a0.length:Int)-0<Et by omega)]; omega)) (st (iW rfl (Gr (Dd ⟨[(0,oI 1024000 R)],[],[]⟩ (fg ⟨past1 (Nat.le_refl _),tv⟩ tv) (Bm (Ao (st (Ca rfl tv (st (Ca rfl tv (Gr (cY ?_)))))))))))))))))))))))
  exact Lf (Eg rfl rfl rfl rfl rfl tv)

/- loop.example/g00149/impl.call -/
def c89_r0:List Bv:=[⟨some 8,.nilS 1,none⟩,i_ 9 0]
def c89_r1:=[m_ 13 0,q_ 14 120 [.t 13],m_ 10 14]
def c89_r2:=[m_ 15 3,B_ .eql 16 15 1]
def c89_r3:=[m_ 17 10,m_ 8 17,i_ 9 13]
def c89_r4:=[m_ 19 10,m_ 20 1,q_ 21 121 [.t 19,.t 20],m_ 18 21,e_ 22 18 0,e_ 23 18 1,m_ 11 22,m_ 12 23]
def c89_r5:=[m_ 25 2,m_ 26 25,mT 26 27 12,pT 26 28 (.un .not (.t 27)),pa 29 26 28,m_ 24 29]
def c89_r6:List Bv:=[m_ 30 10,m_ 31 11,m_ 32 1,⟨some 33,.mkS 1 [iV 0] 1 [(0,.t 32)],none⟩,q_ 34 122 [.t 30,.t 31,.t 33],m_ 10 34]
def c89_r7:=[m_ 36 2,N_ 37 36,m_ 38 37,mT 38 39 12,pa 40 38 39,m_ 35 40]
def c89_r8:=[m_ 41 10,m_ 42 11,m_ 43 11,B_ .add 44 43 1,q_ 45 123 [.t 41,.t 42,.t 44],m_ 10 45]
def c89_r9:=[m_ 46 3,B_ .eql 47 46 2]
def Aci:=[m_ 48 10,m_ 8 48,i_ 9 15]
def Acj:=[m_ 49 10,m_ 8 49,i_ 9 0]
def c89:Dj:=⟨4,50,[.t 8,.t 9],sr c89_r0 (sr c89_r1 (.seq (sr c89_r2 (iz 16 (rr c89_r3))) (sr c89_r4 (.seq (.block 0 (sr c89_r5 (.ite (.t 24) (.reg c89_r6) (sr c89_r7 (iz 35 (.reg c89_r8)))))) (.seq (sr c89_r9 (iz 47 (rr Aci))) (rr Acj))))))⟩
def K89 (D:Bi):Prop:=∀a0 a1 a2 a3 r,g89 a0 a1 a2 a3=some r→D 89 ⟨[lI a0,iV a1,.bool a2,iV a3],[]⟩ ⟨.tup [oI 0 r.1,iV r.2],[],[]⟩
theorem F89 (H120:FT C) (H121:K121 C) (H122:K122 C) (H123:K123 C):K89 (FO C c89):=by
 intro a0 a1 a2 a3 r h0
 refine f0 (Az 4 [(0,lI a0),(1,iV a1),(2,.bool a2),(3,iV a3)] [] (Bm (Ao (st (Ca rfl tv (bb h0 fun r1 e2 h0=>Ti (H120 a0 r1 e2) (af rfl) (o_ (Az 8 [(1,iV a1),(2,.bool a2),(3,iV a3),(10,oI 896 r1),(16,.bool (a3==1))] [] (Co h0 (fun c3 h0=>?_) (fun c3 h0=>?_))))))))))
 ·obtain rfl:=sj h0
  exact Cy 6
 ·refine Ay 5 (Ao (bb h0 fun r4 e5 h0=>Om (H121 r1 a1 r4 e5) (o_ (Az 6 [(1,iV a1),(2,.bool a2),(3,iV a3),(10,oI 896 r1),(11,iV r4.1),(12,.bool r4.2)] [] (Bm (Il (fun S=>∃p13:List Int,S=⟨[(3,iV a3),(10,oI 2176 p13)],[],[]⟩∧Vt a3 p13=some r) ?_ (fun J15=>?_)))))))
  ·rintro _ ⟨p13,rfl,h0⟩
   refine Az 6 [(10,oI 2176 p13),(47,.bool (a3==2))] [] (Co h0 (fun c14 h0=>?_) (fun c14 h0=>?_))
   ·obtain rfl:=sj h0
    exact Cy 6
   ·obtain rfl:=sj h0
    exact Cy 8
  ·refine Bm ?_
   refine rO 7 [(1,iV a1),(2,.bool a2),(3,iV a3),(10,oI 896 r1),(11,iV r4.1),(12,.bool r4.2),(24,.bool (bif a2 then (!r4.2) else false))] [] (Co h0 (fun c16 h0=>?_) (fun c16 h0=>?_))
   ·refine Ay 4 (Ao (bb h0 fun r17 e18 h0=>gg h0 fun c19 h0=>iL [] [2112] [896] (H122 r1 r4.1 ([a1]:List Int) r17 e18) (Bf (af rfl) (Bf (oP (fun _=>rfl)) rfl)) (st (Ca rfl tv (Gr (Rp ?_))))))
    exact jn J15 ⟨_,rfl,h0⟩
   ·refine rO 8 [(3,iV a3),(10,oI 896 r1),(11,iV r4.1),(35,.bool (bif (!a2) then r4.2 else false))] [] (Co h0 (fun sV h0=>?_) (fun sV h0=>?_))
    ·refine Ay 4 (Ao (bb h0 fun r21 e22 h0=>iL [] [] [896] (H123 r1 r4.1 (wi (r4.1+1)) r21 e22) (Bf (af rfl) rfl) (st (Ca rfl tv (Gr (Rp ?_))))))
     exact J15 _ _ (Sk [] [(2880,2176)] rfl (by kernel_rfl)) ⟨_,rfl,h0⟩
    ·refine Js (Rp ?_)
     exact J15 _ _ (Sk [] [(896,2176)] rfl (by kernel_rfl)) ⟨_,rfl,h0⟩

/- (*loop.example/g00149/impl.runner).call -/
def Abj:=[i_ 6 0]
def Abk:=[i_ 7 0]
def Abl:=tk [m_ 10 0,iQ 11 (.nilc (.t 10)),f_ 12 11 13,l_ 13 12 1,m_ 14 0,iQ 15 (.nilc (.t 14)),f_ 16 15 6,f_ 17 16 5,l_ 18 17 1,n_ 19 18,b_ .lss 20 13 19] .fin
def Abm:=tk [m_ 21 0,iQ 22 (.nilc (.t 21)),f_ 23 22 6,f_ 24 23 5,l_ 25 24 1,m_ 26 0,iQ 27 (.nilc (.t 26)),f_ 28 27 13,l_ 29 28 1,x_ 30 25 29 1,l_ 31 30 1,m_ 7 31] .fin
def Abn:=[m_ 32 0,iQ 33 (.nilc (.t 32)),f_ 34 33 13,l_ 35 34 1,B_ .add 36 35 1,iQ 37 (.nilc (.t 32)),f_ 38 37 13,s_ 38 36 1]
def Abo:=[m_ 40 0,iQ 41 (.nilc (.t 40)),f_ 42 41 0,f_ 43 42 4,l_ 44 43 1,m_ 45 1,m_ 46 2,m_ 47 7,q_ 48 89 [.t 44,.t 45,.t 46,.t 47],m_ 39 48,e_ 49 39 0,e_ 50 39 1,m_ 8 49,m_ 9 50]
def Abp:=[m_ 51 0,m_ 52 8,iQ 53 (.nilc (.t 51)),f_ 54 53 0,f_ 55 54 4,s_ 55 52 1]
def Abq:=[m_ 56 9,m_ 6 56]
def c471:Dj:=⟨3,57,[.t 6],sr Abj (sr Abk (.seq (sd Abl (iz 20 (.draw Abm))) (sr Abn (sr Abo (sr Abp (rr Abq))))))⟩
def GD (D:Bi):Prop:=∀a0 a1 a2 r,fS a0 a1 a2=some r→D 471 ⟨[.ptr 1048576 0,iV a1,.bool a2],[Ft a0 (An 1024000) (An 1024001) (An 1024002) u_]⟩ ⟨iV r.1,[Ft r.2 (An 0) (An 1) (An 2) u_],[]⟩
abbrev nB:=fun x0 (r:List (Nat×List V))=>(1048576,Ft x0 (An 1024000) (An 1024001) (An 1024002) u_)::r
theorem F471 (H89:K89 C):GD (FO C c471):=by
 intro a0 a1 a2 r h0
 refine f0 (Az 7 [(0,.ptr 1048576 0),(1,iV a1),(2,.bool a2),(7,iV 0)] (nB a0 []) (Ay 10 (Bg (Ag tv (c_ (Ax ⟨tv,tv⟩ rfl (nl rfl)) ?_)))))
 refine ⟨tv,Ag tv (c_ (Ml (e:=eI) (l0:=a0.a.Ce) rfl rfl tv) (⟨tv,d_ (Az 2 [(0,.ptr 1048576 0),(1,iV a1),(2,.bool a2),(7,iV 0),(20,.bool (decide (a0.Gu<(a0.a.Ce.length:Int))))] (nB a0 []) (Kh (cb:=(decide (a0.Gu<(a0.a.Ce.length:Int)))) (fun S=>∃p4:Int,S=⟨[(0,.ptr 1048576 0),(1,iV a1),(2,.bool a2),(7,iV p4)],nB a0 [],[]⟩∧Uf a0 a1 a2 p4=some r) rfl ?_ (fun c8 J7=>?_) (fun c8 J7=>?_)))⟩))⟩
 ·rintro _ ⟨p4,rfl,h0⟩
  refine Az 11 [(0,.ptr 1048576 0),(1,iV a1),(2,.bool a2),(7,iV p4)] [(1048576,Cw a0.v.Ad.clock a0.v.Ad.next (An 1024000) a0.v.Ad.Ae (An 1024001) a0.v.Ab (An 1024002) a0.v.Ah a0.v.Am a0.a.kind a0.a.id a0.a.ttl a0.a.El a0.a.clock u_ a0.a.Ce a0.a.stop (wi (a0.Gu+1)))] (Ay 9 (Ao (bb h0 fun r5 e6 h0=>Ti (H89 a0.v.Ah a1 a2 p4 r5 e6) (af (Bf rfl rfl)) (o_ ?_))))
  obtain rfl:=sj h0
  exact Cy 21
 ·replace h0:=ip c8 h0
  refine bb h0 fun y9 e10 h0=>Ay 9 (Bg (d_ (nU rfl rfl rfl e10 (Ay 3 ?_))))
  exact jn J7 ⟨_,rfl,h0⟩
 ·replace h0:=Xj c8 h0
  refine Js ?_
  exact jn J7 ⟨_,rfl,h0⟩

/- (loop.example/g00149/impl.Vault).issue -/
def Aam:=[X_ 2 0,X_ 3 1,a_ 4 (zV 259 260 261),a_ 5 [iV 0,iV 0]]
def Aan:=[f_ 12 2 0,L_ 13 12 3,f_ 14 3 2,l_ 15 14 1,f_ 16 3 3,l_ 17 16 1,q_ 18 71 [.t 13,.t 15,.t 17],m_ 11 18,e_ 19 11 0,e_ 20 11 1,e_ 21 11 2,a_ 6 (zT 387),s_ 6 19 3,m_ 7 20,m_ 8 21]
def Aao:=[m_ 22 8,B_ .eql 23 22 0,m_ 24 23,fT 24 25 2 3,lT 24 26 25 1 false,pT 24 27 (.len (.t 26)),pT 24 28 (.bin .eql (.t 27) (.c (iV 40))),pa 29 24 28]
def Aap:=[i_ 8 9]
def Aaq:=[m_ 30 8,B_ .neq 31 30 0]
def Aar:=[L_ 32 2 6,m_ 33 8,q_ 34 464 [.t 32,.t 33],e_ 35 34 0,e_ 36 34 1,s_ 4 35 6,s_ 5 36 2]
def Aas:List Bv:=[L_ 37 2 6,L_ 38 3 7,⟨some 39,.p (.build [iV 0,iV 0,.own 2499 0 4 [],.own 2500 0 2 [],.own 2501 0 1 [],.bool false,iV 0,iV 0,iV 0,iV 0,iV 0,.own 2508 0 1 [],iV 0,iV 0] [(0,6,.t 37),(6,7,.t 38)]),none⟩,X_ 40 39,m_ 9 40]
def Aat:=[m_ 41 9,iQ 42 (.nilc (.t 41)),f_ 43 42 0,f_ 44 43 0,f_ 45 44 1,l_ 46 45 1,B_ .add 47 46 1,iQ 48 (.nilc (.t 41)),f_ 49 48 0,f_ 50 49 0,f_ 51 50 1,s_ 51 47 1]
def Aau:List Bv:=[m_ 52 9,m_ 53 9,iQ 54 (.nilc (.t 53)),f_ 55 54 0,f_ 56 55 3,l_ 57 56 1,m_ 58 7,⟨some 59,.p (.build [iV 0,.bool false] [(0,1,.t 58)]),none⟩,⟨some 60,.mkS 2 [iV 0,.bool false] 1 [(0,.t 59)],none⟩,⟨some 61,.app 2 16 (.t 57) (.t 60),none⟩,iQ 62 (.nilc (.t 52)),f_ 63 62 0,f_ 64 63 3,s_ 64 61 1]
def Aav:=[f_ 65 3 6,l_ 66 65 1,B_ .eql 67 66 1]
def zR:=[m_ 68 9,iQ 69 (.nilc (.t 68)),f_ 70 69 0,L_ 71 70 6,q_ 72 470 [.t 71],e_ 73 72 0,e_ 74 72 1,s_ 4 73 6,s_ 5 74 2]
def zS:=[m_ 75 9,m_ 76 7,q_ 77 471 [.t 75,.t 76,.c (.bool true)],m_ 8 77]
def zU:=[f_ 78 3 6,l_ 79 78 1,B_ .eql 80 79 2]
def zW:=[m_ 81 9,iQ 82 (.nilc (.t 81)),f_ 83 82 0,L_ 84 83 6,q_ 85 470 [.t 84],e_ 86 85 0,e_ 87 85 1,s_ 4 86 6,s_ 5 87 2]
def zX:=[m_ 88 9,iQ 89 (.nilc (.t 88)),f_ 90 89 0,f_ 91 90 3,l_ 92 91 1,n_ 93 92,B_ .sub 94 93 1,m_ 10 94]
def zY:=[m_ 95 8,B_ .neq 96 95 0]
def zZ:List Bv:=[m_ 97 9,iQ 98 (.nilc (.t 97)),f_ 99 98 0,f_ 100 99 3,l_ 101 100 1,m_ 102 10,x_ 103 101 102 2,f_ 104 103 1,⟨none,.store (.t 104) (.c (.bool true)) 1,none⟩]
def AA:=[m_ 105 9,iQ 106 (.nilc (.t 105)),f_ 107 106 0,L_ 108 107 6,m_ 109 8,q_ 110 464 [.t 108,.t 109],e_ 111 110 0,e_ 112 110 1,s_ 4 111 6,s_ 5 112 2]
def AB:List Bv:=[m_ 113 9,m_ 114 9,iQ 115 (.nilc (.t 114)),f_ 116 115 0,f_ 117 116 3,l_ 118 117 1,m_ 119 10,⟨some 120,.p (.slice (.t 118) none (some (.t 119)) 2),none⟩,iQ 121 (.nilc (.t 113)),f_ 122 121 0,f_ 123 122 3,s_ 123 120 1]
def AC:=[m_ 124 9,L_ 125 6 3,iQ 126 (.nilc (.t 124)),f_ 127 126 0,f_ 128 127 0,s_ 128 125 3]
def AD:List Bv:=[m_ 129 9,iQ 130 (.nilc (.t 129)),f_ 131 130 0,L_ 132 131 6,m_ 133 7,⟨some 134,.p (.build [iV 0,iV 0] [(1,1,.t 133)]),none⟩,s_ 4 132 6,s_ 5 134 2]
def c465:Dj:=⟨2,135,[.cell 4 6 true,.cell 5 2 true],sr Aam (sr Aan (.seq (sr Aao (iz 29 (.reg Aap))) (.seq (sr Aaq (iz 31 (rr Aar))) (sr Aas (sr Aat (sr Aau (.seq (sr Aav (iz 67 (rr zR))) (sr zS (.seq (sr zU (iz 80 (rr zW))) (sr zX (.seq (sr zY (iz 96 (sr zZ (rr AA)))) (sr AB (sr AC (rr AD))))))))))))))⟩
def K465 (D:Bi):Prop:=∀a0 a1 r,g465 a0 a1=some r→D 465 ⟨[.agg (Au a0 (An 1024000) (An 1024001) (An 1024002)),.agg (Aq a1)],[]⟩ ⟨.tup [.agg (Au r.1 (An 0) (An 1) (An 2)),.agg (Ap r.2)],[],[]⟩
abbrev Ky:=fun (r:List (Nat×List V))=>(256,At 0 0 (An 259) [] (An 260) [] (An 261) [] false)::(320,[iV 0,iV 0])::r
abbrev Pt:=fun x0 (r:List (Nat×V))=>(4,.ptr 256 0)::(5,.ptr 320 0)::(6,.ptr 384 0)::(7,iV x0)::r
theorem F465 (H71:K71 C) (H464:sZ C) (H470:GC C) (H471:GD C):K465 (FO C c465):=by
 intro a0 a1 r h0
 refine f0 (Az 6 [(2,.ptr 128 0),(3,.ptr 192 0),(4,.ptr 256 0),(5,.ptr 320 0)] (Ky [(128,Au a0 (An 1024000) (An 1024001) (An 1024002)),(192,Aq a1)]) (Ay 7 (Ao (bb h0 fun r1 e2 h0=>Ti (H71 a0.Ad a1.ttl a1.El r1 e2) (ar (Bf rfl (af (ar (Bf rfl rfl))))) (o_ (Az 9 (Pt r1.2.1 [(2,.ptr 128 0),(3,.ptr 192 0),(8,iV r1.2.2)]) (Ky [(128,Au a0 (An 1024000) (An 1024001) (An 1024002)),(192,Aq a1),(384,Cn r1.1 (An 1152))]) (Ay 5 (Ao (st (Bn (u:=.ptr 128 3) rfl (fun hg=>(Ax ⟨tv,tv⟩ rfl tv)) (st (Bn (u:=Bx 1024001 a0.Ab) rfl (fun hg=>(Ax ⟨(fun _=>hg),tv⟩ rfl (nl rfl))) (st (Bn (u:=iV (a0.Ab.length:Int)) rfl (fun hg=>(oN (e:=Bw) (l0:=a0.Ab) rfl rfl (fun _=>hg))) (st (Bn (u:=.bool ((a0.Ab.length:Int)==40)) rfl (fun hg=>(Ax ⟨(fun _=>hg),tv,tv⟩ rfl tv)) (st (Cu rfl rfl rfl (fun h=>Qm h) tv rfl (o_ (Az 1 (Pt r1.2.1 [(2,.ptr 128 0),(3,.ptr 192 0),(8,iV r1.2.2),(29,.bool (bif (r1.2.2==0) then ((a0.Ab.length:Int)==40) else false))]) (Ky [(128,Au a0 (An 1024000) (An 1024001) (An 1024002)),(192,Aq a1),(384,Cn r1.1 (An 1152))]) (Kh (cb:=(bif (r1.2.2==0) then ((a0.Ab.length:Int)==40) else false)) (fun S=>∃p4:Int,S=⟨Pt r1.2.1 [(2,.ptr 128 0),(3,.ptr 192 0),(8,iV p4)],Ky [(128,Au a0 (An 1024000) (An 1024001) (An 1024002)),(192,Aq a1),(384,Cn r1.1 (An 1152))],[]⟩∧Kf a0 a1 r1 p4=some r) rfl ?_ (fun c27 J26=>?_) (fun c27 J26=>?_))))))))))))))))))))))
 ·rintro _ ⟨p4,rfl,h0⟩
  refine Az 6 (Pt r1.2.1 [(2,.ptr 128 0),(3,.ptr 192 0),(8,iV p4),(31,.bool (p4 != 0))]) (Ky [(128,Au a0 (An 1024000) (An 1024001) (An 1024002)),(192,Aq a1),(384,Cn r1.1 (An 1152))]) (Co h0 (fun c5 h0=>?_) (fun c5 h0=>?_))
  ·refine Ay 3 (Ao (bb h0 fun r6 e7 h0=>iL [] [] [1024000,1024001,1024002] (H464 a0 p4 r6 e7) (Bf (ar (Bf rfl (af (af (af (ar (Bf rfl (Bf rfl rfl)))))))) rfl) (o_ ?_)))
   obtain rfl:=sj h0
   exact Cy 6
  ·refine Ay 5 (Ao (st (c_ (v:=.agg (Cw a0.Ad.clock a0.Ad.next (An 1024000) a0.Ad.Ae (An 1024001) a0.Ab (An 1024002) a0.Ah a0.Am a1.kind a1.id a1.ttl a1.El a1.clock u_ a1.Ce a1.stop 0)) (Ax ⟨tv,tv,tv⟩ rfl ⟨⟨rfl,rfl,nl rfl⟩,⟨rfl,rfl,nl rfl⟩,tv⟩) (o_ (Az 18 (Pt r1.2.1 [(3,.ptr 192 0),(9,.ptr 2560 0)]) (Ky [(192,Aq a1),(384,Cn r1.1 (An 1152)),(2560,Cw a0.Ad.clock (wi (a0.Ad.next+1)) (An 1024000) a0.Ad.Ae (An 1024001) a0.Ab (An 1024002) a0.Ah a0.Am a1.kind a1.id a1.ttl a1.El a1.clock u_ a1.Ce a1.stop 0)]) (Ay 3 (Ao ?_)))))))
   refine o_ (Ay 5 (Ao (st (c_ (v:=.agg [iV r1.2.1,.bool false]) (Ax ⟨tv,tv⟩ rfl ⟨⟨rfl,rfl,nl rfl⟩,tv⟩) (st (bF ⟨tv,tv⟩ ⟨⟨nl rfl,rfl,rfl⟩,tv⟩ (gg h0 fun c8 h0=>st (Je (e:=Bw) (l0:=a0.Ab) (l1:=([Ai.mk r1.2.1 false]:List Ai)) rfl rfl tv rfl (by decide) c8 (o_ (Az 12 (Pt r1.2.1 [(3,.ptr 192 0),(9,.ptr 2560 0),(67,.bool (a1.stop==1))]) (Ky [(192,Aq a1),(384,Cn r1.1 (An 1152)),(2560,[iV a0.Ad.clock,iV (wi (a0.Ad.next+1)),Af 1024000 a0.Ad.Ae,Bx 1024001 (a0.Ab++([Ai.mk r1.2.1 false]:List Ai)),oI 1024002 a0.Ah,.bool a0.Am,iV a1.kind,iV a1.id,iV a1.ttl,iV a1.El,iV a1.clock,lI a1.Ce,iV a1.stop,iV 0])]) (Co h0 (fun c9 h0=>?_) (fun c9 h0=>?_))))))))))))
   ·refine Ay 5 (Ao (bb h0 fun r10 e11 h0=>iL [] [] [1024000,1024001,1024002] (H470 (Aj.mk (Al.mk a0.Ad.clock (wi (a0.Ad.next+1)) a0.Ad.Ae) (a0.Ab++([Ai.mk r1.2.1 false]:List Ai)) a0.Ah a0.Am) r10 e11) (Bf (ar (Bf rfl (af (af (af (ar (Bf rfl (Bf rfl rfl)))))))) rfl) (o_ ?_)))
    obtain rfl:=sj h0
    exact Cy 6
   ·refine Ay 5 (Ao (bb h0 fun r12 e13 h0=>Xh [2560] [] [1024000,1024001,1024002] (H471 (Da.mk (Aj.mk (Al.mk a0.Ad.clock (wi (a0.Ad.next+1)) a0.Ad.Ae) (a0.Ab++([Ai.mk r1.2.1 false]:List Ai)) a0.Ah a0.Am) a1 0) r1.2.1 true r12 e13) (o_ (Az 9 (Pt r1.2.1 [(8,iV r12.1),(9,.ptr 2560 0),(80,.bool (a1.stop==2))]) (Ky [(384,Cn r1.1 (An 1152)),(2560,Ft r12.2 (An 4928) (An 4929) (An 4930) u_)]) (Co h0 (fun c14 h0=>?_) (fun c14 h0=>?_))))))
    ·refine Ay 5 (Ao (bb h0 fun r15 e16 h0=>iL [] [] [4928,4929,4930] (H470 r12.2.v r15 e16) (Bf (ar (Bf rfl (af (af (af (ar (Bf rfl (Bf rfl rfl)))))))) rfl) (o_ ?_)))
     obtain rfl:=sj h0
     exact Cy 6
    ·refine Ay 8 (Ao (Yv rfl (o_ (Az 9 (Pt r1.2.1 [(8,iV r12.1),(9,.ptr 2560 0),(10,iV (wi ((r12.2.v.Ab.length:Int)-1))),(96,.bool (r12.1 != 0))]) (Ky [(384,Cn r1.1 (An 1152)),(2560,Ft r12.2 (An 4928) (An 4929) (An 4930) u_)]) (Co h0 (fun c17 h0=>?_) (fun c17 h0=>?_))))))
     ·refine Ay 7 (Ao (bb h0 fun y18 e19 h0=>kV rfl rfl e19 (st (c_ (Ax ⟨tv,tv⟩ rfl tv) (bb h0 fun y20 e21 h0=>so_ (Ai.mk y20.Av true) rfl rfl e21 (o_ (Az 1 [(4,.ptr 256 0),(5,.ptr 320 0),(8,iV r12.1),(9,.ptr 2560 0)] (Ky [(2560,Cw r12.2.v.Ad.clock r12.2.v.Ad.next (An 4928) r12.2.v.Ad.Ae (An 4929) (r12.2.v.Ab.set ((wi ((r12.2.v.Ab.length:Int)-1)).toNat) (Ai.mk y20.Av true)) (An 4930) r12.2.v.Ah r12.2.v.Am r12.2.a.kind r12.2.a.id r12.2.a.ttl r12.2.a.El r12.2.a.clock u_ r12.2.a.Ce r12.2.a.stop r12.2.Gu)]) (Ay 6 (Ao (bb h0 fun r22 e23 h0=>iL [] [] [4928,4929,4930] (H464 (Aj.mk r12.2.v.Ad (r12.2.v.Ab.set ((wi ((r12.2.v.Ab.length:Int)-1)).toNat) (Ai.mk y20.Av true)) r12.2.v.Ah r12.2.v.Am) r12.1 r22 e23) (Bf (ar (Bf rfl (af (af (af (ar (Bf rfl (Bf rfl rfl)))))))) rfl) (o_ ?_)))))))))))
      obtain rfl:=sj h0
      exact Cy 6
     ·refine Ay 10 (Ao (bb h0 fun s24 e25 h0=>st (c_ (Ey (e:=Bw) (y:=s24) rfl rfl tv ⟨tv,tv⟩ rfl rfl e25) (o_ (Az 14 [(4,.ptr 256 0),(5,.ptr 320 0),(7,iV r1.2.1),(9,.ptr 2560 0)] (Ky [(2560,Cw r1.1.clock r1.1.next (An 1152) r1.1.Ae (An 4929) s24 (An 4930) r12.2.v.Ah r12.2.v.Am r12.2.a.kind r12.2.a.id r12.2.a.ttl r12.2.a.El r12.2.a.clock u_ r12.2.a.Ce r12.2.a.stop r12.2.Gu)]) (Ay 6 (Ao (st (c_ (v:=.agg [iV 0,iV r1.2.1]) (Ax ⟨tv,tv⟩ rfl ⟨⟨rfl,rfl,nl rfl⟩,tv⟩) (o_ ?_))))))))))
      obtain rfl:=sj h0
      exact Cy 4
 ·replace h0:=ip c27 h0
  refine Ao (st (DF tv (Gr ?_)))
  exact jn J26 ⟨_,rfl,h0⟩
 ·replace h0:=Xj c27 h0
  refine Js ?_
  exact jn J26 ⟨_,rfl,h0⟩

/- (loop.example/g00149/impl.Vault).turned -/
def Aaw:=[X_ 3 0,X_ 4 1,a_ 6 (zV 387 388 389),a_ 7 [iV 0,iV 0]]
def Aax:=[m_ 8 2,B_ .neq 9 8 0]
def Aay:=[L_ 10 3 6,m_ 11 2,q_ 12 464 [.t 10,.t 11],e_ 13 12 0,e_ 14 12 1,s_ 6 13 6,s_ 7 14 2]
def Aaz:=[L_ 15 4 3,f_ 16 3 0,s_ 16 15 3]
def AaA:=[L_ 17 3 6,iQ 18 (.build [iV 0,iV 0] []),s_ 6 17 6,s_ 7 18 2]
def c466:Dj:=⟨3,19,[.cell 6 6 true,.cell 7 2 true],sr Aaw (.seq (sr Aax (iz 9 (rr Aay))) (sr Aaz (rr AaA)))⟩
def K466 (D:Bi):Prop:=∀a0 a1 a2 r,BX a0 a1 a2=some r→D 466 ⟨[.agg (Au a0 (An 1024000) (An 1024001) (An 1024002)),.agg (Cn a1 (An 1024003)),iV a2],[]⟩ ⟨.tup [.agg (Au r.1 (An 0) (An 1) (An 2)),.agg (Ap r.2)],[],[]⟩
theorem F466 (H464:sZ C):K466 (FO C c466):=by
 intro a0 a1 a2 r h0
 refine f0 (Az 12 [(2,iV a2),(3,.ptr 192 0),(4,.ptr 256 0),(6,.ptr 384 0),(7,.ptr 448 0),(9,.bool (a2 != 0))] [(192,Au a0 (An 1024000) (An 1024001) (An 1024002)),(256,Cn a1 (An 1024003)),(384,At 0 0 (An 387) [] (An 388) [] (An 389) [] false),(448,[iV 0,iV 0])] (Co h0 (fun c1 h0=>?_) (fun c1 h0=>?_)))
 ·refine Ay 3 (Ao (bb h0 fun r2 e3 h0=>iL [] [] [1024000,1024001,1024002] (H464 a0 a2 r2 e3) (Bf (ar (Bf rfl (af (af (af (ar (Bf rfl (Bf rfl rfl)))))))) rfl) (o_ ?_)))
  obtain rfl:=sj h0
  exact Cy 6
 ·obtain rfl:=sj h0
  exact Cy 15

/- slices.Delete[[]loop.example/g00149/impl.Lease,loop.example/g00149/impl.Lease] -/
def JV:List Bv:=[⟨some 6,.nilS 4,none⟩]
def JW:List Bv:=[m_ 8 0,m_ 9 1,m_ 10 2,m_ 11 0,n_ 12 11,⟨some 13,.chk3 (.t 8) (.t 9) (.t 10) (.t 12),none⟩]
def JX:=[m_ 14 1,m_ 15 2,b_ .eql 16 14 15]
def JY:=[m_ 17 0,m_ 6 17]
def JZ:=[m_ 18 0,n_ 19 18,m_ 7 19]
def KA:=tk [m_ 20 0,m_ 21 1,⟨some 22,.p (.slice (.t 20) none (some (.t 21)) 4),none⟩,m_ 23 0,m_ 24 2,⟨some 25,.p (.slice (.t 23) (some (.t 24)) none 4),none⟩] (.alt [] ⟨some 26,.app 4 32 (.t 22) (.t 25),none⟩ (.alt [] (m_ 0 26) .fin .stop) .stop)
def KB:List Bv:=[m_ 27 0,m_ 28 0,n_ 29 28,m_ 30 7,⟨some 31,.p (.slice (.t 27) (some (.t 29)) (some (.t 30)) 4),none⟩,⟨none,.clear 4 [iV 0,iV 0,iV 0,.bool false] (.t 31),none⟩]
def KC:=[m_ 32 0,m_ 6 32]
def c115:Dj:=⟨3,33,[.t 6],sr JV (sr JW (.seq (sr JX (iz 16 (rr JY))) (sr JZ (sd KA (sr KB (rr KC))))))⟩
def K115 (D:Bi):Prop:=∀a0 a1 a2 r,g115 a0 a1 a2=some r→D 115 ⟨[Af 1024000 a0,iV a1,iV a2],[]⟩ ⟨Af 0 r,[],[]⟩
theorem F115:K115 (FO C c115):=by
 intro a0 a1 a2 r h0
 refine f0 ?_
 obtain ⟨⟨hb,hl⟩,h0⟩:=grd h0
 obtain rfl:=sj h0
 obtain ⟨i,rfl⟩:=Int.eq_ofNat_of_zero_le hb.1
 obtain ⟨j,rfl⟩:=Int.eq_ofNat_of_zero_le (Int.le_trans hb.1 hb.2.1)
 have hij:i≤j:=by omega
 have hx63:(a0.length:Int)<Et:=by have:=hl; simp only [Et]; omega
 have hj:j≤a0.length:=by omega
 rw [show ((i:Nat):Int).toNat=i from rfl,show ((j:Nat):Int).toNat=j from rfl]
 refine Az 3 [(0,Af 1024000 a0),(1,iV i),(2,iV j)] [] (Bm (Ao (st (Ca rfl tv (st (Ca rfl tv (st (Ca rfl tv (st (Ca rfl tv (Yv rfl (st (chk3O (e:=Ac) (l0:=a0) rfl rfl rfl rfl ⟨by omega,by omega,by omega,Int.le_refl _⟩ (o_ (Az 1 [(0,Af 1024000 a0),(1,iV i),(2,iV j)] [] (Bm (Bm (Ao (st (Ca rfl tv (st (Ca rfl tv (st (c_ (Ax t3 rfl tv) (Gr (cY (Vw (cb:=(i:Int)==(j:Int)) rfl (fun h=>?_) (fun h=>?_))))))))))))))))))))))))))))
 ·have e1:i=j:=by have:=eq_of_beq h; omega
  subst e1
  rw [List.take_append_drop]
  refine Bm (Ao (st (Ca rfl tv (st (Ca rfl tv (Gr (cY ?_)))))))
  exact Lf (Eg rfl rfl rfl rfl rfl tv)
 ·have hne:i≠j:=fun e1=>by subst e1; simp at h
  have hemp:a0.map Ac≠[]:=fun e1=>by
   have:=congrArg List.length e1
   simp at this
   subst this
   simp at hj
   omega
  refine Az 1 [(0,Af 1024000 a0),(1,iV i),(2,iV j)] [] (Bm (Ao (st (Ca rfl tv (Yv rfl (st (Ca rfl tv (Gr (Dd ⟨[(0,Af 1024000 a0),(1,iV i),(2,iV j),(7,iV (a0.length:Int))],[],[(0,(a0.length:Int))]⟩ (BF ⟨rfl,rfl,rfl,rfl,tv⟩ tv ⟨.inr (.inl ⟨_,_,_,_,rfl,hemp,by simp,hx63,by decide⟩),tv⟩) (Bm (Bg (Ag tv (Ca rfl tv (⟨tv,Ag tv (Ca rfl tv (⟨tv,Ag tv (c_ (Ey (e:=Ac) (y:=a0.take i) rfl rfl tv ⟨tv,tv⟩ rfl rfl (by rw [show (none:Option Int).getD 0=((0:Nat):Int) from rfl]; exact slcN a0 0 i (by omega) (by omega))) (⟨tv,Ag tv (Ca rfl tv (⟨tv,Ag tv (Ca rfl tv (⟨tv,Ag tv (c_ (Ey (e:=Ac) (y:=a0.drop j) rfl rfl tv ⟨tv,tv⟩ rfl rfl (cX a0 j hj)) (⟨tv,Bq (appc_ (e:=Ac) (l0:=a0.take i) (l1:=a0.drop j) (t:=1024000) (sz:=4) (vy:=.own 1024000 (0+j) 4 ((a0.drop j).map Ac)) (c:=(a0.length:Int)-0) rfl rfl tv rfl (show (1024000:Nat)<1048576 by decide) ?_ rfl ?_ ?_) Aw⟩))⟩))⟩))⟩))⟩))⟩))))))))))))))
  ·have:(a0.take i).length+(a0.drop j).length≤a0.length:=by simp; omega
   exact Nat.le_trans (Nat.mul_le_mul_right 32 this) (Nat.le_trans (Nat.mul_le_mul_right 32 hl) (by decide))
  ·rw [Ls (show (a0.length:Int)-0<Et by omega)]; simp; omega
  refine d0 tv (Bq (Ca rfl tv (d0 tv (Hb ?_))) Aw)
  generalize hR:a0.take i++a0.drop j=R
  have hRl:R.length≤a0.length:=by rw [←hR]; simp; omega
  refine Dd ⟨[(0,Af 1024000 R),(7,iV (a0.length:Int))],[],[(0,(a0.length:Int)-0)]⟩ (BF ⟨rfl,rfl,tv⟩ tv ⟨.inl ⟨_,rfl,.inl rfl⟩,tv⟩) (Bm (Ao (st (Ca rfl tv (st (Ca rfl tv (Yv rfl (st (Ca rfl tv (st (c_ (eN (e:=Ac) (R:=R) (t:=1024000) (sz:=4) (L:=R.length) (H:=a0.length) (c:=(a0.length:Int)-0) rfl rfl rfl rfl hRl (show (0:Nat)<4 by decide) rfl (by rw [Ls (show (a0.length:Int)-0<Et by omega)]; omega)) (st (iW rfl (Gr (Dd ⟨[(0,Af 1024000 R)],[],[]⟩ (fg ⟨past1 (Nat.le_refl _),tv⟩ tv) (Bm (Ao (st (Ca rfl tv (st (Ca rfl tv (Gr (cY ?_)))))))))))))))))))))))
  exact Lf (Eg rfl rfl rfl rfl rfl tv)

/- (loop.example/g00149/impl.Table).without -/
def c78_r0:=[X_ 2 0,a_ 4 (zT 259)]
def c78_r1:=[L_ 6 2 3,q_ 7 112 [.t 6],a_ 5 (zT 323),s_ 5 7 3]
def c78_r2:=[f_ 8 5 2,l_ 9 8 1,m_ 10 1,m_ 11 1,B_ .add 12 11 1,q_ 13 115 [.t 9,.t 10,.t 12],f_ 14 5 2,s_ 14 13 1]
def c78_r3:=[L_ 15 5 3,s_ 4 15 3]
def c78:Dj:=⟨2,16,[.cell 4 3 true],sr c78_r0 (sr c78_r1 (sr c78_r2 (rr c78_r3)))⟩
def K78 (D:Bi):Prop:=∀a0 a1 r,g78 a0 a1=some r→D 78 ⟨[.agg (Ba a0),iV a1],[]⟩ ⟨.agg (Cn r (An 0)),[],[]⟩
theorem F78 (H112:iD C) (H115:K115 C):K78 (FO C c78):=by
 intro a0 a1 r h0
 refine f0 (Az 4 [(1,iV a1),(2,.ptr 128 0),(4,.ptr 256 0)] [(128,Ba a0),(256,Bo 0 0 (An 259) [])] (Ay 2 (Ao (bb h0 fun r1 e2 h0=>Ti (H112 a0 r1 e2) (ar (Bf rfl (af rfl))) (o_ (Az 3 [(1,iV a1),(4,.ptr 256 0),(5,.ptr 320 0)] [(256,Bo 0 0 (An 259) []),(320,Cn r1 (An 448))] (Ay 6 (Ao (bb h0 fun r3 e4 h0=>iL [] [] [448] (H115 r1.Ae a1 (wi (a1+1)) r3 e4) (Bf (af rfl) rfl) (o_ ?_))))))))))
 obtain rfl:=sj h0
 exact Cy 9

/- cmp.Or[int] -/
def IH:=[i_ 2 0]
def II:=[i_ 3 0]
def IJ:=[m_ 6 0,n_ 7 6,i_ 8 0]
def IK:=[b_ .lss 9 8 7]
def IL:=[x_ 10 6 8 1,l_ 11 10 1,m_ 5 11]
def IM:=[m_ 12 5,m_ 13 3,b_ .neq 14 12 13]
def IN:=[m_ 15 5,m_ 2 15]
def IP:=[B_ .add 16 8 1,m_ 8 16]
def IG:IR:=(sr IK (.seq (.ite (.t 9) .skip (.exit 0)) (.seq (.block 1 (sr IL (sr IM (iz 14 (rr IN))))) (.reg IP))))
def IQ:=[m_ 17 3,m_ 2 17]
def c109:Dj:=⟨1,18,[.t 2],sr IH (sr II (.seq (sr IJ (Ik 0 IG)) (rr IQ)))⟩
def K109 (D:Bi):Prop:=∀a0 r,g109 a0=some r→D 109 ⟨[lI a0],[]⟩ ⟨iV r,[],[]⟩
theorem F109:K109 (FO C c109):=by
 intro a0 r h0
 refine f0 (Az 7 [(0,lI a0),(3,iV 0)] [] (Ay 3 (Ao (Me rfl (o_ (Az 2 [(3,iV 0),(6,lI a0),(7,iV (a0.length:Int)),(8,iV 0)] [] (By (bb h0 fun r15 e16 h0=>Cs (R:=(fun S=>.inl ()=r15∧S=⟨[(3,iV 0)],[],[]⟩)) (Tn a0) (fun s S=>match s with | p5=>S=⟨[(3,iV 0),(6,lI a0),(7,iV (a0.length:Int)),(8,iV p5)],[],[]⟩) e16 _ (Dv (by kernel_rfl)) rfl 0 (fun _=>rfl) ?_ ?_))))))))
 ·rintro S _ hfg ⟨rfl,rfl⟩
  refine Dd _ hfg ?_
  obtain rfl:=sj h0
  exact Cy 5
 ·rintro p5 o1 _ K1 rfl h1 hx1 hK1 hE1 hR1
  refine Az 3 [(3,iV 0),(6,lI a0),(7,iV (a0.length:Int)),(8,iV p5),(9,.bool (decide (p5<(a0.length:Int))))] [] (Bm (Co h1 (fun c11 h1=>?_) (fun c11 h1=>?_)))
  ·refine Lg 5 (Ao (bb h1 fun y12 e13 h1=>Tc rfl rfl e13 (o_ (Az 9 [(3,iV 0),(5,iV y12),(6,lI a0),(7,iV (a0.length:Int)),(8,iV p5),(14,.bool (y12 != 0))] [] (Co h1 (fun c14 h1=>?_) (fun c14 h1=>?_))))))
   ·obtain rfl:=sj h1
    obtain rfl:=hx1 _ rfl
    obtain rfl:=sj h0
    exact cJ 5 hR1
   ·refine Ay 6 ?_
    obtain rfl:=sj h1
    exact kn hK1 rfl rfl
  ·obtain rfl:=sj h1
   obtain rfl:=hx1 _ rfl
   refine Iq rfl ?_
   exact jn hE1 ⟨rfl,rfl⟩

/- loop.example/g00149/impl.byTime -/
def c69_r0:=[X_ 2 0,X_ 3 1,i_ 4 0]
def c69_r1:=tk [f_ 5 2 1,l_ 6 5 1,f_ 7 3 1,l_ 8 7 1,f_ 10 2 0,l_ 11 10 1,f_ 12 3 0,l_ 13 12 1] (.alt [l_ 13 12 1,f_ 12 3 0,l_ 11 10 1,f_ 10 2 0] (q_ 9 110 [.t 6,.t 8]) (.alt [] (q_ 14 110 [.t 11,.t 13]) (.alt [] ⟨some 15,.mkS 1 [iV 0] 2 [(0,.t 9),(1,.t 14)],none⟩ (.alt [] (q_ 16 109 [.t 15]) (tk [m_ 4 16] .fin) .stop) .stop) .stop) .stop)
def c69:Dj:=⟨2,17,[.t 4],sr c69_r0 (sd c69_r1 .ret)⟩
def K69 (D:Bi):Prop:=∀a0 a1 r,g69 a0 a1=some r→D 69 ⟨[.agg (Ac a0),.agg (Ac a1)],[]⟩ ⟨iV r,[],[]⟩
theorem F69 (H109:K109 C) (H110:FS C):K69 (FO C c69):=by
 intro a0 a1 r h0
 refine f0 (Az 5 [(2,.ptr 128 0),(3,.ptr 192 0)] [(128,Ac a0),(192,Ac a1)] (Bm (bb h0 fun r1 e2 h0=>bb h0 fun r3 e4 h0=>bb h0 fun r5 e6 h0=>Ay 8 (Bg (Rq (H110 a0.Bl a1.Bl r1 e2) rfl (dw [(2,.ptr 128 0),(3,.ptr 192 0),(9,iV r1),(10,.ptr 128 0),(11,iV a0.id),(12,.ptr 192 0),(13,iV a1.id)] [(128,Ac a0),(192,Ac a1)] hB (Rq (H110 a0.id a1.id r3 e4) rfl (dw [(9,iV r1),(14,iV r3)] [] tv (Bq (bF ⟨tv,tv,tv⟩ ⟨⟨nl rfl,rfl,rfl⟩,⟨nl rfl,rfl,rfl⟩,tv⟩ (d0 tv (Rq (H109 ([r1,r3]:List Int) r5 e6) rfl (dw [(16,iV r5)] [] tv (d_ (Az 2 [(4,iV r5)] [] ?_))) Aw))) Aw)) Aw)) Aw)))))
 obtain rfl:=sj h0
 exact Lf (Eg rfl rfl rfl rfl rfl tv)

/- slices.insertionSortCmpFunc[loop.example/g00149/impl.Lease] -/
def SA:=[m_ 10 1,B_ .add 11 10 1,m_ 8 11]
def SB:=[m_ 12 8,m_ 13 2,b_ .lss 14 12 13]
def SC:=[m_ 17 8,m_ 9 17]
def SD:=tk [m_ 18 9,m_ 19 1,b_ .gtr 20 18 19,m_ 21 20,mT 21 22 3,mT 21 23 0,mT 21 24 9,xT 21 25 23 24 4,lT 21 26 25 4 true,mT 21 27 0,mT 21 28 9,pT 21 29 (.bin .sub (.t 28) (.c (iV 1))),xT 21 30 27 29 4,lT 21 31 30 4 true] (.alt [] ⟨some 32,.callv (.t 22) [.t 26,.t 31],some (21,true)⟩ (tk [pT 21 33 (.bin .lss (.t 32) (.c (iV 0))),pa 34 21 33] .fin) .stop)
def SE:=tk [m_ 37 0,m_ 38 9,m_ 39 0,m_ 40 9,B_ .sub 41 40 1,m_ 42 0,m_ 43 9,B_ .sub 44 43 1,x_ 45 42 44 4,L_ 46 45 4,m_ 47 0,m_ 48 9,x_ 49 47 48 4,L_ 50 49 4,x_ 51 37 38 4] (.alt [B_ .sub 41 40 1,m_ 40 9,m_ 39 0] (s_ 51 46 4) (tk [x_ 52 39 41 4] (.alt [] (s_ 52 50 4) .fin .stop)) .stop)
def SF:=[m_ 35 9,B_ .sub 36 35 1,m_ 9 36]
def RY:IR:=(.seq (sd SD (.ite (.t 34) .skip (.exit 2))) (.seq (.block 3 (.draw SE)) (.reg SF)))
def SG:=[m_ 15 8,B_ .add 16 15 1,m_ 8 16]
def RZ:IR:=(.seq (sr SB (.ite (.t 14) .skip (.exit 0))) (.seq (.block 1 (sr SC (Ik 2 RY))) (.reg SG)))
def c148:Dj:=⟨4,53,[],sr SA (Ik 0 RZ)⟩
def K148 (C:Bi) (D:Bi:=C):Prop:=∀(a0:List Aa) (a1:Int) (a2:Int) (f3:Nat) (k3:List V) (is3:Aa→Aa→Option Int) (hs3:Ho k3) (hf3:∀(x0:Aa) (x1:Aa) r,is3 x0 x1=some r→C f3 ⟨.agg (Ac x0) :: .agg (Ac x1)::k3,[]⟩ ⟨iV r,[],[]⟩) (r:(List Aa)),g148 a0 a1 a2 is3=some r→D 148 ⟨[Af 2097152 a0,iV a1,iV a2,.clo f3 k3],[]⟩ ⟨.tup [],[],[(0,4,r.map Ac)]⟩
abbrev Sx:=fun x0 x1 x2 x3 x4 (r:List (Nat×V))=>(1,iV x0)::(2,iV x1)::(3,.clo x2 x3)::(8,iV x4)::r
theorem F148:K148 C (FO C c148):=by
 intro a0 a1 a2 f3 k3 is3 hs3 hf3 r h0
 refine f0 (Az 5 [(0,Af 2097152 a0),(1,iV a1),(2,iV a2),(3,.clo f3 k3),(8,iV (wi (a1+1)))] [] (By (bb h0 fun r189 e190 h0=>Cs (R:=(fun S=>∃p111:List Aa,p111=r189∧S=⟨[(0,Af 2097152 p111)],[],[]⟩)) (Yd a1 a2 is3) (fun s S=>match s with | (p55,p56)=>S=⟨Sx a1 a2 f3 k3 p56 [(0,Af 2097152 p55)],[],[]⟩) e190 _ (Dv (by kernel_rfl)) rfl 0 (fun _=>rfl) ?_ ?_)))
 ·rintro S _ hfg ⟨p111,rfl,rfl⟩
  obtain rfl:=sj h0
  exact bU (bT hfg (Eg rfl rfl rfl rfl rfl ⟨⟨rfl,Mr (fun _=>rfl)⟩,tv⟩))
 ·rintro ⟨p55,p56⟩ o1 _ K1 rfl h1 hx1 hK1 hE1 hR1
  refine Az 6 (Sx a1 a2 f3 k3 p56 [(0,Af 2097152 p55),(14,.bool (decide (p56<a2)))]) [] (Co h1 (fun iK h1=>?_) (fun iK h1=>?_))
  ·refine Az 8 (Sx a1 a2 f3 k3 p56 [(0,Af 2097152 p55),(9,iV p56)]) [] (By (bb h1 fun r187 e188 h1=>Cs (R:=(fun S=>∃p163:List Aa,p163=r187∧S=⟨Sx a1 a2 f3 k3 p56 [(0,Af 2097152 p163)],[],[]⟩)) (Ye a1 is3) (fun s S=>match s with | (p136,p137)=>S=⟨Sx a1 a2 f3 k3 p56 [(0,Af 2097152 p136),(9,iV p137)],[],[]⟩) e188 _ (Dv (by kernel_rfl)) rfl 2 (fun _=>rfl) ?_ ?_))
   ·rintro S _ hfg ⟨p163,rfl,rfl⟩
    refine Rp (Dd ⟨Sx a1 a2 f3 k3 p56 [(0,Af 2097152 p163)],[],[]⟩ (sW hfg ⟨rfl,rfl,rfl,rfl,rfl,tv⟩ tv) (Ay 4 ?_))
    obtain rfl:=sj h1
    exact kn hK1 rfl rfl
   ·rintro ⟨p136,p137⟩ o2 _ K2 rfl h2 hx2 hK2 hE2 hR2
    refine Bm (Bm (bb h2 fun y164 e165 h2=>bb h2 fun y166 e167 h2=>bb h2 fun y168 e169 h2=>bb h2 fun y170 e171 h2=>bb h2 fun r172 e173 h2=>Ay 4 (Bg (Ag tv (Bn (u:=.clo f3 k3) rfl (fun hg=>(Dg (v:=.clo f3 k3) rfl tv)) (⟨tv,Ag tv (Bn (u:=Af 2097152 p136) rfl (fun hg=>(Dg (v:=Af 2097152 p136) rfl tv)) (⟨tv,Ag tv (Bn (u:=iV p137) rfl (fun hg=>(Dg (v:=iV p137) rfl tv)) (⟨tv,Ag tv (Bn (u:=.optr 2097152 4 (0+p137.toNat) 0) rfl (fun hg=>(Hf (e:=Ac) (y:=y164) rfl rfl (fun _=>hg) rfl rfl (fun _=>hg) (ip hg e165))) (⟨tv,Cb (Bn (u:=.agg (Ac y166)) rfl (fun hg=>(Bk (e:=Ac) (y:=y166) (v:=.agg (Ac y166)) rfl rfl (fun _=>hg) rfl rfl (ip hg e167) rfl (nl rfl) rfl)) (⟨⟨Br (v:=.agg (Ac y166)) rfl (fun hg=>(Bk (e:=Ac) (y:=y166) (v:=.agg (Ac y166)) rfl rfl (fun _=>hg) rfl rfl (ip hg e167) rfl (nl rfl) rfl)) rfl,tv⟩,Ag tv (Bn (u:=Af 2097152 p136) rfl (fun hg=>(Dg (v:=Af 2097152 p136) rfl tv)) (⟨⟨Br (v:=.agg (Ac y166)) rfl (fun hg=>(Bk (e:=Ac) (y:=y166) (v:=.agg (Ac y166)) rfl rfl (fun _=>hg) rfl rfl (ip hg e167) rfl (nl rfl) rfl)) rfl,tv⟩,Ag tv (Bn (u:=iV p137) rfl (fun hg=>(Dg (v:=iV p137) rfl tv)) (⟨⟨Br (v:=.agg (Ac y166)) rfl (fun hg=>(Bk (e:=Ac) (y:=y166) (v:=.agg (Ac y166)) rfl rfl (fun _=>hg) rfl rfl (ip hg e167) rfl (nl rfl) rfl)) rfl,tv⟩,Ag tv (Bn (u:=iV (wi (p137-1))) rfl (fun hg=>(Ax ⟨(fun _=>hg),tv,tv⟩ rfl tv)) (⟨⟨Br (v:=.agg (Ac y166)) rfl (fun hg=>(Bk (e:=Ac) (y:=y166) (v:=.agg (Ac y166)) rfl rfl (fun _=>hg) rfl rfl (ip hg e167) rfl (nl rfl) rfl)) rfl,tv⟩,Ag tv (Bn (u:=.optr 2097152 4 (0+((wi (p137-1)).toNat)) 0) rfl (fun hg=>(Hf (e:=Ac) (y:=y168) rfl rfl (fun _=>hg) rfl rfl (fun _=>hg) (ip hg e169))) (⟨⟨Br (v:=.agg (Ac y166)) rfl (fun hg=>(Bk (e:=Ac) (y:=y166) (v:=.agg (Ac y166)) rfl rfl (fun _=>hg) rfl rfl (ip hg e167) rfl (nl rfl) rfl)) rfl,tv⟩,Cb (Bn (u:=.agg (Ac y170)) rfl (fun hg=>(Bk (e:=Ac) (y:=y170) (v:=.agg (Ac y170)) rfl rfl (fun _=>hg) rfl rfl (ip hg e171) rfl (nl rfl) rfl)) (⟨⟨Br (v:=.agg (Ac y170)) rfl (fun hg=>(Bk (e:=Ac) (y:=y170) (v:=.agg (Ac y170)) rfl rfl (fun _=>hg) rfl rfl (ip hg e171) rfl (nl rfl) rfl)) rfl,Br (v:=.agg (Ac y166)) rfl (fun hg=>(Bk (e:=Ac) (y:=y166) (v:=.agg (Ac y166)) rfl rfl (fun _=>hg) rfl rfl (ip hg e167) rfl (nl rfl) rfl)) rfl,tv⟩,Bq (Io (r:=iV r172) rfl rfl rfl (fun hg=>hg) false (fun hg=>hf3 _ _ r172 (ip hg e173)) ⟨(fun hg=>hg),(fun hg=>hg),tv⟩ (fun _=>(ar (Bf rfl hs3.2.2.1))) (fun _=>(Bb rfl (Bb rfl (hs3.2.1 _ _ _ _ _)))) (fun _=>rfl) (fun h=>nomatch h) (dw [(0,Af 2097152 p136),(1,iV a1),(2,iV a2),(3,.clo f3 k3),(8,iV p56),(9,iV p137),(21,.bool (decide (p137>a1))),(32,.may ((decide (p137>a1))==true) (iV r172))] [] tv ?_)) Aw⟩))⟩))⟩))⟩))⟩))⟩))⟩))⟩))⟩))⟩))))))
    refine Ag tv (Bn (u:=.bool (decide (r172<0))) rfl (fun hg=>(Ax ⟨(fun _=>hg),tv,tv⟩ rfl tv)) (⟨tv,Ag tv (Cu rfl rfl rfl (fun h=>Qm h) tv rfl (⟨tv,d_ (Az 1 (Sx a1 a2 f3 k3 p56 [(0,Af 2097152 p136),(9,iV p137),(34,.bool (bif (decide (p137>a1)) then (decide (r172<0)) else false))]) [] (Co h2 (fun c174 h2=>?_) (fun c174 h2=>?_)))⟩))⟩))
    ·refine Lg 4 (bb h2 fun y175 e176 h2=>bb h2 fun y177 e178 h2=>bb h2 fun y179 e180 h2=>bb h2 fun y181 e182 h2=>bb h2 fun y183 e184 h2=>bb h2 fun y185 e186 h2=>Ay 8 (Bg (d_ (Xe rfl rfl rfl e176 (Bg (Cb (c_ (Mx rfl rfl e178) (⟨⟨Ct rfl rfl e178 rfl,tv⟩,Ag tv (Ca rfl tv (⟨⟨Ct rfl rfl e178 rfl,tv⟩,Ag tv (Ca rfl tv (⟨⟨Ct rfl rfl e178 rfl,tv⟩,Ag tv (c_ (Ja rfl rfl e180) (⟨⟨Ct rfl rfl e178 rfl,tv⟩,Cb (c_ (Mx rfl rfl e182) (⟨⟨Ct rfl rfl e182 rfl,Ct rfl rfl e178 rfl,tv⟩,Ag tv (c_ (Ja rfl rfl e180) (⟨⟨Ct rfl rfl e182 rfl,Ct rfl rfl e178 rfl,tv⟩,?_⟩))⟩))⟩))⟩))⟩))⟩))))))))
     refine Bq (Hk (y':=y177) rfl rfl tv rfl rfl rfl rfl e182 (nl rfl) rfl rfl rfl rfl (iZ ⟨[(0,Af 2097152 (p136.set p137.toNat y177)),(1,iV a1),(2,iV a2),(3,.clo f3 k3),(8,iV p56),(9,iV p137),(39,Af 2097152 (p136.set p137.toNat y177)),(40,iV p137),(41,iV (wi (p137-1))),(50,.agg (Ac y181))],[],[]⟩ (fg ⟨congrArg (fun z=>some ((.own 2097152 0 4 z:V))) Be,rfl,rfl,rfl,rfl,rfl,congrArg (fun z=>some ((.own 2097152 0 4 z:V))) Be,rfl,rfl,rfl,tv⟩ tv) ⟨[],⟨⟨.inl tv,Bd (Ax t3 rfl tv) rfl⟩,⟨.inl tv,Bd (Dg (v:=iV p137) rfl tv) rfl⟩,⟨.inl tv,Bd (Dg (v:=Af 2097152 (p136.set p137.toNat y177)) rfl tv) rfl⟩,tv⟩,tv,d_ (Xe rfl rfl rfl e184 (Bg (Bq (Hk (y':=y181) rfl rfl tv rfl rfl rfl rfl e186 (nl rfl) rfl rfl rfl rfl (d0 tv (Hb (Rp (Dd ⟨[(0,Af 2097152 ((p136.set p137.toNat y177).set ((wi (p137-1)).toNat) y181)),(1,iV a1),(2,iV a2),(3,.clo f3 k3),(8,iV p56),(9,iV p137)],[],[]⟩ (fg ⟨congrArg (fun z=>some ((.own 2097152 0 4 z:V))) Be,rfl,rfl,rfl,rfl,rfl,tv⟩ tv) (Ay 4 ?_)))))) Aw)))⟩)) Aw
     obtain rfl:=sj h2
     exact kn hK2 rfl rfl
    ·obtain rfl:=sj h2
     obtain rfl:=hx2 _ rfl
     refine Iq rfl ?_
     exact jn hE2 ⟨_,rfl,rfl⟩
  ·obtain rfl:=sj h1
   obtain rfl:=hx1 _ rfl
   refine Iq rfl ?_
   exact jn hE1 ⟨_,rfl,rfl⟩

/- slices.siftDownCmpFunc[loop.example/g00149/impl.Lease] -/
def WI:=[m_ 12 1,m_ 10 12]
def WJ:List Bv:=[m_ 13 10,⟨some 14,.p (.bin .mul (.c (iV 2)) (.t 13)),none⟩,B_ .add 15 14 1,m_ 11 15]
def WK:=[m_ 16 11,m_ 17 2,b_ .geq 18 16 17]
def WM:=tk [m_ 19 11,B_ .add 20 19 1,m_ 21 2,b_ .lss 22 20 21,m_ 23 22,mT 23 24 4,mT 23 25 0,mT 23 26 3,mT 23 27 11,pT 23 28 (.bin .add (.t 26) (.t 27)),xT 23 29 25 28 4,lT 23 30 29 4 true,mT 23 31 0,mT 23 32 3,mT 23 33 11,pT 23 34 (.bin .add (.t 32) (.t 33)),pT 23 35 (.bin .add (.t 34) (.c (iV 1))),xT 23 36 31 35 4,lT 23 37 36 4 true] (.alt [] ⟨some 38,.callv (.t 24) [.t 30,.t 37],some (23,true)⟩ (tk [pT 23 39 (.bin .lss (.t 38) (.c (iV 0))),pa 40 23 39] .fin) .stop)
def WN:=[m_ 41 11,B_ .add 42 41 1,m_ 11 42]
def WO:=tk [m_ 43 4,m_ 44 0,m_ 45 3,m_ 46 10,b_ .add 47 45 46,x_ 48 44 47 4,L_ 49 48 4,m_ 50 0,m_ 51 3,m_ 52 11,b_ .add 53 51 52,x_ 54 50 53 4,L_ 55 54 4] (.alt [] ⟨some 56,.callv (.t 43) [.t 49,.t 55],none⟩ (tk [B_ .lss 57 56 0,N_ 58 57] .fin) .stop)
def WP:=tk [m_ 59 0,m_ 60 3,m_ 61 10,b_ .add 62 60 61,m_ 63 0,m_ 64 3,m_ 65 11,b_ .add 66 64 65,m_ 67 0,m_ 68 3,m_ 69 11,b_ .add 70 68 69,x_ 71 67 70 4,L_ 72 71 4,m_ 73 0,m_ 74 3,m_ 75 10,b_ .add 76 74 75,x_ 77 73 76 4,L_ 78 77 4,x_ 79 59 62 4] (.alt [b_ .add 66 64 65,m_ 65 11,m_ 64 3,m_ 63 0] (s_ 79 72 4) (tk [x_ 80 63 66 4] (.alt [] (s_ 80 78 4) .fin .stop)) .stop)
def WQ:=[m_ 81 11,m_ 10 81]
def WH:IR:=(.block 1 (sr WJ (.seq (sr WK (iz 18 (.exit 0))) (.seq (sd WM (iz 40 (.reg WN))) (.seq (sd WO (iz 58 .ret)) (sd WP (.reg WQ)))))))
def c159:Dj:=⟨5,82,[],sr WI (Ik 0 WH)⟩
def K159 (C:Bi) (D:Bi:=C):Prop:=∀(a0:List Aa) (a1:Int) (a2:Int) (a3:Int) (f4:Nat) (k4:List V) (is4:Aa→Aa→Option Int) (hs4:Ho k4) (hf4:∀(x0:Aa) (x1:Aa) r,is4 x0 x1=some r→C f4 ⟨.agg (Ac x0) :: .agg (Ac x1)::k4,[]⟩ ⟨iV r,[],[]⟩) (r:(List Aa)),BT a0 a1 a2 a3 is4=some r→D 159 ⟨[Af 2097152 a0,iV a1,iV a2,iV a3,.clo f4 k4],[]⟩ ⟨.tup [],[],[(0,4,r.map Ac)]⟩
abbrev gK:=fun x0 x1 x2 x3 x4 x5 (r:List (Nat×V))=>(0,Af 2097152 x0)::(2,iV x1)::(3,iV x2)::(4,.clo x3 x4)::(10,iV x5)::r
theorem F159:K159 C (FO C c159):=by
 intro a0 a1 a2 a3 f4 k4 is4 hs4 hf4 r h0
 refine f0 (Az 4 [(0,Af 2097152 a0),(2,iV a2),(3,iV a3),(4,.clo f4 k4),(10,iV a1)] [] (By (bb h0 fun r122 e123 h0=>Cs (R:=(fun S=>∃p81:List Aa,.inl p81=r122∧S=⟨[(0,Af 2097152 p81)],[],[]⟩)) (Ys a2 a3 is4) (fun s S=>match s with | (p39,p40)=>S=⟨gK p39 a2 a3 f4 k4 p40 [],[],[]⟩) e123 _ (Dv (by kernel_rfl)) rfl 0 (fun _=>rfl) ?_ ?_)))
 ·rintro S _ hfg ⟨p81,rfl,rfl⟩
  obtain rfl:=sj h0
  exact bU (bT hfg (Eg rfl rfl rfl rfl rfl ⟨⟨rfl,Mr (fun _=>rfl)⟩,tv⟩))
 ·rintro ⟨p39,p40⟩ o1 _ K1 rfl h1 hx1 hK1 hE1 hR1
  refine Az 14 (gK p39 a2 a3 f4 k4 p40 [(11,iV (wi ((wi (2*p40))+1))),(18,.bool (decide ((wi ((wi (2*p40))+1))≥a2)))]) [] (Co h1 (fun c82 h1=>?_) (fun c82 h1=>?_))
  ·obtain rfl:=sj h1
   obtain rfl:=hx1 _ rfl
   refine Iq rfl ?_
   exact jn hE1 ⟨_,rfl,rfl⟩
  ·refine Lg 4 (bb h1 fun y83 e84 h1=>bb h1 fun y85 e86 h1=>bb h1 fun y87 e88 h1=>bb h1 fun y89 e90 h1=>bb h1 fun r91 e92 h1=>Ay 5 (Bg (Ag tv (Bn (u:=.clo f4 k4) rfl (fun hg=>(Dg (v:=.clo f4 k4) rfl tv)) (⟨tv,Ag tv (Bn (u:=Af 2097152 p39) rfl (fun hg=>(Dg (v:=Af 2097152 p39) rfl tv)) (⟨tv,Ag tv (Bn (u:=iV a3) rfl (fun hg=>(Dg (v:=iV a3) rfl tv)) (⟨tv,Ag tv (Bn (u:=iV (wi ((wi (2*p40))+1))) rfl (fun hg=>(Dg (v:=iV (wi ((wi (2*p40))+1))) rfl tv)) (⟨tv,Ag tv (Bn (u:=iV (wi (a3+(wi ((wi (2*p40))+1))))) rfl (fun hg=>(Ax ⟨(fun _=>hg),(fun _=>hg),tv⟩ rfl tv)) (⟨tv,Ag tv (Bn (u:=.optr 2097152 4 (0+((wi (a3+(wi ((wi (2*p40))+1)))).toNat)) 0) rfl (fun hg=>(Hf (e:=Ac) (y:=y83) rfl rfl (fun _=>hg) rfl rfl (fun _=>hg) (ip hg e84))) (⟨tv,Cb (Bn (u:=.agg (Ac y85)) rfl (fun hg=>(Bk (e:=Ac) (y:=y85) (v:=.agg (Ac y85)) rfl rfl (fun _=>hg) rfl rfl (ip hg e86) rfl (nl rfl) rfl)) (⟨⟨Br (v:=.agg (Ac y85)) rfl (fun hg=>(Bk (e:=Ac) (y:=y85) (v:=.agg (Ac y85)) rfl rfl (fun _=>hg) rfl rfl (ip hg e86) rfl (nl rfl) rfl)) rfl,tv⟩,Ag tv (Bn (u:=Af 2097152 p39) rfl (fun hg=>(Dg (v:=Af 2097152 p39) rfl tv)) (⟨⟨Br (v:=.agg (Ac y85)) rfl (fun hg=>(Bk (e:=Ac) (y:=y85) (v:=.agg (Ac y85)) rfl rfl (fun _=>hg) rfl rfl (ip hg e86) rfl (nl rfl) rfl)) rfl,tv⟩,Ag tv (Bn (u:=iV a3) rfl (fun hg=>(Dg (v:=iV a3) rfl tv)) (⟨⟨Br (v:=.agg (Ac y85)) rfl (fun hg=>(Bk (e:=Ac) (y:=y85) (v:=.agg (Ac y85)) rfl rfl (fun _=>hg) rfl rfl (ip hg e86) rfl (nl rfl) rfl)) rfl,tv⟩,Ag tv (Bn (u:=iV (wi ((wi (2*p40))+1))) rfl (fun hg=>(Dg (v:=iV (wi ((wi (2*p40))+1))) rfl tv)) (⟨⟨Br (v:=.agg (Ac y85)) rfl (fun hg=>(Bk (e:=Ac) (y:=y85) (v:=.agg (Ac y85)) rfl rfl (fun _=>hg) rfl rfl (ip hg e86) rfl (nl rfl) rfl)) rfl,tv⟩,?_⟩))⟩))⟩))⟩))⟩))⟩))⟩))⟩))⟩))⟩)))))
   refine Ag tv (Bn (u:=iV (wi (a3+(wi ((wi (2*p40))+1))))) rfl (fun hg=>(Ax ⟨(fun _=>hg),(fun _=>hg),tv⟩ rfl tv)) (⟨⟨Br (v:=.agg (Ac y85)) rfl (fun hg=>(Bk (e:=Ac) (y:=y85) (v:=.agg (Ac y85)) rfl rfl (fun _=>hg) rfl rfl (ip hg e86) rfl (nl rfl) rfl)) rfl,tv⟩,Ag tv (Bn (u:=iV (wi ((wi (a3+(wi ((wi (2*p40))+1))))+1))) rfl (fun hg=>(Ax ⟨(fun _=>hg),tv,tv⟩ rfl tv)) (⟨⟨Br (v:=.agg (Ac y85)) rfl (fun hg=>(Bk (e:=Ac) (y:=y85) (v:=.agg (Ac y85)) rfl rfl (fun _=>hg) rfl rfl (ip hg e86) rfl (nl rfl) rfl)) rfl,tv⟩,Ag tv (Bn (u:=.optr 2097152 4 (0+((wi ((wi (a3+(wi ((wi (2*p40))+1))))+1)).toNat)) 0) rfl (fun hg=>(Hf (e:=Ac) (y:=y87) rfl rfl (fun _=>hg) rfl rfl (fun _=>hg) (ip hg e88))) (⟨⟨Br (v:=.agg (Ac y85)) rfl (fun hg=>(Bk (e:=Ac) (y:=y85) (v:=.agg (Ac y85)) rfl rfl (fun _=>hg) rfl rfl (ip hg e86) rfl (nl rfl) rfl)) rfl,tv⟩,Cb (Bn (u:=.agg (Ac y89)) rfl (fun hg=>(Bk (e:=Ac) (y:=y89) (v:=.agg (Ac y89)) rfl rfl (fun _=>hg) rfl rfl (ip hg e90) rfl (nl rfl) rfl)) (⟨⟨Br (v:=.agg (Ac y89)) rfl (fun hg=>(Bk (e:=Ac) (y:=y89) (v:=.agg (Ac y89)) rfl rfl (fun _=>hg) rfl rfl (ip hg e90) rfl (nl rfl) rfl)) rfl,Br (v:=.agg (Ac y85)) rfl (fun hg=>(Bk (e:=Ac) (y:=y85) (v:=.agg (Ac y85)) rfl rfl (fun _=>hg) rfl rfl (ip hg e86) rfl (nl rfl) rfl)) rfl,tv⟩,Bq (Io (r:=iV r91) rfl rfl rfl (fun hg=>hg) false (fun hg=>hf4 _ _ r91 (ip hg e92)) ⟨(fun hg=>hg),(fun hg=>hg),tv⟩ (fun _=>(ar (Bf rfl hs4.2.2.1))) (fun _=>(Bb rfl (Bb rfl (hs4.2.1 _ _ _ _ _)))) (fun _=>rfl) (fun h=>nomatch h) (dw [(0,Af 2097152 p39),(2,iV a2),(3,iV a3),(4,.clo f4 k4),(10,iV p40),(11,iV (wi ((wi (2*p40))+1))),(23,.bool (decide ((wi ((wi ((wi (2*p40))+1))+1))<a2))),(38,.may ((decide ((wi ((wi ((wi (2*p40))+1))+1))<a2))==true) (iV r91))] [] tv (Ag tv (Bn (u:=.bool (decide (r91<0))) rfl (fun hg=>(Ax ⟨(fun _=>hg),tv,tv⟩ rfl tv)) (⟨tv,Ag tv (Cu rfl rfl rfl (fun h=>Qm h) tv rfl (⟨tv,Hb (bv h1 fun v93 e94 h1=>Dd ⟨[(0,Af 2097152 p39),(2,iV a2),(3,iV a3),(4,.clo f4 k4),(10,iV p40),(11,iV (wi ((wi (2*p40))+1))),(40,.bool v93)],[],[]⟩ (fg ⟨(by subst e94; rfl),(by subst e94; rfl),(by subst e94; rfl),(by subst e94; rfl),(by subst e94; rfl),(by subst e94; rfl),(by subst e94; rfl),tv⟩ tv) (Kh (cb:=v93) (fun S=>∃p96:Int,S=⟨gK p39 a2 a3 f4 k4 p40 [(11,iV p96)],[],[]⟩∧Nd a3 is4 p39 p40 p96=some o1) rfl ?_ (fun qN J120=>?_) (fun qN J120=>?_)))⟩))⟩))))) Aw⟩))⟩))⟩))⟩))
   ·rintro _ ⟨p96,rfl,h1⟩
    refine Lg 3 (bb h1 fun y97 e98 h1=>bb h1 fun y99 e100 h1=>bb h1 fun y101 e102 h1=>bb h1 fun y103 e104 h1=>bb h1 fun r105 e106 h1=>Ay 5 (Bg (d_ (Xe rfl rfl rfl e98 (Bg (Cb (c_ (Mx rfl rfl e100) (⟨⟨Ct rfl rfl e100 rfl,tv⟩,Ag tv (Ca rfl tv (⟨⟨Ct rfl rfl e100 rfl,tv⟩,Ag tv (Ca rfl tv (⟨⟨Ct rfl rfl e100 rfl,tv⟩,Ag tv (Ca rfl tv (⟨⟨Ct rfl rfl e100 rfl,tv⟩,Ag tv (c_ (Ax t3 rfl tv) (⟨⟨Ct rfl rfl e100 rfl,tv⟩,Ag tv (c_ (Ja rfl rfl e102) (⟨⟨Ct rfl rfl e100 rfl,tv⟩,Cb (c_ (Mx rfl rfl e104) (⟨⟨Ct rfl rfl e104 rfl,Ct rfl rfl e100 rfl,tv⟩,Bq (Gb (r:=iV r105) rfl false (hf4 _ _ r105 e106) ⟨tv,tv,tv⟩ (ar (Bf rfl hs4.2.2.1)) (Bb rfl (Bb rfl (hs4.2.1 _ _ _ _ _))) (fun _=>rfl) (dw [(0,Af 2097152 p39),(2,iV a2),(3,iV a3),(4,.clo f4 k4),(10,iV p40),(11,iV p96),(56,iV r105)] [] tv (Ag tv (c_ (Ax t3 rfl tv) (⟨tv,?_⟩))))) Aw⟩))⟩))⟩))⟩))⟩))⟩))⟩))))))))
    refine d_ (Az 2 (gK p39 a2 a3 f4 k4 p40 [(11,iV p96),(58,.bool (!(decide (r105<0))))]) [] (Co h1 (fun c107 h1=>?_) (fun c107 h1=>?_)))
    ·obtain rfl:=sj h1
     obtain rfl:=hx1 _ rfl
     obtain rfl:=sj h0
     exact Lf (hR1 _ (Eg rfl rfl rfl rfl rfl ⟨⟨rfl,Mr (fun _=>rfl)⟩,tv⟩))
    ·refine Lg 3 (bb h1 fun y108 e109 h1=>bb h1 fun y110 e111 h1=>bb h1 fun y112 e113 h1=>bb h1 fun y114 e115 h1=>bb h1 fun y116 e117 h1=>bb h1 fun y118 e119 h1=>Ay 12 (Bg (d_ (Xe rfl rfl rfl e109 (Bg (Cb (c_ (Mx rfl rfl e111) (⟨⟨Ct rfl rfl e111 rfl,tv⟩,Ag tv (Ca rfl tv (⟨⟨Ct rfl rfl e111 rfl,tv⟩,?_⟩))⟩))))))))
     refine Ag tv (Ca rfl tv (⟨⟨Ct rfl rfl e111 rfl,tv⟩,Ag tv (Ca rfl tv (⟨⟨Ct rfl rfl e111 rfl,tv⟩,Ag tv (c_ (Ax t3 rfl tv) (⟨⟨Ct rfl rfl e111 rfl,tv⟩,Ag tv (c_ (Ja rfl rfl e113) (⟨⟨Ct rfl rfl e111 rfl,tv⟩,Cb (c_ (Mx rfl rfl e115) (⟨⟨Ct rfl rfl e115 rfl,Ct rfl rfl e111 rfl,tv⟩,Ag tv (c_ (Ja rfl rfl e113) (⟨⟨Ct rfl rfl e115 rfl,Ct rfl rfl e111 rfl,tv⟩,Bq (Hk (y':=y110) rfl rfl tv rfl rfl rfl rfl e115 (nl rfl) rfl rfl rfl rfl (iZ ⟨[(0,Af 2097152 (p39.set ((wi (a3+p40)).toNat) y110)),(2,iV a2),(3,iV a3),(4,.clo f4 k4),(11,iV p96),(63,Af 2097152 (p39.set ((wi (a3+p40)).toNat) y110)),(64,iV a3),(65,iV p96),(66,iV (wi (a3+p96))),(78,.agg (Ac y114))],[],[]⟩ (fg ⟨congrArg (fun z=>some ((.own 2097152 0 4 z:V))) Be,rfl,rfl,rfl,rfl,congrArg (fun z=>some ((.own 2097152 0 4 z:V))) Be,rfl,rfl,rfl,rfl,tv⟩ tv) ⟨[],⟨⟨.inl tv,Bd (Ax t3 rfl tv) rfl⟩,⟨.inl tv,Bd (Dg (v:=iV p96) rfl tv) rfl⟩,⟨.inl tv,Bd (Dg (v:=iV a3) rfl tv) rfl⟩,⟨.inl tv,Bd (Dg (v:=Af 2097152 (p39.set ((wi (a3+p40)).toNat) y110)) rfl tv) rfl⟩,tv⟩,tv,Ag tv (c_ (Ja rfl rfl e117) (⟨tv,Bq (Hk (y':=y114) rfl rfl tv rfl rfl rfl rfl e119 (nl rfl) rfl rfl rfl rfl (d0 tv (Hb (Dd ⟨[(0,.own 2097152 0 4 (((p39.set ((wi (a3+p40)).toNat) y110).set ((wi (a3+p96)).toNat) y114).map Ac)),(2,iV a2),(3,iV a3),(4,.clo f4 k4),(11,iV p96)],[],[]⟩ (fg ⟨congrArg (fun z=>some ((.own 2097152 0 4 z:V))) Be,rfl,rfl,rfl,rfl,tv⟩ tv) (Ao (st (Ca rfl tv (st (Ca rfl tv (Gr (Rp ?_))))))))))) Aw⟩))⟩)) Aw⟩))⟩))⟩))⟩))⟩))⟩))
     obtain rfl:=sj h1
     exact kn hK1 rfl rfl
   ·replace h1:=ip qN h1
    refine Ay 4 ?_
    exact jn J120 ⟨_,rfl,h1⟩
   ·replace h1:=Xj qN h1
    refine Js ?_
    exact jn J120 ⟨_,rfl,h1⟩

/- slices.heapSortCmpFunc[loop.example/g00149/impl.Lease] -/
def SJ:=[m_ 13 1,m_ 8 13]
def SK:=[i_ 9 0]
def SL:=[m_ 14 2,m_ 15 1,b_ .sub 16 14 15,m_ 10 16]
def SM:=[m_ 17 10,B_ .sub 18 17 1,B_ .quo 19 18 2,m_ 11 19]
def SN:=[m_ 20 11,B_ .geq 21 20 0]
def SO:=[m_ 24 0,m_ 25 11,m_ 26 10,m_ 27 8,m_ 28 3,q_ 29 159 [.t 24,.t 25,.t 26,.t 27,.t 28]]
def SP:=[m_ 22 11,B_ .sub 23 22 1,m_ 11 23]
def SH:IR:=(.seq (sr SN (.ite (.t 21) .skip (.exit 0))) (.seq (.block 1 (.reg SO)) (.reg SP)))
def SQ:=[m_ 30 10,B_ .sub 31 30 1,m_ 12 31]
def SR:=[m_ 32 12,B_ .geq 33 32 0]
def SS:=tk [m_ 36 0,m_ 37 8,m_ 38 0,m_ 39 8,m_ 40 12,b_ .add 41 39 40,m_ 42 0,m_ 43 8,m_ 44 12,b_ .add 45 43 44,x_ 46 42 45 4,L_ 47 46 4,m_ 48 0,m_ 49 8,x_ 50 48 49 4,L_ 51 50 4,x_ 52 36 37 4] (.alt [b_ .add 41 39 40,m_ 40 12,m_ 39 8,m_ 38 0] (s_ 52 47 4) (tk [x_ 53 38 41 4] (.alt [] (s_ 53 51 4) .fin .stop)) .stop)
def xD:=[m_ 54 0,m_ 55 9,m_ 56 12,m_ 57 8,m_ 58 3,q_ 59 159 [.t 54,.t 55,.t 56,.t 57,.t 58]]
def xE:=[m_ 34 12,B_ .sub 35 34 1,m_ 12 35]
def SI:IR:=(.seq (sr SR (.ite (.t 33) .skip (.exit 2))) (.seq (.block 3 (sd SS (.reg xD))) (.reg xE)))
def c149:Dj:=⟨4,60,[],sr SJ (sr SK (sr SL (.seq (sr SM (Ik 0 SH)) (sr SQ (Ik 2 SI)))))⟩
def K149 (C:Bi) (D:Bi:=C):Prop:=∀(a0:List Aa) (a1:Int) (a2:Int) (f3:Nat) (k3:List V) (is3:Aa→Aa→Option Int) (hs3:Ho k3) (hf3:∀(x0:Aa) (x1:Aa) r,is3 x0 x1=some r→C f3 ⟨.agg (Ac x0) :: .agg (Ac x1)::k3,[]⟩ ⟨iV r,[],[]⟩) (r:(List Aa)),g149 a0 a1 a2 is3=some r→D 149 ⟨[Af 2097152 a0,iV a1,iV a2,.clo f3 k3],[]⟩ ⟨.tup [],[],[(0,4,r.map Ac)]⟩
abbrev Pq:=fun x0 x1 x2 (r:List (Nat×V))=>(3,.clo x0 x1)::(8,iV x2)::(9,iV 0)::r
theorem F149 (H159:K159 C):K149 C (FO C c149):=by
 intro a0 a1 a2 f3 k3 is3 hs3 hf3 r h0
 refine f0 (Az 15 (Pq f3 k3 a1 [(0,Af 2097152 a0),(10,iV (wi (a2-a1)))]) [] (Bm (Bm (Ao (st (Ca rfl tv (st (c_ (Ax t3 rfl tv) (st (c_ (Ax ⟨tv,tv,tv⟩ rfl (by decide)) (st (Ca rfl tv (Gr (bv h0 fun v1 e2 h0=>Dd ⟨[(0,Af 2097152 a0),(3,.clo f3 k3),(8,iV a1),(9,iV 0),(10,iV (wi (a2-a1))),(11,iV v1)],[],[]⟩ (fg ⟨(by subst e2; rfl),(by subst e2; rfl),(by subst e2; rfl),(by subst e2; rfl),(by subst e2; rfl),(by subst e2; rfl),tv⟩ tv) (By (bb h0 fun r20 e21 h0=>Cs (R:=(fun S=>∃p15:List Aa,p15=r20∧S=⟨Pq f3 k3 a1 [(0,Af 2097152 p15),(10,iV (wi (a2-a1)))],[],[]⟩)) (Yf a1 a2 is3) (fun s S=>match s with | (p7,p8)=>S=⟨Pq f3 k3 a1 [(0,Af 2097152 p7),(10,iV (wi (a2-a1))),(11,iV p8)],[],[]⟩) e21 _ (Dv (by kernel_rfl)) rfl 0 (fun _=>rfl) ?_ ?_))))))))))))))))
 ·rintro S _ hfg ⟨p15,rfl,rfl⟩
  refine Dd ⟨Pq f3 k3 a1 [(0,Af 2097152 p15),(10,iV (wi (a2-a1)))],[],[]⟩ (sW hfg ⟨rfl,rfl,rfl,rfl,rfl,tv⟩ tv) (Az 5 (Pq f3 k3 a1 [(0,Af 2097152 p15),(12,iV (wi ((wi (a2-a1))-1)))]) [] (By (bb h0 fun r75 e76 h0=>Cs (R:=(fun S=>∃p58:List Aa,p58=r75∧S=⟨[(0,Af 2097152 p58)],[],[]⟩)) (Yg a1 is3) (fun s S=>match s with | (p38,p39)=>S=⟨Pq f3 k3 a1 [(0,Af 2097152 p38),(12,iV p39)],[],[]⟩) e76 _ (Dv (by kernel_rfl)) rfl 2 (fun _=>rfl) ?_ ?_)))
  ·rintro S _ hfg ⟨p58,rfl,rfl⟩
   obtain rfl:=sj h0
   exact bU (bT hfg (Eg rfl rfl rfl rfl rfl ⟨⟨rfl,Mr (fun _=>rfl)⟩,tv⟩))
  ·rintro ⟨p38,p39⟩ o1 _ K1 rfl h1 hx1 hK1 hE1 hR1
   refine Az 5 (Pq f3 k3 a1 [(0,Af 2097152 p38),(12,iV p39),(33,.bool (decide (p39≥0)))]) [] (Co h1 (fun c59 h1=>?_) (fun c59 h1=>?_))
   ·refine Lg 5 (bb h1 fun y60 e61 h1=>bb h1 fun y62 e63 h1=>bb h1 fun y64 e65 h1=>bb h1 fun y66 e67 h1=>bb h1 fun y68 e69 h1=>bb h1 fun y70 e71 h1=>Bg (Ag tv (Ca rfl tv (⟨tv,Ag tv (Ca rfl tv (⟨tv,Ag tv (Ca rfl tv (⟨tv,Ag tv (Ca rfl tv (⟨tv,Ag tv (Ca rfl tv (⟨tv,Ag tv (c_ (Ax t3 rfl tv) (⟨tv,Ag tv (Ca rfl tv (⟨tv,Ag tv (Ca rfl tv (⟨tv,Ag tv (Ca rfl tv (⟨tv,Ag tv (c_ (Ax t3 rfl tv) (⟨tv,d_ (Xe rfl rfl rfl e61 (Bg (Cb (c_ (Mx rfl rfl e63) (⟨⟨Ct rfl rfl e63 rfl,tv⟩,Ag tv (Ca rfl tv (⟨⟨Ct rfl rfl e63 rfl,tv⟩,Ag tv (Ca rfl tv (⟨⟨Ct rfl rfl e63 rfl,tv⟩,Ag tv (c_ (Ja rfl rfl e65) (⟨⟨Ct rfl rfl e63 rfl,tv⟩,?_⟩))⟩))⟩))⟩)))))⟩))⟩))⟩))⟩))⟩))⟩))⟩))⟩))⟩))⟩))))
    refine Cb (c_ (Mx rfl rfl e67) (⟨⟨Ct rfl rfl e67 rfl,Ct rfl rfl e63 rfl,tv⟩,Ag tv (c_ (Ja rfl rfl e65) (⟨⟨Ct rfl rfl e67 rfl,Ct rfl rfl e63 rfl,tv⟩,Bq (Hk (y':=y62) rfl rfl tv rfl rfl rfl rfl e67 (nl rfl) rfl rfl rfl rfl (iZ ⟨[(0,Af 2097152 (p38.set a1.toNat y62)),(3,.clo f3 k3),(8,iV a1),(9,iV 0),(12,iV p39),(38,Af 2097152 (p38.set a1.toNat y62)),(39,iV a1),(40,iV p39),(41,iV (wi (a1+p39))),(51,.agg (Ac y66))],[],[]⟩ (fg ⟨congrArg (fun z=>some ((.own 2097152 0 4 z:V))) Be,rfl,rfl,rfl,rfl,congrArg (fun z=>some ((.own 2097152 0 4 z:V))) Be,rfl,rfl,rfl,rfl,tv⟩ tv) ⟨[],⟨⟨.inl tv,Bd (Ax t3 rfl tv) rfl⟩,⟨.inl tv,Bd (Dg (v:=iV p39) rfl tv) rfl⟩,⟨.inl tv,Bd (Dg (v:=iV a1) rfl tv) rfl⟩,⟨.inl tv,Bd (Dg (v:=Af 2097152 (p38.set a1.toNat y62)) rfl tv) rfl⟩,tv⟩,tv,Ag tv (c_ (Ja rfl rfl e69) (⟨tv,Bq (Hk (y':=y66) rfl rfl tv rfl rfl rfl rfl e71 (nl rfl) rfl rfl rfl rfl (d0 tv (Hb (Dd ⟨[(0,Af 2097152 ((p38.set a1.toNat y62).set ((wi (a1+p39)).toNat) y66)),(3,.clo f3 k3),(8,iV a1),(9,iV 0),(12,iV p39)],[],[]⟩ (fg ⟨congrArg (fun z=>some ((.own 2097152 0 4 z:V))) Be,rfl,rfl,rfl,rfl,tv⟩ tv) (Ao (st (Ca rfl tv (st (Ca rfl tv (st (Ca rfl tv (st (Ca rfl tv (st (Ca rfl tv (bb h1 fun r72 e73 h1=>gg h1 fun c74 h1=>st (Ed [] [2097152] [] false (H159 ((p38.set a1.toNat y62).set ((wi (a1+p39)).toNat) y66) 0 p39 a1 f3 k3 is3 hs3 hf3 r72 e73) ⟨tv,tv,tv,tv,tv,tv⟩ (by kernel_rfl) (congrArg (fun z=>Gq.mk z []) (Bb rfl (Bb rfl (Bb rfl (Bb rfl (Bb (En hs3) rfl)))))) (by kernel_rfl) (by kernel_rfl) (fun _=>Bf rfl (Bf (oP (fun _=>rfl)) rfl)) (Gr (Rp (Dd ⟨[(0,Af 2097152 r72),(3,.clo f3 k3),(8,iV a1),(9,iV 0),(12,iV p39)],[],[]⟩ (fg ⟨congrArg (fun z=>some ((z:V))) (Iw c74),rfl,rfl,rfl,rfl,tv⟩ tv) (Ao (st (Ca rfl tv (st (c_ (Ax t3 rfl tv) (st (Ca rfl tv (Gr ?_)))))))))))))))))))))))))))) Aw⟩))⟩)) Aw⟩))⟩))
    obtain rfl:=sj h1
    exact kn hK1 rfl rfl
   ·obtain rfl:=sj h1
    obtain rfl:=hx1 _ rfl
    refine Iq rfl ?_
    exact jn hE1 ⟨_,rfl,rfl⟩
 ·rintro ⟨p7,p8⟩ o1 _ K1 rfl h1 hx1 hK1 hE1 hR1
  refine Az 5 (Pq f3 k3 a1 [(0,Af 2097152 p7),(10,iV (wi (a2-a1))),(11,iV p8),(21,.bool (decide (p8≥0)))]) [] (Co h1 (fun c16 h1=>?_) (fun c16 h1=>?_))
  ·refine Js (cY (Bm (By (Ao (st (Ca rfl tv (st (Ca rfl tv (st (Ca rfl tv (st (Ca rfl tv (st (Ca rfl tv (bb h1 fun r17 e18 h1=>gg h1 fun c19 h1=>st (Ed [] [2097152] [] false (H159 p7 p8 (wi (a2-a1)) a1 f3 k3 is3 hs3 hf3 r17 e18) ⟨tv,tv,tv,tv,tv,tv⟩ (by kernel_rfl) (congrArg (fun z=>Gq.mk z []) (Bb rfl (Bb rfl (Bb rfl (Bb rfl (Bb (En hs3) rfl)))))) (by kernel_rfl) (by kernel_rfl) (fun _=>Bf rfl (Bf (oP (fun _=>rfl)) rfl)) (Gr (Rp (Dd ⟨[(0,Af 2097152 r17),(3,.clo f3 k3),(8,iV a1),(9,iV 0),(10,iV (wi (a2-a1))),(11,iV p8)],[],[]⟩ (fg ⟨congrArg (fun z=>some ((z:V))) (Iw c19),rfl,rfl,rfl,rfl,rfl,tv⟩ tv) (Ao (st (Ca rfl tv (st (c_ (Ax t3 rfl tv) (st (Ca rfl tv (Gr ?_)))))))))))))))))))))))))))
   obtain rfl:=sj h1
   exact kn hK1 rfl rfl
  ·obtain rfl:=sj h1
   obtain rfl:=hx1 _ rfl
   refine Iq rfl ?_
   exact jn hE1 ⟨_,rfl,rfl⟩

/- math/bits.Len32 -/
def VO:=[i_ 2 0]
def VP:List Bv:=[m_ 3 0,⟨some 4,.p (.bin .geq (.t 3) (.c (.int .u32 65536))),none⟩]
def VQ:List Bv:=[m_ 5 0,⟨some 6,.p (.bin .shr (.t 5) (.c (.int .u64 16))),none⟩,m_ 0 6]
def VR:=[i_ 2 16]
def VS:List Bv:=[m_ 7 0,⟨some 8,.p (.bin .geq (.t 7) (.c (.int .u32 256))),none⟩]
def VT:List Bv:=[m_ 9 0,⟨some 10,.p (.bin .shr (.t 9) (.c (.int .u64 8))),none⟩,m_ 0 10]
def VU:=[m_ 11 2,B_ .add 12 11 8,m_ 2 12]
def VV:List Bv:=[m_ 13 2,m_ 14 0,iQ 15 (.conv .u8 (.t 14)),⟨some 16,.p (.idxStr (.c (.str [0,1,2,2,3,3,3,3,4,4,4,4,4,4,4,4,5,5,5,5,5,5,5,5,5,5,5,5,5,5,5,5,6,6,6,6,6,6,6,6,6,6,6,6,6,6,6,6,6,6,6,6,6,6,6,6,6,6,6,6,6,6,6,6,7,7,7,7,7,7,7,7,7,7,7,7,7,7,7,7,7,7,7,7,7,7,7,7,7,7,7,7,7,7,7,7,7,7,7,7,7,7,7,7,7,7,7,7,7,7,7,7,7,7,7,7,7,7,7,7,7,7,7,7,7,7,7,7,8,8,8,8,8,8,8,8,8,8,8,8,8,8,8,8,8,8,8,8,8,8,8,8,8,8,8,8,8,8,8,8,8,8,8,8,8,8,8,8,8,8,8,8,8,8,8,8,8,8,8,8,8,8,8,8,8,8,8,8,8,8,8,8,8,8,8,8,8,8,8,8,8,8,8,8,8,8,8,8,8,8,8,8,8,8,8,8,8,8,8,8,8,8,8,8,8,8,8,8,8,8,8,8,8,8,8,8,8,8,8,8,8,8,8,8,8,8,8,8,8,8,8,8,8,8,8,8])) (.t 15)),none⟩,iQ 17 (.conv .i64 (.t 16)),b_ .add 18 13 17,m_ 2 18]
def VN:Dj:=⟨1,19,[.t 2],sr VO (.seq (sr VP (iz 4 (sr VQ (.reg VR)))) (.seq (sr VS (iz 8 (sr VT (.reg VU)))) (rr VV)))⟩
def K156 (D:Bi):Prop:=∀a0 r,g156 a0=some r→D 156 ⟨[.int .u32 a0],[]⟩ ⟨iV r,[],[]⟩
theorem F156:K156 (FO C VN):=by
 intro a0 r h0
 refine f0 (Az 9 [(0,.int .u32 a0),(2,iV 0),(4,.bool (decide (a0≥65536)))] [] (Kh (cb:=(decide (a0≥65536))) (fun S=>∃p2:Int,∃p3:Int,S=⟨[(0,.int .u32 p2),(2,iV p3)],[],[]⟩∧fM p2 p3=some r) rfl ?_ (fun c12 J11=>?_) (fun c12 J11=>?_)))
 ·rintro _ ⟨p2,p3,rfl,h0⟩
  refine Az 6 [(0,.int .u32 p2),(2,iV p3),(8,.bool (decide (p2≥256)))] [] (Kh (cb:=(decide (p2≥256))) (fun S=>∃p5:Int,∃p6:Int,S=⟨[(0,.int .u32 p5),(2,iV p6)],[],[]⟩∧fN p5 p6=some r) rfl ?_ (fun c10 J9=>?_) (fun c10 J9=>?_))
  ·rintro _ ⟨p5,p6,rfl,h0⟩
   refine Ay 4 (Ao (st (c_ (cb8 (Ax ⟨tv,tv⟩ rfl tv)) (bb h0 fun y7 e8 h0=>st (c_ (cidxS (y:=y7) rfl rfl tv rfl rfl tv e8) (o_ ?_))))))
   obtain rfl:=sj h0
   exact Cy 5
  ·replace h0:=ip c10 h0
   refine Bm (Ao (st (Ca rfl tv (st (c_ (Ax ⟨tv,tv,tv⟩ rfl (by decide)) (o_ (Az 2 [(0,.int .u32 (Nj .u32 p2 8)),(2,iV p3)] [] (Ay 4 ?_))))))))
   exact jn J9 ⟨_,_,rfl,h0⟩
  ·replace h0:=Xj c10 h0
   refine Js ?_
   exact jn J9 ⟨_,_,rfl,h0⟩
 ·replace h0:=ip c12 h0
  refine Bm (Ao (st (Ca rfl tv (st (c_ (Ax ⟨tv,tv,tv⟩ rfl (by decide)) (o_ (Az 2 [(0,.int .u32 (Nj .u32 a0 16))] [] (Ao (st (DF tv (Gr ?_)))))))))))
  exact jn J11 ⟨_,_,rfl,h0⟩
 ·replace h0:=Xj c12 h0
  refine Js ?_
  exact jn J11 ⟨_,_,rfl,h0⟩

/- math/bits.Len64 -/
def VW:=[i_ 2 0]
def VX:List Bv:=[m_ 3 0,⟨some 4,.p (.bin .geq (.t 3) (.c (.int .u64 4294967296))),none⟩]
def VY:List Bv:=[m_ 5 0,⟨some 6,.p (.bin .shr (.t 5) (.c (.int .u64 32))),none⟩,m_ 0 6]
def VZ:=[i_ 2 32]
def WA:List Bv:=[m_ 7 0,⟨some 8,.p (.bin .geq (.t 7) (.c (.int .u64 65536))),none⟩]
def WB:List Bv:=[m_ 9 0,⟨some 10,.p (.bin .shr (.t 9) (.c (.int .u64 16))),none⟩,m_ 0 10]
def WC:=[m_ 11 2,B_ .add 12 11 16,m_ 2 12]
def WE:List Bv:=[m_ 13 0,⟨some 14,.p (.bin .geq (.t 13) (.c (.int .u64 256))),none⟩]
def WF:List Bv:=[m_ 15 0,⟨some 16,.p (.bin .shr (.t 15) (.c (.int .u64 8))),none⟩,m_ 0 16]
def WG:=[m_ 17 2,B_ .add 18 17 8,m_ 2 18]
def yU:List Bv:=[m_ 19 2,m_ 20 0,iQ 21 (.conv .u8 (.t 20)),⟨some 22,.p (.idxStr (.c (.str [0,1,2,2,3,3,3,3,4,4,4,4,4,4,4,4,5,5,5,5,5,5,5,5,5,5,5,5,5,5,5,5,6,6,6,6,6,6,6,6,6,6,6,6,6,6,6,6,6,6,6,6,6,6,6,6,6,6,6,6,6,6,6,6,7,7,7,7,7,7,7,7,7,7,7,7,7,7,7,7,7,7,7,7,7,7,7,7,7,7,7,7,7,7,7,7,7,7,7,7,7,7,7,7,7,7,7,7,7,7,7,7,7,7,7,7,7,7,7,7,7,7,7,7,7,7,7,7,8,8,8,8,8,8,8,8,8,8,8,8,8,8,8,8,8,8,8,8,8,8,8,8,8,8,8,8,8,8,8,8,8,8,8,8,8,8,8,8,8,8,8,8,8,8,8,8,8,8,8,8,8,8,8,8,8,8,8,8,8,8,8,8,8,8,8,8,8,8,8,8,8,8,8,8,8,8,8,8,8,8,8,8,8,8,8,8,8,8,8,8,8,8,8,8,8,8,8,8,8,8,8,8,8,8,8,8,8,8,8,8,8,8,8,8,8,8,8,8,8,8,8,8,8,8,8,8])) (.t 21)),none⟩,iQ 23 (.conv .i64 (.t 22)),b_ .add 24 19 23,m_ 2 24]
def c157:Dj:=⟨1,25,[.t 2],sr VW (.seq (sr VX (iz 4 (sr VY (.reg VZ)))) (.seq (sr WA (iz 8 (sr WB (.reg WC)))) (.seq (sr WE (iz 14 (sr WF (.reg WG)))) (rr yU))))⟩
def K157 (D:Bi):Prop:=∀a0 r,g157 a0=some r→D 157 ⟨[.int .u64 a0],[]⟩ ⟨iV r,[],[]⟩
theorem F157:K157 (FO C c157):=by
 intro a0 r h0
 refine f0 (Az 9 [(0,.int .u64 a0),(2,iV 0),(4,.bool (decide (a0≥4294967296)))] [] (Kh (cb:=(decide (a0≥4294967296))) (fun S=>∃p2:Int,∃p3:Int,S=⟨[(0,.int .u64 p2),(2,iV p3)],[],[]⟩∧Yr p2 p3=some r) rfl ?_ (fun c17 J16=>?_) (fun c17 J16=>?_)))
 ·rintro _ ⟨p2,p3,rfl,h0⟩
  refine Az 6 [(0,.int .u64 p2),(2,iV p3),(8,.bool (decide (p2≥65536)))] [] (Kh (cb:=(decide (p2≥65536))) (fun S=>∃p5:Int,∃p6:Int,S=⟨[(0,.int .u64 p5),(2,iV p6)],[],[]⟩∧Ua p5 p6=some r) rfl ?_ (fun c15 J14=>?_) (fun c15 J14=>?_))
  ·rintro _ ⟨p5,p6,rfl,h0⟩
   refine Az 6 [(0,.int .u64 p5),(2,iV p6),(14,.bool (decide (p5≥256)))] [] (Kh (cb:=(decide (p5≥256))) (fun S=>∃p8:Int,∃p9:Int,S=⟨[(0,.int .u64 p8),(2,iV p9)],[],[]⟩∧Ub p8 p9=some r) rfl ?_ (fun c13 J12=>?_) (fun c13 J12=>?_))
   ·rintro _ ⟨p8,p9,rfl,h0⟩
    refine Ay 4 (Ao (st (c_ (cb8 (Ax ⟨tv,tv⟩ rfl tv)) (bb h0 fun y10 e11 h0=>st (c_ (cidxS (y:=y10) rfl rfl tv rfl rfl tv e11) (o_ ?_))))))
    obtain rfl:=sj h0
    exact Cy 5
   ·replace h0:=ip c13 h0
    refine Bm (Ao (st (Ca rfl tv (st (c_ (Ax ⟨tv,tv,tv⟩ rfl (by decide)) (o_ (Az 2 [(0,.int .u64 (Nj .u64 p5 8)),(2,iV p6)] [] (Ay 4 ?_))))))))
    exact jn J12 ⟨_,_,rfl,h0⟩
   ·replace h0:=Xj c13 h0
    refine Js ?_
    exact jn J12 ⟨_,_,rfl,h0⟩
  ·replace h0:=ip c15 h0
   refine Bm (Ao (st (Ca rfl tv (st (c_ (Ax ⟨tv,tv,tv⟩ rfl (by decide)) (o_ (Az 2 [(0,.int .u64 (Nj .u64 p2 16)),(2,iV p3)] [] (Ay 4 ?_))))))))
   exact jn J14 ⟨_,_,rfl,h0⟩
  ·replace h0:=Xj c15 h0
   refine Js ?_
   exact jn J14 ⟨_,_,rfl,h0⟩
 ·replace h0:=ip c17 h0
  refine Bm (Ao (st (Ca rfl tv (st (c_ (Ax ⟨tv,tv,tv⟩ rfl (by decide)) (o_ (Az 2 [(0,.int .u64 (Nj .u64 a0 32))] [] (Ao (st (DF tv (Gr ?_)))))))))))
  exact jn J16 ⟨_,_,rfl,h0⟩
 ·replace h0:=Xj c17 h0
  refine Js ?_
  exact jn J16 ⟨_,_,rfl,h0⟩

/- math/bits.Len -/
def PT:=[i_ 2 0]
def PV:=[m_ 3 0,iQ 4 (.conv .u32 (.t 3)),q_ 5 156 [.t 4],m_ 2 5]
def PW:=[m_ 6 0,q_ 7 157 [.t 6],m_ 2 7]
def PS:Dj:=⟨1,8,[.t 2],sr PT (.seq (.ite (.c (.bool false)) (rr PV) .skip) (rr PW))⟩
def FW (D:Bi):Prop:=∀a0 r,BP a0=some r→D 138 ⟨[.int .u64 a0],[]⟩ ⟨iV r,[],[]⟩
theorem F138 (H156:K156 C) (H157:K157 C):FW (FO C PS):=by
 intro a0 r h0
 refine f0 (Az 3 [(0,.int .u64 a0)] [] (Bm (Co h0 (fun c1 h0=>?_) (fun c1 h0=>?_))))
 ·refine Ay 3 (Ao (bb h0 fun r2 e3 h0=>Om (H156 (IntKind.u32.wrap a0) r2 e3) (o_ ?_)))
  obtain rfl:=sj h0
  exact Cy 3
 ·refine Ay 4 (Ao (bb h0 fun r4 e5 h0=>Om (H157 a0 r4 e5) (o_ ?_)))
  obtain rfl:=sj h0
  exact Cy 3

/- slices.nextPowerOfTwo -/
def WR:=[k_ 2 (.int .u64 0)]
def WS:List Bv:=[m_ 3 0,iQ 4 (.conv .u64 (.t 3)),q_ 5 138 [.t 4],⟨some 6,.p (.bin .shl (.c (.int .u64 1)) (.t 5)),none⟩,m_ 2 6]
def c160:Dj:=⟨1,7,[.t 2],sr WR (rr WS)⟩
def K160 (D:Bi):Prop:=∀a0 r,g160 a0=some r→D 160 ⟨[iV a0],[]⟩ ⟨.int .u64 r,[],[]⟩
theorem F160 (H138:FW C):K160 (FO C c160):=by
 intro a0 r h0
 refine f0 (Az 3 [(0,iV a0)] [] (Ay 3 (Ao (bb h0 fun r1 e2 h0=>Om (H138 (IntKind.u64.wrap a0) r1 e2) (gg h0 fun c3 h0=>st (c_ (Ax ⟨tv,tv,tv⟩ rfl c3) (o_ ?_)))))))
 obtain rfl:=sj h0
 exact Cy 3

/- (*slices.xorshift).Next -/
def WT:=[k_ 2 (.int .u64 0)]
def WU:=tk [m_ 3 0,iQ 4 (.nilc (.t 3)),l_ 5 4 1,m_ 6 0,iQ 7 (.nilc (.t 6)),l_ 8 7 1,⟨some 9,.p (.bin .shl (.t 8) (.c (.int .u64 13))),none⟩,b_ .xor 10 5 9,iQ 11 (.nilc (.t 3))] (.alt [] (s_ 11 10 1) .fin .stop)
def WV:=tk [m_ 12 0,iQ 13 (.nilc (.t 12)),l_ 14 13 1,m_ 15 0,iQ 16 (.nilc (.t 15)),l_ 17 16 1,⟨some 18,.p (.bin .shr (.t 17) (.c (.int .u64 7))),none⟩,b_ .xor 19 14 18,iQ 20 (.nilc (.t 12))] (.alt [] (s_ 20 19 1) .fin .stop)
def WW:=tk [m_ 21 0,iQ 22 (.nilc (.t 21)),l_ 23 22 1,m_ 24 0,iQ 25 (.nilc (.t 24)),l_ 26 25 1,⟨some 27,.p (.bin .shl (.t 26) (.c (.int .u64 17))),none⟩,b_ .xor 28 23 27,iQ 29 (.nilc (.t 21))] (.alt [] (s_ 29 28 1) .fin .stop)
def WX:=[m_ 30 0,iQ 31 (.nilc (.t 30)),l_ 32 31 1,m_ 2 32]
def c161:Dj:=⟨1,33,[.t 2],sr WT (sd WU (sd WV (sd WW (rr WX))))⟩
def K161 (D:Bi):Prop:=∀a0 r,g161 a0=some r→D 161 ⟨[.ptr 1048576 0],[[.int .u64 a0]]⟩ ⟨.int .u64 r.1,[[.int .u64 r.2]],[]⟩
theorem F161:K161 (FO C c161):=by
 intro a0 r h0
 refine f0 (Az 3 [(0,.ptr 1048576 0)] [(1048576,[.int .u64 a0])] (Bm (Bg (Ag tv (Ca rfl tv (⟨tv,Ag tv (c_ (Ax ⟨tv,tv⟩ rfl tv) (⟨tv,Ag tv (c_ (Ax ⟨tv,tv⟩ rfl (nl rfl)) (⟨tv,Ag tv (Ca rfl tv (⟨tv,Ag tv (c_ (Ax ⟨tv,tv⟩ rfl tv) (⟨tv,Ag tv (c_ (Ax ⟨tv,tv⟩ rfl (nl rfl)) (⟨tv,Ag tv (c_ (Ax ⟨tv,tv,tv⟩ rfl (by decide)) (⟨tv,Ag tv (c_ (Ax t3 rfl tv) (⟨tv,Ag tv (c_ (Ax ⟨tv,tv⟩ rfl tv) (⟨tv,Bq (Ei rfl rfl tv rfl rfl rfl (nl rfl) (d0 tv (d_ (Az 1 [(0,.ptr 1048576 0)] [(1048576,[.int .u64 (cQ .u64 a0 (gG .u64 a0 13))])] (Bm ?_))))) Aw⟩))⟩))⟩))⟩))⟩))⟩))⟩))⟩))⟩))))))
 refine Bg (Ag tv (Ca rfl tv (⟨tv,Ag tv (c_ (Ax ⟨tv,tv⟩ rfl tv) (⟨tv,Ag tv (c_ (Ax ⟨tv,tv⟩ rfl (nl rfl)) (⟨tv,Ag tv (Ca rfl tv (⟨tv,Ag tv (c_ (Ax ⟨tv,tv⟩ rfl tv) (⟨tv,Ag tv (c_ (Ax ⟨tv,tv⟩ rfl (nl rfl)) (⟨tv,Ag tv (c_ (Ax ⟨tv,tv,tv⟩ rfl (by decide)) (⟨tv,Ag tv (c_ (Ax t3 rfl tv) (⟨tv,Ag tv (c_ (Ax ⟨tv,tv⟩ rfl tv) (⟨tv,Bq (Ei rfl rfl tv rfl rfl rfl (nl rfl) (d0 tv (Hb (bv h0 fun v1 e2 h0=>Dd ⟨[(0,.ptr 1048576 0)],[(1048576,[.int .u64 v1])],[]⟩ (Dv (by subst e2; kernel_rfl)) (Bm (Bg (Ag tv (Ca rfl tv (⟨tv,Ag tv (c_ (Ax ⟨tv,tv⟩ rfl tv) (⟨tv,Ag tv (c_ (Ax ⟨tv,tv⟩ rfl (nl rfl)) (⟨tv,Ag tv (Ca rfl tv (⟨tv,Ag tv (c_ (Ax ⟨tv,tv⟩ rfl tv) (⟨tv,Ag tv (c_ (Ax ⟨tv,tv⟩ rfl (nl rfl)) (⟨tv,Ag tv (c_ (Ax ⟨tv,tv,tv⟩ rfl (by decide)) (⟨tv,Ag tv (c_ (Ax t3 rfl tv) (⟨tv,Ag tv (c_ (Ax ⟨tv,tv⟩ rfl tv) (⟨tv,Bq (Ei rfl rfl tv rfl rfl rfl (nl rfl) (d0 tv (d_ (Az 1 [(0,.ptr 1048576 0)] [(1048576,[.int .u64 (cQ .u64 v1 (gG .u64 v1 17))])] (Bm (Ao (st (Ca rfl tv (st (c_ (Ax ⟨tv,tv⟩ rfl tv) (st (c_ (Ax ⟨tv,tv⟩ rfl (nl rfl)) (st (Ca rfl tv ?_)))))))))))))) Aw⟩))⟩))⟩))⟩))⟩))⟩))⟩))⟩))⟩))))))))) Aw⟩))⟩))⟩))⟩))⟩))⟩))⟩))⟩))⟩)))
 refine o_ ?_
 obtain rfl:=sj h0
 exact Cy 2

/- slices.breakPatternsCmpFunc[loop.example/g00149/impl.Lease] -/
def SU:=[m_ 13 2,m_ 14 1,b_ .sub 15 13 14,m_ 8 15]
def SV:=[m_ 16 8,B_ .geq 17 16 8]
def SW:=[m_ 18 8,iQ 19 (.conv .u64 (.t 18)),a_ 9 [.int .u64 0],s_ 9 19 1]
def SX:=[m_ 20 8,q_ 21 160 [.t 20],m_ 10 21]
def SY:=[m_ 22 1,m_ 23 8,B_ .quo 24 23 4,B_ .mul 25 24 2,b_ .add 26 22 25,B_ .sub 27 26 1,m_ 11 27]
def SZ:=[m_ 28 11,m_ 29 1,m_ 30 8,B_ .quo 31 30 4,B_ .mul 32 31 2,b_ .add 33 29 32,B_ .add 34 33 1,b_ .leq 35 28 34]
def TA:List Bv:=[q_ 38 161 [.t 9],m_ 39 10,⟨some 40,.p (.bin .sub (.t 39) (.c (.int .u64 1))),none⟩,b_ .and 41 38 40,iQ 42 (.conv .i64 (.t 41)),m_ 12 42]
def TB:=[m_ 43 12,m_ 44 8,b_ .geq 45 43 44]
def TC:=[m_ 46 12,m_ 47 8,b_ .sub 48 46 47,m_ 12 48]
def TD:=tk [m_ 49 0,m_ 50 11,m_ 51 0,m_ 52 1,m_ 53 12,b_ .add 54 52 53,m_ 55 0,m_ 56 1,m_ 57 12,b_ .add 58 56 57,x_ 59 55 58 4,L_ 60 59 4,m_ 61 0,m_ 62 11,x_ 63 61 62 4,L_ 64 63 4,x_ 65 49 50 4] (.alt [b_ .add 54 52 53,m_ 53 12,m_ 52 1,m_ 51 0] (s_ 65 60 4) (tk [x_ 66 51 54 4] (.alt [] (s_ 66 64 4) .fin .stop)) .stop)
def xG:=[m_ 36 11,B_ .add 37 36 1,m_ 11 37]
def ST:IR:=(.seq (sr SZ (.ite (.t 35) .skip (.exit 0))) (.seq (.block 1 (sr TA (.seq (sr TB (iz 45 (.reg TC))) (.draw TD)))) (.reg xG)))
def c150:Dj:=⟨4,67,[],sr SU (sr SV (iz 17 (sr SW (sr SX (sr SY (Ik 0 ST))))))⟩
def K150 (C:Bi) (D:Bi:=C):Prop:=∀(a0:List Aa) (a1:Int) (a2:Int) (f3:Nat) (k3:List V) (is3:Aa→Aa→Option Int) (hs3:Ho k3) (hf3:∀(x0:Aa) (x1:Aa) r,is3 x0 x1=some r→C f3 ⟨.agg (Ac x0) :: .agg (Ac x1)::k3,[]⟩ ⟨iV r,[],[]⟩) (r:(List Aa)),rH a0 a1 a2 is3=some r→D 150 ⟨[Af 2097152 a0,iV a1,iV a2,.clo f3 k3],[]⟩ ⟨.tup [],[],[(0,4,r.map Ac)]⟩
abbrev Vz:=fun x0 x1 x2 (r:List (Nat×V))=>(0,Af 2097152 x0)::(1,iV x1)::(9,.ptr 576 0)::(11,iV x2)::r
theorem F150 (H160:K160 C) (H161:K161 C):K150 C (FO C c150):=by
 intro a0 a1 a2 f3 k3 is3 hs3 hf3 r h0
 refine f0 (Az 11 [(0,Af 2097152 a0),(1,iV a1),(8,iV (wi (a2-a1))),(17,.bool (decide ((wi (a2-a1))≥8)))] [] (Co h0 (fun c1 h0=>?_) (fun c1 h0=>?_)))
 ·refine Az 6 [(0,Af 2097152 a0),(1,iV a1),(8,iV (wi (a2-a1))),(9,.ptr 576 0)] [(576,[.int .u64 (IntKind.u64.wrap (wi (a2-a1)))])] (Bm (Ao (st (Ca rfl tv (bb h0 fun r2 e3 h0=>Om (H160 (wi (a2-a1)) r2 e3) (o_ (Az 2 [(0,Af 2097152 a0),(1,iV a1),(8,iV (wi (a2-a1))),(9,.ptr 576 0),(10,.int .u64 r2)] [(576,[.int .u64 (IntKind.u64.wrap (wi (a2-a1)))])] (Ay 3 (Ao (st (c_ (Ax ⟨tv,tv,tv⟩ rfl (by decide)) (o_ (Ay 5 (bv h0 fun v4 e5 h0=>Dd ⟨[(0,Af 2097152 a0),(1,iV a1),(8,iV (wi (a2-a1))),(9,.ptr 576 0),(10,.int .u64 r2),(11,iV v4)],[(576,[.int .u64 (IntKind.u64.wrap (wi (a2-a1)))])],[]⟩ (Dv (by subst e5; kernel_rfl)) (By (bb h0 fun r78 e79 h0=>Cs (R:=(fun S=>∃p54:List Aa,p54=r78∧S=⟨[(0,Af 2097152 p54)],[],[]⟩)) (Tt a1 a2 r2) (fun s S=>match s with | (p27,p28,p29)=>S=⟨Vz p27 a1 p28 [(8,iV (wi (a2-a1))),(10,.int .u64 r2)],[(576,[.int .u64 p29])],[]⟩) e79 _ (Dv (by kernel_rfl)) rfl 0 (fun _=>rfl) ?_ ?_))))))))))))))))
  ·rintro S _ hfg ⟨p54,rfl,rfl⟩
   obtain rfl:=sj h0
   exact bU (bT hfg (Eg rfl rfl rfl rfl rfl ⟨⟨rfl,Mr (fun _=>rfl)⟩,tv⟩))
  ·rintro ⟨p27,p28,p29⟩ o1 _ K1 rfl h1 hx1 hK1 hE1 hR1
   unfold Tt at h1
   refine Ay 5 (Ao (st (c_ (Ax ⟨tv,tv,tv⟩ rfl (by decide)) (o_ (Ay 5 (bv h1 fun v55 e56 h1=>Dd ⟨Vz p27 a1 p28 [(8,iV (wi (a2-a1))),(10,.int .u64 r2),(35,.bool v55)],[(576,[.int .u64 p29])],[]⟩ (Dv (by subst e56; kernel_rfl)) (Co h1 (fun c57 h1=>?_) (fun c57 h1=>?_))))))))
   ·refine Lg 5 (Ao (bb h1 fun r58 e59 h1=>iL [576] [] [] (H161 p29 r58 e59) (Bf rfl rfl) (sw ⟨Vz p27 a1 p28 [(8,iV (wi (a2-a1))),(10,.int .u64 r2),(38,.int .u64 r58.1)],[(576,[.int .u64 r58.2])],[]⟩ (Dv (by kernel_rfl)) (Ca rfl tv (o_ (Az 5 (Vz p27 a1 p28 [(8,iV (wi (a2-a1))),(10,.int .u64 r2),(12,iV (wi (gD .u64 r58.1 (IntKind.u64.wrap (r2-1)))))]) [(576,[.int .u64 r58.2])] (Ay 6 (bv h1 fun v60 e61 h1=>Dd ⟨Vz p27 a1 p28 [(8,iV (wi (a2-a1))),(10,.int .u64 r2),(12,iV (wi (gD .u64 r58.1 (IntKind.u64.wrap (r2-1))))),(45,.bool v60)],[(576,[.int .u64 r58.2])],[]⟩ (Dv (by subst e61; kernel_rfl)) (Kh (cb:=v60) (fun S=>∃p63:Int,S=⟨Vz p27 a1 p28 [(8,iV (wi (a2-a1))),(10,.int .u64 r2),(12,iV p63)],[(576,[.int .u64 r58.2])],[]⟩∧Tr a1 p27 p28 r58 p63=some o1) rfl ?_ (fun c77 J76=>?_) (fun c77 J76=>?_))))))))))
    ·rintro _ ⟨p63,rfl,h1⟩
     refine Lg 1 (bb h1 fun y64 e65 h1=>bb h1 fun y66 e67 h1=>bb h1 fun y68 e69 h1=>bb h1 fun y70 e71 h1=>bb h1 fun y72 e73 h1=>bb h1 fun y74 e75 h1=>Ay 10 (Bg (d_ (Xe rfl rfl rfl e65 (Bg (Cb (c_ (Mx rfl rfl e67) (⟨⟨Ct rfl rfl e67 rfl,tv⟩,Ag tv (Ca rfl tv (⟨⟨Ct rfl rfl e67 rfl,tv⟩,Ag tv (Ca rfl tv (⟨⟨Ct rfl rfl e67 rfl,tv⟩,Ag tv (c_ (Ja rfl rfl e69) (⟨⟨Ct rfl rfl e67 rfl,tv⟩,?_⟩))⟩))⟩))⟩))))))))
     refine Cb (c_ (Mx rfl rfl e71) (⟨⟨Ct rfl rfl e71 rfl,Ct rfl rfl e67 rfl,tv⟩,Ag tv (c_ (Ja rfl rfl e69) (⟨⟨Ct rfl rfl e71 rfl,Ct rfl rfl e67 rfl,tv⟩,Bq (Hk (y':=y66) rfl rfl tv rfl rfl rfl rfl e71 (nl rfl) rfl rfl rfl rfl (iZ ⟨[(0,Af 2097152 (p27.set p28.toNat y66)),(1,iV a1),(8,iV (wi (a2-a1))),(9,.ptr 576 0),(10,.int .u64 r2),(11,iV p28),(12,iV p63),(51,Af 2097152 (p27.set p28.toNat y66)),(52,iV a1),(53,iV p63),(54,iV (wi (a1+p63))),(64,.agg (Ac y70))],[(576,[.int .u64 r58.2])],[]⟩ (fg ⟨congrArg (fun z=>some ((.own 2097152 0 4 z:V))) Be,rfl,rfl,rfl,rfl,rfl,rfl,congrArg (fun z=>some ((.own 2097152 0 4 z:V))) Be,rfl,rfl,rfl,rfl,tv⟩ ⟨rfl,tv⟩) ⟨[],⟨⟨.inl tv,Bd (Ax t3 rfl tv) rfl⟩,⟨.inl tv,Bd (Dg (v:=iV p63) rfl tv) rfl⟩,⟨.inl tv,Bd (Dg (v:=iV a1) rfl tv) rfl⟩,⟨.inl tv,Bd (Dg (v:=Af 2097152 (p27.set p28.toNat y66)) rfl tv) rfl⟩,tv⟩,tv,Ag tv (c_ (Ja rfl rfl e73) (⟨tv,Bq (Hk (y':=y70) rfl rfl tv rfl rfl rfl rfl e75 (nl rfl) rfl rfl rfl rfl (d0 tv (Hb (Rp (Dd ⟨[(0,Af 2097152 ((p27.set p28.toNat y66).set ((wi (a1+p63)).toNat) y70)),(1,iV a1),(8,iV (wi (a2-a1))),(9,.ptr 576 0),(10,.int .u64 r2),(11,iV p28)],[(576,[.int .u64 r58.2])],[]⟩ (fg ⟨congrArg (fun z=>some ((.own 2097152 0 4 z:V))) Be,rfl,rfl,rfl,rfl,rfl,tv⟩ ⟨rfl,tv⟩) (Ao (st (Ca rfl tv (st (c_ (Ax t3 rfl tv) (st (Ca rfl tv (Gr ?_))))))))))))) Aw⟩))⟩)) Aw⟩))⟩))
     obtain rfl:=sj h1
     exact kn hK1 rfl rfl
    ·replace h1:=ip c77 h1
     refine Ay 5 ?_
     exact jn J76 ⟨_,rfl,h1⟩
    ·replace h1:=Xj c77 h1
     refine Js ?_
     exact jn J76 ⟨_,rfl,h1⟩
   ·obtain rfl:=sj h1
    obtain rfl:=hx1 _ rfl
    refine Iq rfl ?_
    exact jn hE1 ⟨_,rfl,rfl⟩
 ·refine Js ?_
  obtain rfl:=sj h0
  exact bU (Eg rfl rfl rfl rfl rfl ⟨⟨rfl,Mr (fun _=>rfl)⟩,tv⟩)

/- slices.order2CmpFunc[loop.example/g00149/impl.Lease] -/
def XH:=[i_ 10 0,i_ 11 0]
def XI:=tk [m_ 12 4,m_ 13 0,m_ 14 2,x_ 15 13 14 4,L_ 16 15 4,m_ 17 0,m_ 18 1,x_ 19 17 18 4,L_ 20 19 4] (.alt [] ⟨some 21,.callv (.t 12) [.t 16,.t 20],none⟩ (tk [B_ .lss 22 21 0] .fin) .stop)
def XJ:=[m_ 23 3,iQ 24 (.nilc (.t 23)),l_ 25 24 1,B_ .add 26 25 1,iQ 27 (.nilc (.t 23)),s_ 27 26 1]
def XK:=[m_ 28 2,m_ 29 1,m_ 10 28,m_ 11 29]
def XL:=[m_ 30 1,m_ 31 2,m_ 10 30,m_ 11 31]
def c165:Dj:=⟨5,32,[.t 10,.t 11],sr XH (.seq (sd XI (iz 22 (sr XJ (rr XK)))) (rr XL))⟩
def K165 (C:Bi) (D:Bi:=C):Prop:=∀(a0:List Aa) (a1:Int) (a2:Int) (a3:Int) (f4:Nat) (k4:List V) (is4:Aa→Aa→Option Int) (hs4:Ho k4) (hf4:∀(x0:Aa) (x1:Aa) r,is4 x0 x1=some r→C f4 ⟨.agg (Ac x0) :: .agg (Ac x1)::k4,[]⟩ ⟨iV r,[],[]⟩) (r:Int×Int×Int),rJ a0 a1 a2 a3 is4=some r→D 165 ⟨[Cg a0,iV a1,iV a2,.ptr 1048576 0,.clo f4 k4],[[iV a3]]⟩ ⟨.tup [iV r.1,iV r.2.1],[[iV r.2.2]],[]⟩
theorem F165:K165 C (FO C c165):=by
 intro a0 a1 a2 a3 f4 k4 is4 hs4 hf4 r h0
 refine f0 (Az 4 [(0,Cg a0),(1,iV a1),(2,iV a2),(3,.ptr 1048576 0),(4,.clo f4 k4)] [(1048576,[iV a3])] (Bm (Bm (bb h0 fun y1 e2 h0=>bb h0 fun y3 e4 h0=>bb h0 fun r5 e6 h0=>Ay 3 (Bg (d_ (nU rfl rfl rfl e2 (Ay 3 (Bg (d_ (nU rfl rfl rfl e4 (Bg (Ag tv (c_ (v:=.agg (Ac y3)) (Ax ⟨tv,tv⟩ rfl (nl rfl)) (⟨tv,Bq (Gb (r:=iV r5) rfl false (hf4 _ _ r5 e6) ⟨tv,tv,tv⟩ (ar (Bf rfl hs4.2.2.1)) (Bb rfl (Bb rfl (hs4.2.1 _ _ _ _ _))) (fun _=>rfl) (dw [(1,iV a1),(2,iV a2),(3,.ptr 1048576 0),(21,iV r5)] [(1048576,[iV a3])] tv (d_ (Az 2 [(1,iV a1),(2,iV a2),(3,.ptr 1048576 0),(22,.bool (decide (r5<0)))] [(1048576,[iV a3])] (Co h0 (fun c7 h0=>?_) (fun c7 h0=>?_)))))) Aw⟩)))))))))))))))
 ·obtain rfl:=sj h0
  exact Cy 16
 ·obtain rfl:=sj h0
  exact Cy 9

/- slices.medianCmpFunc[loop.example/g00149/impl.Lease] -/
def XC:=[i_ 12 0]
def XD:=[m_ 14 0,m_ 15 1,m_ 16 2,m_ 17 4,m_ 18 5,q_ 19 165 [.t 14,.t 15,.t 16,.t 17,.t 18],m_ 13 19,e_ 20 13 0,e_ 21 13 1,m_ 1 20,m_ 2 21]
def XE:=[m_ 23 0,m_ 24 2,m_ 25 3,m_ 26 4,m_ 27 5,q_ 28 165 [.t 23,.t 24,.t 25,.t 26,.t 27],m_ 22 28,e_ 29 22 0,e_ 30 22 1,m_ 2 29,m_ 3 30]
def XF:=[m_ 32 0,m_ 33 1,m_ 34 2,m_ 35 4,m_ 36 5,q_ 37 165 [.t 32,.t 33,.t 34,.t 35,.t 36],m_ 31 37,e_ 38 31 0,e_ 39 31 1,m_ 1 38,m_ 2 39]
def XG:=[m_ 40 2,m_ 12 40]
def c163:Dj:=⟨6,41,[.t 12],sr XC (sr XD (sr XE (sr XF (rr XG))))⟩
def FY (C:Bi) (D:Bi:=C):Prop:=∀(a0:List Aa) (a1:Int) (a2:Int) (a3:Int) (a4:Int) (f5:Nat) (k5:List V) (is5:Aa→Aa→Option Int) (hs5:Ho k5) (hf5:∀(x0:Aa) (x1:Aa) r,is5 x0 x1=some r→C f5 ⟨.agg (Ac x0) :: .agg (Ac x1)::k5,[]⟩ ⟨iV r,[],[]⟩) (r:Int×Int),BU a0 a1 a2 a3 a4 is5=some r→D 163 ⟨[Cg a0,iV a1,iV a2,iV a3,.ptr 1048576 0,.clo f5 k5],[[iV a4]]⟩ ⟨iV r.1,[[iV r.2]],[]⟩
theorem F163 (H165:K165 C):FY C (FO C c163):=by
 intro a0 a1 a2 a3 a4 f5 k5 is5 hs5 hf5 r h0
 refine f0 (Az 3 [(0,Cg a0),(1,iV a1),(2,iV a2),(3,iV a3),(4,.ptr 1048576 0),(5,.clo f5 k5)] [(1048576,[iV a4])] (Ay 6 (Ao (bb h0 fun r1 e2 h0=>st (Ed [1048576] [] [] false (H165 a0 a1 a2 a4 f5 k5 is5 hs5 hf5 r1 e2) ⟨tv,tv,tv,tv,tv,tv⟩ (by kernel_rfl) (congrArg (fun z=>Gq.mk z [[iV a4]]) (Bb rfl (Bb rfl (Bb rfl (Bb rfl (Bb (En hs5) rfl)))))) (by kernel_rfl) (by kernel_rfl) (fun _=>Bf rfl rfl) (o_ (Az 6 [(0,Cg a0),(1,iV r1.1),(2,iV r1.2.1),(3,iV a3),(4,.ptr 1048576 0),(5,.clo f5 k5)] [(1048576,[iV r1.2.2])] (Ay 6 (Ao (bb h0 fun r3 e4 h0=>st (Ed [1048576] [] [] false (H165 a0 r1.2.1 a3 r1.2.2 f5 k5 is5 hs5 hf5 r3 e4) ⟨tv,tv,tv,tv,tv,tv⟩ (by kernel_rfl) (congrArg (fun z=>Gq.mk z [[iV r1.2.2]]) (Bb rfl (Bb rfl (Bb rfl (Bb rfl (Bb (En hs5) rfl)))))) (by kernel_rfl) (by kernel_rfl) (fun _=>Bf rfl rfl) (o_ (Az 6 [(0,Cg a0),(1,iV r1.1),(2,iV r3.1),(4,.ptr 1048576 0),(5,.clo f5 k5)] [(1048576,[iV r3.2.2])] (Ay 6 (Ao (bb h0 fun r5 e6 h0=>st (Ed [1048576] [] [] false (H165 a0 r1.1 r3.1 r3.2.2 f5 k5 is5 hs5 hf5 r5 e6) ⟨tv,tv,tv,tv,tv,tv⟩ (by kernel_rfl) (congrArg (fun z=>Gq.mk z [[iV r3.2.2]]) (Bb rfl (Bb rfl (Bb rfl (Bb rfl (Bb (En hs5) rfl)))))) (by kernel_rfl) (by kernel_rfl) (fun _=>Bf rfl rfl) (o_ ?_))))))))))))))))))
 obtain rfl:=sj h0
 exact Cy 12

/- slices.medianAdjacentCmpFunc[loop.example/g00149/impl.Lease] -/
def WZ:=[i_ 8 0]
def XA:=[m_ 9 0,m_ 10 1,B_ .sub 11 10 1,m_ 12 1,m_ 13 1,B_ .add 14 13 1,m_ 15 2,m_ 16 3,q_ 17 163 [.t 9,.t 11,.t 12,.t 14,.t 15,.t 16],m_ 8 17]
def WY:Dj:=⟨4,18,[.t 8],sr WZ (rr XA)⟩
def K162 (C:Bi) (D:Bi:=C):Prop:=∀(a0:List Aa) (a1:Int) (a2:Int) (f3:Nat) (k3:List V) (is3:Aa→Aa→Option Int) (hs3:Ho k3) (hf3:∀(x0:Aa) (x1:Aa) r,is3 x0 x1=some r→C f3 ⟨.agg (Ac x0) :: .agg (Ac x1)::k3,[]⟩ ⟨iV r,[],[]⟩) (r:Int×Int),rI a0 a1 a2 is3=some r→D 162 ⟨[Cg a0,iV a1,.ptr 1048576 0,.clo f3 k3],[[iV a2]]⟩ ⟨iV r.1,[[iV r.2]],[]⟩
theorem F162 (H163:FY C):K162 C (FO C WY):=by
 intro a0 a1 a2 f3 k3 is3 hs3 hf3 r h0
 refine f0 (Az 3 [(0,Cg a0),(1,iV a1),(2,.ptr 1048576 0),(3,.clo f3 k3)] [(1048576,[iV a2])] (Ay 9 (Ao (bb h0 fun r1 e2 h0=>st (Ed [1048576] [] [] false (H163 a0 (wi (a1-1)) a1 (wi (a1+1)) a2 f3 k3 is3 hs3 hf3 r1 e2) ⟨tv,tv,tv,tv,tv,tv,tv⟩ (by kernel_rfl) (congrArg (fun z=>Gq.mk z [[iV a2]]) (Bb rfl (Bb rfl (Bb rfl (Bb rfl (Bb rfl (Bb (En hs3) rfl))))))) (by kernel_rfl) (by kernel_rfl) (fun _=>Bf rfl rfl) (o_ ?_))))))
 obtain rfl:=sj h0
 exact Cy 3

/- slices.choosePivotCmpFunc[loop.example/g00149/impl.Lease] -/
def TE:=[i_ 8 0,i_ 9 0]
def TF:=[m_ 15 2,m_ 16 1,b_ .sub 17 15 16,m_ 10 17]
def TG:=[a_ 11 [iV 0]]
def TH:=[m_ 18 1,m_ 19 10,B_ .quo 20 19 4,B_ .mul 21 20 1,b_ .add 22 18 21,m_ 12 22]
def TI:=[m_ 23 1,m_ 24 10,B_ .quo 25 24 4,B_ .mul 26 25 2,b_ .add 27 23 26,m_ 13 27]
def TJ:=[m_ 28 1,m_ 29 10,B_ .quo 30 29 4,B_ .mul 31 30 3,b_ .add 32 28 31,m_ 14 32]
def TK:=[m_ 33 10,B_ .geq 34 33 8]
def TL:=[m_ 35 10,B_ .geq 36 35 50]
def TM:=[m_ 37 0,m_ 38 12,m_ 39 3,q_ 40 162 [.t 37,.t 38,.t 11,.t 39],m_ 12 40]
def TN:=[m_ 41 0,m_ 42 13,m_ 43 3,q_ 44 162 [.t 41,.t 42,.t 11,.t 43],m_ 13 44]
def xH:=[m_ 45 0,m_ 46 14,m_ 47 3,q_ 48 162 [.t 45,.t 46,.t 11,.t 47],m_ 14 48]
def xI:=[m_ 49 0,m_ 50 12,m_ 51 13,m_ 52 14,m_ 53 3,q_ 54 163 [.t 49,.t 50,.t 51,.t 52,.t 11,.t 53],m_ 13 54]
def xJ:=[l_ 55 11 1]
def xK:=[B_ .eql 58 55 0,m_ 57 58]
def xL:=[m_ 59 13,m_ 8 59,i_ 9 1]
def xM:=[B_ .eql 61 55 12,m_ 60 61]
def xN:=[m_ 62 13,m_ 8 62,i_ 9 2]
def xO:=[m_ 56 13,m_ 8 56,i_ 9 0]
def c151:Dj:=⟨4,63,[.t 8,.t 9],sr TE (sr TF (sr TG (sr TH (sr TI (sr TJ (.seq (sr TK (iz 34 (.seq (sr TL (iz 36 (sr TM (sr TN (.reg xH))))) (.reg xI)))) (sr xJ (.block 0 (sr xK (.ite (.t 57) (rr xL) (sr xM (.ite (.t 60) (rr xN) (rr xO)))))))))))))⟩
def K151 (C:Bi) (D:Bi:=C):Prop:=∀(a0:List Aa) (a1:Int) (a2:Int) (f3:Nat) (k3:List V) (is3:Aa→Aa→Option Int) (hs3:Ho k3) (hf3:∀(x0:Aa) (x1:Aa) r,is3 x0 x1=some r→C f3 ⟨.agg (Ac x0) :: .agg (Ac x1)::k3,[]⟩ ⟨iV r,[],[]⟩) (r:Int×Int),g151 a0 a1 a2 is3=some r→D 151 ⟨[Cg a0,iV a1,iV a2,.clo f3 k3],[]⟩ ⟨.tup [iV r.1,iV r.2],[],[]⟩
abbrev bH:=fun x0 x1 x2 (r:List (Nat×V))=>(0,Cg x0)::(3,.clo x1 x2)::(11,.ptr 704 0)::r
theorem F151 (H162:K162 C) (H163:FY C):K151 C (FO C c151):=by
 intro a0 a1 a2 f3 k3 is3 hs3 hf3 r h0
 refine f0 (Az 11 [(0,Cg a0),(1,iV a1),(3,.clo f3 k3),(10,iV (wi (a2-a1)))] [] (Bm (Ao (st (Fc (Gr (Dd ⟨[(0,Cg a0),(1,iV a1),(3,.clo f3 k3),(10,iV (wi (a2-a1))),(11,.ptr 704 0)],[(704,[iV 0])],[]⟩ (fg ⟨rfl,rfl,congrArg (fun z=>some z) (dK hs3),rfl,rfl,tv⟩ ⟨rfl,tv⟩) (Ay 3 (Ao (st (c_ (Ax ⟨tv,tv,tv⟩ rfl (by decide)) (o_ (Ay 4 (bv h0 fun v1 e2 h0=>Dd ⟨[(0,Cg a0),(1,iV a1),(3,.clo f3 k3),(10,iV (wi (a2-a1))),(11,.ptr 704 0),(12,iV v1)],[(704,[iV 0])],[]⟩ (fg ⟨(by subst e2; rfl),(by subst e2; rfl),(by subst e2; rfl),(by subst e2; rfl),(by subst e2; rfl),(by subst e2; rfl),tv⟩ ⟨(by subst e2; rfl),tv⟩) (Ay 3 (Ao (st (c_ (Ax ⟨tv,tv,tv⟩ rfl (by decide)) (o_ (Ay 4 (bv h0 fun v3 e4 h0=>Dd ⟨[(0,Cg a0),(1,iV a1),(3,.clo f3 k3),(10,iV (wi (a2-a1))),(11,.ptr 704 0),(12,iV v1),(13,iV v3)],[(704,[iV 0])],[]⟩ (fg ⟨(by subst e4; rfl),(by subst e4; rfl),(by subst e4; rfl),(by subst e4; rfl),(by subst e4; rfl),(by subst e4; rfl),(by subst e4; rfl),tv⟩ ⟨(by subst e4; rfl),tv⟩) (Ay 3 (Ao (st (c_ (Ax ⟨tv,tv,tv⟩ rfl (by decide)) (o_ (Ay 4 (bv h0 fun v5 e6 h0=>Dd ⟨[(0,Cg a0),(3,.clo f3 k3),(10,iV (wi (a2-a1))),(11,.ptr 704 0),(12,iV v1),(13,iV v3),(14,iV v5)],[(704,[iV 0])],[]⟩ (fg ⟨(by subst e6; rfl),(by subst e6; rfl),(by subst e6; rfl),(by subst e6; rfl),(by subst e6; rfl),(by subst e6; rfl),(by subst e6; rfl),tv⟩ ⟨(by subst e6; rfl),tv⟩) (Az 5 (bH a0 f3 k3 [(10,iV (wi (a2-a1))),(12,iV v1),(13,iV v3),(14,iV v5),(34,.bool (decide ((wi (a2-a1))≥8)))]) [(704,[iV 0])] (Kh (cb:=(decide ((wi (a2-a1))≥8))) (fun S=>∃p21:Int,∃p22:Int,S=⟨[(11,.ptr 704 0),(13,iV p21)],[(704,[iV p22])],[]⟩∧Tu p21 p22=some r) rfl ?_ (fun c26 J25=>?_) (fun c26 J25=>?_)))))))))))))))))))))))))))))))
 ·rintro _ ⟨p21,p22,rfl,h0⟩
  refine Az 10 [(13,iV p21),(55,iV p22),(57,.bool (p22==0))] [] (Co h0 (fun c23 h0=>?_) (fun c23 h0=>?_))
  ·obtain rfl:=sj h0
   exact Cy 6
  ·refine Az 4 [(13,iV p21),(60,.bool (p22==12))] [] (Co h0 (fun c24 h0=>?_) (fun c24 h0=>?_))
   ·obtain rfl:=sj h0
    exact Cy 6
   ·obtain rfl:=sj h0
    exact Cy 6
 ·replace h0:=ip c26 h0
  refine Az 5 (bH a0 f3 k3 [(12,iV v1),(13,iV v3),(14,iV v5),(36,.bool (decide ((wi (a2-a1))≥50)))]) [(704,[iV 0])] (Kh (cb:=(decide ((wi (a2-a1))≥50))) (fun S=>∃p34:Int,∃p35:Int,∃p36:Int,∃p37:Int,S=⟨bH a0 f3 k3 [(12,iV p34),(13,iV p35),(14,iV p36)],[(704,[iV p37])],[]⟩∧Tv a0 is3 p34 p35 p36 p37=some r) rfl ?_ (fun c41 J40=>?_) (fun c41 J40=>?_))
  ·rintro _ ⟨p34,p35,p36,p37,rfl,h0⟩
   refine Ay 6 (Ao (bb h0 fun r38 e39 h0=>st (Ed [704] [] [] false (H163 a0 p34 p35 p36 p37 f3 k3 is3 hs3 hf3 r38 e39) ⟨tv,tv,tv,tv,tv,tv,tv⟩ (by kernel_rfl) (congrArg (fun z=>Gq.mk z [[iV p37]]) (Bb rfl (Bb rfl (Bb rfl (Bb rfl (Bb rfl (Bb (En hs3) rfl))))))) (by kernel_rfl) (by kernel_rfl) (fun _=>Bf rfl rfl) (st (Ca rfl tv (Gr ?_))))))
   exact jn J25 ⟨_,_,rfl,h0⟩
  ·replace h0:=ip c41 h0
   refine Ay 4 (Ao (bb h0 fun r42 e43 h0=>st (Ed [704] [] [] false (H162 a0 v1 0 f3 k3 is3 hs3 hf3 r42 e43) ⟨tv,tv,tv,tv,tv⟩ (by kernel_rfl) (congrArg (fun z=>Gq.mk z [[iV 0]]) (Bb rfl (Bb rfl (Bb rfl (Bb (En hs3) rfl))))) (by kernel_rfl) (by kernel_rfl) (fun _=>Bf rfl rfl) (o_ (Az 2 (bH a0 f3 k3 [(12,iV r42.1),(13,iV v3),(14,iV v5)]) [(704,[iV r42.2])] (Ay 4 (Ao (bb h0 fun r44 e45 h0=>st (Ed [704] [] [] false (H162 a0 v3 r42.2 f3 k3 is3 hs3 hf3 r44 e45) ⟨tv,tv,tv,tv,tv⟩ (by kernel_rfl) (congrArg (fun z=>Gq.mk z [[iV r42.2]]) (Bb rfl (Bb rfl (Bb rfl (Bb (En hs3) rfl))))) (by kernel_rfl) (by kernel_rfl) (fun _=>Bf rfl rfl) (o_ (Az 2 (bH a0 f3 k3 [(12,iV r42.1),(13,iV r44.1),(14,iV v5)]) [(704,[iV r44.2])] (Ay 3 (Ao (bb h0 fun r46 e47 h0=>st (Ed [704] [] [] false (H162 a0 v5 r44.2 f3 k3 is3 hs3 hf3 r46 e47) ⟨tv,tv,tv,tv,tv⟩ (by kernel_rfl) (congrArg (fun z=>Gq.mk z [[iV r44.2]]) (Bb rfl (Bb rfl (Bb rfl (Bb (En hs3) rfl))))) (by kernel_rfl) (by kernel_rfl) (fun _=>Bf rfl rfl) (st (Ca rfl tv (Gr ?_))))))))))))))))))
   exact jn J40 ⟨_,_,_,_,rfl,h0⟩
  ·replace h0:=Xj c41 h0
   refine Js ?_
   exact jn J40 ⟨_,_,_,_,rfl,h0⟩
 ·replace h0:=Xj c26 h0
  refine Js ?_
  exact jn J25 ⟨_,_,rfl,h0⟩

/- slices.reverseRangeCmpFunc[loop.example/g00149/impl.Lease] -/
def TP:=[m_ 10 1,m_ 8 10]
def TQ:=[m_ 11 2,B_ .sub 12 11 1,m_ 9 12]
def TR:=[m_ 13 8,m_ 14 9,b_ .lss 15 13 14]
def TT:=tk [m_ 16 0,m_ 17 8,m_ 18 0,m_ 19 9,m_ 20 0,m_ 21 9,x_ 22 20 21 4,L_ 23 22 4,m_ 24 0,m_ 25 8,x_ 26 24 25 4,L_ 27 26 4,x_ 28 16 17 4] (.alt [m_ 19 9,m_ 18 0] (s_ 28 23 4) (tk [x_ 29 18 19 4] (.alt [] (s_ 29 27 4) .fin .stop)) .stop)
def TU:=[m_ 30 8,B_ .add 31 30 1,m_ 8 31]
def TV:=[m_ 32 9,B_ .sub 33 32 1,m_ 9 33]
def TO:IR:=(.seq (sr TR (.ite (.t 15) .skip (.exit 0))) (.block 1 (sd TT (sr TU (.reg TV)))))
def c152:Dj:=⟨4,34,[],sr TP (sr TQ (Ik 0 TO))⟩
def K152 (C:Bi) (D:Bi:=C):Prop:=∀(a0:List Aa) (a1:Int) (a2:Int) (f3:Nat) (k3:List V) (is3:Aa→Aa→Option Int) (hs3:Ho k3) (hf3:∀(x0:Aa) (x1:Aa) r,is3 x0 x1=some r→C f3 ⟨.agg (Ac x0) :: .agg (Ac x1)::k3,[]⟩ ⟨iV r,[],[]⟩) (r:(List Aa)),g152 a0 a1 a2 is3=some r→D 152 ⟨[Af 2097152 a0,iV a1,iV a2,.clo f3 k3],[]⟩ ⟨.tup [],[],[(0,4,r.map Ac)]⟩
theorem F152:K152 C (FO C c152):=by
 intro a0 a1 a2 f3 k3 is3 hs3 hf3 r h0
 refine f0 (Az 10 [(0,Af 2097152 a0),(8,iV a1),(9,iV (wi (a2-1)))] [] (By (bb h0 fun r47 e48 h0=>Cs (R:=(fun S=>∃p33:List Aa,p33=r47∧S=⟨[(0,Af 2097152 p33)],[],[]⟩)) (Yh) (fun s S=>match s with | (p14,p15,p16)=>S=⟨[(0,Af 2097152 p14),(8,iV p15),(9,iV p16)],[],[]⟩) e48 _ (Dv (by kernel_rfl)) rfl 0 (fun _=>rfl) ?_ ?_)))
 ·rintro S _ hfg ⟨p33,rfl,rfl⟩
  obtain rfl:=sj h0
  exact bU (bT hfg (Eg rfl rfl rfl rfl rfl ⟨⟨rfl,Mr (fun _=>rfl)⟩,tv⟩))
 ·rintro ⟨p14,p15,p16⟩ o1 _ K1 rfl h1 hx1 hK1 hE1 hR1
  refine Az 6 [(0,Af 2097152 p14),(8,iV p15),(9,iV p16),(15,.bool (decide (p15<p16)))] [] (Co h1 (fun c34 h1=>?_) (fun c34 h1=>?_))
  ·refine Lg 4 (bb h1 fun y35 e36 h1=>bb h1 fun y37 e38 h1=>bb h1 fun y39 e40 h1=>bb h1 fun y41 e42 h1=>bb h1 fun y43 e44 h1=>bb h1 fun y45 e46 h1=>Ay 6 (Bg (d_ (Xe rfl rfl rfl e36 (Bg (Cb (c_ (Mx rfl rfl e38) (⟨⟨Ct rfl rfl e38 rfl,tv⟩,Ag tv (Ca rfl tv (⟨⟨Ct rfl rfl e38 rfl,tv⟩,Ag tv (Ca rfl tv (⟨⟨Ct rfl rfl e38 rfl,tv⟩,Ag tv (c_ (Ja rfl rfl e40) (⟨⟨Ct rfl rfl e38 rfl,tv⟩,Cb (c_ (Mx rfl rfl e42) (⟨⟨Ct rfl rfl e42 rfl,Ct rfl rfl e38 rfl,tv⟩,Ag tv (c_ (Ja rfl rfl e40) (⟨⟨Ct rfl rfl e42 rfl,Ct rfl rfl e38 rfl,tv⟩,Bq (Hk (y':=y37) rfl rfl tv rfl rfl rfl rfl e42 (nl rfl) rfl rfl rfl rfl (iZ ⟨[(0,Af 2097152 (p14.set p15.toNat y37)),(8,iV p15),(9,iV p16),(18,Af 2097152 (p14.set p15.toNat y37)),(19,iV p16),(27,.agg (Ac y41))],[],[]⟩ (fg ⟨congrArg (fun z=>some ((.own 2097152 0 4 z:V))) Be,rfl,rfl,congrArg (fun z=>some ((.own 2097152 0 4 z:V))) Be,rfl,rfl,tv⟩ tv) ⟨[],⟨⟨.inl tv,Bd (Dg (v:=iV p16) rfl tv) rfl⟩,⟨.inl tv,Bd (Dg (v:=Af 2097152 (p14.set p15.toNat y37)) rfl tv) rfl⟩,tv⟩,tv,Ag tv (c_ (Ja rfl rfl e44) (⟨tv,?_⟩))⟩)) Aw⟩))⟩))⟩))⟩))⟩))⟩))))))))
   refine Bq (Hk (y':=y41) rfl rfl tv rfl rfl rfl rfl e46 (nl rfl) rfl rfl rfl rfl (d0 tv (Hb (Dd ⟨[(0,Af 2097152 ((p14.set p15.toNat y37).set p16.toNat y41)),(8,iV p15),(9,iV p16)],[],[]⟩ (fg ⟨congrArg (fun z=>some ((.own 2097152 0 4 z:V))) Be,rfl,rfl,tv⟩ tv) (Az 5 [(0,Af 2097152 ((p14.set p15.toNat y37).set p16.toNat y41)),(8,iV (wi (p15+1))),(9,iV p16)] [] (Ay 5 ?_)))))) Aw
   obtain rfl:=sj h1
   exact kn hK1 rfl rfl
  ·obtain rfl:=sj h1
   obtain rfl:=hx1 _ rfl
   refine Iq rfl ?_
   exact jn hE1 ⟨_,rfl,rfl⟩

/- slices.partialInsertionSortCmpFunc[loop.example/g00149/impl.Lease] -/
def UA:=[k_ 8 (.bool false)]
def UB:=[m_ 13 1,B_ .add 14 13 1,m_ 9 14]
def UC:=[i_ 10 0]
def UD:=[m_ 15 10,B_ .lss 16 15 5]
def UE:=tk [m_ 19 9,m_ 20 2,b_ .lss 21 19 20,m_ 22 21,mT 22 23 3,mT 22 24 0,mT 22 25 9,xT 22 26 24 25 4,lT 22 27 26 4 true,mT 22 28 0,mT 22 29 9,pT 22 30 (.bin .sub (.t 29) (.c (iV 1))),xT 22 31 28 30 4,lT 22 32 31 4 true] (.alt [] ⟨some 33,.callv (.t 23) [.t 27,.t 32],some (22,true)⟩ (tk [pT 22 34 (.bin .lss (.t 33) (.c (iV 0))),pT 22 35 (.un .not (.t 34)),pa 36 22 35] .fin) .stop)
def UF:=[m_ 37 9,B_ .add 38 37 1,m_ 9 38]
def TW:IR:=(.seq (sd UE (.ite (.t 36) .skip (.exit 2))) (.block 3 (.reg UF)))
def UG:=[m_ 39 9,m_ 40 2,b_ .eql 41 39 40]
def UH:=[k_ 8 (.bool true)]
def UI:=[m_ 42 2,m_ 43 1,b_ .sub 44 42 43,B_ .lss 45 44 50]
def UJ:=[k_ 8 (.bool false)]
def xP:=tk [m_ 46 0,m_ 47 9,m_ 48 0,m_ 49 9,B_ .sub 50 49 1,m_ 51 0,m_ 52 9,B_ .sub 53 52 1,x_ 54 51 53 4,L_ 55 54 4,m_ 56 0,m_ 57 9,x_ 58 56 57 4,L_ 59 58 4,x_ 60 46 47 4] (.alt [B_ .sub 50 49 1,m_ 49 9,m_ 48 0] (s_ 60 55 4) (tk [x_ 61 48 50 4] (.alt [] (s_ 61 59 4) .fin .stop)) .stop)
def xQ:=[m_ 62 9,m_ 63 1,b_ .sub 64 62 63,B_ .geq 65 64 2]
def xR:=[m_ 66 9,B_ .sub 67 66 1,m_ 11 67]
def xS:=[m_ 68 11,B_ .geq 69 68 1]
def xU:=tk [m_ 72 3,m_ 73 0,m_ 74 11,x_ 75 73 74 4,L_ 76 75 4,m_ 77 0,m_ 78 11,B_ .sub 79 78 1,x_ 80 77 79 4,L_ 81 80 4] (.alt [] ⟨some 82,.callv (.t 72) [.t 76,.t 81],none⟩ (tk [B_ .lss 83 82 0,N_ 84 83] .fin) .stop)
def xV:=tk [m_ 85 0,m_ 86 11,m_ 87 0,m_ 88 11,B_ .sub 89 88 1,m_ 90 0,m_ 91 11,B_ .sub 92 91 1,x_ 93 90 92 4,L_ 94 93 4,m_ 95 0,m_ 96 11,x_ 97 95 96 4,L_ 98 97 4,x_ 99 85 86 4] (.alt [B_ .sub 89 88 1,m_ 88 11,m_ 87 0] (s_ 99 94 4) (tk [x_ 100 87 89 4] (.alt [] (s_ 100 98 4) .fin .stop)) .stop)
def xW:=[m_ 70 11,B_ .sub 71 70 1,m_ 11 71]
def TX:IR:=(.seq (sr xS (.ite (.t 69) .skip (.exit 4))) (.seq (.block 5 (.seq (sd xU (iz 84 (.exit 4))) (.draw xV))) (.reg xW)))
def xX:=[m_ 101 2,m_ 102 9,b_ .sub 103 101 102,B_ .geq 104 103 2]
def xY:=[m_ 105 9,B_ .add 106 105 1,m_ 12 106]
def xZ:=[m_ 107 12,m_ 108 2,b_ .lss 109 107 108]
def yA:=tk [m_ 112 3,m_ 113 0,m_ 114 12,x_ 115 113 114 4,L_ 116 115 4,m_ 117 0,m_ 118 12,B_ .sub 119 118 1,x_ 120 117 119 4,L_ 121 120 4] (.alt [] ⟨some 122,.callv (.t 112) [.t 116,.t 121],none⟩ (tk [B_ .lss 123 122 0,N_ 124 123] .fin) .stop)
def yB:=tk [m_ 125 0,m_ 126 12,m_ 127 0,m_ 128 12,B_ .sub 129 128 1,m_ 130 0,m_ 131 12,B_ .sub 132 131 1,x_ 133 130 132 4,L_ 134 133 4,m_ 135 0,m_ 136 12,x_ 137 135 136 4,L_ 138 137 4,x_ 139 125 126 4] (.alt [B_ .sub 129 128 1,m_ 128 12,m_ 127 0] (s_ 139 134 4) (tk [x_ 140 127 129 4] (.alt [] (s_ 140 138 4) .fin .stop)) .stop)
def yC:=[m_ 110 12,B_ .add 111 110 1,m_ 12 111]
def TY:IR:=(.seq (sr xZ (.ite (.t 109) .skip (.exit 6))) (.seq (.block 7 (.seq (sd yA (iz 124 (.exit 6))) (.draw yB))) (.reg yC)))
def yD:=[m_ 17 10,B_ .add 18 17 1,m_ 10 18]
def TZ:IR:=(.seq (sr UD (.ite (.t 16) .skip (.exit 0))) (.seq (.block 1 (.seq (Ik 2 TW) (.seq (sr UG (iz 41 (rr UH))) (.seq (sr UI (iz 45 (rr UJ))) (sd xP (.seq (sr xQ (iz 65 (sr xR (Ik 4 TX)))) (sr xX (iz 104 (sr xY (Ik 6 TY)))))))))) (.reg yD)))
def yE:=[k_ 8 (.bool false)]
def c153:Dj:=⟨4,141,[.t 8],sr UA (sr UB (.seq (sr UC (Ik 0 TZ)) (rr yE)))⟩
def K153 (C:Bi) (D:Bi:=C):Prop:=∀(a0:List Aa) (a1:Int) (a2:Int) (f3:Nat) (k3:List V) (is3:Aa→Aa→Option Int) (hs3:Ho k3) (hf3:∀(x0:Aa) (x1:Aa) r,is3 x0 x1=some r→C f3 ⟨.agg (Ac x0) :: .agg (Ac x1)::k3,[]⟩ ⟨iV r,[],[]⟩) (r:Bool×(List Aa)),g153 a0 a1 a2 is3=some r→D 153 ⟨[Af 2097152 a0,iV a1,iV a2,.clo f3 k3],[]⟩ ⟨.bool r.1,[],[(0,4,r.2.map Ac)]⟩
abbrev Fe:=fun x0 x1 x2 x3 x4 (r:List (Nat×V))=>(1,iV x0)::(2,iV x1)::(3,.clo x2 x3)::(10,iV x4)::r
theorem F153:K153 C (FO C c153):=by
 intro a0 a1 a2 f3 k3 is3 hs3 hf3 r h0
 refine f0 (Az 14 [(0,Af 2097152 a0),(1,iV a1),(2,iV a2),(3,.clo f3 k3),(9,iV (wi (a1+1))),(10,iV 0)] [] (By (bb h0 fun r738 e739 h0=>Cs (R:=(fun S=>∃p313:List Aa,.inl p313=r738∧S=⟨[(0,Af 2097152 p313)],[],[]⟩)) (Yj a1 a2 is3) (fun s S=>match s with | (p154,p155,p156)=>S=⟨Fe a1 a2 f3 k3 p156 [(0,Af 2097152 p154),(9,iV p155)],[],[]⟩) e739 _ (Dv (by kernel_rfl)) rfl 0 (fun _=>rfl) ?_ ?_)))
 ·rintro S _ hfg ⟨p313,rfl,rfl⟩
  refine Dd _ hfg (Az 3 [(0,Af 2097152 p313),(8,.bool false)] [] ?_)
  obtain rfl:=sj h0
  exact Lf (Eg rfl rfl rfl rfl rfl ⟨⟨rfl,Mr (fun _=>rfl)⟩,tv⟩)
 ·rintro ⟨p154,p155,p156⟩ o1 _ K1 rfl h1 hx1 hK1 hE1 hR1
  refine Az 5 (Fe a1 a2 f3 k3 p156 [(0,Af 2097152 p154),(9,iV p155),(16,.bool (decide (p156<5)))]) [] (Co h1 (fun c314 h1=>?_) (fun c314 h1=>?_))
  ·refine Lg 3 (Il (fun S=>∃p465:List Aa,∃p466:Int,S=⟨Fe a1 a2 f3 k3 p156 [(0,Af 2097152 p465),(9,iV p466)],[],[]⟩∧Yi p156 p465 p466=some o1) ?_ (fun J467=>?_))
   ·rintro _ ⟨p465,p466,rfl,h1⟩
    refine Ay 5 ?_
    obtain rfl:=sj h1
    exact kn hK1 rfl rfl
   ·refine Bm ?_
    refine By (bb h1 fun r504 e505 h1=>Cs (R:=(fun S=>∃p492:Int,p492=r504∧S=⟨Fe a1 a2 f3 k3 p156 [(0,Af 2097152 p154),(9,iV p492)],[],[]⟩)) (Yk a2 is3 p154) (fun s S=>match s with | p479=>S=⟨Fe a1 a2 f3 k3 p156 [(0,Af 2097152 p154),(9,iV p479)],[],[]⟩) e505 _ (Dv (by kernel_rfl)) rfl 2 (fun _=>rfl) ?_ ?_)
    ·rintro S _ hfg ⟨p492,rfl,rfl⟩
     refine Dd ⟨Fe a1 a2 f3 k3 p156 [(0,Af 2097152 p154),(9,iV p492)],[],[]⟩ (sW hfg ⟨rfl,rfl,rfl,rfl,rfl,rfl,tv⟩ tv) (Az 6 (Fe a1 a2 f3 k3 p156 [(0,Af 2097152 p154),(9,iV p492),(41,.bool (p492==a2))]) [] (Co h1 (fun c506 h1=>?_) (fun c506 h1=>?_)))
     ·refine Az 3 [(0,Af 2097152 p154),(8,.bool true)] [] ?_
      obtain rfl:=sj h1
      obtain rfl:=hx1 _ rfl
      obtain rfl:=sj h0
      exact Lf (hR1 _ (Eg rfl rfl rfl rfl rfl ⟨⟨rfl,Mr (fun _=>rfl)⟩,tv⟩))
     ·refine Az 9 (Fe a1 a2 f3 k3 p156 [(0,Af 2097152 p154),(9,iV p492),(45,.bool (decide ((wi (a2-a1))<50)))]) [] (Co h1 (fun c507 h1=>?_) (fun c507 h1=>?_))
      ·refine Az 3 [(0,Af 2097152 p154),(8,.bool false)] [] ?_
       obtain rfl:=sj h1
       obtain rfl:=hx1 _ rfl
       obtain rfl:=sj h0
       exact Lf (hR1 _ (Eg rfl rfl rfl rfl rfl ⟨⟨rfl,Mr (fun _=>rfl)⟩,tv⟩))
      ·refine Lg 3 (bb h1 fun y508 e509 h1=>bb h1 fun y510 e511 h1=>bb h1 fun y512 e513 h1=>bb h1 fun y514 e515 h1=>bb h1 fun y516 e517 h1=>bb h1 fun y518 e519 h1=>Ay 8 (Bg (d_ (Xe rfl rfl rfl e509 (Bg (Cb (c_ (Mx rfl rfl e511) (⟨⟨Ct rfl rfl e511 rfl,tv⟩,Ag tv (Ca rfl tv (⟨⟨Ct rfl rfl e511 rfl,tv⟩,Ag tv (Ca rfl tv (⟨⟨Ct rfl rfl e511 rfl,tv⟩,Ag tv (c_ (Ja rfl rfl e513) (⟨⟨Ct rfl rfl e511 rfl,tv⟩,Cb (c_ (Mx rfl rfl e515) (⟨⟨Ct rfl rfl e515 rfl,Ct rfl rfl e511 rfl,tv⟩,Ag tv (c_ (Ja rfl rfl e513) (⟨⟨Ct rfl rfl e515 rfl,Ct rfl rfl e511 rfl,tv⟩,?_⟩))⟩))⟩))⟩))⟩))⟩))))))))
       refine Bq (Hk (y':=y510) rfl rfl tv rfl rfl rfl rfl e515 (nl rfl) rfl rfl rfl rfl (iZ ⟨[(0,Af 2097152 (p154.set p492.toNat y510)),(1,iV a1),(2,iV a2),(3,.clo f3 k3),(9,iV p492),(10,iV p156),(48,Af 2097152 (p154.set p492.toNat y510)),(49,iV p492),(50,iV (wi (p492-1))),(59,.agg (Ac y514))],[],[]⟩ (fg ⟨congrArg (fun z=>some ((.own 2097152 0 4 z:V))) Be,rfl,rfl,rfl,rfl,rfl,congrArg (fun z=>some ((.own 2097152 0 4 z:V))) Be,rfl,rfl,rfl,tv⟩ tv) ⟨[],⟨⟨.inl tv,Bd (Ax t3 rfl tv) rfl⟩,⟨.inl tv,Bd (Dg (v:=iV p492) rfl tv) rfl⟩,⟨.inl tv,Bd (Dg (v:=Af 2097152 (p154.set p492.toNat y510)) rfl tv) rfl⟩,tv⟩,tv,d_ (Xe rfl rfl rfl e517 (Bg (Bq (Hk (y':=y514) rfl rfl tv rfl rfl rfl rfl e519 (nl rfl) rfl rfl rfl rfl (d0 tv (Hb (Dd ⟨[(0,Af 2097152 ((p154.set p492.toNat y510).set ((wi (p492-1)).toNat) y514)),(1,iV a1),(2,iV a2),(3,.clo f3 k3),(9,iV p492),(10,iV p156)],[],[]⟩ (fg ⟨congrArg (fun z=>some ((.own 2097152 0 4 z:V))) Be,rfl,rfl,rfl,rfl,rfl,tv⟩ tv) (Ay 7 (bv h1 fun v520 e521 h1=>Dd ⟨[(0,Af 2097152 v520),(1,iV a1),(2,iV a2),(3,.clo f3 k3),(9,iV p492),(10,iV p156),(65,.bool (decide ((wi (p492-a1))≥2)))],[],[]⟩ (fg ⟨(by subst e521; rfl),(by subst e521; rfl),(by subst e521; rfl),(by subst e521; rfl),(by subst e521; rfl),(by subst e521; rfl),(by subst e521; rfl),tv⟩ tv) (Kh (cb:=(decide ((wi (p492-a1))≥2))) (fun S=>∃p576:List Aa,S=⟨Fe a1 a2 f3 k3 p156 [(0,Af 2097152 p576),(9,iV p492)],[],[]⟩∧Tw a2 is3 p156 p492 p576=some o1) rfl ?_ (fun c658 J657=>?_) (fun c658 J657=>?_)))))))) Aw)))⟩)) Aw
       ·rintro _ ⟨p576,rfl,h1⟩
        refine Az 7 (Fe a1 a2 f3 k3 p156 [(0,Af 2097152 p576),(9,iV p492),(104,.bool (decide ((wi (a2-p492))≥2)))]) [] (Co h1 (fun c577 h1=>?_) (fun c577 h1=>?_))
        ·refine Az 5 (Fe a1 a2 f3 k3 p156 [(0,Af 2097152 p576),(9,iV p492),(12,iV (wi (p492+1)))]) [] (By (bb h1 fun r655 e656 h1=>Cs (R:=(fun S=>∃p630:List Aa,p630=r655∧S=⟨Fe a1 a2 f3 k3 p156 [(0,Af 2097152 p630),(9,iV p492)],[],[]⟩)) (Yl a2 is3) (fun s S=>match s with | (p602,p603)=>S=⟨Fe a1 a2 f3 k3 p156 [(0,Af 2097152 p602),(9,iV p492),(12,iV p603)],[],[]⟩) e656 _ (Dv (by kernel_rfl)) rfl 6 (fun _=>rfl) ?_ ?_))
         ·rintro S _ hfg ⟨p630,rfl,rfl⟩
          refine Rp ?_
          exact J467 _ ⟨Fe a1 a2 f3 k3 p156 [(0,Af 2097152 p630),(9,iV p492)],[],[]⟩ (sW hfg ⟨rfl,rfl,rfl,rfl,rfl,rfl,tv⟩ tv) ⟨_,_,rfl,h1⟩
         ·rintro ⟨p602,p603⟩ o2 _ K2 rfl h2 hx2 hK2 hE2 hR2
          refine Az 6 (Fe a1 a2 f3 k3 p156 [(0,Af 2097152 p602),(9,iV p492),(12,iV p603),(109,.bool (decide (p603<a2)))]) [] (Co h2 (fun c631 h2=>?_) (fun c631 h2=>?_))
          ·refine Lg 6 (bb h2 fun y632 e633 h2=>bb h2 fun y634 e635 h2=>bb h2 fun y636 e637 h2=>bb h2 fun y638 e639 h2=>bb h2 fun r640 e641 h2=>Ay 3 (Bg (d_ (Xe rfl rfl rfl e633 (Bg (Cb (c_ (Mx rfl rfl e635) (⟨⟨Ct rfl rfl e635 rfl,tv⟩,Ag tv (Ca rfl tv (⟨⟨Ct rfl rfl e635 rfl,tv⟩,Ag tv (Ca rfl tv (⟨⟨Ct rfl rfl e635 rfl,tv⟩,Ag tv (c_ (Ax t3 rfl tv) (⟨⟨Ct rfl rfl e635 rfl,tv⟩,Ag tv (c_ (Ja rfl rfl e637) (⟨⟨Ct rfl rfl e635 rfl,tv⟩,Cb (c_ (Mx rfl rfl e639) (⟨⟨Ct rfl rfl e639 rfl,Ct rfl rfl e635 rfl,tv⟩,Bq (Gb (r:=iV r640) rfl false (hf3 _ _ r640 e641) ⟨tv,tv,tv⟩ (ar (Bf rfl hs3.2.2.1)) (Bb rfl (Bb rfl (hs3.2.1 _ _ _ _ _))) (fun _=>rfl) (dw [(0,Af 2097152 p602),(1,iV a1),(2,iV a2),(3,.clo f3 k3),(9,iV p492),(10,iV p156),(12,iV p603),(122,iV r640)] [] tv (Ag tv (c_ (Ax t3 rfl tv) (⟨tv,Ag tv (c_ (Ax ⟨tv,tv⟩ rfl tv) (⟨tv,Hb (Dd ⟨Fe a1 a2 f3 k3 p156 [(0,Af 2097152 p602),(9,iV p492),(12,iV p603),(124,.bool (!(decide (r640<0))))],[],[]⟩ (Dv (by kernel_rfl)) (Co h2 (fun c642 h2=>?_) (fun c642 h2=>?_)))⟩))⟩))))) Aw⟩))⟩))⟩))⟩))⟩))⟩))))))))
           ·obtain rfl:=sj h2
            obtain rfl:=hx2 _ rfl
            refine Iq rfl ?_
            exact jn hE2 ⟨_,rfl,rfl⟩
           ·refine Lg 2 (bb h2 fun y643 e644 h2=>bb h2 fun y645 e646 h2=>bb h2 fun y647 e648 h2=>bb h2 fun y649 e650 h2=>bb h2 fun y651 e652 h2=>bb h2 fun y653 e654 h2=>Ay 8 (Bg (d_ (Xe rfl rfl rfl e644 (Bg (Cb (c_ (Mx rfl rfl e646) (⟨⟨Ct rfl rfl e646 rfl,tv⟩,Ag tv (Ca rfl tv (⟨⟨Ct rfl rfl e646 rfl,tv⟩,Ag tv (Ca rfl tv (⟨⟨Ct rfl rfl e646 rfl,tv⟩,Ag tv (c_ (Ja rfl rfl e648) (⟨⟨Ct rfl rfl e646 rfl,tv⟩,Cb (c_ (Mx rfl rfl e650) (⟨⟨Ct rfl rfl e650 rfl,Ct rfl rfl e646 rfl,tv⟩,Ag tv (c_ (Ja rfl rfl e648) (⟨⟨Ct rfl rfl e650 rfl,Ct rfl rfl e646 rfl,tv⟩,?_⟩))⟩))⟩))⟩))⟩))⟩))))))))
            refine Bq (Hk (y':=y645) rfl rfl tv rfl rfl rfl rfl e650 (nl rfl) rfl rfl rfl rfl (iZ ⟨[(0,Af 2097152 (p602.set p603.toNat y645)),(1,iV a1),(2,iV a2),(3,.clo f3 k3),(9,iV p492),(10,iV p156),(12,iV p603),(127,Af 2097152 (p602.set p603.toNat y645)),(128,iV p603),(129,iV (wi (p603-1))),(138,.agg (Ac y649))],[],[]⟩ (fg ⟨congrArg (fun z=>some ((.own 2097152 0 4 z:V))) Be,rfl,rfl,rfl,rfl,rfl,rfl,congrArg (fun z=>some ((.own 2097152 0 4 z:V))) Be,rfl,rfl,rfl,tv⟩ tv) ⟨[],⟨⟨.inl tv,Bd (Ax t3 rfl tv) rfl⟩,⟨.inl tv,Bd (Dg (v:=iV p603) rfl tv) rfl⟩,⟨.inl tv,Bd (Dg (v:=Af 2097152 (p602.set p603.toNat y645)) rfl tv) rfl⟩,tv⟩,tv,d_ (Xe rfl rfl rfl e652 (Bg (Bq (Hk (y':=y649) rfl rfl tv rfl rfl rfl rfl e654 (nl rfl) rfl rfl rfl rfl (d0 tv (Hb (Rp (Dd ⟨[(0,Af 2097152 ((p602.set p603.toNat y645).set ((wi (p603-1)).toNat) y649)),(1,iV a1),(2,iV a2),(3,.clo f3 k3),(9,iV p492),(10,iV p156),(12,iV p603)],[],[]⟩ (fg ⟨congrArg (fun z=>some ((.own 2097152 0 4 z:V))) Be,rfl,rfl,rfl,rfl,rfl,rfl,tv⟩ tv) (Ay 4 ?_)))))) Aw)))⟩)) Aw
            obtain rfl:=sj h2
            exact kn hK2 rfl rfl
          ·obtain rfl:=sj h2
           obtain rfl:=hx2 _ rfl
           refine Iq rfl ?_
           exact jn hE2 ⟨_,rfl,rfl⟩
        ·refine Js (Rp ?_)
         exact jn J467 ⟨_,_,rfl,h1⟩
       ·replace h1:=ip c658 h1
        refine Az 5 (Fe a1 a2 f3 k3 p156 [(0,Af 2097152 v520),(9,iV p492),(11,iV (wi (p492-1)))]) [] (By (bb h1 fun r736 e737 h1=>Cs (R:=(fun S=>∃p711:List Aa,p711=r736∧S=⟨Fe a1 a2 f3 k3 p156 [(0,Af 2097152 p711),(9,iV p492)],[],[]⟩)) (Ym is3) (fun s S=>match s with | (p683,p684)=>S=⟨Fe a1 a2 f3 k3 p156 [(0,Af 2097152 p683),(9,iV p492),(11,iV p684)],[],[]⟩) e737 _ (Dv (by kernel_rfl)) rfl 4 (fun _=>rfl) ?_ ?_))
        ·rintro S _ hfg ⟨p711,rfl,rfl⟩
         exact J657 _ ⟨Fe a1 a2 f3 k3 p156 [(0,Af 2097152 p711),(9,iV p492)],[],[]⟩ (sW hfg ⟨rfl,rfl,rfl,rfl,rfl,rfl,tv⟩ tv) ⟨_,rfl,h1⟩
        ·rintro ⟨p683,p684⟩ o2 _ K2 rfl h2 hx2 hK2 hE2 hR2
         refine Az 5 (Fe a1 a2 f3 k3 p156 [(0,Af 2097152 p683),(9,iV p492),(11,iV p684),(69,.bool (decide (p684≥1)))]) [] (Co h2 (fun c712 h2=>?_) (fun c712 h2=>?_))
         ·refine Lg 6 (bb h2 fun y713 e714 h2=>bb h2 fun y715 e716 h2=>bb h2 fun y717 e718 h2=>bb h2 fun y719 e720 h2=>bb h2 fun r721 e722 h2=>Ay 3 (Bg (d_ (Xe rfl rfl rfl e714 (Bg (Cb (c_ (Mx rfl rfl e716) (⟨⟨Ct rfl rfl e716 rfl,tv⟩,Ag tv (Ca rfl tv (⟨⟨Ct rfl rfl e716 rfl,tv⟩,Ag tv (Ca rfl tv (⟨⟨Ct rfl rfl e716 rfl,tv⟩,Ag tv (c_ (Ax t3 rfl tv) (⟨⟨Ct rfl rfl e716 rfl,tv⟩,Ag tv (c_ (Ja rfl rfl e718) (⟨⟨Ct rfl rfl e716 rfl,tv⟩,Cb (c_ (Mx rfl rfl e720) (⟨⟨Ct rfl rfl e720 rfl,Ct rfl rfl e716 rfl,tv⟩,Bq (Gb (r:=iV r721) rfl false (hf3 _ _ r721 e722) ⟨tv,tv,tv⟩ (ar (Bf rfl hs3.2.2.1)) (Bb rfl (Bb rfl (hs3.2.1 _ _ _ _ _))) (fun _=>rfl) (dw [(0,Af 2097152 p683),(1,iV a1),(2,iV a2),(3,.clo f3 k3),(9,iV p492),(10,iV p156),(11,iV p684),(82,iV r721)] [] tv (Ag tv (c_ (Ax t3 rfl tv) (⟨tv,Ag tv (c_ (Ax ⟨tv,tv⟩ rfl tv) (⟨tv,Hb (Dd ⟨Fe a1 a2 f3 k3 p156 [(0,Af 2097152 p683),(9,iV p492),(11,iV p684),(84,.bool (!(decide (r721<0))))],[],[]⟩ (Dv (by kernel_rfl)) (Co h2 (fun c723 h2=>?_) (fun c723 h2=>?_)))⟩))⟩))))) Aw⟩))⟩))⟩))⟩))⟩))⟩))))))))
          ·obtain rfl:=sj h2
           obtain rfl:=hx2 _ rfl
           refine Iq rfl ?_
           exact jn hE2 ⟨_,rfl,rfl⟩
          ·refine Lg 2 (bb h2 fun y724 e725 h2=>bb h2 fun y726 e727 h2=>bb h2 fun y728 e729 h2=>bb h2 fun y730 e731 h2=>bb h2 fun y732 e733 h2=>bb h2 fun y734 e735 h2=>Ay 8 (Bg (d_ (Xe rfl rfl rfl e725 (Bg (Cb (c_ (Mx rfl rfl e727) (⟨⟨Ct rfl rfl e727 rfl,tv⟩,Ag tv (Ca rfl tv (⟨⟨Ct rfl rfl e727 rfl,tv⟩,Ag tv (Ca rfl tv (⟨⟨Ct rfl rfl e727 rfl,tv⟩,Ag tv (c_ (Ja rfl rfl e729) (⟨⟨Ct rfl rfl e727 rfl,tv⟩,Cb (c_ (Mx rfl rfl e731) (⟨⟨Ct rfl rfl e731 rfl,Ct rfl rfl e727 rfl,tv⟩,Ag tv (c_ (Ja rfl rfl e729) (⟨⟨Ct rfl rfl e731 rfl,Ct rfl rfl e727 rfl,tv⟩,?_⟩))⟩))⟩))⟩))⟩))⟩))))))))
           refine Bq (Hk (y':=y726) rfl rfl tv rfl rfl rfl rfl e731 (nl rfl) rfl rfl rfl rfl (iZ ⟨[(0,Af 2097152 (p683.set p684.toNat y726)),(1,iV a1),(2,iV a2),(3,.clo f3 k3),(9,iV p492),(10,iV p156),(11,iV p684),(87,Af 2097152 (p683.set p684.toNat y726)),(88,iV p684),(89,iV (wi (p684-1))),(98,.agg (Ac y730))],[],[]⟩ (fg ⟨congrArg (fun z=>some ((.own 2097152 0 4 z:V))) Be,rfl,rfl,rfl,rfl,rfl,rfl,congrArg (fun z=>some ((.own 2097152 0 4 z:V))) Be,rfl,rfl,rfl,tv⟩ tv) ⟨[],⟨⟨.inl tv,Bd (Ax t3 rfl tv) rfl⟩,⟨.inl tv,Bd (Dg (v:=iV p684) rfl tv) rfl⟩,⟨.inl tv,Bd (Dg (v:=Af 2097152 (p683.set p684.toNat y726)) rfl tv) rfl⟩,tv⟩,tv,d_ (Xe rfl rfl rfl e733 (Bg (Bq (Hk (y':=y730) rfl rfl tv rfl rfl rfl rfl e735 (nl rfl) rfl rfl rfl rfl (d0 tv (Hb (Rp (Dd ⟨[(0,Af 2097152 ((p683.set p684.toNat y726).set ((wi (p684-1)).toNat) y730)),(1,iV a1),(2,iV a2),(3,.clo f3 k3),(9,iV p492),(10,iV p156),(11,iV p684)],[],[]⟩ (fg ⟨congrArg (fun z=>some ((.own 2097152 0 4 z:V))) Be,rfl,rfl,rfl,rfl,rfl,rfl,tv⟩ tv) (Ay 4 ?_)))))) Aw)))⟩)) Aw
           obtain rfl:=sj h2
           exact kn hK2 rfl rfl
         ·obtain rfl:=sj h2
          obtain rfl:=hx2 _ rfl
          refine Iq rfl ?_
          exact jn hE2 ⟨_,rfl,rfl⟩
       ·replace h1:=Xj c658 h1
        refine Js ?_
        exact jn J657 ⟨_,rfl,h1⟩
    ·rintro p479 o2 _ K2 rfl h2 hx2 hK2 hE2 hR2
     refine Bm (Bm (bb h2 fun y493 e494 h2=>bb h2 fun y495 e496 h2=>bb h2 fun y497 e498 h2=>bb h2 fun y499 e500 h2=>bb h2 fun r501 e502 h2=>Ay 4 (Bg (Ag tv (Bn (u:=.clo f3 k3) rfl (fun hg=>(Dg (v:=.clo f3 k3) rfl tv)) (⟨tv,Ag tv (Bn (u:=Af 2097152 p154) rfl (fun hg=>(Dg (v:=Af 2097152 p154) rfl tv)) (⟨tv,Ag tv (Bn (u:=iV p479) rfl (fun hg=>(Dg (v:=iV p479) rfl tv)) (⟨tv,Ag tv (Bn (u:=.optr 2097152 4 (0+p479.toNat) 0) rfl (fun hg=>(Hf (e:=Ac) (y:=y493) rfl rfl (fun _=>hg) rfl rfl (fun _=>hg) (ip hg e494))) (⟨tv,Cb (Bn (u:=.agg (Ac y495)) rfl (fun hg=>(Bk (e:=Ac) (y:=y495) (v:=.agg (Ac y495)) rfl rfl (fun _=>hg) rfl rfl (ip hg e496) rfl (nl rfl) rfl)) (⟨⟨Br (v:=.agg (Ac y495)) rfl (fun hg=>(Bk (e:=Ac) (y:=y495) (v:=.agg (Ac y495)) rfl rfl (fun _=>hg) rfl rfl (ip hg e496) rfl (nl rfl) rfl)) rfl,tv⟩,Ag tv (Bn (u:=Af 2097152 p154) rfl (fun hg=>(Dg (v:=Af 2097152 p154) rfl tv)) (⟨⟨Br (v:=.agg (Ac y495)) rfl (fun hg=>(Bk (e:=Ac) (y:=y495) (v:=.agg (Ac y495)) rfl rfl (fun _=>hg) rfl rfl (ip hg e496) rfl (nl rfl) rfl)) rfl,tv⟩,Ag tv (Bn (u:=iV p479) rfl (fun hg=>(Dg (v:=iV p479) rfl tv)) (⟨⟨Br (v:=.agg (Ac y495)) rfl (fun hg=>(Bk (e:=Ac) (y:=y495) (v:=.agg (Ac y495)) rfl rfl (fun _=>hg) rfl rfl (ip hg e496) rfl (nl rfl) rfl)) rfl,tv⟩,Ag tv (Bn (u:=iV (wi (p479-1))) rfl (fun hg=>(Ax ⟨(fun _=>hg),tv,tv⟩ rfl tv)) (⟨⟨Br (v:=.agg (Ac y495)) rfl (fun hg=>(Bk (e:=Ac) (y:=y495) (v:=.agg (Ac y495)) rfl rfl (fun _=>hg) rfl rfl (ip hg e496) rfl (nl rfl) rfl)) rfl,tv⟩,Ag tv (Bn (u:=.optr 2097152 4 (0+((wi (p479-1)).toNat)) 0) rfl (fun hg=>(Hf (e:=Ac) (y:=y497) rfl rfl (fun _=>hg) rfl rfl (fun _=>hg) (ip hg e498))) (⟨⟨Br (v:=.agg (Ac y495)) rfl (fun hg=>(Bk (e:=Ac) (y:=y495) (v:=.agg (Ac y495)) rfl rfl (fun _=>hg) rfl rfl (ip hg e496) rfl (nl rfl) rfl)) rfl,tv⟩,Cb (Bn (u:=.agg (Ac y499)) rfl (fun hg=>(Bk (e:=Ac) (y:=y499) (v:=.agg (Ac y499)) rfl rfl (fun _=>hg) rfl rfl (ip hg e500) rfl (nl rfl) rfl)) (⟨⟨Br (v:=.agg (Ac y499)) rfl (fun hg=>(Bk (e:=Ac) (y:=y499) (v:=.agg (Ac y499)) rfl rfl (fun _=>hg) rfl rfl (ip hg e500) rfl (nl rfl) rfl)) rfl,Br (v:=.agg (Ac y495)) rfl (fun hg=>(Bk (e:=Ac) (y:=y495) (v:=.agg (Ac y495)) rfl rfl (fun _=>hg) rfl rfl (ip hg e496) rfl (nl rfl) rfl)) rfl,tv⟩,Bq (Io (r:=iV r501) rfl rfl rfl (fun hg=>hg) false (fun hg=>hf3 _ _ r501 (ip hg e502)) ⟨(fun hg=>hg),(fun hg=>hg),tv⟩ (fun _=>(ar (Bf rfl hs3.2.2.1))) (fun _=>(Bb rfl (Bb rfl (hs3.2.1 _ _ _ _ _)))) (fun _=>rfl) (fun h=>nomatch h) (dw [(0,Af 2097152 p154),(1,iV a1),(2,iV a2),(3,.clo f3 k3),(9,iV p479),(10,iV p156),(22,.bool (decide (p479<a2))),(33,.may ((decide (p479<a2))==true) (iV r501))] [] tv ?_)) Aw⟩))⟩))⟩))⟩))⟩))⟩))⟩))⟩))⟩))⟩))))))
     refine Ag tv (Bn (u:=.bool (decide (r501<0))) rfl (fun hg=>(Ax ⟨(fun _=>hg),tv,tv⟩ rfl tv)) (⟨tv,Ag tv (Bn (u:=.bool (!(decide (r501<0)))) rfl (fun hg=>(Ax ⟨(fun _=>hg),tv⟩ rfl tv)) (⟨tv,Ag tv (Cu rfl rfl rfl (fun h=>Qm h) tv rfl (⟨tv,d_ (Az 1 (Fe a1 a2 f3 k3 p156 [(0,Af 2097152 p154),(9,iV p479),(36,.bool (bif (decide (p479<a2)) then (!(decide (r501<0))) else false))]) [] (Co h2 (fun c503 h2=>?_) (fun c503 h2=>?_)))⟩))⟩))⟩))
     ·refine Ay 8 ?_
      obtain rfl:=sj h2
      exact kn hK2 rfl rfl
     ·obtain rfl:=sj h2
      obtain rfl:=hx2 _ rfl
      refine Iq rfl ?_
      exact jn hE2 ⟨_,rfl,rfl⟩
  ·obtain rfl:=sj h1
   obtain rfl:=hx1 _ rfl
   refine Iq rfl ?_
   exact jn hE1 ⟨_,rfl,rfl⟩
end Go.Ev
