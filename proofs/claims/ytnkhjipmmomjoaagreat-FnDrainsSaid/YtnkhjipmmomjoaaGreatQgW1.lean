/- The walks of functions: the code comes to the answers that QgD tells. Written by a program of ours. -/
import Derived.Test.YtnkhjipmmomjoaaGreatQgW0
set_option linter.all false
set_option maxHeartbeats 4000000
set_option linter.unusedVariables false
set_option maxRecDepth 100000
namespace Go.Ev
variable {C:Bh}

/- loop.example/g00149/impl.TableOK -/
def c20_r0:=[X_ 1 0,k_ 2 (.bool false)]
def c20_r1:=tk [f_ 3 1 0,l_ 4 3 1,B_ .geq 5 4 0,m_ 6 5,fT 6 7 1 1,lT 6 8 7 1 false] (.alt [] ⟨some 9,.call 58 [.t 8],some (6,true)⟩ (tk [pa 10 6 9,m_ 11 10,fT 11 12 1 2,lT 11 13 12 1 false,pT 11 14 (.len (.t 13)),pT 11 15 (.bin .leq (.t 14) (.c (iV 40))),pa 16 11 15,m_ 17 16,lT 17 18 1 3 true,fT 17 20 1 1,lT 17 21 20 1 false,pT 17 22 (.bin .sub (.t 21) (.c (iV 1)))] (.alt [pT 17 22 (.bin .sub (.t 21) (.c (iV 1))),lT 17 21 20 1 false,fT 17 20 1 1] ⟨some 19,.call 60 [.t 18],some (17,true)⟩ (.alt [] ⟨some 23,.call 59 [.t 19,.c (iV 1),.t 22],some (17,true)⟩ (tk [pa 24 17 23,m_ 25 24,fT 25 26 1 2,lT 25 27 26 1 false,pT 25 28 (.fn 62 [.t 1])] (.alt [] ⟨some 29,.call 61 [.t 27,.t 28],some (25,true)⟩ (tk [pa 30 25 29,m_ 2 30] .fin) .stop)) .stop) .stop)) .stop)
def EC:Dp:=⟨1,31,[.t 2],sr c20_r0 (sd c20_r1 .ret)⟩
def K20 (D:Bh):Prop:=∀a0 r,g20 a0=some r→D 20 ⟨[.agg (Bd a0)],[]⟩ ⟨.bool r,[],[]⟩
theorem F20 (H58:K58 C) (H59:K59 C) (H60:K60 C) (H61:K61 C) (H62:K62 C):K20 (FO C EC):=by
 intro a0 r h0
 refine f0 (Ay 4 [(1,.ptr 64 0)] [(64,Bd a0)] (Bj (bb h0 fun r1 e2 h0=>bb h0 fun r3 e4 h0=>bb h0 fun r5 e6 h0=>bb h0 fun r7 e8 h0=>Bc 4 (Bl (Ag tv (Ce (u:=.ptr 64 1) rfl (fun hg=>(Bb ⟨tv,tv⟩ rfl tv)) (⟨tv,Ag tv (Ce (u:=iV a0.next) rfl (fun hg=>(Bb ⟨(fun _=>hg),tv⟩ rfl (nl rfl))) (⟨tv,Bu (Gr (r:=.bool r1) rfl false (fun hg=>H58 a0.next r1 (ip hg e2)) ⟨(fun hg=>hg),tv⟩ (fun _=>rfl) (fun _=>rfl) (fun _=>rfl) (fun h=>nomatch h) (dw [(1,.ptr 64 0),(6,.bool (decide (a0.clock≥0))),(9,.may ((decide (a0.clock≥0))==true) (.bool r1))] [(64,Bd a0)] tv (Ag tv (Eh rfl rfl rfl (fun h=>Sr h) tv rfl (⟨tv,Ag tv (Bw rfl tv (⟨tv,Ag tv (Ce (u:=.ptr 64 2) rfl (fun hg=>(Bb ⟨tv,tv⟩ rfl tv)) (⟨tv,Ag tv (Ce (u:=Ck a0.Ae) rfl (fun hg=>(Bb ⟨(fun _=>hg),tv⟩ rfl (nl rfl))) (⟨tv,Ag tv (Ce (u:=iV (a0.Ae.length:Int)) rfl (fun hg=>(cO (e:=Ac) (l0:=a0.Ae) rfl rfl (fun _=>hg))) (⟨tv,Ag tv (Ce (u:=.bool (decide ((a0.Ae.length:Int)≤40))) rfl (fun hg=>(Bb ⟨(fun _=>hg),tv,tv⟩ rfl tv)) (⟨tv,Ag tv (Eh rfl rfl rfl (fun h=>Sr h) tv rfl (⟨tv,Ag tv (Bw rfl tv (⟨tv,?_⟩))⟩))⟩))⟩))⟩))⟩))⟩))⟩))))) Au⟩))⟩)))))))
 refine Ag tv (Ce (u:=.agg (Bd a0)) rfl (fun hg=>(Bb ⟨tv,tv⟩ rfl (nl rfl))) (⟨tv,Ag tv (Ce (u:=.ptr 64 1) rfl (fun hg=>(Bb ⟨tv,tv⟩ rfl tv)) (⟨tv,Ag tv (Ce (u:=iV a0.next) rfl (fun hg=>(Bb ⟨(fun _=>hg),tv⟩ rfl (nl rfl))) (⟨tv,Ag tv (Ce (u:=iV (wi (a0.next-1))) rfl (fun hg=>(Bb ⟨(fun _=>hg),tv,tv⟩ rfl tv)) (⟨tv,Bu (Gr (r:=oI 0 r3) rfl false (fun hg=>H60 a0 r3 (ip hg e4)) ⟨(fun hg=>hg),tv⟩ (fun _=>rfl) (fun _=>rfl) (fun _=>(af rfl)) (fun h=>nomatch h) (dw [(1,.ptr 64 0),(17,.bool (bif (bif (decide (a0.clock≥0)) then r1 else false) then (decide ((a0.Ae.length:Int)≤40)) else false)),(19,.may ((bif (bif (decide (a0.clock≥0)) then r1 else false) then (decide ((a0.Ae.length:Int)≤40)) else false)==true) (lI r3)),(20,.may ((bif (bif (decide (a0.clock≥0)) then r1 else false) then (decide ((a0.Ae.length:Int)≤40)) else false)==true) (.ptr 64 1)),(21,.may ((bif (bif (decide (a0.clock≥0)) then r1 else false) then (decide ((a0.Ae.length:Int)≤40)) else false)==true) (iV a0.next)),(22,.may ((bif (bif (decide (a0.clock≥0)) then r1 else false) then (decide ((a0.Ae.length:Int)≤40)) else false)==true) (iV (wi (a0.next-1))))] [(64,Bd a0)] ⟨⟨.inl tv,Bn (v:=iV (wi (a0.next-1))) rfl (fun hg=>(Bb ⟨(fun _=>hg),tv,tv⟩ rfl tv)) rfl⟩,⟨.inl tv,Bn (v:=iV a0.next) rfl (fun hg=>(Bb ⟨(fun _=>hg),tv⟩ rfl (nl rfl))) rfl⟩,⟨.inl tv,Bn (v:=.ptr 64 1) rfl (fun hg=>(Bb ⟨tv,tv⟩ rfl tv)) rfl⟩,tv⟩ (Bu (Gr (r:=.bool r5) rfl false (fun hg=>H59 r3 1 (wi (a0.next-1)) r5 (ip hg e6)) ⟨(fun hg=>hg),tv,(fun hg=>hg),tv⟩ (fun _=>rfl) (fun _=>rfl) (fun _=>rfl) (fun h=>nomatch h) (dw [(1,.ptr 64 0),(17,.bool (bif (bif (decide (a0.clock≥0)) then r1 else false) then (decide ((a0.Ae.length:Int)≤40)) else false)),(23,.may ((bif (bif (decide (a0.clock≥0)) then r1 else false) then (decide ((a0.Ae.length:Int)≤40)) else false)==true) (.bool r5))] [(64,Bd a0)] tv (Ag tv (Eh rfl rfl rfl (fun h=>Sr h) tv rfl (⟨tv,Ag tv (Bw rfl tv (⟨tv,Ag tv (Ce (u:=.ptr 64 2) rfl (fun hg=>(Bb ⟨tv,tv⟩ rfl tv)) (⟨tv,Ag tv (Ce (u:=Ck a0.Ae) rfl (fun hg=>(Bb ⟨(fun _=>hg),tv⟩ rfl (nl rfl))) (⟨tv,Ag tv (Ce (u:=.clo 62 [.ptr 64 0]) rfl (fun hg=>(Bb ⟨tv,tv⟩ rfl rfl)) (⟨tv,Bu (Gr (r:=.bool r7) rfl false (fun hg=>H61 a0.Ae 62 [.iptr (Bd a0)] (fun z62_0=>g62 z62_0 a0) (⟨fun _ _ _ _ _=>rfl,fun _ _ _ _ _=>rfl,rfl,fun _ _ _ n=>by cases n<;>rfl,fun _=>rfl⟩) (fun z62_0 r h=>H62 z62_0 a0 r h) r7 (ip hg e8)) ⟨(fun hg=>hg),(fun hg=>hg),tv⟩ (fun _=>rfl) (fun _=>rfl) (fun _=>rfl) (fun h=>nomatch h) (dw [(25,.bool (bif (bif (bif (decide (a0.clock≥0)) then r1 else false) then (decide ((a0.Ae.length:Int)≤40)) else false) then r5 else false)),(29,.may ((bif (bif (bif (decide (a0.clock≥0)) then r1 else false) then (decide ((a0.Ae.length:Int)≤40)) else false) then r5 else false)==true) (.bool r7))] [] tv (Ag tv (Eh rfl rfl rfl (fun h=>Sr h) tv rfl (⟨tv,d_ (Bc 2 (bv h0 fun v9 e10 h0=>Dn ⟨[(2,.bool v9)],[],[]⟩ (Ez (by subst e10; kernel_rfl)) ?_))⟩))))) Au⟩))⟩))⟩))⟩))⟩))))) Au))) Au⟩))⟩))⟩))⟩))
 obtain rfl:=sj h0
 exact Lf (Eg rfl rfl rfl rfl rfl tv)

/- loop.example/g00149/impl.leases -/
def c95_r0:List Bt:=[⟨some 2,.nilS 1,none⟩]
def c95_r1:List Bt:=[⟨some 3,.nilS 1,none⟩]
def c95_r2:=[m_ 6 0,n_ 7 6,i_ 8 0]
def c95_r3:=[b_ .lss 9 8 7]
def c95_r4:=[x_ 10 6 8 2,L_ 11 10 2,a_ 5 [iV 0,.bool false],s_ 5 11 2]
def c95_r5:List Bt:=[m_ 12 3,f_ 13 5 0,l_ 14 13 1,⟨some 15,.mkS 1 [iV 0] 1 [(0,.t 14)],none⟩,⟨some 16,.app 1 8 (.t 12) (.t 15),none⟩,m_ 3 16]
def c95_r6:=[B_ .add 17 8 1,m_ 8 17]
def c95_l0:IR:=(sr c95_r3 (.seq (.ite (.t 9) .skip (.exit 0)) (.seq (.block 1 (sr c95_r4 (.reg c95_r5))) (.reg c95_r6))))
def c95_r7:=[m_ 18 3,m_ 2 18]
def c95:Dp:=⟨1,19,[.t 2],sr c95_r0 (sr c95_r1 (.seq (sr c95_r2 (Ju 0 c95_l0)) (rr c95_r7)))⟩
def K95 (D:Bh):Prop:=∀a0 r,g95 a0=some r→D 95 ⟨[Cp a0],[]⟩ ⟨oI 0 r,[],[]⟩
theorem F95:K95 (FO C c95):=by
 intro a0 r h0
 refine f0 (Ay 7 [(0,Cp a0),(3,.own 192 0 1 ([].map eI))] [] (Bc 3 (An (Sn rfl (o_ (Ay 2 [(3,.own 192 0 1 ([].map eI)),(6,Cp a0),(7,iV (a0.length:Int)),(8,iV 0)] [] (Cg (bb h0 fun r18 e19 h0=>Cz (R:=(fun S=>∃p13:List Int,p13=r18∧S=⟨[(3,oI 192 p13)],[],[]⟩)) (Zu a0) (fun s S=>match s with | (p5,p6)=>S=⟨[(3,oI 192 p5),(6,Cp a0),(7,iV (a0.length:Int)),(8,iV p6)],[],[]⟩) e19 _ (Ez (by kernel_rfl)) rfl 0 (fun _=>rfl) ?_ ?_))))))))
 ·rintro S _ hfg ⟨p13,rfl,rfl⟩
  refine Dn _ hfg ?_
  obtain rfl:=sj h0
  exact Dd 5
 ·rintro ⟨p5,p6⟩ o1 _ K1 rfl h1 hx1 hK1 hE1 hR1
  refine Ay 3 [(3,oI 192 p5),(6,Cp a0),(7,iV (a0.length:Int)),(8,iV p6),(9,.bool (decide (p6<(a0.length:Int))))] [] (Bj (Ct h1 (fun c14 h1=>?_) (fun c14 h1=>?_)))
  ·refine Mx 5 (An (bb h1 fun y15 e16 h1=>Vv rfl rfl e16 (o_ (Ay 4 [(3,oI 192 p5),(5,.ptr 320 0),(6,Cp a0),(7,iV (a0.length:Int)),(8,iV p6)] [(320,Bx y15)] (Bc 4 (An (gg h1 fun c17 h1=>st (Ja (e:=eI) (l0:=p5) (l1:=([y15.As]:List Int)) rfl rfl tv rfl (by decide) c17 (o_ (Ay 3 [(3,oI 192 (p5++([y15.As]:List Int))),(6,Cp a0),(7,iV (a0.length:Int)),(8,iV p6)] [] (Bc 3 ?_)))))))))))
   obtain rfl:=sj h1
   exact kn hK1 rfl rfl
  ·obtain rfl:=sj h1
   obtain rfl:=hx1 _ rfl
   refine Jv rfl ?_
   exact jn hE1 ⟨_,rfl,rfl⟩

/- slices.Grow[[]int,int] -/
def OQ:List Bt:=[⟨some 4,.nilS 1,none⟩]
def OR:=[m_ 5 1,B_ .lss 6 5 0]
def OS:List Bt:=[⟨some 7,.bad,none⟩,⟨none,.bad,none⟩]
def OT:List Bt:=[m_ 8 1,m_ 9 0,⟨some 10,.cap (.t 9),none⟩,m_ 11 0,n_ 12 11,b_ .sub 13 10 12,b_ .sub 14 8 13,m_ 1 14]
def OU:=[m_ 15 1,B_ .gtr 16 15 0]
def OV:List Bt:=[m_ 17 0,m_ 18 0,⟨some 19,.cap (.t 18),none⟩,⟨some 20,.p (.slice (.t 17) none (some (.t 19)) 1),none⟩,m_ 21 1,⟨some 22,.appz 1 8 [iV 0] (.t 20) (.t 21),none⟩,m_ 23 0,n_ 24 23,⟨some 25,.p (.slice (.t 22) none (some (.t 24)) 1),none⟩,m_ 0 25]
def OW:=[m_ 26 0,m_ 4 26]
def OP:Dp:=⟨2,27,[.t 4],sr OQ (.seq (sr OR (iz 6 (.reg OS))) (.seq (sr OT (sr OU (iz 16 (.reg OV)))) (rr OW)))⟩
def K144 (D:Bh):Prop:=∀a0 a1 r,g144 a0 a1=some r→D 144 ⟨[oI 1024000 a0,iV a1],[]⟩ ⟨oI 0 r,[],[]⟩
theorem F144:K144 (FO C OP):=by
 intro a0 a1 r h0
 refine fnc_ (nl rfl) fun f hf=>?_
 obtain ⟨⟨hb,hl⟩,h0⟩:=grd h0
 obtain rfl:=sj h0
 obtain ⟨n,rfl⟩:=Int.eq_ofNat_of_zero_le hb
 have hn:a0.length+n≤17592186044416:=by omega
 have hbyte:(a0.length+n)*8≤140737488355328:=Nat.le_trans (Nat.mul_le_mul_right 8 hn) (by decide)
 obtain ⟨hc1,hc2⟩:=hf 0 1024000 0 1 (a0.map eI) rfl (by decide)
 rw [List.length_map] at hc1
 have hc2:=hc2 rfl
 have w1:wi ((f 0:Int)-(a0.length:Int))=(f 0:Int)-(a0.length:Int):=wrapI (by omega) (by omega)
 have w2:wi ((n:Int)-((f 0:Int)-(a0.length:Int)))=(n:Int)-((f 0:Int)-(a0.length:Int)):=wrapI (by omega) (by omega)
 refine Bj (An (st (dJ (Hj (Dn ⟨[(0,oI 1024000 a0),(1,iV n)],[],[(0,Em+(f 0:Int))]⟩ (zR ⟨rfl,rfl,tv⟩ tv ⟨.inl ⟨_,rfl,.inl rfl⟩,tv⟩) (Bc 5 (Dn ⟨[(6,.bool (decide ((n:Int)<0))),(0,oI 1024000 a0),(1,iV n)],[],[(0,Em+(f 0:Int))]⟩ (zR ⟨rfl,rfl,rfl,tv⟩ tv ⟨.inl ⟨_,rfl,.inl rfl⟩,tv⟩) (Vo (cb:=decide ((n:Int)<0)) rfl (fun h=>absurd (of_decide_eq_true h) (by omega)) (fun _=>(Jf (Dn ⟨[(0,oI 1024000 a0),(1,iV n)],[],[(0,Em+(f 0:Int))]⟩ (zR ⟨rfl,rfl,tv⟩ tv ⟨.inl ⟨_,rfl,.inl rfl⟩,tv⟩) (Bc 4 (An (st (cap_ (e:=eI) (l0:=a0) rfl fun c _ _ hc=>?_)))))))))))))))
 have hcf:(c:Int)=(f 0:Int):=by have:=hc _ rfl (by omega); omega
 refine st (Bw rfl tv (aS rfl (st (c_ (Bb (v:=iV ((f 0:Int)-(a0.length:Int))) ⟨tv,tv,tv⟩ (congrArg (fun z=>some (True,V.int .i64 z)) ((congrArg (fun z=>wi (z-(a0.length:Int))) hcf).trans w1)) tv) (st (c_ (Bb (v:=iV ((n:Int)-((f 0:Int)-(a0.length:Int)))) ⟨tv,tv,tv⟩ (congrArg (fun z=>some (True,V.int .i64 z)) w2) tv) (st (Bw rfl tv (Hj (Dn ⟨[(0,oI 1024000 a0),(1,iV ((n:Int)-((f 0:Int)-(a0.length:Int))))],[],[(0,Em+(f 0:Int))]⟩ (zR ⟨rfl,rfl,tv⟩ tv ⟨.inl ⟨_,rfl,.inl rfl⟩,tv⟩) (Bc 4 (Dn ⟨[(16,.bool (decide ((n:Int)-((f 0:Int)-(a0.length:Int))>0))),(0,oI 1024000 a0),(1,iV ((n:Int)-((f 0:Int)-(a0.length:Int))))],[],[(0,Em+(f 0:Int))]⟩ (zR ⟨rfl,rfl,rfl,tv⟩ tv ⟨.inl ⟨_,rfl,.inl rfl⟩,tv⟩) (Vo (cb:=decide ((n:Int)-((f 0:Int)-(a0.length:Int))>0)) rfl (fun hgt=>?_) (fun _=>?_))))))))))))))
 ·have hgt':f 0<a0.length+n:=by have:=of_decide_eq_true hgt; omega
  obtain ⟨m,hm⟩:∃m:Nat,(n:Int)-((f 0:Int)-(a0.length:Int))=(m:Int):=⟨a0.length+n-f 0,by omega⟩
  rw [hm]
  refine Bc 2 (An (st (cap_ (e:=eI) (l0:=a0) rfl fun c2 _ _ hc3=>?_)))
  have hcf2:c2=f 0:=by have:=hc3 _ rfl (by omega); omega
  subst hcf2
  refine st (c_ (pC (e:=eI) (l0:=a0) (t:=1024000) (sz:=1) (H:=f 0) (c:=Em+(f 0:Int)) rfl rfl hc1 (show (0:Nat)<1 by decide) rfl (by rw [aH]; omega)) (st (Bw rfl tv (st (sH (e:=eo eI 1) (l0:=a0.map some++List.replicate (f 0-a0.length) none) (c:=Em+(f 0:Int)-0) (t:=1024000) (some (default:Int)) rfl rfl rfl (by decide) (Int.natCast_nonneg _) ?_ rfl (by omega) ?_ ?_)))))
  ·have e1:(a0.map some++List.replicate (f 0-a0.length) none).length+m=a0.length+n:=by simp; omega
   have:=Int.ofNat_le.2 hbyte
   rw [Int.natCast_mul] at this
   rw [←Int.natCast_add,e1]
   exact this
  ·have e1:(a0.map some++List.replicate (f 0-a0.length) none).length=f 0:=by simp; omega
   rw [e1]; omega
  refine st (Bw rfl tv (aS rfl ?_))
  have hk:((a0.map some++List.replicate (f 0-a0.length) none)++List.replicate ((m:Int)).toNat (some (default:Int))).take a0.length=a0.map some:=by
   rw [List.append_assoc,List.take_append_of_le_length (by simp),List.take_of_length_le (by simp)]
  have hlen:a0.length≤((a0.map some++List.replicate (f 0-a0.length) none)++List.replicate ((m:Int)).toNat (some (default:Int))).length:=by simp only [List.length_append,List.length_map]; omega
  generalize (a0.map some++List.replicate (f 0-a0.length) none)++List.replicate ((m:Int)).toNat (some (default:Int))=R at hk hlen
  refine st (c_ (Ep (e:=eo eI 1) (y:=a0.map some) rfl rfl tv ⟨tv,tv⟩ rfl rfl (by rw [show (none:Option Int).getD 0=((0:Nat):Int) from rfl]; exact (slcN R 0 a0.length (by omega) hlen).trans (congrArg some hk))) (st (Bw rfl tv (Hj ?_))))
  rw [←Xh]
  refine Ay 0 [(0,oI 1408 a0)] [] (Bc 5 ?_)
  exact Lf (Eg rfl rfl rfl rfl rfl tv)
 ·refine Jf ?_
  refine Ay 0 [(0,oI 1024000 a0)] [] (Bc 5 ?_)
  exact Lf (Eg rfl rfl rfl rfl rfl tv)


/- slices.Concat[[]int,int] -/
def KP:List Bt:=[⟨some 2,.nilS 1,none⟩]
def KQ:=[i_ 3 0]
def KR:=[m_ 9 0,n_ 10 9,i_ 11 0]
def KS:=[b_ .lss 12 11 10]
def KT:=[x_ 13 9 11 1,l_ 14 13 1,m_ 5 14]
def KU:=[m_ 15 3,m_ 16 5,n_ 17 16,b_ .add 18 15 17,m_ 3 18]
def KV:=[m_ 19 3,B_ .lss 20 19 0]
def KW:List Bt:=[⟨some 21,.bad,none⟩,⟨none,.bad,none⟩]
def KX:=[B_ .add 22 11 1,m_ 11 22]
def KN:IR:=(sr KS (.seq (.ite (.t 12) .skip (.exit 0)) (.seq (.block 1 (sr KT (sr KU (sr KV (iz 20 (.reg KW)))))) (.reg KX))))
def KY:=[m_ 23 3,q_ 24 144 [.c (.own 1048575 0 1 []),.t 23],m_ 6 24]
def tW:=[m_ 25 0,n_ 26 25,i_ 27 0]
def tX:=[b_ .lss 28 27 26]
def tY:=[x_ 29 25 27 1,l_ 30 29 1,m_ 8 30]
def tZ:List Bt:=[m_ 31 6,m_ 32 8,⟨some 33,.app 1 8 (.t 31) (.t 32),none⟩,m_ 6 33]
def uA:=[B_ .add 34 27 1,m_ 27 34]
def KO:IR:=(sr tX (.seq (.ite (.t 28) .skip (.exit 2)) (.seq (.block 3 (sr tY (.reg tZ))) (.reg uA))))
def uB:=[m_ 35 6,m_ 2 35]
def c126:Dp:=⟨1,36,[.t 2],sr KP (sr KQ (.seq (sr KR (Ju 0 KN)) (sr KY (.seq (sr tW (Ju 2 KO)) (rr uB)))))⟩
def K126 (D:Bh):Prop:=∀a0 r,g126 a0=some r→D 126 ⟨[.lst 1 (a0.map (eL 1 eI))],[]⟩ ⟨oI 0 r,[],[]⟩
theorem F126 (H144:K144 C):K126 (FO C c126):=by
 intro a0 r h0
 refine f0 (Ay 7 [(0,.lst 1 (a0.map (eL 1 eI))),(3,iV 0)] [] (Bc 3 (An (Sn rfl (o_ (Ay 2 [(0,.lst 1 (a0.map (eL 1 eI))),(3,iV 0),(9,.lst 1 (a0.map (eL 1 eI))),(10,iV (a0.length:Int)),(11,iV 0)] [] (Cg (bb h0 fun r25 e26 h0=>Cz (R:=(fun S=>∃p15:Int,p15=r25∧S=⟨[(0,.lst 1 (a0.map (eL 1 eI))),(3,iV p15)],[],[]⟩)) (Ll a0) (fun s S=>match s with | (p6,p7)=>S=⟨[(0,.lst 1 (a0.map (eL 1 eI))),(3,iV p6),(9,.lst 1 (a0.map (eL 1 eI))),(10,iV (a0.length:Int)),(11,iV p7)],[],[]⟩) e26 _ (Ez (by kernel_rfl)) rfl 0 (fun _=>rfl) ?_ ?_))))))))
 ·rintro S _ hfg ⟨p15,rfl,rfl⟩
  refine Dn _ hfg (Bj (An (st (Bw rfl tv (bb h0 fun r27 e28 h0=>gW [] [] [1048575] (H144 ([]:List Int) p15 r27 e28) (Bi (af rfl) rfl) (o_ (Ay 2 [(0,.lst 1 (a0.map (eL 1 eI))),(6,oI 1536 r27)] [] (Bc 3 (An (Sn rfl (o_ (Ay 2 [(6,oI 1536 r27),(25,.lst 1 (a0.map (eL 1 eI))),(26,iV (a0.length:Int)),(27,iV 0)] [] (Cg (bb h0 fun r46 e47 h0=>Cz (R:=(fun S=>∃p41:List Int,p41=r46∧S=⟨[(6,oI 1536 p41)],[],[]⟩)) (Lm a0) (fun s S=>match s with | (p33,p34)=>S=⟨[(6,oI 1536 p33),(25,.lst 1 (a0.map (eL 1 eI))),(26,iV (a0.length:Int)),(27,iV p34)],[],[]⟩) e47 _ (Ez (by kernel_rfl)) rfl 2 (fun _=>rfl) ?_ ?_))))))))))))))
  ·rintro S _ hfg ⟨p41,rfl,rfl⟩
   refine Dn _ hfg ?_
   obtain rfl:=sj h0
   exact Dd 5
  ·rintro ⟨p33,p34⟩ o1 _ K1 rfl h1 hx1 hK1 hE1 hR1
   refine Ay 3 [(6,oI 1536 p33),(25,.lst 1 (a0.map (eL 1 eI))),(26,iV (a0.length:Int)),(27,iV p34),(28,.bool (decide (p34<(a0.length:Int))))] [] (Bj (Ct h1 (fun c42 h1=>?_) (fun c42 h1=>?_)))
   ·refine Mx 5 (An (bb h1 fun y43 e44 h1=>Vv rfl rfl e44 (o_ (Ay 3 [(6,oI 1536 p33),(8,lI y43),(25,.lst 1 (a0.map (eL 1 eI))),(26,iV (a0.length:Int)),(27,iV p34)] [] (Bc 2 (An (gg h1 fun c45 h1=>st (Ja (e:=eI) (l0:=p33) (l1:=y43) rfl rfl tv rfl (by decide) c45 (o_ (Ay 3 [(6,oI 1536 (p33++y43)),(25,.lst 1 (a0.map (eL 1 eI))),(26,iV (a0.length:Int)),(27,iV p34)] [] (Bc 3 ?_)))))))))))
    obtain rfl:=sj h1
    exact kn hK1 rfl rfl
   ·obtain rfl:=sj h1
    obtain rfl:=hx1 _ rfl
    refine Jv rfl ?_
    exact jn hE1 ⟨_,rfl,rfl⟩
 ·rintro ⟨p6,p7⟩ o1 _ K1 rfl h1 hx1 hK1 hE1 hR1
  refine Ay 3 [(0,.lst 1 (a0.map (eL 1 eI))),(3,iV p6),(9,.lst 1 (a0.map (eL 1 eI))),(10,iV (a0.length:Int)),(11,iV p7),(12,.bool (decide (p7<(a0.length:Int))))] [] (Bj (Ct h1 (fun c16 h1=>?_) (fun c16 h1=>?_)))
  ·refine Mx 3 (Hs (fun S=>∃p20:Int,S=⟨[(0,.lst 1 (a0.map (eL 1 eI))),(3,iV p20),(9,.lst 1 (a0.map (eL 1 eI))),(10,iV (a0.length:Int)),(11,iV p7)],[],[]⟩∧Xn p7 p20=some o1) ?_ (fun J21=>?_))
   ·rintro _ ⟨p20,rfl,h1⟩
    refine Bc 4 ?_
    obtain rfl:=sj h1
    exact kn hK1 rfl rfl
   ·refine Bj ?_
    refine An (bb h1 fun y22 e23 h1=>Vv rfl rfl e23 (o_ (Ay 3 [(0,.lst 1 (a0.map (eL 1 eI))),(3,iV p6),(5,lI y22),(9,.lst 1 (a0.map (eL 1 eI))),(10,iV (a0.length:Int)),(11,iV p7)] [] (Bc 3 (An (Sn rfl (o_ (Ay 8 [(0,.lst 1 (a0.map (eL 1 eI))),(3,iV (wi (p6+(y22.length:Int)))),(9,.lst 1 (a0.map (eL 1 eI))),(10,iV (a0.length:Int)),(11,iV p7),(20,.bool (decide ((wi (p6+(y22.length:Int)))<0)))] [] (Ct h1 (fun c24 h1=>?_) (fun c24 h1=>?_))))))))))
    ·refine An ?_
     cases h1
    ·refine Jf (Rd ?_)
     exact jn J21 ⟨_,rfl,h1⟩
  ·obtain rfl:=sj h1
   obtain rfl:=hx1 _ rfl
   refine Jv rfl ?_
   exact jn hE1 ⟨_,rfl,rfl⟩

/- slices.IndexFunc[[]int,int] -/
def LA:=[i_ 4 0]
def LC:=[m_ 6 0,n_ 7 6,i_ 8 0]
def LD:=[b_ .lss 9 8 7]
def LE:=[m_ 10 8,m_ 5 10]
def LF:List Bt:=[m_ 11 1,m_ 12 0,m_ 13 5,x_ 14 12 13 1,l_ 15 14 1,⟨some 16,.callv (.t 11) [.t 15],none⟩]
def LG:=[m_ 17 5,m_ 4 17]
def LH:=[B_ .add 18 8 1,m_ 8 18]
def KZ:IR:=(sr LD (.seq (.ite (.t 9) .skip (.exit 0)) (.seq (.block 1 (sr LE (sr LF (iz 16 (rr LG))))) (.reg LH))))
def LI:=[i_ 4 (-1)]
def c127:Dp:=⟨2,19,[.t 4],sr LA (.seq (sr LC (Ju 0 KZ)) (rr LI))⟩
def EJ (C:Bh) (D:Bh:=C):Prop:=∀(a0:List Int) (f1:Nat) (k1:List V) (is1:Int→Option Bool) (hs1:Iu k1) (hf1:∀(x0:Int) r,is1 x0=some r→C f1 ⟨iV x0::k1,[]⟩ ⟨.bool r,[],[]⟩) (r:Int),g127 a0 is1=some r→D 127 ⟨[lI a0,.clo f1 k1],[]⟩ ⟨iV r,[],[]⟩
theorem F127:EJ C (FO C c127):=by
 intro a0 f1 k1 is1 hs1 hf1 r h0
 refine f0 (Ay 3 [(0,lI a0),(1,.clo f1 k1)] [] (Bc 3 (An (Sn rfl (o_ (Ay 2 [(0,lI a0),(1,.clo f1 k1),(7,iV (a0.length:Int)),(8,iV 0)] [] (Cg (bb h0 fun r21 e22 h0=>Cz (R:=(fun S=>.inl ()=r21∧S=⟨[],[],[]⟩)) (nX a0 is1) (fun s S=>match s with | p7=>S=⟨[(0,lI a0),(1,.clo f1 k1),(7,iV (a0.length:Int)),(8,iV p7)],[],[]⟩) e22 _ (Ez (by kernel_rfl)) rfl 0 (fun _=>rfl) ?_ ?_))))))))
 ·rintro S _ hfg ⟨rfl,rfl⟩
  refine Dn _ hfg ?_
  obtain rfl:=sj h0
  exact Dd 4
 ·rintro p7 o1 _ K1 rfl h1 hx1 hK1 hE1 hR1
  refine Ay 3 [(0,lI a0),(1,.clo f1 k1),(7,iV (a0.length:Int)),(8,iV p7),(9,.bool (decide (p7<(a0.length:Int))))] [] (Bj (Ct h1 (fun c15 h1=>?_) (fun c15 h1=>?_)))
  ·refine Ay 8 [(0,lI a0),(1,.clo f1 k1),(5,iV p7),(7,iV (a0.length:Int)),(8,iV p7)] [] (Bc 4 (An (bb h1 fun y16 e17 h1=>Vv rfl rfl e17 (st (c_ (Bb ⟨tv,tv⟩ rfl (nl rfl)) (bb h1 fun r18 e19 h1=>st (Gy (r:=.bool r18) rfl false (hf1 _ r18 e19) ⟨tv,tv⟩ (Bi rfl hs1.2.2.1) (Av rfl (hs1.2.1 _ _ _ _ _)) (fun _=>rfl) (o_ (Ay 1 [(0,lI a0),(1,.clo f1 k1),(5,iV p7),(7,iV (a0.length:Int)),(8,iV p7),(16,.bool r18)] [] (Ct h1 (fun EC h1=>?_) (fun EC h1=>?_)))))))))))
   ·obtain rfl:=sj h1
    obtain rfl:=hx1 _ rfl
    obtain rfl:=sj h0
    exact rX 5 hR1
   ·refine Bc 6 ?_
    obtain rfl:=sj h1
    exact kn hK1 rfl rfl
  ·obtain rfl:=sj h1
   obtain rfl:=hx1 _ rfl
   refine Jv rfl ?_
   exact jn hE1 ⟨rfl,rfl⟩

/- (loop.example/g00149/impl.Vault).stray$1 -/
def LJ:=[k_ 3 (.bool false)]
def LK:=[l_ 4 1 1,m_ 5 0,iQ 6 (.mget (.t 4) (.t 5)),N_ 7 6,m_ 3 7]
def c128:Dp:=⟨2,8,[.t 3],sr LJ (rr LK)⟩
def K128 (D:Bh):Prop:=∀a0 a1 r,AD a0 a1=some r→D 128 ⟨[iV a0,.iptr [.lst 0 (fO a1)]],[]⟩ ⟨.bool r,[],[]⟩
theorem F128:K128 (FO C c128):=by
 intro a0 a1 r h0
 refine f0 (Ay 3 [(0,iV a0),(1,.iptr [.lst 0 (fO a1)])] [] (Bc 3 (An (st (c_ (cmgetL rfl rfl) (o_ ?_))))))
 obtain rfl:=sj h0
 exact Dd 4

/- (loop.example/g00149/impl.Vault).stray -/
def c96_r0:=[X_ 1 0,i_ 2 0,k_ 3 (.bool false)]
def c96_r1:List Bt:=[⟨some 8,.mkM,none⟩,a_ 4 [.undef],s_ 4 8 1]
def c96_r2:=tk [f_ 9 1 0,L_ 10 9 3,f_ 12 1 3,l_ 13 12 1,i_ 18 0] (.alt [i_ 18 0,l_ 13 12 1,f_ 12 1 3] (q_ 11 60 [.t 10]) (.alt [i_ 18 0] (q_ 14 95 [.t 13]) (.alt [i_ 18 0] ⟨some 15,.mkS 1 [.lst 1 []] 2 [(0,.t 11),(1,.t 14)],none⟩ (.alt [i_ 18 0] (q_ 16 126 [.t 15]) (tk [n_ 17 16] .fin) .stop) .stop) .stop) .stop)
def c96_r3:=[b_ .lss 19 18 17]
def c96_r4:=[x_ 20 16 18 1,l_ 21 20 1,m_ 6 21]
def c96_r5:List Bt:=[l_ 22 4 1,m_ 23 6,⟨none,.mset (.t 22) (.t 23) (.c (.bool true)),none⟩]
def c96_r6:=[B_ .add 24 18 1,m_ 18 24]
def c96_l0:IR:=(sr c96_r3 (.seq (.ite (.t 19) .skip (.exit 0)) (.seq (.block 1 (sr c96_r4 (.reg c96_r5))) (.reg c96_r6))))
def c96_r7:=[f_ 25 1 4,l_ 26 25 1,iQ 27 (.fn 128 [.t 4]),q_ 28 127 [.t 26,.t 27],m_ 7 28]
def c96_r8:=[m_ 29 7,B_ .lss 30 29 0]
def c96_r9:=[i_ 2 0,k_ 3 (.bool false)]
def Aay:=[f_ 31 1 4,l_ 32 31 1,m_ 33 7,x_ 34 32 33 1,l_ 35 34 1,m_ 2 35,k_ 3 (.bool true)]
def c96:Dp:=⟨1,36,[.t 2,.t 3],sr c96_r0 (sr c96_r1 (.seq (sd c96_r2 (Ju 0 c96_l0)) (sr c96_r7 (.seq (sr c96_r8 (iz 30 (rr c96_r9))) (rr Aay)))))⟩
def K96 (D:Bh):Prop:=∀a0 r,g96 a0=some r→D 96 ⟨[.agg (Be a0)],[]⟩ ⟨.tup [iV r.1,.bool r.2],[],[]⟩
abbrev dH:=fun (r:List (Nat×V))=>(1,.ptr 64 0)::(4,.ptr 256 0)::r
theorem F96 (H60:K60 C) (H95:K95 C) (H126:K126 C) (H127:EJ C) (H128:K128 C):K96 (FO C c96):=by
 intro a0 r h0
 refine f0 (Ay 5 [(1,.ptr 64 0)] [(64,Be a0)] (Bj (An (st (mkM_ (o_ (Ay 3 (dH []) [(64,Be a0),(256,[.own 512 0 0 (fO ([]:List (Int×Bool)))])] (Bj (Bj (bb h0 fun r1 e2 h0=>bb h0 fun r3 e4 h0=>bb h0 fun r5 e6 h0=>Bc 5 (Bl (Xg (H60 a0.Ad r1 e2) (af rfl) (dw [(1,.ptr 64 0),(4,.ptr 256 0),(11,oI 704 r1),(12,.ptr 64 3),(13,Cp a0.Ab),(18,iV 0)] [(64,Be a0),(256,[.own 512 0 0 (fO ([]:List (Int×Bool)))])] hB (Xg (H95 a0.Ab r3 e4) (af rfl) (dw [(1,.ptr 64 0),(4,.ptr 256 0),(11,oI 704 r1),(14,oI 896 r3),(18,iV 0)] [(64,Be a0),(256,[.own 512 0 0 (fO ([]:List (Int×Bool)))])] hB (Bu (Wy ⟨tv,tv,tv⟩ ⟨⟨nl rfl,rfl,rfl⟩,⟨nl rfl,rfl,rfl⟩,tv⟩ (d0 hB (Xg (H126 ([r1,r3]:List (List Int)) r5 e6) (af rfl) (dw [(1,.ptr 64 0),(4,.ptr 256 0),(16,oI 1024 r5),(18,iV 0)] [(64,Be a0),(256,[.own 512 0 0 (fO ([]:List (Int×Bool)))])] hB (Ag tv (c_ (cP (e:=eI) (l0:=r5) rfl rfl tv) (⟨tv,d_ (Ay 1 (dH [(16,oI 1024 r5),(17,iV (r5.length:Int)),(18,iV 0)]) [(64,Be a0),(256,[.own 512 0 0 (fO ([]:List (Int×Bool)))])] (Cg (bb h0 fun r27 e28 h0=>Cz (R:=(fun S=>∃p21:List (Int×Bool),p21=r27∧S=⟨dH [],[(64,Be a0),(256,[.own 512 0 0 (fO p21)])],[]⟩)) (Vn r5) (fun s S=>match s with | (p12,p13)=>S=⟨dH [(16,oI 1024 r5),(17,iV (r5.length:Int)),(18,iV p12)],[(64,Be a0),(256,[.own 512 0 0 (fO p13)])],[]⟩) e28 _ (Ez (by kernel_rfl)) rfl 0 (fun _=>rfl) ?_ ?_)))⟩)))) Au))) Au)) Au)) Au))))))))))))
 ·rintro S _ hfg ⟨p21,rfl,rfl⟩
  refine Dn _ hfg (Bc 4 (An (bb h0 fun r29 e30 h0=>st (Dj (r:=iV r29) false (H127 a0.Ai 128 [.iptr [.lst 0 (fO p21)]] (fun z128_0=>AD z128_0 p21) (⟨fun _ _ _ _ _=>rfl,fun _ _ _ _ _=>rfl,rfl,fun _ _ _ n=>by cases n<;>rfl,fun _=>rfl⟩) (fun z128_0 r h=>H128 z128_0 p21 r h) r29 e30) ⟨tv,tv,tv⟩ rfl rfl (fun _=>rfl) (o_ (Ay 8 [(1,.ptr 64 0),(7,iV r29),(30,.bool (decide (r29<0)))] [(64,Be a0)] (Ct h0 (fun c31 h0=>?_) (fun c31 h0=>?_))))))))
  ·obtain rfl:=sj h0
   exact Dd 5
  ·refine Bc 6 (An (bb h0 fun y32 e33 h0=>Vv rfl rfl e33 (o_ ?_)))
   obtain rfl:=sj h0
   exact Dd 5
 ·rintro ⟨p12,p13⟩ o1 _ K1 rfl h1 hx1 hK1 hE1 hR1
  refine Ay 3 (dH [(16,oI 1024 r5),(17,iV (r5.length:Int)),(18,iV p12),(19,.bool (decide (p12<(r5.length:Int))))]) [(64,Be a0),(256,[.own 512 0 0 (fO p13)])] (Bj (Ct h1 (fun c22 h1=>?_) (fun c22 h1=>?_)))
  ·refine Mx 5 (An (bb h1 fun y23 e24 h1=>kA rfl rfl e24 (bb h1 fun y25 e26 h1=>lo_ rfl rfl e26 (o_ (Ay 2 (dH [(6,iV y25),(16,oI 1024 r5),(17,iV (r5.length:Int)),(18,iV p12)]) [(64,Be a0),(256,[.own 512 0 0 (fO p13)])] (Bc 2 (An (st (mset_ rfl rfl rfl (Hj (Rd (Dn ⟨[(1,.ptr 64 0),(4,.ptr 256 0),(16,oI 1024 r5),(17,iV (r5.length:Int)),(18,iV p12)],[(64,Be a0),(256,[.own 512 0 0 (fO (Rm p13 y25 true))])],[]⟩ (fg ⟨rfl,rfl,rfl,rfl,rfl,tv⟩ ⟨rfl,congrArg (fun z=>some (([.own 512 0 0 z]:List V))) BP,tv⟩) (Bc 3 ?_)))))))))))))
   obtain rfl:=sj h1
   exact kn hK1 rfl rfl
  ·obtain rfl:=sj h1
   obtain rfl:=hx1 _ rfl
   refine Jv rfl ?_
   exact jn hE1 ⟨_,rfl,rfl⟩

/- slices.ContainsFunc[[]int,int] -/
def LL:=[k_ 4 (.bool false)]
def LN:=[m_ 5 0,m_ 6 1,q_ 7 127 [.t 5,.t 6],B_ .geq 8 7 0,m_ 4 8]
def c129:Dp:=⟨2,9,[.t 4],sr LL (rr LN)⟩
def K129 (C:Bh) (D:Bh:=C):Prop:=∀(a0:List Int) (f1:Nat) (k1:List V) (is1:Int→Option Bool) (hs1:Iu k1) (hf1:∀(x0:Int) r,is1 x0=some r→C f1 ⟨iV x0::k1,[]⟩ ⟨.bool r,[],[]⟩) (r:Bool),g129 a0 is1=some r→D 129 ⟨[lI a0,.clo f1 k1],[]⟩ ⟨.bool r,[],[]⟩
theorem F129 (H127:EJ C):K129 C (FO C c129):=by
 intro a0 f1 k1 is1 hs1 hf1 r h0
 refine f0 (Ay 3 [(0,lI a0),(1,.clo f1 k1)] [] (Bc 3 (An (bb h0 fun r1 e2 h0=>st (Dj (r:=iV r1) false (H127 a0 f1 k1 is1 hs1 hf1 r1 e2) ⟨tv,tv,tv⟩ rfl (Av rfl (Av (Eo hs1) rfl)) (fun _=>rfl) (o_ ?_))))))
 obtain rfl:=sj h0
 exact Dd 4

/- loop.example/g00149/impl.areAll[int]$1 -/
def LO:=[k_ 3 (.bool false)]
def LP:List Bt:=[l_ 4 1 1,m_ 5 0,⟨some 6,.callv (.t 4) [.t 5],none⟩,N_ 7 6,m_ 3 7]
def c130:Dp:=⟨2,8,[.t 3],sr LO (rr LP)⟩
def K130 (C:Bh) (D:Bh:=C):Prop:=∀(a0:Int) (f1:Nat) (k1:List V) (is1:Int→Option Bool) (hs1:Iu k1) (hf1:∀(x0:Int) r,is1 x0=some r→C f1 ⟨iV x0::k1,[]⟩ ⟨.bool r,[],[]⟩) (r:Bool),g130 a0 is1=some r→D 130 ⟨[iV a0,.iptr [.clo f1 k1]],[]⟩ ⟨.bool r,[],[]⟩
theorem F130:K130 C (FO C c130):=by
 intro a0 f1 k1 is1 hs1 hf1 r h0
 refine f0 (Ay 3 [(0,iV a0),(1,.iptr [.clo f1 k1])] [] (Bc 3 (An (bb h0 fun r1 e2 h0=>st (Gy (r:=.bool r1) rfl false (hf1 _ r1 e2) ⟨tv,tv⟩ (Bi rfl hs1.2.2.1) (Av rfl (hs1.2.1 _ _ _ _ _)) (fun _=>rfl) (o_ ?_))))))
 obtain rfl:=sj h0
 exact Dd 4

/- loop.example/g00149/impl.areAll[int] -/
def c97_r0:=[X_ 3 1,k_ 4 (.bool false)]
def c97_r1:=[m_ 5 0,iQ 6 (.fn 130 [.t 3]),q_ 7 129 [.t 5,.t 6],N_ 8 7,m_ 4 8]
def c97:Dp:=⟨2,9,[.t 4],sr c97_r0 (rr c97_r1)⟩
def K97 (C:Bh) (D:Bh:=C):Prop:=∀(a0:List Int) (f1:Nat) (k1:List V) (is1:Int→Option Bool) (hs1:Iu k1) (hf1:∀(x0:Int) r,is1 x0=some r→C f1 ⟨iV x0::k1,[]⟩ ⟨.bool r,[],[]⟩) (r:Bool),g97 a0 is1=some r→D 97 ⟨[lI a0,.clo f1 k1],[]⟩ ⟨.bool r,[],[]⟩
theorem F97 (H129:K129 C) (H130:K130 C):K97 C (FO C c97):=by
 intro a0 f1 k1 is1 hs1 hf1 r h0
 refine f0 (Bj (An (st (box_ (iD hs1) tv rfl (o_ (Ay 2 [(0,lI a0),(3,.ptr 192 0)] [(192,[.clo f1 k1])] (Bc 3 (An (bb h0 fun r1 e2 h0=>st (Dj (r:=.bool r1) false (H129 a0 130 [.iptr [.clo f1 k1]] (fun z130_0=>g130 z130_0 is1) (⟨fun _ _ _ _ _=>rfl,fun _ _ _ _ _=>rfl,rfl,fun _ _ _ n=>by cases n<;>rfl,fun _=>rfl⟩) (fun z130_0 r h=>H130 z130_0 f1 k1 is1 hs1 hf1 r h) r1 e2) ⟨tv,tv,tv⟩ rfl (Av rfl (Av (congrArg (fun z=>V.clo 130 [.iptr [.clo f1 z]]) (hs1.2.2.2.1 _ _ _ _)) rfl)) (fun _=>rfl) (o_ ?_)))))))))))
 obtain rfl:=sj h0
 exact Dd 4

/- slices.BinarySearchFunc[[]loop.example/g00149/impl.Lease,loop.example/g00149/impl.Lease,int] -/
def HV:=[i_ 6 0,k_ 7 (.bool false)]
def HW:=[m_ 12 0,n_ 13 12,m_ 8 13]
def HX:=[m_ 14 8,i_ 9 0,m_ 10 14]
def HY:=[m_ 15 9,m_ 16 10,b_ .lss 17 15 16]
def HZ:List Bt:=[m_ 18 9,m_ 19 10,b_ .add 20 18 19,iQ 21 (.conv .u64 (.t 20)),⟨some 22,.p (.bin .shr (.t 21) (.c (.int .u64 1))),none⟩,iQ 23 (.conv .i64 (.t 22)),m_ 11 23]
def IA:List Bt:=[m_ 24 2,m_ 25 0,m_ 26 11,x_ 27 25 26 4,L_ 28 27 4,m_ 29 1,⟨some 30,.callv (.t 24) [.t 28,.t 29],none⟩,B_ .lss 31 30 0]
def IB:=[m_ 32 11,B_ .add 33 32 1,m_ 9 33]
def IC:=[m_ 34 11,m_ 10 34]
def HU:IR:=(.seq (sr HY (.ite (.t 17) .skip (.exit 0))) (.block 1 (sr HZ (sr IA (.ite (.t 31) (.reg IB) (.reg IC))))))
def ID:List Bt:=[m_ 35 9,m_ 36 9,m_ 37 8,b_ .lss 38 36 37,m_ 39 38,mT 39 40 2,mT 39 41 0,mT 39 42 9,xT 39 43 41 42 4,lT 39 44 43 4 true,mT 39 45 1,⟨some 46,.callv (.t 40) [.t 44,.t 45],some (39,true)⟩,pT 39 47 (.bin .eql (.t 46) (.c (iV 0))),pa 48 39 47,m_ 6 35,m_ 7 48]
def c113:Dp:=⟨3,49,[.t 6,.t 7],sr HV (sr HW (sr HX (.seq (Ju 0 HU) (rr ID))))⟩
def K113 (C:Bh) (D:Bh:=C):Prop:=∀(a0:List Aa) (a1:Int) (f2:Nat) (k2:List V) (is2:Aa→Int→Option Int) (hs2:Iu k2) (hf2:∀(x0:Aa) (x1:Int) r,is2 x0 x1=some r→C f2 ⟨.agg (Ac x0)::iV x1::k2,[]⟩ ⟨iV r,[],[]⟩) (r:Int×Bool),g113 a0 a1 is2=some r→D 113 ⟨[Ck a0,iV a1,.clo f2 k2],[]⟩ ⟨.tup [iV r.1,.bool r.2],[],[]⟩
abbrev Sj:=fun x0 x1 x2 x3 (r:List (Nat×V))=>(0,Ck x0)::(1,iV x1)::(2,.clo x2 x3)::r
theorem F113:K113 C (FO C c113):=by
 intro a0 a1 f2 k2 is2 hs2 hf2 r h0
 refine f0 (Ay 4 (Sj a0 a1 f2 k2 []) [] (Bj (An (st (Bw rfl tv (Sn rfl (o_ (Ay 8 (Sj a0 a1 f2 k2 [(8,iV (a0.length:Int)),(9,iV 0),(10,iV (a0.length:Int))]) [] (Bj (Cg (bb h0 fun r30 e31 h0=>Cz (R:=(fun S=>∃p21:Int,p21=r30∧S=⟨Sj a0 a1 f2 k2 [(8,iV (a0.length:Int)),(9,iV p21)],[],[]⟩)) (Xl a0 a1 is2) (fun s S=>match s with | (p9,p10)=>S=⟨Sj a0 a1 f2 k2 [(8,iV (a0.length:Int)),(9,iV p9),(10,iV p10)],[],[]⟩) e31 _ (Ez (by kernel_rfl)) rfl 0 (fun _=>rfl) ?_ ?_)))))))))))
 ·rintro S _ hfg ⟨p21,rfl,rfl⟩
  refine Dn ⟨Sj a0 a1 f2 k2 [(8,iV (a0.length:Int)),(9,iV p21)],[],[]⟩ (rW hfg ⟨rfl,rfl,rfl,rfl,rfl,tv⟩ tv) (cX 9 (An (bb h0 fun y32 e33 h0=>st (Ce (u:=.iptr (Ac y32)) rfl (fun hg=>(Zd (e:=Ac) (y:=y32) rfl rfl (fun _=>hg) rfl rfl (fun _=>hg) (ip hg e33))) (o_ (cX 2 (An (bb h0 fun r34 e35 h0=>st (Ii (r:=iV r34) rfl rfl rfl (fun hg=>hg) false (fun hg=>hf2 _ _ r34 (ip hg e35)) ⟨(fun hg=>hg),(fun hg=>hg),tv⟩ (fun _=>(ar (Bi rfl hs2.2.2.1))) (fun _=>(Av rfl (Av rfl (hs2.2.1 _ _ _ _ _)))) (fun _=>rfl) (fun h=>nomatch h) (o_ (cX 2 (An (o_ ?_)))))))))))))
  obtain rfl:=sj h0
  exact Dd 4
 ·rintro ⟨p9,p10⟩ o1 _ K1 rfl h1 hx1 hK1 hE1 hR1
  refine Ay 6 (Sj a0 a1 f2 k2 [(8,iV (a0.length:Int)),(9,iV p9),(10,iV p10),(17,.bool (decide (p9<p10)))]) [] (Ct h1 (fun c22 h1=>?_) (fun c22 h1=>?_))
  ·refine Bc 8 (An (st (c_ (Bb ⟨tv,tv,tv⟩ rfl (by decide)) (o_ (Bc 3 (bv h1 fun v23 e24 h1=>Dn ⟨[(0,Ck a0),(1,iV a1),(2,.clo f2 k2),(8,iV (a0.length:Int)),(9,iV p9),(10,iV p10),(11,iV v23)],[],[]⟩ (fg ⟨(by subst e24; rfl),(by subst e24; rfl),(by subst e24; rfl),(by subst e24; rfl),(by subst e24; rfl),(by subst e24; rfl),(by subst e24; rfl),tv⟩ tv) (Bc 4 (An (bb h1 fun y25 e26 h1=>Vv rfl rfl e26 (o_ (Bc 2 (An (bb h1 fun r27 e28 h1=>st (Gy (r:=iV r27) rfl false (hf2 _ _ r27 e28) ⟨tv,tv,tv⟩ (ar (Bi rfl hs2.2.2.1)) (Av rfl (Av rfl (hs2.2.1 _ _ _ _ _))) (fun _=>rfl) (o_ (Ay 2 (Sj a0 a1 f2 k2 [(8,iV (a0.length:Int)),(9,iV p9),(10,iV p10),(11,iV v23),(31,.bool (decide (r27<0)))]) [] (Ct h1 (fun c29 h1=>?_) (fun c29 h1=>?_))))))))))))))))))
   ·refine Bc 5 ?_
    obtain rfl:=sj h1
    exact kn hK1 rfl rfl
   ·refine Bc 4 ?_
    obtain rfl:=sj h1
    exact kn hK1 rfl rfl
  ·obtain rfl:=sj h1
   obtain rfl:=hx1 _ rfl
   refine Jv rfl ?_
   exact jn hE1 ⟨_,rfl,rfl⟩

/- cmp.isNaN[int] -/
def NI:=[k_ 2 (.bool false)]
def NJ:=[m_ 3 0,m_ 4 0,b_ .neq 5 3 4,m_ 2 5]
def c136:Dp:=⟨1,6,[.t 2],sr NI (rr NJ)⟩
def EK (D:Bh):Prop:=∀a0 r,iI a0=some r→D 136 ⟨[iV a0],[]⟩ ⟨.bool r,[],[]⟩
theorem F136:EK (FO C c136):=by
 intro a0 r h0
 refine f0 (?_)
 obtain rfl:=sj h0
 exact Dd 11

/- cmp.Compare[int] -/
def HE:=[i_ 4 0]
def HF:=[m_ 7 0,q_ 8 136 [.t 7],m_ 5 8]
def HG:=[m_ 9 1,q_ 10 136 [.t 9],m_ 6 10]
def HH:=[m_ 11 5]
def HI:=[m_ 12 6]
def HJ:=[i_ 4 0]
def HK:=[i_ 4 (-1)]
def HL:=[m_ 13 6]
def HM:=[i_ 4 1]
def HN:=[m_ 14 0,m_ 15 1,b_ .lss 16 14 15]
def tH:=[i_ 4 (-1)]
def tI:=[m_ 17 0,m_ 18 1,b_ .gtr 19 17 18]
def tJ:=[i_ 4 1]
def tK:=[i_ 4 0]
def c110:Dp:=⟨2,20,[.t 4],sr HE (sr HF (sr HG (.seq (sr HH (iz 11 (.seq (sr HI (iz 12 (rr HJ))) (rr HK)))) (.seq (sr HL (iz 13 (rr HM))) (.seq (sr HN (iz 16 (rr tH))) (.seq (sr tI (iz 19 (rr tJ))) (rr tK)))))))⟩
def EH (D:Bh):Prop:=∀a0 a1 r,qF a0 a1=some r→D 110 ⟨[iV a0,iV a1],[]⟩ ⟨iV r,[],[]⟩
theorem F110 (H136:EK C):EH (FO C c110):=by
 intro a0 a1 r h0
 refine f0 (Ay 3 [(0,iV a0),(1,iV a1)] [] (Bj (An (st (Bw rfl tv (bb h0 fun r1 e2 h0=>Vf (H136 a0 r1 e2) (o_ (Ay 2 [(0,iV a0),(1,iV a1),(5,.bool r1)] [] (Bj (An (st (Bw rfl tv (bb h0 fun r3 e4 h0=>Vf (H136 a1 r3 e4) (o_ (Ay 7 [(0,iV a0),(1,iV a1),(6,.bool r3),(11,.bool r1)] [] (Ct h0 (fun c5 h0=>?_) (fun c5 h0=>?_)))))))))))))))))
 ·refine Ay 4 [(12,.bool r3)] [] (Ct h0 (fun c6 h0=>?_) (fun c6 h0=>?_))
  ·obtain rfl:=sj h0
   exact Dd 4
  ·obtain rfl:=sj h0
   exact Dd 6
 ·refine Ay 6 [(0,iV a0),(1,iV a1),(13,.bool r3)] [] (Ct h0 (fun c7 h0=>?_) (fun c7 h0=>?_))
  ·obtain rfl:=sj h0
   exact Dd 4
  ·refine Ay 8 [(0,iV a0),(1,iV a1),(16,.bool (decide (a0<a1)))] [] (Ct h0 (fun c8 h0=>?_) (fun c8 h0=>?_))
   ·obtain rfl:=sj h0
    exact Dd 4
   ·refine Ay 8 [(19,.bool (decide (a0>a1)))] [] (Ct h0 (fun c9 h0=>?_) (fun c9 h0=>?_))
    ·obtain rfl:=sj h0
     exact Dd 4
    ·obtain rfl:=sj h0
     exact Dd 6

/- (loop.example/g00149/impl.Table).find$1 -/
def IE:=[X_ 2 0,i_ 4 0]
def IF:=[f_ 5 2 0,l_ 6 5 1,m_ 7 1,q_ 8 110 [.t 6,.t 7],m_ 4 8]
def c114:Dp:=⟨2,9,[.t 4],sr IE (rr IF)⟩
def K114 (D:Bh):Prop:=∀a0 a1 r,qG a0 a1=some r→D 114 ⟨[.agg (Ac a0),iV a1],[]⟩ ⟨iV r,[],[]⟩
theorem F114 (H110:EH C):K114 (FO C c114):=by
 intro a0 a1 r h0
 refine f0 (Ay 4 [(1,iV a1),(2,.ptr 128 0)] [(128,Ac a0)] (Bc 4 (An (bb h0 fun r1 e2 h0=>Vf (H110 a0.id a1 r1 e2) (o_ ?_)))))
 obtain rfl:=sj h0
 exact Dd 3

/- (loop.example/g00149/impl.Table).find -/
def c77_r0:=[X_ 2 0,i_ 4 0,k_ 5 (.bool false)]
def c77_r1:=[f_ 6 2 2,l_ 7 6 1,m_ 8 1,q_ 9 113 [.t 7,.t 8,.c (.clo 114 [])],e_ 10 9 0,e_ 11 9 1,m_ 4 10,m_ 5 11]
def c77:Dp:=⟨2,12,[.t 4,.t 5],sr c77_r0 (rr c77_r1)⟩
def K77 (D:Bh):Prop:=∀a0 a1 r,ED a0 a1=some r→D 77 ⟨[.agg (Bd a0),iV a1],[]⟩ ⟨.tup [iV r.1,.bool r.2],[],[]⟩
theorem F77 (H113:K113 C) (H114:K114 C):K77 (FO C c77):=by
 intro a0 a1 r h0
 refine f0 (Ay 5 [(1,iV a1),(2,.ptr 128 0)] [(128,Bd a0)] (Bc 4 (An (bb h0 fun r1 e2 h0=>st (Dj (r:=.tup [iV r1.1,.bool r1.2]) false (H113 a0.Ae a1 114 [] (fun z114_0 z114_1=>qG z114_0 z114_1) (⟨fun _ _ _ _ _=>rfl,fun _ _ _ _ _=>rfl,rfl,fun _ _ _ n=>by cases n<;>rfl,fun _=>rfl⟩) (fun z114_0 z114_1 r h=>H114 z114_0 z114_1 r h) r1 e2) ⟨tv,tv,tv,tv⟩ rfl rfl (fun _=>rfl) (o_ ?_))))))
 obtain rfl:=sj h0
 exact Dd 6

/- loop.example/g00149/impl.VaultOK$1 -/
def c98_r0:=[k_ 3 (.bool false)]
def c98_r1:=[f_ 7 1 0,L_ 8 7 3,m_ 9 0,q_ 10 77 [.t 8,.t 9],m_ 6 10,e_ 11 6 0,e_ 12 6 1,m_ 4 11,m_ 5 12]
def c98_r2:=[m_ 13 5,N_ 14 13,m_ 3 14]
def c98:Dp:=⟨2,15,[.t 3],sr c98_r0 (sr c98_r1 (rr c98_r2))⟩
def K98 (D:Bh):Prop:=∀a0 a1 r,g98 a0 a1=some r→D 98 ⟨[iV a0,.iptr (Be a1)],[]⟩ ⟨.bool r,[],[]⟩
theorem F98 (H77:K77 C):K98 (FO C c98):=by
 intro a0 a1 r h0
 refine f0 (Ay 3 [(0,iV a0),(1,.iptr (Be a1))] [] (Bc 4 (An (bb h0 fun r1 e2 h0=>Vf (H77 a1.Ad a0 r1 e2) (o_ ?_)))))
 obtain rfl:=sj h0
 exact Dd 13

/- loop.example/g00149/impl.VaultOK -/
def c48_r0:=[X_ 1 0,k_ 2 (.bool false)]
def c48_r1:=tk [f_ 5 1 0,L_ 6 5 3] (.alt [] (q_ 7 20 [.t 6]) (tk [N_ 8 7,m_ 9 8,fF 9 10 1 3,lF 9 11 10 1 false,pF 9 12 (.len (.t 11)),pF 9 13 (.bin .gtr (.t 12) (.c (iV 40))),po 14 9 13,m_ 15 14,fF 15 16 1 3,lF 15 17 16 1 false,fF 15 19 1 0,fF 15 20 19 1,lF 15 21 20 1 false,pF 15 22 (.bin .sub (.t 21) (.c (iV 1)))] (.alt [pF 15 22 (.bin .sub (.t 21) (.c (iV 1))),lF 15 21 20 1 false,fF 15 20 19 1,fF 15 19 1 0] ⟨some 18,.call 95 [.t 17],some (15,false)⟩ (.alt [] ⟨some 23,.call 59 [.t 18,.c (iV 1),.t 22],some (15,false)⟩ (tk [pF 15 24 (.un .not (.t 23)),po 25 15 24,m_ 26 25,fF 26 27 1 4,lF 26 28 27 1 false,pF 26 29 (.len (.t 28)),pF 26 30 (.bin .gtr (.t 29) (.c (iV 80))),po 31 26 30,m_ 32 31,fF 32 33 1 4,lF 32 34 33 1 false,fF 32 35 1 0,fF 32 36 35 1,lF 32 37 36 1 false,pF 32 38 (.bin .sub (.t 37) (.c (iV 1)))] (.alt [] ⟨some 39,.call 59 [.t 34,.c (iV 1),.t 38],some (32,false)⟩ (tk [pF 32 40 (.un .not (.t 39)),po 41 32 40] .fin) .stop)) .stop) .stop)) .stop)
def c48_r2:=[k_ 2 (.bool false)]
def c48_r3:=[L_ 43 1 6,q_ 44 96 [.t 43],m_ 42 44,e_ 45 42 0,e_ 46 42 1,m_ 3 45,m_ 4 46]
def c48_r4:List Bt:=[m_ 47 4,N_ 48 47,m_ 49 48,fT 49 50 1 3,lT 49 51 50 1 false,⟨some 52,.call 95 [.t 51],some (49,true)⟩,pT 49 53 (.fn 98 [.t 1]),⟨some 54,.call 97 [.t 52,.t 53],some (49,true)⟩,pa 55 49 54,m_ 2 55]
def c48:Dp:=⟨1,56,[.t 2],sr c48_r0 (.seq (sd c48_r1 (iz 41 (rr c48_r2))) (sr c48_r3 (rr c48_r4)))⟩
def K48 (D:Bh):Prop:=∀a0 r,g48 a0=some r→D 48 ⟨[.agg (Be a0)],[]⟩ ⟨.bool r,[],[]⟩
theorem F48 (H20:K20 C) (H59:K59 C) (H95:K95 C) (H96:K96 C) (H97:K97 C) (H98:K98 C):K48 (FO C c48):=by
 intro a0 r h0
 refine f0 (Ay 4 [(1,.ptr 64 0)] [(64,Be a0)] (Bj (Bj (bb h0 fun r1 e2 h0=>bb h0 fun r3 e4 h0=>bb h0 fun r5 e6 h0=>bb h0 fun r7 e8 h0=>Bc 2 (Bl (Xg (H20 a0.Ad r1 e2) rfl (dw [(1,.ptr 64 0),(7,.bool r1)] [(64,Be a0)] tv (d_ (Bc 2 (Bl (Ag tv (Ce (u:=.ptr 64 3) rfl (fun hg=>(Bb ⟨tv,tv⟩ rfl tv)) (⟨tv,Ag tv (Ce (u:=Cp a0.Ab) rfl (fun hg=>(Bb ⟨(fun _=>hg),tv⟩ rfl (nl rfl))) (⟨tv,Ag tv (Ce (u:=iV (a0.Ab.length:Int)) rfl (fun hg=>(cO (e:=Bx) (l0:=a0.Ab) rfl rfl (fun _=>hg))) (⟨tv,Ag tv (Ce (u:=.bool (decide ((a0.Ab.length:Int)>40))) rfl (fun hg=>(Bb ⟨(fun _=>hg),tv,tv⟩ rfl tv)) (⟨tv,Ag tv (Eh rfl rfl rfl tv (fun h=>eqf h) rfl (⟨tv,Ag tv (Bw rfl tv (⟨tv,Ag tv (Ce (u:=.ptr 64 3) rfl (fun hg=>(Bb ⟨tv,tv⟩ rfl tv)) (⟨tv,Ag tv (Ce (u:=Cp a0.Ab) rfl (fun hg=>(Bb ⟨(fun _=>hg),tv⟩ rfl (nl rfl))) (⟨tv,Ag tv (Ce (u:=.ptr 64 0) rfl (fun hg=>(Bb ⟨tv,tv⟩ rfl tv)) (⟨tv,Ag tv (Ce (u:=.ptr 64 1) rfl (fun hg=>(Bb ⟨(fun _=>hg),tv⟩ rfl tv)) (⟨tv,?_⟩))⟩))⟩))⟩))⟩))⟩))⟩))⟩))⟩))⟩))))))) Au))))))
 refine Ag tv (Ce (u:=iV a0.Ad.next) rfl (fun hg=>(Bb ⟨(fun _=>hg),tv⟩ rfl (nl rfl))) (⟨tv,Ag tv (Ce (u:=iV (wi (a0.Ad.next-1))) rfl (fun hg=>(Bb ⟨(fun _=>hg),tv,tv⟩ rfl tv)) (⟨tv,Bu (Gr (r:=oI 0 r3) rfl false (fun hg=>H95 a0.Ab r3 (ip hg e4)) ⟨(fun hg=>hg),tv⟩ (fun _=>rfl) (fun _=>rfl) (fun _=>(af rfl)) (fun h=>nomatch h) (dw [(1,.ptr 64 0),(15,.bool (bif (!r1) then true else (decide ((a0.Ab.length:Int)>40)))),(18,.may ((bif (!r1) then true else (decide ((a0.Ab.length:Int)>40)))==false) (lI r3)),(19,.may ((bif (!r1) then true else (decide ((a0.Ab.length:Int)>40)))==false) (.ptr 64 0)),(20,.may ((bif (!r1) then true else (decide ((a0.Ab.length:Int)>40)))==false) (.ptr 64 1)),(21,.may ((bif (!r1) then true else (decide ((a0.Ab.length:Int)>40)))==false) (iV a0.Ad.next)),(22,.may ((bif (!r1) then true else (decide ((a0.Ab.length:Int)>40)))==false) (iV (wi (a0.Ad.next-1))))] [(64,Be a0)] ⟨⟨.inl tv,Bn (v:=iV (wi (a0.Ad.next-1))) rfl (fun hg=>(Bb ⟨(fun _=>hg),tv,tv⟩ rfl tv)) rfl⟩,⟨.inl tv,Bn (v:=iV a0.Ad.next) rfl (fun hg=>(Bb ⟨(fun _=>hg),tv⟩ rfl (nl rfl))) rfl⟩,⟨.inl tv,Bn (v:=.ptr 64 1) rfl (fun hg=>(Bb ⟨(fun _=>hg),tv⟩ rfl tv)) rfl⟩,⟨.inl tv,Bn (v:=.ptr 64 0) rfl (fun hg=>(Bb ⟨tv,tv⟩ rfl tv)) rfl⟩,tv⟩ (Bu (Gr (r:=.bool r5) rfl false (fun hg=>H59 r3 1 (wi (a0.Ad.next-1)) r5 (ip hg e6)) ⟨(fun hg=>hg),tv,(fun hg=>hg),tv⟩ (fun _=>rfl) (fun _=>rfl) (fun _=>rfl) (fun h=>nomatch h) (dw [(1,.ptr 64 0),(15,.bool (bif (!r1) then true else (decide ((a0.Ab.length:Int)>40)))),(23,.may ((bif (!r1) then true else (decide ((a0.Ab.length:Int)>40)))==false) (.bool r5))] [(64,Be a0)] tv (Ag tv (Ce (u:=.bool (!r5)) rfl (fun hg=>(Bb ⟨(fun _=>hg),tv⟩ rfl tv)) (⟨tv,Ag tv (Eh rfl rfl rfl tv (fun h=>eqf h) rfl (⟨tv,Ag tv (Bw rfl tv (⟨tv,Ag tv (Ce (u:=.ptr 64 4) rfl (fun hg=>(Bb ⟨tv,tv⟩ rfl tv)) (⟨tv,Ag tv (Ce (u:=lI a0.Ai) rfl (fun hg=>(Bb ⟨(fun _=>hg),tv⟩ rfl (nl rfl))) (⟨tv,Ag tv (Ce (u:=iV (a0.Ai.length:Int)) rfl (fun hg=>(cO (e:=eI) (l0:=a0.Ai) rfl rfl (fun _=>hg))) (⟨tv,Ag tv (Ce (u:=.bool (decide ((a0.Ai.length:Int)>80))) rfl (fun hg=>(Bb ⟨(fun _=>hg),tv,tv⟩ rfl tv)) (⟨tv,Ag tv (Eh rfl rfl rfl tv (fun h=>eqf h) rfl (⟨tv,Ag tv (Bw rfl tv (⟨tv,Ag tv (Ce (u:=.ptr 64 4) rfl (fun hg=>(Bb ⟨tv,tv⟩ rfl tv)) (⟨tv,Ag tv (Ce (u:=lI a0.Ai) rfl (fun hg=>(Bb ⟨(fun _=>hg),tv⟩ rfl (nl rfl))) (⟨tv,Ag tv (Ce (u:=.ptr 64 0) rfl (fun hg=>(Bb ⟨tv,tv⟩ rfl tv)) ?_)⟩))⟩))⟩))⟩))⟩))⟩))⟩))⟩))⟩))⟩))⟩))))) Au))) Au⟩))⟩))
 refine ⟨tv,Ag tv (Ce (u:=.ptr 64 1) rfl (fun hg=>(Bb ⟨(fun _=>hg),tv⟩ rfl tv)) (⟨tv,Ag tv (Ce (u:=iV a0.Ad.next) rfl (fun hg=>(Bb ⟨(fun _=>hg),tv⟩ rfl (nl rfl))) (⟨tv,Ag tv (Ce (u:=iV (wi (a0.Ad.next-1))) rfl (fun hg=>(Bb ⟨(fun _=>hg),tv,tv⟩ rfl tv)) (⟨tv,Bu (Gr (r:=.bool r7) rfl false (fun hg=>H59 a0.Ai 1 (wi (a0.Ad.next-1)) r7 (ip hg e8)) ⟨(fun hg=>hg),tv,(fun hg=>hg),tv⟩ (fun _=>rfl) (fun _=>rfl) (fun _=>rfl) (fun h=>nomatch h) (dw [(1,.ptr 64 0),(32,.bool (bif (bif (bif (!r1) then true else (decide ((a0.Ab.length:Int)>40))) then true else (!r5)) then true else (decide ((a0.Ai.length:Int)>80)))),(39,.may ((bif (bif (bif (!r1) then true else (decide ((a0.Ab.length:Int)>40))) then true else (!r5)) then true else (decide ((a0.Ai.length:Int)>80)))==false) (.bool r7))] [(64,Be a0)] tv (Ag tv (Ce (u:=.bool (!r7)) rfl (fun hg=>(Bb ⟨(fun _=>hg),tv⟩ rfl tv)) (⟨tv,Ag tv (Eh rfl rfl rfl tv (fun h=>eqf h) rfl (⟨tv,Gf (bv h0 fun v9 e10 h0=>Dn ⟨[(1,.ptr 64 0),(41,.bool v9)],[(64,Be a0)],[]⟩ (Ez (by subst e10; kernel_rfl)) (Ct h0 (fun c11 h0=>?_) (fun c11 h0=>?_)))⟩))⟩))))) Au⟩))⟩))⟩))⟩
 ·obtain rfl:=sj h0
  exact Dd 4
 ·refine Bc 4 (An (bb h0 fun r12 e13 h0=>Vf (H96 a0 r12 e13) (o_ (Ay 6 [(1,.ptr 64 0),(4,.bool r12.2)] [(64,Be a0)] (Bc 4 (An (st (Ce (u:=.ptr 64 3) rfl (fun hg=>(Bb ⟨tv,tv⟩ rfl tv)) (st (Ce (u:=Cp a0.Ab) rfl (fun hg=>(Bb ⟨(fun _=>hg),tv⟩ rfl (nl rfl))) (bb h0 fun r14 e15 h0=>st (Gr (r:=oI 0 r14) rfl false (fun hg=>H95 a0.Ab r14 (ip hg e15)) ⟨(fun hg=>hg),tv⟩ (fun _=>rfl) (fun _=>rfl) (fun _=>(af rfl)) (fun h=>nomatch h) (st (Ce (u:=.clo 98 [.ptr 64 0]) rfl (fun hg=>(Bb ⟨tv,tv⟩ rfl rfl)) (bb h0 fun r16 e17 h0=>st (Gr (r:=.bool r16) rfl false (fun hg=>H97 r14 98 [.iptr (Be a0)] (fun z98_0=>g98 z98_0 a0) (⟨fun _ _ _ _ _=>rfl,fun _ _ _ _ _=>rfl,rfl,fun _ _ _ n=>by cases n<;>rfl,fun _=>rfl⟩) (fun z98_0 r h=>H98 z98_0 a0 r h) r16 (ip hg e17)) ⟨(fun hg=>hg),(fun hg=>hg),tv⟩ (fun _=>rfl) (fun _=>rfl) (fun _=>rfl) (fun h=>nomatch h) (st (Eh rfl rfl rfl (fun h=>Sr h) tv rfl (o_ ?_)))))))))))))))))))
  obtain rfl:=sj h0
  exact Dd 3

/- loop.example/g00149/impl.isList[int] -/
def c87_r0:=[k_ 2 (.bool false)]
def c87_r1:=[m_ 3 0,n_ 4 3,B_ .leq 5 4 4096,m_ 2 5]
def c87:Dp:=⟨1,6,[.t 2],sr c87_r0 (rr c87_r1)⟩
def K87 (D:Bh):Prop:=∀a0 r,g87 a0=some r→D 87 ⟨[lI a0],[]⟩ ⟨.bool r,[],[]⟩
theorem F87:K87 (FO C c87):=by
 intro a0 r h0
 refine f0 (Ay 3 [(0,lI a0)] [] (Bj (An (st (Bw rfl tv (Sn rfl (o_ ?_)))))))
 obtain rfl:=sj h0
 exact Dd 4

/- loop.example/g00149/impl.isFate -/
def c88_r0:=[k_ 2 (.bool false)]
def c88_r1:=[m_ 3 0,q_ 4 63 [.t 3,.c (iV 0),.c (iV 2)],m_ 2 4]
def c88:Dp:=⟨1,5,[.t 2],sr c88_r0 (rr c88_r1)⟩
def K88 (D:Bh):Prop:=∀a0 r,g88 a0=some r→D 88 ⟨[iV a0],[]⟩ ⟨.bool r,[],[]⟩
theorem F88 (H63:K63 C):K88 (FO C c88):=by
 intro a0 r h0
 refine f0 (Ay 3 [(0,iV a0)] [] (Bj (An (st (Bw rfl tv (bb h0 fun r1 e2 h0=>Vf (H63 a0 0 2 r1 e2) (o_ ?_)))))))
 obtain rfl:=sj h0
 exact Dd 3

/- loop.example/g00149/impl.isAct -/
def WK:=[X_ 1 0,k_ 2 (.bool false)]
def WM:List Bt:=[f_ 3 1 5,l_ 4 3 1,q_ 5 87 [.t 4],m_ 6 5,fT 6 7 1 5,lT 6 8 7 1 false,⟨some 9,.call 97 [.t 8,.c (.clo 88 [])],some (6,true)⟩,pa 10 6 9,m_ 11 10,fT 11 12 1 6,lT 11 13 12 1 false,⟨some 14,.call 63 [.t 13,.c (iV 0),.c (iV 2)],some (11,true)⟩,pa 15 11 14,m_ 2 15]
def c457:Dp:=⟨1,16,[.t 2],sr WK (rr WM)⟩
def K457 (D:Bh):Prop:=∀a0 r,g457 a0=some r→D 457 ⟨[.agg (Ar a0)],[]⟩ ⟨.bool r,[],[]⟩
theorem F457 (H63:K63 C) (H87:K87 C) (H88:K88 C) (H97:K97 C):K457 (FO C c457):=by
 intro a0 r h0
 refine f0 (Ay 4 [(1,.ptr 64 0)] [(64,Ar a0)] (Bc 3 (An (bb h0 fun r1 e2 h0=>Vf (H87 a0.Cb r1 e2) (st (Bw rfl tv (st (Ce (u:=.ptr 64 5) rfl (fun hg=>(Bb ⟨tv,tv⟩ rfl tv)) (st (Ce (u:=lI a0.Cb) rfl (fun hg=>(Bb ⟨(fun _=>hg),tv⟩ rfl (nl rfl))) (bb h0 fun r3 e4 h0=>st (Gr (r:=.bool r3) rfl false (fun hg=>H97 a0.Cb 88 [] (fun z88_0=>g88 z88_0) (⟨fun _ _ _ _ _=>rfl,fun _ _ _ _ _=>rfl,rfl,fun _ _ _ n=>by cases n<;>rfl,fun _=>rfl⟩) (fun z88_0 r h=>H88 z88_0 r h) r3 (ip hg e4)) ⟨(fun hg=>hg),tv,tv⟩ (fun _=>rfl) (fun _=>rfl) (fun _=>rfl) (fun h=>nomatch h) (st (Eh rfl rfl rfl (fun h=>Sr h) tv rfl (st (Bw rfl tv (st (Ce (u:=.ptr 64 6) rfl (fun hg=>(Bb ⟨tv,tv⟩ rfl tv)) (st (Ce (u:=iV a0.stop) rfl (fun hg=>(Bb ⟨(fun _=>hg),tv⟩ rfl (nl rfl))) (bb h0 fun r5 e6 h0=>st (Gr (r:=.bool r5) rfl false (fun hg=>H63 a0.stop 0 2 r5 (ip hg e6)) ⟨(fun hg=>hg),tv,tv,tv⟩ (fun _=>rfl) (fun _=>rfl) (fun _=>rfl) (fun h=>nomatch h) (st (Eh rfl rfl rfl (fun h=>Sr h) tv rfl (o_ ?_)))))))))))))))))))))))))
 obtain rfl:=sj h0
 exact Dd 3

/- slices.Clone[[]loop.example/g00149/impl.Lease,loop.example/g00149/impl.Lease] -/
def c66_r0:List Bt:=[⟨some 2,.nilS 4,none⟩]
def c66_r1:List Bt:=[m_ 3 0,⟨some 4,.isnil (.t 3) false,none⟩]
def c66_r2:List Bt:=[⟨some 2,.nilS 4,none⟩]
def c66_r3:List Bt:=[⟨some 5,.mkS 4 [iV 0,iV 0,iV 0,.bool false] 0 [],none⟩,m_ 6 0,⟨some 7,.app 4 32 (.t 5) (.t 6),none⟩,m_ 2 7]
def c66:Dp:=⟨1,8,[.t 2],sr c66_r0 (.seq (sr c66_r1 (iz 4 (rr c66_r2))) (rr c66_r3))⟩
def K66 (D:Bh):Prop:=∀a0 r,g66 a0=some r→D 66 ⟨[Ck a0],[]⟩ ⟨Af 0 r,[],[]⟩
theorem F66:K66 (FO C c66):=by
 intro a0 r h0
 refine f0 ?_
 obtain ⟨hc,h0⟩:=grd h0
 obtain rfl:=sj h0
 refine Ay 3 [(0,Ck a0)] [] (Bc 3 (An (st (mA (e:=Ac) (l0:=a0) rfl fun b hb=>(Hj (bM (Vo (cb:=b) rfl (fun h=>?_) (fun h=>?_))))))))
 ·obtain rfl:=hb h
  refine Bj (An (st (dJ (Hj (bM ?_)))))
  refine Lf (Eg rfl rfl rfl rfl rfl tv)
 ·refine Jf ?_
  refine Ay 0 [(0,Ck a0)] [] (Bc 3 (An (st (Ja (e:=Ac) (l0:=([]:List Aa)) (l1:=a0) rfl rfl tv rfl (by decide) ?_ ?_))))
  rotate_left
  refine st (Bw rfl tv (Hj (bM ?_)))
  refine Lf (Eg rfl rfl rfl rfl rfl tv)
  have:=Nat.mul_le_mul_right 32 hc
  exact Nat.le_trans this (by decide)

/- (loop.example/g00149/impl.Table).own -/
def HR:=[X_ 1 0,a_ 2 (zT 131)]
def HS:=[f_ 3 1 2,l_ 4 3 1,q_ 5 66 [.t 4],f_ 6 1 2,s_ 6 5 1]
def HT:=[L_ 7 1 3,s_ 2 7 3]
def gV:Dp:=⟨1,8,[.cell 2 3 true],sr HR (sr HS (rr HT))⟩
def gO (D:Bh):Prop:=∀a0 r,eF a0=some r→D 112 ⟨[.agg (Bd a0)],[]⟩ ⟨.agg (Cm r (Ap 0)),[],[]⟩
theorem F112 (H66:K66 C):gO (FO C gV):=by
 intro a0 r h0
 refine f0 (Ay 4 [(1,.ptr 64 0),(2,.ptr 128 0)] [(64,Bd a0),(128,Bo 0 0 (Ap 131) [])] (Bc 3 (An (bb h0 fun r1 e2 h0=>Sy (H66 a0.Ae r1 e2) (af rfl) (o_ ?_)))))
 obtain rfl:=sj h0
 exact Dd 9

/- (loop.example/g00149/impl.Table).revoke -/
def c75_r0:=[X_ 2 0,a_ 4 (zT 259),i_ 5 0]
def c75_r1:=[L_ 10 2 3,m_ 11 1,q_ 12 77 [.t 10,.t 11],m_ 9 12,e_ 13 9 0,e_ 14 9 1,m_ 6 13,m_ 7 14]
def c75_r2:=[m_ 15 7,N_ 16 15]
def c75_r3:=[iQ 17 (.build (zT 1091) []),s_ 4 17 3,i_ 5 5]
def c75_r4:=[L_ 18 2 3,q_ 19 112 [.t 18],a_ 8 (zT 515),s_ 8 19 3]
def c75_r5:List Bt:=[f_ 20 8 2,l_ 21 20 1,m_ 22 6,x_ 23 21 22 4,f_ 24 23 3,⟨none,.store (.t 24) (.c (.bool true)) 1,none⟩]
def c75_r6:=[L_ 25 8 3,s_ 4 25 3,i_ 5 0]
def c75:Dp:=⟨2,26,[.cell 4 3 true,.t 5],sr c75_r0 (sr c75_r1 (.seq (sr c75_r2 (iz 16 (rr c75_r3))) (sr c75_r4 (sr c75_r5 (rr c75_r6)))))⟩
def K75 (D:Bh):Prop:=∀a0 a1 r,g75 a0 a1=some r→D 75 ⟨[.agg (Bd a0),iV a1],[]⟩ ⟨.tup [.agg (Cm r.1 (Ap 0)),iV r.2],[],[]⟩
theorem F75 (H77:K77 C) (H112:gO C):K75 (FO C c75):=by
 intro a0 a1 r h0
 refine f0 (Ay 5 [(1,iV a1),(2,.ptr 128 0),(4,.ptr 256 0)] [(128,Bd a0),(256,Bo 0 0 (Ap 259) [])] (Bc 3 (An (bb h0 fun r1 e2 h0=>Vf (H77 a0 a1 r1 e2) (o_ (Ay 12 [(2,.ptr 128 0),(4,.ptr 256 0),(6,iV r1.1),(16,.bool (!r1.2))] [(128,Bd a0),(256,Bo 0 0 (Ap 259) [])] (Ct h0 (fun c3 h0=>?_) (fun c3 h0=>?_))))))))
 ·obtain rfl:=sj h0
  exact Dd 6
 ·refine Bc 4 (An (bb h0 fun r4 e5 h0=>Sy (H112 a0 r4 e5) (ar (Bi rfl (af rfl))) (o_ (Ay 3 [(4,.ptr 256 0),(6,iV r1.1),(8,.ptr 512 0)] [(256,Bo 0 0 (Ap 259) []),(512,Cm r4 (Ap 1216))] (Bc 4 (An (bb h0 fun y6 e7 h0=>kA rfl rfl e7 (st (c_ (Bb ⟨tv,tv⟩ rfl tv) (bb h0 fun y8 e9 h0=>so_ (Aa.mk y8.id y8.Bm y8.cap true) rfl rfl e9 (o_ ?_)))))))))))
  obtain rfl:=sj h0
  exact Dd 8

/- loop.example/g00149/impl.later -/
def c54_r0:=[i_ 4 0]
def c54_r1:List Bt:=[m_ 5 0,m_ 6 1,⟨some 7,.p (.bin .sub (.c (iV 9223372036854775807)) (.t 6)),none⟩,b_ .gtr 8 5 7]
def c54_r2:=[i_ 4 9223372036854775807]
def c54_r3:=[m_ 9 0,m_ 10 1,b_ .add 11 9 10,m_ 4 11]
def c54:Dp:=⟨2,12,[.t 4],sr c54_r0 (.seq (sr c54_r1 (iz 8 (rr c54_r2))) (rr c54_r3))⟩
def K54 (D:Bh):Prop:=∀a0 a1 r,g54 a0 a1=some r→D 54 ⟨[iV a0,iV a1],[]⟩ ⟨iV r,[],[]⟩
theorem F54:K54 (FO C c54):=by
 intro a0 a1 r h0
 refine f0 (Ay 11 [(0,iV a0),(1,iV a1),(8,.bool (decide (a0>(wi (9223372036854775807-a1)))))] [] (Ct h0 (fun c1 h0=>?_) (fun c1 h0=>?_)))
 ·obtain rfl:=sj h0
  exact Dd 4
 ·obtain rfl:=sj h0
  exact Dd 9

/- (loop.example/g00149/impl.Table).renew -/
def c80_r0:=[X_ 3 0,a_ 6 (zT 387),i_ 7 0]
def c80_r1:=[L_ 12 3 3,m_ 13 1,q_ 14 77 [.t 12,.t 13],m_ 11 14,e_ 15 11 0,e_ 16 11 1,m_ 8 15,m_ 9 16]
def c80_r2:=[m_ 18 2,B_ .lss 19 18 1,m_ 17 19]
def c80_r3:=[iQ 20 (.build (zT 1283) []),s_ 6 20 3,i_ 7 4]
def c80_r4:=[m_ 22 9,N_ 23 22,m_ 21 23]
def c80_r5:=[iQ 24 (.build (zT 1539) []),s_ 6 24 3,i_ 7 5]
def c80_r6:=[f_ 26 3 2,l_ 27 26 1,m_ 28 8,x_ 29 27 28 4,f_ 30 29 3,l_ 31 30 1,m_ 25 31]
def c80_r7:=[iQ 32 (.build (zT 2051) []),s_ 6 32 3,i_ 7 13]
def c80_r8:=[L_ 33 3 3,q_ 34 112 [.t 33],a_ 10 (zT 643),s_ 10 34 3]
def c80_r9:=tk [f_ 35 10 2,l_ 36 35 1,m_ 37 8,f_ 38 3 0,l_ 39 38 1,m_ 40 2,f_ 42 10 2,l_ 43 42 1,m_ 44 8,x_ 45 43 44 4,f_ 46 45 2,l_ 47 46 1] (.alt [l_ 47 46 1,f_ 46 45 2,x_ 45 43 44 4,m_ 44 8,l_ 43 42 1,f_ 42 10 2,m_ 37 8,l_ 36 35 1,f_ 35 10 2] (q_ 41 54 [.t 39,.t 40]) (tk [iQ 48 (.mn (.t 41) (.t 47)),x_ 49 36 37 4,f_ 50 49 1] (.alt [] (s_ 50 48 1) .fin .stop)) .stop)
def Aag:=[L_ 51 10 3,s_ 6 51 3,i_ 7 0]
def c80:Dp:=⟨3,52,[.cell 6 3 true,.t 7],sr c80_r0 (sr c80_r1 (.seq (.block 0 (sr c80_r2 (.ite (.t 17) (rr c80_r3) (sr c80_r4 (.ite (.t 21) (rr c80_r5) (sr c80_r6 (iz 25 (rr c80_r7)))))))) (sr c80_r8 (sd c80_r9 (rr Aag)))))⟩
def K80 (D:Bh):Prop:=∀a0 a1 a2 r,g80 a0 a1 a2=some r→D 80 ⟨[.agg (Bd a0),iV a1,iV a2],[]⟩ ⟨.tup [.agg (Cm r.1 (Ap 0)),iV r.2],[],[]⟩
abbrev jB:=fun x0 (r:List (Nat×List V))=>(192,Bd x0)::(384,Bo 0 0 (Ap 387) [])::r
abbrev jC:=fun x0 (r:List (Nat×V))=>(2,iV x0)::(3,.ptr 192 0)::(6,.ptr 384 0)::r
theorem F80 (H54:K54 C) (H77:K77 C) (H112:gO C):K80 (FO C c80):=by
 intro a0 a1 a2 r h0
 refine f0 (Ay 5 (jC a2 [(1,iV a1)]) (jB a0 []) (Bc 3 (An (bb h0 fun r1 e2 h0=>Vf (H77 a0 a1 r1 e2) (o_ (Ay 14 (jC a2 [(8,iV r1.1),(9,.bool r1.2),(17,.bool (decide (a2<1)))]) (jB a0 []) (Ct h0 (fun c3 h0=>?_) (fun c3 h0=>?_))))))))
 ·obtain rfl:=sj h0
  exact Dd 6
 ·refine Ay 5 (jC a2 [(8,iV r1.1),(21,.bool (!r1.2))]) (jB a0 []) (Ct h0 (fun c4 h0=>?_) (fun c4 h0=>?_))
  ·obtain rfl:=sj h0
   exact Dd 6
  ·refine Bc 4 (An (bb h0 fun y5 e6 h0=>Vv rfl rfl e6 (o_ (Ay 4 (jC a2 [(8,iV r1.1),(25,.bool y5.Cj)]) (jB a0 []) (Ct h0 (fun c7 h0=>?_) (fun c7 h0=>?_))))))
   ·obtain rfl:=sj h0
    exact Dd 6
   ·refine Bc 5 (An (bb h0 fun r8 e9 h0=>Sy (H112 a0 r8 e9) (ar (Bi rfl (af rfl))) (o_ (Ay 3 (jC a2 [(8,iV r1.1),(10,.ptr 640 0)]) (jB a0 [(640,Cm r8 (Ap 2176))]) (Bj (bb h0 fun y10 e11 h0=>bb h0 fun y12 e13 h0=>bb h0 fun r14 e15 h0=>Bc 9 (Bl (d_ (Yp rfl rfl rfl e11 (Bl (Ag tv (c_ (Bb ⟨tv,tv⟩ rfl tv) (⟨tv,Ca (c_ (Oa rfl rfl e13) (⟨⟨Cv rfl rfl e13 rfl,tv⟩,Bu (Dj (r:=iV r14) false (H54 a0.clock a2 r14 e15) ⟨tv,tv,tv⟩ rfl rfl (fun _=>rfl) (iC ⟨[(6,.ptr 384 0),(8,iV r1.1),(10,.ptr 640 0),(35,.ptr 640 2),(36,Af 2176 r8.Ae),(37,iV r1.1),(41,iV r14),(42,.ptr 640 2),(43,Af 2176 r8.Ae),(44,iV r1.1),(45,.optr 2176 4 (0+r1.1.toNat) 0),(46,.optr 2176 4 (0+r1.1.toNat) 2),(47,iV y12.cap)],[(384,Bo 0 0 (Ap 387) []),(640,Cm r8 (Ap 2176))],[]⟩ (Ez (by kernel_rfl)) ⟨[iQ 47 (.load (.t 46) 1 false)],⟨⟨.inr (.head _),Cv rfl rfl e13 rfl⟩,⟨.inl tv,Ba (Bb ⟨tv,tv⟩ rfl tv) rfl⟩,⟨.inl tv,Ba (Ka rfl rfl e11) rfl⟩,⟨.inl tv,Ba (Dt (v:=iV r1.1) rfl tv) rfl⟩,⟨.inl tv,Ba (Bb ⟨tv,tv⟩ rfl (nl rfl)) rfl⟩,⟨.inl tv,Ba (Bb ⟨tv,tv⟩ rfl tv) rfl⟩,⟨.inl tv,Ba (Dt (v:=iV r1.1) rfl tv) rfl⟩,⟨.inl tv,Ba (Bb ⟨tv,tv⟩ rfl (nl rfl)) rfl⟩,⟨.inl tv,Ba (Bb ⟨tv,tv⟩ rfl tv) rfl⟩,tv⟩,⟨Cv rfl rfl e13 rfl,tv⟩,Ag tv (c_ (Bb ⟨tv,tv,tv⟩ rfl rfl) (⟨⟨Cv rfl rfl e13 rfl,tv⟩,Ag tv (c_ (Ka rfl rfl e11) (⟨⟨Cv rfl rfl e13 rfl,tv⟩,?_⟩))⟩))⟩)) Au⟩))⟩)))))))))))))
    refine Ag tv (c_ (Bb ⟨tv,tv⟩ rfl tv) (⟨⟨Cv rfl rfl e13 rfl,tv⟩,Bu (Hh (y':=(Aa.mk y12.id (if y12.cap<r14 then y12.cap else r14) y12.cap y12.Cj)) rfl rfl tv rfl rfl rfl rfl e13 (nl rfl) rfl rfl rfl rfl (d0 tv (Gf (Dn ⟨[(6,.ptr 384 0),(10,.ptr 640 0)],[(384,Bo 0 0 (Ap 387) []),(640,Bo r8.clock r8.next (Ap 2176) (r8.Ae.set r1.1.toNat (Aa.mk y12.id (if y12.cap<r14 then y12.cap else r14) y12.cap y12.Cj)))],[]⟩ (fg ⟨rfl,rfl,tv⟩ ⟨rfl,congrArg (fun z=>some (([iV r8.clock,iV r8.next,.own 2176 0 4 z]:List V))) Aw,tv⟩) (Bc 5 (bv h0 fun v16 e17 h0=>Dn ⟨[(6,.ptr 384 0),(7,iV 0)],[(384,Bo r8.clock r8.next (Ap 2176) v16)],[]⟩ (Ez (by subst e17; kernel_rfl)) ?_)))))) Au⟩))
    obtain rfl:=sj h0
    exact Lf (Eg rfl rfl rfl rfl rfl tv)

/- slices.Clone[[]int,int] -/
def JG:List Bt:=[⟨some 2,.nilS 1,none⟩]
def JH:List Bt:=[m_ 3 0,⟨some 4,.isnil (.t 3) false,none⟩]
def JI:List Bt:=[⟨some 2,.nilS 1,none⟩]
def JJ:List Bt:=[⟨some 5,.mkS 1 [iV 0] 0 [],none⟩,m_ 6 0,⟨some 7,.app 1 8 (.t 5) (.t 6),none⟩,m_ 2 7]
def JF:Dp:=⟨1,8,[.t 2],sr JG (.seq (sr JH (iz 4 (rr JI))) (rr JJ))⟩
def EI (D:Bh):Prop:=∀a0 r,kV a0=some r→D 120 ⟨[lI a0],[]⟩ ⟨oI 0 r,[],[]⟩
theorem F120:EI (FO C JF):=by
 intro a0 r h0
 refine f0 ?_
 obtain ⟨hc,h0⟩:=grd h0
 obtain rfl:=sj h0
 refine Ay 3 [(0,lI a0)] [] (Bc 3 (An (st (mA (e:=eI) (l0:=a0) rfl fun b hb=>(Hj (bM (Vo (cb:=b) rfl (fun h=>?_) (fun h=>?_))))))))
 ·obtain rfl:=hb h
  refine Bj (An (st (dJ (Hj (bM ?_)))))
  refine Lf (Eg rfl rfl rfl rfl rfl tv)
 ·refine Jf ?_
  refine Ay 0 [(0,lI a0)] [] (Bc 3 (An (st (Ja (e:=eI) (l0:=([]:List Int)) (l1:=a0) rfl rfl tv rfl (by decide) ?_ ?_))))
  rotate_left
  refine st (Bw rfl tv (Hj (bM ?_)))
  refine Lf (Eg rfl rfl rfl rfl rfl tv)
  have:=Nat.mul_le_mul_right 8 hc
  exact Nat.le_trans this (by decide)

/- slices.Clone[[]loop.example/g00149/impl.Intent,loop.example/g00149/impl.Intent] -/
def YE:List Bt:=[⟨some 2,.nilS 2,none⟩]
def YF:List Bt:=[m_ 3 0,⟨some 4,.isnil (.t 3) false,none⟩]
def YG:List Bt:=[⟨some 2,.nilS 2,none⟩]
def YH:List Bt:=[⟨some 5,.mkS 2 [iV 0,.bool false] 0 [],none⟩,m_ 6 0,⟨some 7,.app 2 16 (.t 5) (.t 6),none⟩,m_ 2 7]
def c469:Dp:=⟨1,8,[.t 2],sr YE (.seq (sr YF (iz 4 (rr YG))) (rr YH))⟩
def EO (D:Bh):Prop:=∀a0 r,lQ a0=some r→D 469 ⟨[Cp a0],[]⟩ ⟨Br 0 r,[],[]⟩
theorem F469:EO (FO C c469):=by
 intro a0 r h0
 refine f0 ?_
 obtain ⟨hc,h0⟩:=grd h0
 obtain rfl:=sj h0
 refine Ay 3 [(0,Cp a0)] [] (Bc 3 (An (st (mA (e:=Bx) (l0:=a0) rfl fun b hb=>(Hj (bM (Vo (cb:=b) rfl (fun h=>?_) (fun h=>?_))))))))
 ·obtain rfl:=hb h
  refine Bj (An (st (dJ (Hj (bM ?_)))))
  refine Lf (Eg rfl rfl rfl rfl rfl tv)
 ·refine Jf ?_
  refine Ay 0 [(0,Cp a0)] [] (Bc 3 (An (st (Ja (e:=Bx) (l0:=([]:List Ah)) (l1:=a0) rfl rfl tv rfl (by decide) ?_ ?_))))
  rotate_left
  refine st (Bw rfl tv (Hj (bM ?_)))
  refine Lf (Eg rfl rfl rfl rfl rfl tv)
  have:=Nat.mul_le_mul_right 16 hc
  exact Nat.le_trans this (by decide)

/- (loop.example/g00149/impl.Vault).own -/
def WX:=[X_ 1 0,a_ 2 (zV 131 132 133)]
def WY:=tk [f_ 3 1 0,L_ 4 3 3,f_ 6 1 3,l_ 7 6 1,f_ 9 1 4,l_ 10 9 1,f_ 12 1 5,l_ 13 12 1] (.alt [l_ 13 12 1,f_ 12 1 5,l_ 10 9 1,f_ 9 1 4,l_ 7 6 1,f_ 6 1 3] (q_ 5 112 [.t 4]) (.alt [l_ 13 12 1,f_ 12 1 5,l_ 10 9 1,f_ 9 1 4] (q_ 8 469 [.t 7]) (.alt [l_ 13 12 1,f_ 12 1 5] (q_ 11 120 [.t 10]) (tk [⟨some 14,.p (.build (zV 899 900 901) [(0,3,.t 5),(3,1,.t 8),(4,1,.t 11),(5,1,.t 13)]),none⟩] (.alt [] (s_ 2 14 6) .fin .stop)) .stop) .stop) .stop)
def c463:Dp:=⟨1,15,[.cell 2 6 true],sr WX (sd WY .ret)⟩
def K463 (D:Bh):Prop:=∀a0 r,g463 a0=some r→D 463 ⟨[.agg (Be a0)],[]⟩ ⟨.agg (Bk r (Ap 0) (Ap 1) (Ap 2)),[],[]⟩
theorem F463 (H112:gO C) (H120:EI C) (H469:EO C):K463 (FO C c463):=by
 intro a0 r h0
 refine f0 (Ay 4 [(1,.ptr 64 0),(2,.ptr 128 0)] [(64,Be a0),(128,At 0 0 (Ap 131) [] (Ap 132) [] (Ap 133) [] false)] (Bj (bb h0 fun r1 e2 h0=>bb h0 fun r3 e4 h0=>bb h0 fun r5 e6 h0=>Bc 8 (Bl (Xg (H112 a0.Ad r1 e2) (ar (Bi rfl (af rfl))) (dw [(1,.ptr 64 0),(2,.ptr 128 0),(5,.agg (Cm r1 (Ap 320))),(6,.ptr 64 3),(7,Cp a0.Ab),(9,.ptr 64 4),(10,lI a0.Ai),(12,.ptr 64 5),(13,.bool a0.Al)] [(64,Be a0),(128,At 0 0 (Ap 131) [] (Ap 132) [] (Ap 133) [] false)] hB (Xg (H469 a0.Ab r3 e4) (af rfl) (dw [(1,.ptr 64 0),(2,.ptr 128 0),(5,.agg (Cm r1 (Ap 320))),(8,Br 512 r3),(9,.ptr 64 4),(10,lI a0.Ai),(12,.ptr 64 5),(13,.bool a0.Al)] [(64,Be a0),(128,At 0 0 (Ap 131) [] (Ap 132) [] (Ap 133) [] false)] hB (Xg (H120 a0.Ai r5 e6) (af rfl) (dw [(1,.ptr 64 0),(2,.ptr 128 0),(5,.agg (Cm r1 (Ap 320))),(8,Br 512 r3),(11,oI 704 r5),(12,.ptr 64 5),(13,.bool a0.Al)] [(64,Be a0),(128,At 0 0 (Ap 131) [] (Ap 132) [] (Ap 133) [] false)] hB (Ag tv (c_ (v:=.agg (At r1.clock r1.next (Ap 320) r1.Ae (Ap 512) r3 (Ap 704) r5 a0.Al)) (Bb ⟨tv,tv,tv,tv,tv⟩ rfl ⟨⟨rfl,rfl,nl rfl⟩,⟨rfl,rfl,nl rfl⟩,⟨rfl,rfl,nl rfl⟩,⟨rfl,rfl,nl rfl⟩,tv⟩) (⟨tv,Bu (Gd rfl rfl tv rfl rfl rfl (nl rfl) (d0 tv (d_ (Ay 1 [(2,.ptr 128 0)] [(128,At r1.clock r1.next (Ap 320) r1.Ae (Ap 512) r3 (Ap 704) r5 a0.Al)] ?_)))) Au⟩)))) Au)) Au)) Au)))))
 obtain rfl:=sj h0
 exact Lf (Eg rfl rfl rfl rfl rfl tv)

/- (loop.example/g00149/impl.Vault).refused -/
def WZ:=[X_ 2 0,a_ 4 (zV 259 260 261),a_ 5 [iV 0,iV 0]]
def XA:List Bt:=[L_ 6 2 6,m_ 7 1,⟨some 8,.p (.build [iV 0,iV 0] [(0,1,.t 7)]),none⟩,s_ 4 6 6,s_ 5 8 2]
def c464:Dp:=⟨2,9,[.cell 4 6 true,.cell 5 2 true],sr WZ (rr XA)⟩
def sB (D:Bh):Prop:=∀a0 a1 r,bT a0 a1=some r→D 464 ⟨[.agg (Bk a0 (Ap 1024000) (Ap 1024001) (Ap 1024002)),iV a1],[]⟩ ⟨.tup [.agg (Bk r.1 (Ap 0) (Ap 1) (Ap 2)),.agg (Bg r.2)],[],[]⟩
theorem F464:sB (FO C c464):=by
 intro a0 a1 r h0
 refine f0 (Ay 5 [(1,iV a1),(2,.ptr 128 0),(4,.ptr 256 0),(5,.ptr 320 0)] [(128,Bk a0 (Ap 1024000) (Ap 1024001) (Ap 1024002)),(256,At 0 0 (Ap 259) [] (Ap 260) [] (Ap 261) [] false),(320,[iV 0,iV 0])] (Bc 3 (An (st (c_ (v:=.agg [iV a1,iV 0]) (Bb ⟨tv,tv⟩ rfl ⟨⟨rfl,rfl,nl rfl⟩,tv⟩) (o_ ?_))))))
 obtain rfl:=sj h0
 exact Dd 4

/- (loop.example/g00149/impl.Table).grant -/
def c71_r0:=[X_ 3 0,a_ 6 (zT 387),i_ 7 0,i_ 8 0]
def c71_r1:=[m_ 11 1,B_ .lss 12 11 1,m_ 13 12,mF 13 14 2,mF 13 15 1,pF 13 16 (.bin .lss (.t 14) (.t 15)),po 17 13 16,m_ 10 17]
def c71_r2:=[iQ 18 (.build (zT 1155) []),s_ 6 18 3,i_ 7 0,i_ 8 4]
def c71_r3:=[f_ 20 3 0,l_ 21 20 1,B_ .eql 22 21 9223372036854775807,m_ 19 22]
def c71_r4:=[iQ 23 (.build (zT 1475) []),s_ 6 23 3,i_ 7 0,i_ 8 11]
def c71_r5:=[f_ 25 3 2,l_ 26 25 1,n_ 27 26,B_ .eql 28 27 40,m_ 29 28,fF 29 30 3 1,lF 29 31 30 1 false,pF 29 32 (.bin .eql (.t 31) (.c (iV 1000000))),po 33 29 32,m_ 24 33]
def c71_r6:=[iQ 34 (.build (zT 2179) []),s_ 6 34 3,i_ 7 0,i_ 8 9]
def c71_r7:=[L_ 35 3 3,q_ 36 112 [.t 35],a_ 9 (zT 579),s_ 9 36 3]
def c71_r8:=tk [f_ 37 9 2,l_ 38 37 1,f_ 39 3 1,l_ 40 39 1,f_ 41 3 0,l_ 42 41 1,m_ 43 1,f_ 45 3 0,l_ 46 45 1,m_ 47 2] (.alt [m_ 47 2,l_ 46 45 1,f_ 45 3 0,l_ 40 39 1,f_ 39 3 1,l_ 38 37 1,f_ 37 9 2] (q_ 44 54 [.t 42,.t 43]) (.alt [l_ 40 39 1,f_ 39 3 1,l_ 38 37 1,f_ 37 9 2] (q_ 48 54 [.t 46,.t 47]) (tk [⟨some 49,.p (.build [iV 0,iV 0,iV 0,.bool false] [(0,1,.t 40),(1,1,.t 44),(2,1,.t 48)]),none⟩] (.alt [l_ 38 37 1,f_ 37 9 2] ⟨some 50,.mkS 4 [iV 0,iV 0,iV 0,.bool false] 1 [(0,.t 49)],none⟩ (.alt [] ⟨some 51,.app 4 32 (.t 38) (.t 50),none⟩ (tk [f_ 52 9 2] (.alt [] (s_ 52 51 1) .fin .stop)) .stop) .stop)) .stop) .stop)
def c71_r9:=[f_ 53 9 1,l_ 54 53 1,B_ .add 55 54 1,f_ 56 9 1,s_ 56 55 1]
def Aae:=tk [L_ 57 9 3,f_ 58 3 1,l_ 59 58 1] (.alt [l_ 59 58 1,f_ 58 3 1] (s_ 6 57 3) (tk [m_ 7 59,i_ 8 0] .fin) .stop)
def c71:Dp:=⟨3,60,[.cell 6 3 true,.t 7,.t 8],sr c71_r0 (.seq (.block 0 (sr c71_r1 (.ite (.t 10) (rr c71_r2) (sr c71_r3 (.ite (.t 19) (rr c71_r4) (sr c71_r5 (iz 24 (rr c71_r6)))))))) (sr c71_r7 (sd c71_r8 (sr c71_r9 (sd Aae .ret)))))⟩
def K71 (D:Bh):Prop:=∀a0 a1 a2 r,g71 a0 a1 a2=some r→D 71 ⟨[.agg (Bd a0),iV a1,iV a2],[]⟩ ⟨.tup [.agg (Cm r.1 (Ap 0)),iV r.2.1,iV r.2.2],[],[]⟩
abbrev iY:=fun x0 (r:List (Nat×List V))=>(192,Bd x0)::(384,Bo 0 0 (Ap 387) [])::r
abbrev oQ:=fun x0 x1 (r:List (Nat×V))=>(1,iV x0)::(2,iV x1)::(3,.ptr 192 0)::(6,.ptr 384 0)::r
theorem F71 (H54:K54 C) (H112:gO C):K71 (FO C c71):=by
 intro a0 a1 a2 r h0
 refine f0 (AU 19 (oQ a1 a2 [(10,.bool (bif (decide (a1<1)) then true else (decide (a2<a1))))]) (iY a0 []) (Ct h0 (fun c1 h0=>?_) (fun c1 h0=>?_)))
 ·obtain rfl:=sj h0
  exact Dd 7
 ·refine Ay 6 (oQ a1 a2 [(19,.bool (a0.clock==9223372036854775807))]) (iY a0 []) (Ct h0 (fun c2 h0=>?_) (fun c2 h0=>?_))
  ·obtain rfl:=sj h0
   exact Dd 7
  ·refine Bc 3 (An (Sn rfl (o_ (cX 8 (bv h0 fun v3 e4 h0=>Dn ⟨oQ a1 a2 [(24,.bool v3)],iY a0 [],[]⟩ (Ez (by subst e4; kernel_rfl)) (Ct h0 (fun c5 h0=>?_) (fun c5 h0=>?_)))))))
   ·obtain rfl:=sj h0
    exact Dd 7
   ·refine Bc 5 (An (bb h0 fun r6 e7 h0=>Sy (H112 a0 r6 e7) (ar (Bi rfl (af rfl))) (o_ (Ay 3 (oQ a1 a2 [(9,.ptr 576 0)]) (iY a0 [(576,Cm r6 (Ap 2304))]) (Bj (bb h0 fun r8 e9 h0=>bb h0 fun r10 e11 h0=>gg h0 fun c12 h0=>Bc 10 (Bl (Xg (H54 a0.clock a1 r8 e9) rfl (dw [(2,iV a2),(3,.ptr 192 0),(6,.ptr 384 0),(9,.ptr 576 0),(37,.ptr 576 2),(38,Af 2304 r6.Ae),(39,.ptr 192 1),(40,iV a0.next),(44,iV r8),(45,.ptr 192 0),(46,iV a0.clock),(47,iV a2)] [(192,Bd a0),(384,Bo 0 0 (Ap 387) []),(576,Cm r6 (Ap 2304))] hB (Xg (H54 a0.clock a2 r10 e11) rfl (dw [(3,.ptr 192 0),(6,.ptr 384 0),(9,.ptr 576 0),(37,.ptr 576 2),(38,Af 2304 r6.Ae),(39,.ptr 192 1),(40,iV a0.next),(44,iV r8),(48,iV r10)] [(192,Bd a0),(384,Bo 0 0 (Ap 387) []),(576,Cm r6 (Ap 2304))] hB (Ag tv (c_ (v:=.agg (nP a0.next r8 r10 false)) (Bb ⟨tv,tv,tv,tv⟩ rfl ⟨⟨rfl,rfl,nl rfl⟩,⟨rfl,rfl,nl rfl⟩,⟨rfl,rfl,nl rfl⟩,tv⟩) (⟨tv,Bu (Wy ⟨tv,tv⟩ ⟨⟨nl rfl,rfl,rfl⟩,tv⟩ (d0 hB (Bu (Ja (e:=Ac) (l0:=r6.Ae) (l1:=([Aa.mk a0.next r8 r10 false]:List Aa)) rfl rfl tv rfl (by decide) c12 (d0 tv ?_)) Au))) Au⟩)))) Au)) Au))))))))
    refine Ag tv (c_ (Bb ⟨tv,tv⟩ rfl tv) (⟨tv,Bu (Gd rfl rfl tv rfl rfl rfl (nl rfl) (d0 tv (d_ (Ay 9 [(3,.ptr 192 0),(6,.ptr 384 0),(9,.ptr 576 0)] (iY a0 [(576,[iV r6.clock,iV (wi (r6.next+1)),Af 2304 (r6.Ae++([Aa.mk a0.next r8 r10 false]:List Aa))])]) (Bc 4 (Bl (Bu (Gd rfl rfl tv rfl rfl rfl (nl rfl) (d0 hB (d_ (Ay 3 [(6,.ptr 384 0),(7,iV a0.next),(8,iV 0)] [(384,[iV r6.clock,iV (wi (r6.next+1)),Af 2304 (r6.Ae++([Aa.mk a0.next r8 r10 false]:List Aa))])] ?_)))) Au))))))) Au⟩))
    obtain rfl:=sj h0
    exact Lf (Eg rfl rfl rfl rfl rfl tv)

/- (loop.example/g00149/impl.Vault).crashed -/
def YJ:=[X_ 1 0,a_ 2 (zV 131 132 133),a_ 3 [iV 0,iV 0]]
def YK:=[f_ 5 1 3,l_ 6 5 1,n_ 7 6,i_ 8 0]
def YL:=[b_ .lss 9 8 7]
def YM:=[m_ 10 8,m_ 4 10]
def YN:List Bt:=[f_ 11 1 3,l_ 12 11 1,m_ 13 4,x_ 14 12 13 2,f_ 15 14 1,⟨none,.store (.t 15) (.c (.bool true)) 1,none⟩]
def YO:=[B_ .add 16 8 1,m_ 8 16]
def YI:IR:=(sr YL (.seq (.ite (.t 9) .skip (.exit 0)) (.seq (.block 1 (sr YM (.reg YN))) (.reg YO))))
def YP:List Bt:=[f_ 17 1 5,⟨none,.store (.t 17) (.c (.bool true)) 1,none⟩]
def YQ:List Bt:=[L_ 18 1 6,⟨some 19,.p (.build [iV 0,iV 0] [(0,1,.c (iV 15))]),none⟩,s_ 2 18 6,s_ 3 19 2]
def c470:Dp:=⟨1,20,[.cell 2 6 true,.cell 3 2 true],sr YJ (.seq (sr YK (Ju 0 YI)) (sr YP (rr YQ)))⟩
def EP (D:Bh):Prop:=∀a0 r,eV a0=some r→D 470 ⟨[.agg (Bk a0 (Ap 1024000) (Ap 1024001) (Ap 1024002))],[]⟩ ⟨.tup [.agg (Bk r.1 (Ap 0) (Ap 1) (Ap 2)),.agg (Bg r.2)],[],[]⟩
abbrev Pq:=fun (r:List (Nat×List V))=>(128,At 0 0 (Ap 131) [] (Ap 132) [] (Ap 133) [] false)::(192,[iV 0,iV 0])::r
abbrev Pr:=fun (r:List (Nat×V))=>(1,.ptr 64 0)::(2,.ptr 128 0)::(3,.ptr 192 0)::r
theorem F470:EP (FO C c470):=by
 intro a0 r h0
 refine f0 (Ay 5 (Pr []) (Pq [(64,Bk a0 (Ap 1024000) (Ap 1024001) (Ap 1024002))]) (Bc 4 (An (aS rfl (o_ (Ay 2 (Pr [(7,iV (a0.Ab.length:Int)),(8,iV 0)]) (Pq [(64,Bk a0 (Ap 1024000) (Ap 1024001) (Ap 1024002))]) (Cg (bb h0 fun r21 e22 h0=>Cz (R:=(fun S=>∃p15:List Ah,p15=r21∧S=⟨Pr [],Pq [(64,At a0.Ad.clock a0.Ad.next (Ap 1024000) a0.Ad.Ae (Ap 1024001) p15 (Ap 1024002) a0.Ai a0.Al)],[]⟩)) (Qu a0) (fun s S=>match s with | (p6,p7)=>S=⟨Pr [(7,iV (a0.Ab.length:Int)),(8,iV p6)],Pq [(64,At a0.Ad.clock a0.Ad.next (Ap 1024000) a0.Ad.Ae (Ap 1024001) p7 (Ap 1024002) a0.Ai a0.Al)],[]⟩) e22 _ (Ez (by kernel_rfl)) rfl 0 (fun _=>rfl) ?_ ?_))))))))
 ·rintro S _ hfg ⟨p15,rfl,rfl⟩
  refine Dn _ hfg (Ay 4 (Pr []) (Pq [(64,At a0.Ad.clock a0.Ad.next (Ap 1024000) a0.Ad.Ae (Ap 1024001) p15 (Ap 1024002) a0.Ai true)]) (Bc 2 (An (st (c_ (v:=.agg [iV 15,iV 0]) (Bb ⟨tv,tv⟩ rfl ⟨⟨rfl,rfl,nl rfl⟩,tv⟩) (o_ ?_))))))
  obtain rfl:=sj h0
  exact Dd 4
 ·rintro ⟨p6,p7⟩ o1 _ K1 rfl h1 hx1 hK1 hE1 hR1
  refine Ay 3 (Pr [(7,iV (a0.Ab.length:Int)),(8,iV p6),(9,.bool (decide (p6<(a0.Ab.length:Int))))]) (Pq [(64,At a0.Ad.clock a0.Ad.next (Ap 1024000) a0.Ad.Ae (Ap 1024001) p7 (Ap 1024002) a0.Ai a0.Al)]) (Bj (Ct h1 (fun c16 h1=>?_) (fun c16 h1=>?_)))
  ·refine Ay 8 (Pr [(4,iV p6),(7,iV (a0.Ab.length:Int)),(8,iV p6)]) (Pq [(64,At a0.Ad.clock a0.Ad.next (Ap 1024000) a0.Ad.Ae (Ap 1024001) p7 (Ap 1024002) a0.Ai a0.Al)]) (Bc 3 (An (bb h1 fun y17 e18 h1=>kA rfl rfl e18 (st (c_ (Bb ⟨tv,tv⟩ rfl tv) (bb h1 fun y19 e20 h1=>so_ (Ah.mk y19.As true) rfl rfl e20 (o_ (Ay 2 (Pr [(7,iV (a0.Ab.length:Int)),(8,iV p6)]) (Pq [(64,At a0.Ad.clock a0.Ad.next (Ap 1024000) a0.Ad.Ae (Ap 1024001) (p7.set p6.toNat (Ah.mk y19.As true)) (Ap 1024002) a0.Ai a0.Al)]) (Bc 3 ?_)))))))))
   obtain rfl:=sj h1
   exact kn hK1 rfl rfl
  ·obtain rfl:=sj h1
   obtain rfl:=hx1 _ rfl
   refine Jv rfl ?_
   exact jn hE1 ⟨_,rfl,rfl⟩

/- cmp.Less[int] -/
def OK:=[k_ 4 (.bool false)]
def OM:List Bt:=[m_ 5 0,q_ 6 136 [.t 5],m_ 7 6,mT 7 8 1,⟨some 9,.call 136 [.t 8],some (7,true)⟩,pT 7 10 (.un .not (.t 9)),pa 11 7 10,m_ 12 11,mF 12 13 0,mF 12 14 1,pF 12 15 (.bin .lss (.t 13) (.t 14)),po 16 12 15,m_ 4 16]
def c140:Dp:=⟨2,17,[.t 4],sr OK (rr OM)⟩
def K140 (D:Bh):Prop:=∀a0 a1 r,g140 a0 a1=some r→D 140 ⟨[iV a0,iV a1],[]⟩ ⟨.bool r,[],[]⟩
theorem F140 (H136:EK C):K140 (FO C c140):=by
 intro a0 a1 r h0
 refine f0 (Ay 3 [(0,iV a0),(1,iV a1)] [] (Bj (An (st (Bw rfl tv (bb h0 fun r1 e2 h0=>Vf (H136 a0 r1 e2) (o_ (cX 2 (An (bb h0 fun r3 e4 h0=>st (Gr (r:=.bool r3) rfl false (fun hg=>H136 a1 r3 (ip hg e4)) ⟨(fun hg=>hg),tv⟩ (fun _=>rfl) (fun _=>rfl) (fun _=>rfl) (fun h=>nomatch h) (o_ (cX 9 (bv h0 fun v5 e6 h0=>Dn ⟨[(4,.bool v5)],[],[]⟩ (Ez (by subst e6; kernel_rfl)) ?_))))))))))))))
 obtain rfl:=sj h0
 exact Lf (Eg rfl rfl rfl rfl rfl tv)

/- slices.isNaN[int] -/
def ON:=[k_ 2 (.bool false)]
def OO:=[m_ 3 0,m_ 4 0,b_ .neq 5 3 4,m_ 2 5]
def c141:Dp:=⟨1,6,[.t 2],sr ON (rr OO)⟩
def K141 (D:Bh):Prop:=∀a0 r,AF a0=some r→D 141 ⟨[iV a0],[]⟩ ⟨.bool r,[],[]⟩
theorem F141:K141 (FO C c141):=by
 intro a0 r h0
 refine f0 (?_)
 obtain rfl:=sj h0
 exact Dd 11

/- slices.BinarySearch[[]int,int] -/
def JL:=[i_ 4 0,k_ 5 (.bool false)]
def JM:=[m_ 10 0,n_ 11 10,m_ 6 11]
def JN:=[m_ 12 6,i_ 7 0,m_ 8 12]
def JO:=[m_ 13 7,m_ 14 8,b_ .lss 15 13 14]
def JP:List Bt:=[m_ 16 7,m_ 17 8,b_ .add 18 16 17,iQ 19 (.conv .u64 (.t 18)),⟨some 20,.p (.bin .shr (.t 19) (.c (.int .u64 1))),none⟩,iQ 21 (.conv .i64 (.t 20)),m_ 9 21]
def JQ:=[m_ 22 0,m_ 23 9,x_ 24 22 23 1,l_ 25 24 1,m_ 26 1,q_ 27 140 [.t 25,.t 26]]
def JR:=[m_ 28 9,B_ .add 29 28 1,m_ 7 29]
def JS:=[m_ 30 9,m_ 8 30]
def JK:IR:=(.seq (sr JO (.ite (.t 15) .skip (.exit 0))) (.block 1 (sr JP (sr JQ (.ite (.t 27) (.reg JR) (.reg JS))))))
def JT:List Bt:=[m_ 31 7,m_ 32 7,m_ 33 6,b_ .lss 34 32 33,m_ 35 34,mT 35 36 0,mT 35 37 7,xT 35 38 36 37 1,lT 35 39 38 1 false,mT 35 40 1,pT 35 41 (.bin .eql (.t 39) (.t 40)),mT 35 42 41,mF 42 43 0,mF 42 44 7,xF 42 45 43 44 1,lF 42 46 45 1 false,⟨some 47,.call 141 [.t 46],some (42,false)⟩,mF 42 48 47,mT 48 49 1,⟨some 50,.call 141 [.t 49],some (48,true)⟩,⟨some 51,.pick (.t 48) (.t 50) (.c (.bool false)),some (42,false)⟩,⟨some 52,.pick (.t 42) (.c (.bool true)) (.t 51),some (35,true)⟩,pa 53 35 52,m_ 4 31,m_ 5 53]
def pR:Dp:=⟨2,54,[.t 4,.t 5],sr JL (sr JM (sr JN (.seq (Ju 0 JK) (rr JT))))⟩
def K121 (D:Bh):Prop:=∀a0 a1 r,g121 a0 a1=some r→D 121 ⟨[lI a0,iV a1],[]⟩ ⟨.tup [iV r.1,.bool r.2],[],[]⟩
theorem F121 (H140:K140 C) (H141:K141 C):K121 (FO C pR):=by
 intro a0 a1 r h0
 refine f0 (Ay 4 [(0,lI a0),(1,iV a1)] [] (Bj (An (st (Bw rfl tv (Sn rfl (o_ (Ay 8 [(0,lI a0),(1,iV a1),(6,iV (a0.length:Int)),(7,iV 0),(8,iV (a0.length:Int))] [] (Bj (Cg (bb h0 fun r30 e31 h0=>Cz (R:=(fun S=>∃p21:Int,p21=r30∧S=⟨[(0,lI a0),(1,iV a1),(6,iV (a0.length:Int)),(7,iV p21)],[],[]⟩)) (Xm a0 a1) (fun s S=>match s with | (p9,p10)=>S=⟨[(0,lI a0),(1,iV a1),(6,iV (a0.length:Int)),(7,iV p9),(8,iV p10)],[],[]⟩) e31 _ (Ez (by kernel_rfl)) rfl 0 (fun _=>rfl) ?_ ?_)))))))))))
 ·rintro S _ hfg ⟨p21,rfl,rfl⟩
  refine Dn _ hfg (Bc 6 (An (st (Ce (u:=lI a0) rfl (fun hg=>(Dt (v:=lI a0) rfl tv)) (st (Ce (u:=iV p21) rfl (fun hg=>(Dt (v:=iV p21) rfl tv)) (bb h0 fun y32 e33 h0=>st (Ce (u:=.iptr [iV y32]) rfl (fun hg=>(Zd (e:=eI) (y:=y32) rfl rfl (fun _=>hg) rfl rfl (fun _=>hg) (ip hg e33))) (st (Ce (u:=iV y32) rfl (fun hg=>(Bb ⟨(fun _=>hg),tv⟩ rfl (nl rfl))) (st (Ce (u:=iV a1) rfl (fun hg=>(Dt (v:=iV a1) rfl tv)) (st (Ce (u:=.bool (y32==a1)) rfl (fun hg=>(Bb ⟨(fun _=>hg),(fun _=>hg),tv⟩ rfl tv)) (st (Ce (u:=.bool (y32==a1)) rfl (fun hg=>(Dt (v:=.may ((decide (p21<(a0.length:Int)))==true) (.bool (y32==a1))) rfl (fun _=>hg))) (st (Ce (u:=lI a0) rfl (fun hg=>(Dt (v:=lI a0) rfl tv)) (st (Ce (u:=iV p21) rfl (fun hg=>(Dt (v:=iV p21) rfl tv)) (bb h0 fun y34 e35 h0=>st (Ce (u:=.iptr [iV y34]) rfl (fun hg=>(Zd (e:=eI) (y:=y34) rfl rfl (fun _=>hg) rfl rfl (fun _=>hg) (ip hg e35))) (st (Ce (u:=iV y34) rfl (fun hg=>(Bb ⟨(fun _=>hg),tv⟩ rfl (nl rfl))) (bb h0 fun r36 e37 h0=>st (Gr (r:=.bool r36) rfl false (fun hg=>H141 y34 r36 (ip hg e37)) ⟨(fun hg=>hg),tv⟩ (fun _=>rfl) (fun _=>rfl) (fun _=>rfl) (fun h=>nomatch h) (st (Ce (u:=.bool r36) rfl (fun hg=>(Dt (v:=.may (((decide (p21<(a0.length:Int)))==true)&&((y32==a1)==false)) (.bool r36)) rfl (fun _=>hg))) (st (Ce (u:=iV a1) rfl (fun hg=>(Dt (v:=iV a1) rfl tv)) (bb h0 fun r38 e39 h0=>st (Gr (r:=.bool r38) rfl false (fun hg=>H141 a1 r38 (ip hg e39)) ⟨(fun hg=>hg),tv⟩ (fun _=>rfl) (fun _=>rfl) (fun _=>rfl) (fun h=>nomatch h) (st (aV (u:=.bool (bif r36 then r38 else false)) rfl (fun hg=>iA rfl rfl (fun _=>hg) rfl rfl (fun h=>Bi hg (Sr h)) tv rfl) (st (aV (u:=.bool (bif (y32==a1) then true else (bif r36 then r38 else false))) rfl (fun hg=>iA rfl rfl (fun _=>hg) rfl rfl tv (fun h=>Bi hg (eqf h)) rfl) (st (Eh rfl rfl rfl (fun h=>Sr h) tv rfl (o_ (Bc 3 (bv h0 fun v40 e41 h0=>Dn ⟨[(4,iV p21),(5,.bool v40)],[],[]⟩ (Ez (by subst e41; kernel_rfl)) ?_)))))))))))))))))))))))))))))))))))))))))
  obtain rfl:=sj h0
  exact Lf (Eg rfl rfl rfl rfl rfl tv)
 ·rintro ⟨p9,p10⟩ o1 _ K1 rfl h1 hx1 hK1 hE1 hR1
  refine Ay 6 [(0,lI a0),(1,iV a1),(6,iV (a0.length:Int)),(7,iV p9),(8,iV p10),(15,.bool (decide (p9<p10)))] [] (Ct h1 (fun c22 h1=>?_) (fun c22 h1=>?_))
  ·refine Bc 8 (An (st (c_ (Bb ⟨tv,tv,tv⟩ rfl (by decide)) (o_ (Bc 3 (bv h1 fun v23 e24 h1=>Dn ⟨[(0,lI a0),(1,iV a1),(6,iV (a0.length:Int)),(7,iV p9),(8,iV p10),(9,iV v23)],[],[]⟩ (Ez (by subst e24; kernel_rfl)) (Bc 3 (An (bb h1 fun y25 e26 h1=>Vv rfl rfl e26 (o_ (Bc 2 (An (bb h1 fun r27 e28 h1=>Vf (H140 y25 a1 r27 e28) (o_ (Ay 1 [(0,lI a0),(1,iV a1),(6,iV (a0.length:Int)),(7,iV p9),(8,iV p10),(9,iV v23),(27,.bool r27)] [] (Ct h1 (fun c29 h1=>?_) (fun c29 h1=>?_)))))))))))))))))
   ·refine Bc 5 ?_
    obtain rfl:=sj h1
    exact kn hK1 rfl rfl
   ·refine Bc 4 ?_
    obtain rfl:=sj h1
    exact kn hK1 rfl rfl
  ·obtain rfl:=sj h1
   obtain rfl:=hx1 _ rfl
   refine Jv rfl ?_
   exact jn hE1 ⟨_,rfl,rfl⟩

/- slices.Insert[[]int,int] -/
def JV:List Bt:=[⟨some 6,.nilS 1,none⟩]
def JW:List Bt:=[m_ 10 0,m_ 11 1,⟨some 12,.p (.slice (.t 10) (some (.t 11)) none 1),none⟩]
def JX:=[m_ 13 2,n_ 14 13,m_ 7 14]
def JY:=[m_ 15 7,B_ .eql 16 15 0]
def JZ:=[m_ 17 0,m_ 6 17]
def KA:=[m_ 18 0,n_ 19 18,m_ 8 19]
def KB:=[m_ 20 1,m_ 21 8,b_ .eql 22 20 21]
def KC:List Bt:=[m_ 23 0,m_ 24 2,⟨some 25,.app 1 8 (.t 23) (.t 24),none⟩,m_ 6 25]
def KD:List Bt:=[m_ 26 8,m_ 27 7,b_ .add 28 26 27,m_ 29 0,⟨some 30,.cap (.t 29),none⟩,b_ .gtr 31 28 30]
def KE:List Bt:=[m_ 32 0,m_ 33 1,⟨some 34,.p (.slice (.t 32) none (some (.t 33)) 1),none⟩,m_ 35 8,m_ 36 7,b_ .add 37 35 36,m_ 38 1,b_ .sub 39 37 38,⟨some 40,.appz 1 8 [iV 0] (.t 34) (.t 39),none⟩,m_ 9 40]
def tL:List Bt:=[m_ 41 9,m_ 42 1,⟨some 43,.p (.slice (.t 41) (some (.t 42)) none 1),none⟩,m_ 44 2,⟨some 45,.copy 1 (.t 43) (.t 44),none⟩]
def tM:=tk [m_ 46 9,m_ 47 1,m_ 48 7,b_ .add 49 47 48,⟨some 50,.p (.slice (.t 46) (some (.t 49)) none 1),none⟩,m_ 51 0,m_ 52 1,⟨some 53,.p (.slice (.t 51) (some (.t 52)) none 1),none⟩] (.alt [] ⟨some 54,.copy 1 (.t 50) (.t 53),none⟩ .fin .stop)
def tN:=[m_ 55 9,m_ 6 55]
def tO:List Bt:=[m_ 56 0,m_ 57 8,m_ 58 7,b_ .add 59 57 58,⟨some 60,.p (.slice (.t 56) none (some (.t 59)) 1),none⟩,m_ 0 60]
def tP:List Bt:=[m_ 61 2,m_ 62 0,m_ 63 1,m_ 64 7,b_ .add 65 63 64,⟨some 66,.p (.slice (.t 62) (some (.t 65)) none 1),none⟩,iQ 67 (.ovl (.t 61) (.t 66)),N_ 68 67]
def tQ:=tk [m_ 69 0,m_ 70 1,m_ 71 7,b_ .add 72 70 71,⟨some 73,.p (.slice (.t 69) (some (.t 72)) none 1),none⟩,m_ 74 0,m_ 75 1,⟨some 76,.p (.slice (.t 74) (some (.t 75)) none 1),none⟩] (.alt [] ⟨some 77,.copy 1 (.t 73) (.t 76),none⟩ .fin .stop)
def tR:List Bt:=[m_ 78 0,m_ 79 1,⟨some 80,.p (.slice (.t 78) (some (.t 79)) none 1),none⟩,m_ 81 2,⟨some 82,.copy 1 (.t 80) (.t 81),none⟩]
def tS:=[m_ 83 0,m_ 6 83]
def tT:List Bt:=[m_ 84 0,m_ 85 8,⟨some 86,.p (.slice (.t 84) (some (.t 85)) none 1),none⟩,m_ 87 2,⟨some 88,.copy 1 (.t 86) (.t 87),none⟩]
def tU:List Bt:=[m_ 89 0,m_ 90 1,⟨some 91,.p (.slice (.t 89) (some (.t 90)) none 1),none⟩,m_ 92 7,q_ 93 143 [.t 91,.t 92]]
def tV:=[m_ 94 0,m_ 6 94]
def JU:Dp:=⟨3,95,[.t 6],sr JV (sr JW (sr JX (.seq (sr JY (iz 16 (rr JZ))) (sr KA (.seq (sr KB (iz 22 (rr KC))) (.seq (sr KD (iz 31 (sr KE (sr tL (sd tM (rr tN)))))) (sr tO (.seq (sr tP (iz 68 (sd tQ (sr tR (rr tS))))) (sr tT (sr tU (rr tV)))))))))))⟩
def K122 (D:Bh):Prop:=∀a0 a1 a2 r,g122 a0 a1 a2=some r→D 122 ⟨[oI 1024000 a0,iV a1,oI 2097152 a2],[]⟩ ⟨oI 0 r.1,[],[(0,1,r.2.map eI)]⟩
abbrev Sk:=fun x0 x1 (r:List (Nat×V))=>(0,oI 1024000 x0)::(2,oI 2097152 x1)::r
theorem F122:K122 (FO C JU):=by
 intro a0 a1 a2 r h0
 refine f0 ?_
 obtain ⟨⟨hb,hpos,hl⟩,h0⟩:=grd h0
 obtain rfl:=sj h0
 obtain ⟨i,rfl⟩:=Int.eq_ofNat_of_zero_le hb.1
 have hi:i≤a0.length:=by omega
 rw [show ((i:Nat):Int).toNat=i from rfl]
 have hbyte:(a0.length+a2.length)*8≤140737488355328:=Nat.le_trans (Nat.mul_le_mul_right 8 hl) (by decide)
 have hsm:a0.length+a2.length≤140737488355328:=by omega
 have w1:wi ((a0.length:Int)+(a2.length:Int))=((a0.length+a2.length:Nat):Int):=DR _ (by omega) (by omega)
 have w2:wi ((i:Int)+(a2.length:Int))=((i+a2.length:Nat):Int):=DR _ (by omega) (by omega)
 have w3:wi (((a0.length+a2.length:Nat):Int)-(i:Int))=((a0.length+a2.length-i:Nat):Int):=DR _ (by omega) (by omega)
 refine Ay 3 (Sk a0 a2 [(1,iV i)]) [] (Bc 3 (An (st (c_ (Ep (e:=eI) (y:=a0.drop i) rfl rfl tv ⟨tv,tv⟩ rfl rfl (cC a0 i hi)) (o_ (Ay 1 (Sk a0 a2 [(1,iV i)]) [] (Bj (An (st (Bw rfl tv (aS rfl (o_ (Ay 2 (Sk a0 a2 [(1,iV i),(7,iV (a2.length:Int))]) [] (Bc 6 (Vo (cb:=(a2.length:Int)==0) rfl (fun h=>absurd (eq_of_beq h) (by omega)) (fun _=>(Ay 1 (Sk a0 a2 [(1,iV i),(7,iV (a2.length:Int))]) [] (Bj (An ?_)))))))))))))))))))
 refine st (Bw rfl tv (aS rfl (o_ (Ay 2 (Sk a0 a2 [(1,iV i),(7,iV (a2.length:Int)),(8,iV (a0.length:Int))]) [] (Bc 7 (Vo (cb:=(i:Int)==(a0.length:Int)) rfl (fun h=>?_) (fun h=>?_)))))))
 ·have e1:i=a0.length:=by have:=eq_of_beq h; omega
  subst e1
  rw [List.take_length,List.drop_length,List.append_nil]
  refine Bc 3 (An (st (Ja (e:=eI) (l0:=a0) (l1:=a2) rfl rfl tv rfl (show (1024000:Nat)<1048576 by decide) hbyte (o_ (Ay 2 [(6,oI 1024000 (a0++a2)),(2,oI 2097152 a2)] [] ?_)))))
  exact Lf (Eg rfl rfl rfl rfl rfl ⟨⟨rfl,Mp (fun _=>rfl)⟩,tv⟩)
 have hlt:i<a0.length:=by
  have:(i:Int)≠(a0.length:Int):=fun h1=>by rw [h1] at h; simp at h
  omega
 have hemp:a0.map eI≠[]:=fun e1=>by
  have:=congrArg List.length e1
  simp at this
  subst this
  simp at hlt
 have hemp2:a2.map eI≠[]:=fun e1=>by
  have:=congrArg List.length e1
  simp at this
  subst this
  simp at hpos
 refine Ay 1 (Sk a0 a2 [(1,iV i),(7,iV (a2.length:Int)),(8,iV (a0.length:Int))]) [] (Bc 4 (An (st (c_ (Bb (v:=iV ((a0.length+a2.length:Nat):Int)) ⟨tv,tv,tv⟩ (congrArg (fun z=>some (True,V.int .i64 z)) w1) tv) (st (Bw rfl tv (st (cap_ (e:=eI) (l0:=a0) rfl fun c hc _ _=>(o_ (Bc 2 ?_))))))))))
 refine Dn ⟨[(31,.bool (decide (((a0.length+a2.length:Nat):Int)>(c:Int)))),(0,oI 1024000 a0),(1,iV i),(2,oI 2097152 a2),(7,iV (a2.length:Int)),(8,iV (a0.length:Int))],[],[(0,Em+(c:Int))]⟩
  (zR ⟨rfl,rfl,rfl,rfl,rfl,rfl,tv⟩ tv ⟨.inr (.inr ⟨29,Em+(c:Int),_,_,0,_,0,_,rfl,rfl,hemp,rfl,hemp,by decide,.inr ⟨rfl,rfl⟩⟩),tv⟩) ?_
 refine Vo (cb:=decide (((a0.length+a2.length:Nat):Int)>(c:Int))) rfl (fun hgt=>?_) (fun hle=>?_)
 ·have hgt':c<a0.length+a2.length:=by have:=of_decide_eq_true hgt; omega
  refine Bc 3 (An (st (c_ (Ep (e:=eI) (y:=a0.take i) rfl rfl tv ⟨tv,tv⟩ rfl rfl (by rw [show (none:Option Int).getD 0=((0:Nat):Int) from rfl]; exact slcN a0 0 i (by omega) (by omega))) (o_ (Bc 2 (An (st (c_ (Bb (v:=iV ((a0.length+a2.length:Nat):Int)) ⟨tv,tv,tv⟩ (congrArg (fun z=>some (True,V.int .i64 z)) w1) tv) (st (Bw rfl tv (st (c_ (Bb (v:=iV ((a0.length+a2.length-i:Nat):Int)) ⟨tv,tv,tv⟩ (congrArg (fun z=>some (True,V.int .i64 z)) w3) tv) (st (sH (e:=eI) (l0:=a0.take i) (c:=Em+(c:Int)-0) (t:=1024000) (default:Int) rfl rfl rfl (by decide) (Int.natCast_nonneg _) ?_ rfl (by omega) ?_ ?_))))))))))))))
  ·have e1:(a0.take i).length+(a0.length+a2.length-i)=a0.length+a2.length:=by simp; omega
   have:=Int.ofNat_le.2 hbyte
   rw [Int.natCast_mul] at this
   rw [←Int.natCast_add,e1]
   exact this
  ·have e1:(a0.take i).length=i:=by simp; omega
   rw [e1]; omega
  rw [show ((a0.length+a2.length-i:Nat):Int).toNat=a0.length+a2.length-i from rfl]
  refine o_ (Ay 2 (Sk a0 a2 [(9,oI 2560 (a0.take i++List.replicate (a0.length+a2.length-i) (default:Int))),(1,iV i),(7,iV (a2.length:Int))]) [] ?_)
  generalize hR:a0.take i++List.replicate (a0.length+a2.length-i) (default:Int)=R
  have hRl:R.length=a0.length+a2.length:=by rw [←hR]; simp; omega
  have hRt:R.take i=a0.take i:=by rw [←hR,List.take_append_of_le_length (by simp; omega),List.take_take,Nat.min_self]
  refine Bc 3 (An (st (c_ (Ep (e:=eI) (y:=R.drop i) rfl rfl tv ⟨tv,tv⟩ rfl rfl (cC R i (by omega))) (st (Bw rfl tv (st (copy_ (e:=eI) (l0:=R.drop i) (l1:=a2) (t:=2560) rfl rfl tv rfl (Hj (Dn ⟨[(9,oI 2560 (ovl R i (a2.take (R.drop i).length))),(0,oI 1024000 a0),(1,iV i),(2,oI 2097152 a2),(7,iV (a2.length:Int))],[],[]⟩ (fg ⟨congrArg (fun z=>some (V.own 2560 0 1 z)) (Jo (off:=0)),rfl,rfl,rfl,rfl,tv⟩ tv) ?_)))))))))
  have hR2l:(ovl R i (a2.take (R.drop i).length)).length=a0.length+a2.length:=by rw [fW,hRl]
  generalize hR2:ovl R i (a2.take (R.drop i).length)=R2 at hR2l
  refine Bc 4 (Bl (Ag tv (c_ (Bb (v:=iV ((i+a2.length:Nat):Int)) ⟨tv,tv,tv⟩ (congrArg (fun z=>some (True,V.int .i64 z)) w2) tv) (⟨tv,Ag tv (c_ (Ep (e:=eI) (y:=R2.drop (i+a2.length)) rfl rfl tv ⟨tv,tv⟩ rfl rfl (cC R2 (i+a2.length) (by omega))) (⟨tv,d_ (Bc 2 (Bl (Ag tv (c_ (Ep (e:=eI) (y:=a0.drop i) rfl rfl tv ⟨tv,tv⟩ rfl rfl (cC a0 i hi)) (⟨tv,Bu (copy_ (e:=eI) (l0:=R2.drop (i+a2.length)) (l1:=a0.drop i) (t:=2560) rfl rfl tv rfl (d0 tv (Gf ?_))) Au⟩)))))⟩))⟩))))
  have hfin:ovl R2 (i+a2.length) ((a0.drop i).take (R2.drop (i+a2.length)).length)=a0.take i++a2++a0.drop i:=by
   rw [←hR2]
   exact ovl_ins hRl hRt hi
  refine Dn ⟨[(9,oI 2560 (a0.take i++a2++a0.drop i)),(2,oI 2097152 a2)],[],[]⟩ (fg ⟨(congrArg (fun z=>some (V.own 2560 0 1 z)) (Jo (off:=0))).trans (congrArg (fun z=>some (V.own 2560 0 1 (z.map eI))) hfin),rfl,tv⟩ tv) (Bc 5 ?_)
  exact Lf (Eg rfl rfl rfl rfl rfl ⟨⟨rfl,Mp (fun _=>rfl)⟩,tv⟩)
 ·have hle':a0.length+a2.length≤c:=by have:=of_decide_eq_false hle; omega
  refine Jf ?_
  refine Dn ⟨[(0,oI 1024000 a0),(1,iV i),(2,oI 2097152 a2),(7,iV (a2.length:Int)),(8,iV (a0.length:Int))],[],[(0,Em+(c:Int))]⟩
   (zR ⟨rfl,rfl,rfl,rfl,rfl,tv⟩ tv ⟨.inl ⟨_,rfl,.inl rfl⟩,tv⟩) ?_
  refine Bc 4 (An (st (c_ (Bb (v:=iV ((a0.length+a2.length:Nat):Int)) ⟨tv,tv,tv⟩ (congrArg (fun z=>some (True,V.int .i64 z)) w1) tv) (st (c_ (pC (e:=eI) (l0:=a0) (t:=1024000) (sz:=1) (H:=a0.length+a2.length) (c:=Em+(c:Int)) rfl rfl (Nat.le_add_right _ _) (show (0:Nat)<1 by decide) rfl (by rw [aH]; omega)) (st (Bw rfl tv (Hj ?_))))))))
  rw [Nat.add_sub_cancel_left]
  have hA0:(a0.map some++List.replicate a2.length none).length=a0.length+a2.length:=by simp
  have hA1:(a0.map some++List.replicate a2.length none).take i=(a0.take i).map some:=by rw [List.take_append_of_le_length (by simpa using hi),List.map_take]
  have hA2:((a0.map some++List.replicate a2.length none).drop i).take (a0.length-i)=(a0.drop i).map some:=by
   rw [List.drop_append_of_le_length (by simpa using hi),←List.map_drop,List.take_append_of_le_length (by simp),List.take_of_length_le (by simp)]
  generalize (a0.map some++List.replicate a2.length none:List (Option (Int)))=A at hA0 hA1 hA2
  refine Ay 0 [(0,.own 1024000 0 1 (A.map (eo eI 1))),(1,iV i),(2,oI 2097152 a2),(7,iV (a2.length:Int)),(8,iV (a0.length:Int))] [] (Bc 6 (An (st (c_ (Bb (v:=iV ((i+a2.length:Nat):Int)) ⟨tv,tv,tv⟩ (congrArg (fun z=>some (True,V.int .i64 z)) w2) tv) (st (c_ (Ep (e:=eo eI 1) (y:=A.drop (i+a2.length)) rfl rfl tv ⟨tv,tv⟩ rfl rfl (cC A (i+a2.length) (by omega))) (st (c_ (covl rfl rfl (by decide) hemp2 (fun e1=>?_)) ?_))))))))
  ·have:=congrArg List.length e1
   simp at this
   omega
  refine o_ (Ay 2 [(68,.bool true),(0,.own 1024000 0 1 (A.map (eo eI 1))),(1,iV i),(2,oI 2097152 a2),(7,iV (a2.length:Int)),(8,iV (a0.length:Int))] [] (Vo (cb:=true) rfl (fun _=>(Bc 4 (Bl (Ag tv (c_ (Bb (v:=iV ((i+a2.length:Nat):Int)) ⟨tv,tv,tv⟩ (congrArg (fun z=>some (True,V.int .i64 z)) w2) tv) (⟨tv,Ag tv (c_ (Ep (e:=eo eI 1) (y:=A.drop (i+a2.length)) rfl rfl tv ⟨tv,tv⟩ rfl rfl (cC A (i+a2.length) (by omega))) (⟨tv,d_ (Bc 2 (Bl (Ag tv (c_ (Ep (e:=eo eI 1) (y:=A.drop i) rfl rfl tv ⟨tv,tv⟩ rfl rfl (cC A i (by omega))) (⟨tv,Bu (copy_ (e:=eo eI 1) (l0:=A.drop (i+a2.length)) (l1:=A.drop i) (t:=1024000) rfl rfl tv rfl (d0 tv (Gf ?_))) Au⟩)))))⟩))⟩)))))) (fun h=>by cases h)))
  have hB:(A.drop i).take (A.drop (i+a2.length)).length=(a0.drop i).map some:=by
   rw [←hA2]; congr 1; simp; omega
  rw [hB]
  refine Dn ⟨[(0,.own 1024000 0 1 ((ovl A (i+a2.length) ((a0.drop i).map some)).map (eo eI 1))),(1,iV i),(2,oI 2097152 a2)],[],[]⟩ (fg ⟨congrArg (fun z=>some (V.own 1024000 0 1 z)) (Jo (off:=0)),rfl,rfl,tv⟩ tv) ?_
  have hR2l:(ovl A (i+a2.length) ((a0.drop i).map some)).length=a0.length+a2.length:=by rw [fW,hA0]
  have hfin:ovl (ovl A (i+a2.length) ((a0.drop i).map some)) i (a2.map some)=(a0.take i++a2++a0.drop i).map some:=CC hA0 hA1 hi
  generalize ovl A (i+a2.length) ((a0.drop i).map some)=R2 at hR2l hfin
  refine Bc 3 (An (st (c_ (Ep (e:=eo eI 1) (y:=R2.drop i) rfl rfl tv ⟨tv,tv⟩ rfl rfl (cC R2 i (by omega))) (st (Bw rfl tv (st (copy_ (e:=eo eI 1) (l0:=R2.drop i) (l1:=a2.map some) (t:=1024000) rfl rfl tv (congrArg (fun z=>some (1,z)) (Xh a2)) (Hj ?_))))))))
  have hT:(a2.map some).take (R2.drop i).length=a2.map some:=List.take_of_length_le (by simp; omega)
  rw [hT]
  refine Dn ⟨[(0,oI 1024000 (a0.take i++a2++a0.drop i)),(2,oI 2097152 a2)],[],[]⟩
   (fg ⟨(congrArg (fun z=>some (V.own 1024000 0 1 z)) (Jo (off:=0))).trans (congrArg (fun z=>some (V.own 1024000 0 1 z)) ((congrArg (List.map (eo eI 1)) hfin).trans (Xh _).symm)),rfl,tv⟩ tv) ?_
  refine Bc 5 ?_
  exact Lf (Eg rfl rfl rfl rfl rfl ⟨⟨rfl,Mp (fun _=>rfl)⟩,tv⟩)


/- slices.Delete[[]int,int] -/
def KF:List Bt:=[⟨some 6,.nilS 1,none⟩]
def KG:List Bt:=[m_ 8 0,m_ 9 1,m_ 10 2,m_ 11 0,n_ 12 11,⟨some 13,.chk3 (.t 8) (.t 9) (.t 10) (.t 12),none⟩]
def KH:=[m_ 14 1,m_ 15 2,b_ .eql 16 14 15]
def KI:=[m_ 17 0,m_ 6 17]
def KJ:=[m_ 18 0,n_ 19 18,m_ 7 19]
def KK:=tk [m_ 20 0,m_ 21 1,⟨some 22,.p (.slice (.t 20) none (some (.t 21)) 1),none⟩,m_ 23 0,m_ 24 2,⟨some 25,.p (.slice (.t 23) (some (.t 24)) none 1),none⟩] (.alt [] ⟨some 26,.app 1 8 (.t 22) (.t 25),none⟩ (.alt [] (m_ 0 26) .fin .stop) .stop)
def KL:List Bt:=[m_ 27 0,m_ 28 0,n_ 29 28,m_ 30 7,⟨some 31,.p (.slice (.t 27) (some (.t 29)) (some (.t 30)) 1),none⟩,⟨none,.clear 1 [iV 0] (.t 31),none⟩]
def KM:=[m_ 32 0,m_ 6 32]
def c123:Dp:=⟨3,33,[.t 6],sr KF (sr KG (.seq (sr KH (iz 16 (rr KI))) (sr KJ (sd KK (sr KL (rr KM))))))⟩
def K123 (D:Bh):Prop:=∀a0 a1 a2 r,g123 a0 a1 a2=some r→D 123 ⟨[oI 1024000 a0,iV a1,iV a2],[]⟩ ⟨oI 0 r,[],[]⟩
theorem F123:K123 (FO C c123):=by
 intro a0 a1 a2 r h0
 refine f0 ?_
 obtain ⟨⟨hb,hl⟩,h0⟩:=grd h0
 obtain rfl:=sj h0
 obtain ⟨i,rfl⟩:=Int.eq_ofNat_of_zero_le hb.1
 obtain ⟨j,rfl⟩:=Int.eq_ofNat_of_zero_le (Int.le_trans hb.1 hb.2.1)
 have hij:i≤j:=by omega
 have hx63:(a0.length:Int)<Em:=by have:=hl; simp only [Em]; omega
 have hj:j≤a0.length:=by omega
 rw [show ((i:Nat):Int).toNat=i from rfl,show ((j:Nat):Int).toNat=j from rfl]
 refine Ay 3 [(0,oI 1024000 a0),(1,iV i),(2,iV j)] [] (Bj (An (st (Bw rfl tv (st (Bw rfl tv (st (Bw rfl tv (st (Bw rfl tv (aS rfl (st (chk3O (e:=eI) (l0:=a0) rfl rfl rfl rfl ⟨by omega,by omega,by omega,Int.le_refl _⟩ (o_ (Ay 1 [(0,oI 1024000 a0),(1,iV i),(2,iV j)] [] (Bj (Bj (An (st (Bw rfl tv (st (Bw rfl tv (st (c_ (Bb t3 rfl tv) (Hj (bM (Vo (cb:=(i:Int)==(j:Int)) rfl (fun h=>?_) (fun h=>?_))))))))))))))))))))))))))))
 ·have e1:i=j:=by have:=eq_of_beq h; omega
  subst e1
  rw [List.take_append_drop]
  refine Bj (An (st (Bw rfl tv (st (Bw rfl tv (Hj (bM ?_)))))))
  exact Lf (Eg rfl rfl rfl rfl rfl tv)
 ·have hne:i≠j:=fun e1=>by subst e1; simp at h
  have hemp:a0.map eI≠[]:=fun e1=>by
   have:=congrArg List.length e1
   simp at this
   subst this
   simp at hj
   omega
  refine Ay 1 [(0,oI 1024000 a0),(1,iV i),(2,iV j)] [] (Bj (An (st (Bw rfl tv (aS rfl (st (Bw rfl tv (Hj (Dn ⟨[(0,oI 1024000 a0),(1,iV i),(2,iV j),(7,iV (a0.length:Int))],[],[(0,(a0.length:Int))]⟩ (zR ⟨rfl,rfl,rfl,rfl,tv⟩ tv ⟨.inr (.inl ⟨_,_,_,_,rfl,hemp,by simp,hx63,by decide⟩),tv⟩) (Bj (Bl (Ag tv (Bw rfl tv (⟨tv,Ag tv (Bw rfl tv (⟨tv,Ag tv (c_ (Ep (e:=eI) (y:=a0.take i) rfl rfl tv ⟨tv,tv⟩ rfl rfl (by rw [show (none:Option Int).getD 0=((0:Nat):Int) from rfl]; exact slcN a0 0 i (by omega) (by omega))) (⟨tv,Ag tv (Bw rfl tv (⟨tv,Ag tv (Bw rfl tv (⟨tv,Ag tv (c_ (Ep (e:=eI) (y:=a0.drop j) rfl rfl tv ⟨tv,tv⟩ rfl rfl (cC a0 j hj)) (⟨tv,Bu (appc_ (e:=eI) (l0:=a0.take i) (l1:=a0.drop j) (t:=1024000) (sz:=1) (vy:=.own 1024000 (0+j) 1 ((a0.drop j).map eI)) (c:=(a0.length:Int)-0) rfl rfl tv rfl (show (1024000:Nat)<1048576 by decide) ?_ rfl ?_ ?_) Au⟩))⟩))⟩))⟩))⟩))⟩))))))))))))))
  ·have:(a0.take i).length+(a0.drop j).length≤a0.length:=by simp; omega
   exact Nat.le_trans (Nat.mul_le_mul_right 8 this) (Nat.le_trans (Nat.mul_le_mul_right 8 hl) (by decide))
  ·rw [Lr (show (a0.length:Int)-0<Em by omega)]; simp; omega
  refine d0 tv (Bu (Bw rfl tv (d0 tv (Gf ?_))) Au)
  generalize hR:a0.take i++a0.drop j=R
  have hRl:R.length≤a0.length:=by rw [←hR]; simp; omega
  refine Dn ⟨[(0,oI 1024000 R),(7,iV (a0.length:Int))],[],[(0,(a0.length:Int)-0)]⟩ (zR ⟨rfl,rfl,tv⟩ tv ⟨.inl ⟨_,rfl,.inl rfl⟩,tv⟩) (Bj (An (st (Bw rfl tv (st (Bw rfl tv (aS rfl (st (Bw rfl tv (st (c_ (dN (e:=eI) (R:=R) (t:=1024000) (sz:=1) (L:=R.length) (H:=a0.length) (c:=(a0.length:Int)-0) rfl rfl rfl rfl hRl (show (0:Nat)<1 by decide) rfl (by rw [Lr (show (a0.length:Int)-0<Em by omega)]; omega)) (st (hY rfl (Hj (Dn ⟨[(0,oI 1024000 R)],[],[]⟩ (fg ⟨past1 (Nat.le_refl _),tv⟩ tv) (Bj (An (st (Bw rfl tv (st (Bw rfl tv (Hj (bM ?_)))))))))))))))))))))))
  exact Lf (Eg rfl rfl rfl rfl rfl tv)

/- loop.example/g00149/impl.call -/
def c89_r0:List Bt:=[⟨some 8,.nilS 1,none⟩,i_ 9 0]
def c89_r1:=[m_ 13 0,q_ 14 120 [.t 13],m_ 10 14]
def c89_r2:=[m_ 15 3,B_ .eql 16 15 1]
def c89_r3:=[m_ 17 10,m_ 8 17,i_ 9 13]
def c89_r4:=[m_ 19 10,m_ 20 1,q_ 21 121 [.t 19,.t 20],m_ 18 21,e_ 22 18 0,e_ 23 18 1,m_ 11 22,m_ 12 23]
def c89_r5:=[m_ 25 2,m_ 26 25,mT 26 27 12,pT 26 28 (.un .not (.t 27)),pa 29 26 28,m_ 24 29]
def c89_r6:List Bt:=[m_ 30 10,m_ 31 11,m_ 32 1,⟨some 33,.mkS 1 [iV 0] 1 [(0,.t 32)],none⟩,q_ 34 122 [.t 30,.t 31,.t 33],m_ 10 34]
def c89_r7:=[m_ 36 2,N_ 37 36,m_ 38 37,mT 38 39 12,pa 40 38 39,m_ 35 40]
def c89_r8:=[m_ 41 10,m_ 42 11,m_ 43 11,B_ .add 44 43 1,q_ 45 123 [.t 41,.t 42,.t 44],m_ 10 45]
def c89_r9:=[m_ 46 3,B_ .eql 47 46 2]
def Aaw:=[m_ 48 10,m_ 8 48,i_ 9 15]
def Aax:=[m_ 49 10,m_ 8 49,i_ 9 0]
def c89:Dp:=⟨4,50,[.t 8,.t 9],sr c89_r0 (sr c89_r1 (.seq (sr c89_r2 (iz 16 (rr c89_r3))) (sr c89_r4 (.seq (.block 0 (sr c89_r5 (.ite (.t 24) (.reg c89_r6) (sr c89_r7 (iz 35 (.reg c89_r8)))))) (.seq (sr c89_r9 (iz 47 (rr Aaw))) (rr Aax))))))⟩
def K89 (D:Bh):Prop:=∀a0 a1 a2 a3 r,g89 a0 a1 a2 a3=some r→D 89 ⟨[lI a0,iV a1,.bool a2,iV a3],[]⟩ ⟨.tup [oI 0 r.1,iV r.2],[],[]⟩
theorem F89 (H120:EI C) (H121:K121 C) (H122:K122 C) (H123:K123 C):K89 (FO C c89):=by
 intro a0 a1 a2 a3 r h0
 refine f0 (Ay 4 [(0,lI a0),(1,iV a1),(2,.bool a2),(3,iV a3)] [] (Bj (An (st (Bw rfl tv (bb h0 fun r1 e2 h0=>Sy (H120 a0 r1 e2) (af rfl) (o_ (Ay 8 [(1,iV a1),(2,.bool a2),(3,iV a3),(10,oI 896 r1),(16,.bool (a3==1))] [] (Ct h0 (fun c3 h0=>?_) (fun c3 h0=>?_))))))))))
 ·obtain rfl:=sj h0
  exact Dd 6
 ·refine Bc 5 (An (bb h0 fun r4 e5 h0=>Vf (H121 r1 a1 r4 e5) (o_ (Ay 6 [(1,iV a1),(2,.bool a2),(3,iV a3),(10,oI 896 r1),(11,iV r4.1),(12,.bool r4.2)] [] (Bj (Hs (fun S=>∃p13:List Int,S=⟨[(3,iV a3),(10,oI 2176 p13)],[],[]⟩∧Vm a3 p13=some r) ?_ (fun J15=>?_)))))))
  ·rintro _ ⟨p13,rfl,h0⟩
   refine Ay 6 [(10,oI 2176 p13),(47,.bool (a3==2))] [] (Ct h0 (fun c14 h0=>?_) (fun c14 h0=>?_))
   ·obtain rfl:=sj h0
    exact Dd 6
   ·obtain rfl:=sj h0
    exact Dd 8
  ·refine Bj ?_
   refine AU 7 [(1,iV a1),(2,.bool a2),(3,iV a3),(10,oI 896 r1),(11,iV r4.1),(12,.bool r4.2),(24,.bool (bif a2 then (!r4.2) else false))] [] (Ct h0 (fun c16 h0=>?_) (fun c16 h0=>?_))
   ·refine Bc 4 (An (bb h0 fun r17 e18 h0=>gg h0 fun c19 h0=>gW [] [2112] [896] (H122 r1 r4.1 ([a1]:List Int) r17 e18) (Bi (af rfl) (Bi (nT (fun _=>rfl)) rfl)) (st (Bw rfl tv (Hj (Rd ?_))))))
    exact jn J15 ⟨_,rfl,h0⟩
   ·refine AU 8 [(3,iV a3),(10,oI 896 r1),(11,iV r4.1),(35,.bool (bif (!a2) then r4.2 else false))] [] (Ct h0 (fun EC h0=>?_) (fun EC h0=>?_))
    ·refine Bc 4 (An (bb h0 fun r21 e22 h0=>gW [] [] [896] (H123 r1 r4.1 (wi (r4.1+1)) r21 e22) (Bi (af rfl) rfl) (st (Bw rfl tv (Hj (Rd ?_))))))
     exact J15 _ _ (Vh [] [(2880,2176)] rfl (by kernel_rfl)) ⟨_,rfl,h0⟩
    ·refine Jf (Rd ?_)
     exact J15 _ _ (Vh [] [(896,2176)] rfl (by kernel_rfl)) ⟨_,rfl,h0⟩

/- (*loop.example/g00149/impl.runner).call -/
def YR:=[i_ 6 0]
def YS:=[i_ 7 0]
def YT:=tk [m_ 10 0,iQ 11 (.nilc (.t 10)),f_ 12 11 13,l_ 13 12 1,m_ 14 0,iQ 15 (.nilc (.t 14)),f_ 16 15 6,f_ 17 16 5,l_ 18 17 1,n_ 19 18,b_ .lss 20 13 19] .fin
def YU:=tk [m_ 21 0,iQ 22 (.nilc (.t 21)),f_ 23 22 6,f_ 24 23 5,l_ 25 24 1,m_ 26 0,iQ 27 (.nilc (.t 26)),f_ 28 27 13,l_ 29 28 1,x_ 30 25 29 1,l_ 31 30 1,m_ 7 31] .fin
def YV:=[m_ 32 0,iQ 33 (.nilc (.t 32)),f_ 34 33 13,l_ 35 34 1,B_ .add 36 35 1,iQ 37 (.nilc (.t 32)),f_ 38 37 13,s_ 38 36 1]
def YW:=[m_ 40 0,iQ 41 (.nilc (.t 40)),f_ 42 41 0,f_ 43 42 4,l_ 44 43 1,m_ 45 1,m_ 46 2,m_ 47 7,q_ 48 89 [.t 44,.t 45,.t 46,.t 47],m_ 39 48,e_ 49 39 0,e_ 50 39 1,m_ 8 49,m_ 9 50]
def YX:=[m_ 51 0,m_ 52 8,iQ 53 (.nilc (.t 51)),f_ 54 53 0,f_ 55 54 4,s_ 55 52 1]
def YY:=[m_ 56 9,m_ 6 56]
def c471:Dp:=⟨3,57,[.t 6],sr YR (sr YS (.seq (sd YT (iz 20 (.draw YU))) (sr YV (sr YW (sr YX (rr YY))))))⟩
def EQ (D:Bh):Prop:=∀a0 a1 a2 r,eW a0 a1 a2=some r→D 471 ⟨[.ptr 1048576 0,iV a1,.bool a2],[Ft a0 (Ap 1024000) (Ap 1024001) (Ap 1024002) u_]⟩ ⟨iV r.1,[Ft r.2 (Ap 0) (Ap 1) (Ap 2) u_],[]⟩
abbrev mI:=fun x0 (r:List (Nat×List V))=>(1048576,Ft x0 (Ap 1024000) (Ap 1024001) (Ap 1024002) u_)::r
theorem F471 (H89:K89 C):EQ (FO C c471):=by
 intro a0 a1 a2 r h0
 refine f0 (Ay 7 [(0,.ptr 1048576 0),(1,iV a1),(2,.bool a2),(7,iV 0)] (mI a0 []) (Bc 10 (Bl (Ag tv (c_ (Bb ⟨tv,tv⟩ rfl (nl rfl)) ?_)))))
 refine ⟨tv,Ag tv (c_ (cO (e:=eI) (l0:=a0.a.Cb) rfl rfl tv) (⟨tv,d_ (Ay 2 [(0,.ptr 1048576 0),(1,iV a1),(2,.bool a2),(7,iV 0),(20,.bool (decide (a0.Gs<(a0.a.Cb.length:Int))))] (mI a0 []) (Kg (cb:=(decide (a0.Gs<(a0.a.Cb.length:Int)))) (fun S=>∃p4:Int,S=⟨[(0,.ptr 1048576 0),(1,iV a1),(2,.bool a2),(7,iV p4)],mI a0 [],[]⟩∧Tr a0 a1 a2 p4=some r) rfl ?_ (fun c8 J7=>?_) (fun c8 J7=>?_)))⟩))⟩
 ·rintro _ ⟨p4,rfl,h0⟩
  refine Ay 11 [(0,.ptr 1048576 0),(1,iV a1),(2,.bool a2),(7,iV p4)] [(1048576,Cr a0.v.Ad.clock a0.v.Ad.next (Ap 1024000) a0.v.Ad.Ae (Ap 1024001) a0.v.Ab (Ap 1024002) a0.v.Ai a0.v.Al a0.a.kind a0.a.id a0.a.ttl a0.a.Ef a0.a.clock u_ a0.a.Cb a0.a.stop (wi (a0.Gs+1)))] (Bc 9 (An (bb h0 fun r5 e6 h0=>Sy (H89 a0.v.Ai a1 a2 p4 r5 e6) (af (Bi rfl rfl)) (o_ ?_))))
  obtain rfl:=sj h0
  exact Dd 21
 ·replace h0:=ip c8 h0
  refine bb h0 fun y9 e10 h0=>Bc 9 (Bl (d_ (xv_ rfl rfl rfl e10 (Bc 3 ?_))))
  exact jn J7 ⟨_,rfl,h0⟩
 ·replace h0:=Wx c8 h0
  refine Jf ?_
  exact jn J7 ⟨_,rfl,h0⟩

/- (loop.example/g00149/impl.Vault).issue -/
def XC:=[X_ 2 0,X_ 3 1,a_ 4 (zV 259 260 261),a_ 5 [iV 0,iV 0]]
def XD:=[f_ 12 2 0,L_ 13 12 3,f_ 14 3 2,l_ 15 14 1,f_ 16 3 3,l_ 17 16 1,q_ 18 71 [.t 13,.t 15,.t 17],m_ 11 18,e_ 19 11 0,e_ 20 11 1,e_ 21 11 2,a_ 6 (zT 387),s_ 6 19 3,m_ 7 20,m_ 8 21]
def XE:=[m_ 22 8,B_ .eql 23 22 0,m_ 24 23,fT 24 25 2 3,lT 24 26 25 1 false,pT 24 27 (.len (.t 26)),pT 24 28 (.bin .eql (.t 27) (.c (iV 40))),pa 29 24 28]
def XF:=[i_ 8 9]
def XG:=[m_ 30 8,B_ .neq 31 30 0]
def XH:=[L_ 32 2 6,m_ 33 8,q_ 34 464 [.t 32,.t 33],e_ 35 34 0,e_ 36 34 1,s_ 4 35 6,s_ 5 36 2]
def XI:List Bt:=[L_ 37 2 6,L_ 38 3 7,⟨some 39,.p (.build [iV 0,iV 0,.own 2499 0 4 [],.own 2500 0 2 [],.own 2501 0 1 [],.bool false,iV 0,iV 0,iV 0,iV 0,iV 0,.own 2508 0 1 [],iV 0,iV 0] [(0,6,.t 37),(6,7,.t 38)]),none⟩,X_ 40 39,m_ 9 40]
def XJ:=[m_ 41 9,iQ 42 (.nilc (.t 41)),f_ 43 42 0,f_ 44 43 0,f_ 45 44 1,l_ 46 45 1,B_ .add 47 46 1,iQ 48 (.nilc (.t 41)),f_ 49 48 0,f_ 50 49 0,f_ 51 50 1,s_ 51 47 1]
def XK:List Bt:=[m_ 52 9,m_ 53 9,iQ 54 (.nilc (.t 53)),f_ 55 54 0,f_ 56 55 3,l_ 57 56 1,m_ 58 7,⟨some 59,.p (.build [iV 0,.bool false] [(0,1,.t 58)]),none⟩,⟨some 60,.mkS 2 [iV 0,.bool false] 1 [(0,.t 59)],none⟩,⟨some 61,.app 2 16 (.t 57) (.t 60),none⟩,iQ 62 (.nilc (.t 52)),f_ 63 62 0,f_ 64 63 3,s_ 64 61 1]
def XL:=[f_ 65 3 6,l_ 66 65 1,B_ .eql 67 66 1]
def yE:=[m_ 68 9,iQ 69 (.nilc (.t 68)),f_ 70 69 0,L_ 71 70 6,q_ 72 470 [.t 71],e_ 73 72 0,e_ 74 72 1,s_ 4 73 6,s_ 5 74 2]
def yF:=[m_ 75 9,m_ 76 7,q_ 77 471 [.t 75,.t 76,.c (.bool true)],m_ 8 77]
def yG:=[f_ 78 3 6,l_ 79 78 1,B_ .eql 80 79 2]
def yH:=[m_ 81 9,iQ 82 (.nilc (.t 81)),f_ 83 82 0,L_ 84 83 6,q_ 85 470 [.t 84],e_ 86 85 0,e_ 87 85 1,s_ 4 86 6,s_ 5 87 2]
def yI:=[m_ 88 9,iQ 89 (.nilc (.t 88)),f_ 90 89 0,f_ 91 90 3,l_ 92 91 1,n_ 93 92,B_ .sub 94 93 1,m_ 10 94]
def yJ:=[m_ 95 8,B_ .neq 96 95 0]
def yK:List Bt:=[m_ 97 9,iQ 98 (.nilc (.t 97)),f_ 99 98 0,f_ 100 99 3,l_ 101 100 1,m_ 102 10,x_ 103 101 102 2,f_ 104 103 1,⟨none,.store (.t 104) (.c (.bool true)) 1,none⟩]
def yL:=[m_ 105 9,iQ 106 (.nilc (.t 105)),f_ 107 106 0,L_ 108 107 6,m_ 109 8,q_ 110 464 [.t 108,.t 109],e_ 111 110 0,e_ 112 110 1,s_ 4 111 6,s_ 5 112 2]
def yM:List Bt:=[m_ 113 9,m_ 114 9,iQ 115 (.nilc (.t 114)),f_ 116 115 0,f_ 117 116 3,l_ 118 117 1,m_ 119 10,⟨some 120,.p (.slice (.t 118) none (some (.t 119)) 2),none⟩,iQ 121 (.nilc (.t 113)),f_ 122 121 0,f_ 123 122 3,s_ 123 120 1]
def yN:=[m_ 124 9,L_ 125 6 3,iQ 126 (.nilc (.t 124)),f_ 127 126 0,f_ 128 127 0,s_ 128 125 3]
def yO:List Bt:=[m_ 129 9,iQ 130 (.nilc (.t 129)),f_ 131 130 0,L_ 132 131 6,m_ 133 7,⟨some 134,.p (.build [iV 0,iV 0] [(1,1,.t 133)]),none⟩,s_ 4 132 6,s_ 5 134 2]
def c465:Dp:=⟨2,135,[.cell 4 6 true,.cell 5 2 true],sr XC (sr XD (.seq (sr XE (iz 29 (.reg XF))) (.seq (sr XG (iz 31 (rr XH))) (sr XI (sr XJ (sr XK (.seq (sr XL (iz 67 (rr yE))) (sr yF (.seq (sr yG (iz 80 (rr yH))) (sr yI (.seq (sr yJ (iz 96 (sr yK (rr yL)))) (sr yM (sr yN (rr yO))))))))))))))⟩
def K465 (D:Bh):Prop:=∀a0 a1 r,g465 a0 a1=some r→D 465 ⟨[.agg (Bk a0 (Ap 1024000) (Ap 1024001) (Ap 1024002)),.agg (Ar a1)],[]⟩ ⟨.tup [.agg (Bk r.1 (Ap 0) (Ap 1) (Ap 2)),.agg (Bg r.2)],[],[]⟩
abbrev Kz:=fun (r:List (Nat×List V))=>(256,At 0 0 (Ap 259) [] (Ap 260) [] (Ap 261) [] false)::(320,[iV 0,iV 0])::r
abbrev Pp:=fun x0 (r:List (Nat×V))=>(4,.ptr 256 0)::(5,.ptr 320 0)::(6,.ptr 384 0)::(7,iV x0)::r
theorem F465 (H71:K71 C) (H464:sB C) (H470:EP C) (H471:EQ C):K465 (FO C c465):=by
 intro a0 a1 r h0
 refine f0 (Ay 6 [(2,.ptr 128 0),(3,.ptr 192 0),(4,.ptr 256 0),(5,.ptr 320 0)] (Kz [(128,Bk a0 (Ap 1024000) (Ap 1024001) (Ap 1024002)),(192,Ar a1)]) (Bc 7 (An (bb h0 fun r1 e2 h0=>Sy (H71 a0.Ad a1.ttl a1.Ef r1 e2) (ar (Bi rfl (af (ar (Bi rfl rfl))))) (o_ (Ay 9 (Pp r1.2.1 [(2,.ptr 128 0),(3,.ptr 192 0),(8,iV r1.2.2)]) (Kz [(128,Bk a0 (Ap 1024000) (Ap 1024001) (Ap 1024002)),(192,Ar a1),(384,Cm r1.1 (Ap 1152))]) (Bc 5 (An (st (Ce (u:=.ptr 128 3) rfl (fun hg=>(Bb ⟨tv,tv⟩ rfl tv)) (st (Ce (u:=Br 1024001 a0.Ab) rfl (fun hg=>(Bb ⟨(fun _=>hg),tv⟩ rfl (nl rfl))) (st (Ce (u:=iV (a0.Ab.length:Int)) rfl (fun hg=>(cP (e:=Bx) (l0:=a0.Ab) rfl rfl (fun _=>hg))) (st (Ce (u:=.bool ((a0.Ab.length:Int)==40)) rfl (fun hg=>(Bb ⟨(fun _=>hg),tv,tv⟩ rfl tv)) (st (Eh rfl rfl rfl (fun h=>Sr h) tv rfl (o_ (Ay 1 (Pp r1.2.1 [(2,.ptr 128 0),(3,.ptr 192 0),(8,iV r1.2.2),(29,.bool (bif (r1.2.2==0) then ((a0.Ab.length:Int)==40) else false))]) (Kz [(128,Bk a0 (Ap 1024000) (Ap 1024001) (Ap 1024002)),(192,Ar a1),(384,Cm r1.1 (Ap 1152))]) (Kg (cb:=(bif (r1.2.2==0) then ((a0.Ab.length:Int)==40) else false)) (fun S=>∃p4:Int,S=⟨Pp r1.2.1 [(2,.ptr 128 0),(3,.ptr 192 0),(8,iV p4)],Kz [(128,Bk a0 (Ap 1024000) (Ap 1024001) (Ap 1024002)),(192,Ar a1),(384,Cm r1.1 (Ap 1152))],[]⟩∧Ke a0 a1 r1 p4=some r) rfl ?_ (fun c27 J26=>?_) (fun c27 J26=>?_))))))))))))))))))))))
 ·rintro _ ⟨p4,rfl,h0⟩
  refine Ay 6 (Pp r1.2.1 [(2,.ptr 128 0),(3,.ptr 192 0),(8,iV p4),(31,.bool (p4 != 0))]) (Kz [(128,Bk a0 (Ap 1024000) (Ap 1024001) (Ap 1024002)),(192,Ar a1),(384,Cm r1.1 (Ap 1152))]) (Ct h0 (fun c5 h0=>?_) (fun c5 h0=>?_))
  ·refine Bc 3 (An (bb h0 fun r6 e7 h0=>gW [] [] [1024000,1024001,1024002] (H464 a0 p4 r6 e7) (Bi (ar (Bi rfl (af (af (af (ar (Bi rfl (Bi rfl rfl)))))))) rfl) (o_ ?_)))
   obtain rfl:=sj h0
   exact Dd 6
  ·refine Bc 5 (An (st (c_ (v:=.agg (Cr a0.Ad.clock a0.Ad.next (Ap 1024000) a0.Ad.Ae (Ap 1024001) a0.Ab (Ap 1024002) a0.Ai a0.Al a1.kind a1.id a1.ttl a1.Ef a1.clock u_ a1.Cb a1.stop 0)) (Bb ⟨tv,tv,tv⟩ rfl ⟨⟨rfl,rfl,nl rfl⟩,⟨rfl,rfl,nl rfl⟩,tv⟩) (o_ (Ay 18 (Pp r1.2.1 [(3,.ptr 192 0),(9,.ptr 2560 0)]) (Kz [(192,Ar a1),(384,Cm r1.1 (Ap 1152)),(2560,Cr a0.Ad.clock (wi (a0.Ad.next+1)) (Ap 1024000) a0.Ad.Ae (Ap 1024001) a0.Ab (Ap 1024002) a0.Ai a0.Al a1.kind a1.id a1.ttl a1.Ef a1.clock u_ a1.Cb a1.stop 0)]) (Bc 3 (An ?_)))))))
   refine o_ (Bc 5 (An (st (c_ (v:=.agg [iV r1.2.1,.bool false]) (Bb ⟨tv,tv⟩ rfl ⟨⟨rfl,rfl,nl rfl⟩,tv⟩) (st (Wy ⟨tv,tv⟩ ⟨⟨nl rfl,rfl,rfl⟩,tv⟩ (gg h0 fun c8 h0=>st (Ja (e:=Bx) (l0:=a0.Ab) (l1:=([Ah.mk r1.2.1 false]:List Ah)) rfl rfl tv rfl (by decide) c8 (o_ (Ay 12 (Pp r1.2.1 [(3,.ptr 192 0),(9,.ptr 2560 0),(67,.bool (a1.stop==1))]) (Kz [(192,Ar a1),(384,Cm r1.1 (Ap 1152)),(2560,[iV a0.Ad.clock,iV (wi (a0.Ad.next+1)),Af 1024000 a0.Ad.Ae,Br 1024001 (a0.Ab++([Ah.mk r1.2.1 false]:List Ah)),oI 1024002 a0.Ai,.bool a0.Al,iV a1.kind,iV a1.id,iV a1.ttl,iV a1.Ef,iV a1.clock,lI a1.Cb,iV a1.stop,iV 0])]) (Ct h0 (fun c9 h0=>?_) (fun c9 h0=>?_))))))))))))
   ·refine Bc 5 (An (bb h0 fun r10 e11 h0=>gW [] [] [1024000,1024001,1024002] (H470 (Aj.mk (Ak.mk a0.Ad.clock (wi (a0.Ad.next+1)) a0.Ad.Ae) (a0.Ab++([Ah.mk r1.2.1 false]:List Ah)) a0.Ai a0.Al) r10 e11) (Bi (ar (Bi rfl (af (af (af (ar (Bi rfl (Bi rfl rfl)))))))) rfl) (o_ ?_)))
    obtain rfl:=sj h0
    exact Dd 6
   ·refine Bc 5 (An (bb h0 fun r12 e13 h0=>Wv [2560] [] [1024000,1024001,1024002] (H471 (Cu.mk (Aj.mk (Ak.mk a0.Ad.clock (wi (a0.Ad.next+1)) a0.Ad.Ae) (a0.Ab++([Ah.mk r1.2.1 false]:List Ah)) a0.Ai a0.Al) a1 0) r1.2.1 true r12 e13) (o_ (Ay 9 (Pp r1.2.1 [(8,iV r12.1),(9,.ptr 2560 0),(80,.bool (a1.stop==2))]) (Kz [(384,Cm r1.1 (Ap 1152)),(2560,Ft r12.2 (Ap 4928) (Ap 4929) (Ap 4930) u_)]) (Ct h0 (fun c14 h0=>?_) (fun c14 h0=>?_))))))
    ·refine Bc 5 (An (bb h0 fun r15 e16 h0=>gW [] [] [4928,4929,4930] (H470 r12.2.v r15 e16) (Bi (ar (Bi rfl (af (af (af (ar (Bi rfl (Bi rfl rfl)))))))) rfl) (o_ ?_)))
     obtain rfl:=sj h0
     exact Dd 6
    ·refine Bc 8 (An (aS rfl (o_ (Ay 9 (Pp r1.2.1 [(8,iV r12.1),(9,.ptr 2560 0),(10,iV (wi ((r12.2.v.Ab.length:Int)-1))),(96,.bool (r12.1 != 0))]) (Kz [(384,Cm r1.1 (Ap 1152)),(2560,Ft r12.2 (Ap 4928) (Ap 4929) (Ap 4930) u_)]) (Ct h0 (fun c17 h0=>?_) (fun c17 h0=>?_))))))
     ·refine Bc 7 (An (bb h0 fun y18 e19 h0=>kA rfl rfl e19 (st (c_ (Bb ⟨tv,tv⟩ rfl tv) (bb h0 fun y20 e21 h0=>so_ (Ah.mk y20.As true) rfl rfl e21 (o_ (Ay 1 [(4,.ptr 256 0),(5,.ptr 320 0),(8,iV r12.1),(9,.ptr 2560 0)] (Kz [(2560,Cr r12.2.v.Ad.clock r12.2.v.Ad.next (Ap 4928) r12.2.v.Ad.Ae (Ap 4929) (r12.2.v.Ab.set ((wi ((r12.2.v.Ab.length:Int)-1)).toNat) (Ah.mk y20.As true)) (Ap 4930) r12.2.v.Ai r12.2.v.Al r12.2.a.kind r12.2.a.id r12.2.a.ttl r12.2.a.Ef r12.2.a.clock u_ r12.2.a.Cb r12.2.a.stop r12.2.Gs)]) (Bc 6 (An (bb h0 fun r22 e23 h0=>gW [] [] [4928,4929,4930] (H464 (Aj.mk r12.2.v.Ad (r12.2.v.Ab.set ((wi ((r12.2.v.Ab.length:Int)-1)).toNat) (Ah.mk y20.As true)) r12.2.v.Ai r12.2.v.Al) r12.1 r22 e23) (Bi (ar (Bi rfl (af (af (af (ar (Bi rfl (Bi rfl rfl)))))))) rfl) (o_ ?_)))))))))))
      obtain rfl:=sj h0
      exact Dd 6
     ·refine Bc 10 (An (bb h0 fun s24 e25 h0=>st (c_ (Ep (e:=Bx) (y:=s24) rfl rfl tv ⟨tv,tv⟩ rfl rfl e25) (o_ (Ay 14 [(4,.ptr 256 0),(5,.ptr 320 0),(7,iV r1.2.1),(9,.ptr 2560 0)] (Kz [(2560,Cr r1.1.clock r1.1.next (Ap 1152) r1.1.Ae (Ap 4929) s24 (Ap 4930) r12.2.v.Ai r12.2.v.Al r12.2.a.kind r12.2.a.id r12.2.a.ttl r12.2.a.Ef r12.2.a.clock u_ r12.2.a.Cb r12.2.a.stop r12.2.Gs)]) (Bc 6 (An (st (c_ (v:=.agg [iV 0,iV r1.2.1]) (Bb ⟨tv,tv⟩ rfl ⟨⟨rfl,rfl,nl rfl⟩,tv⟩) (o_ ?_))))))))))
      obtain rfl:=sj h0
      exact Dd 4
 ·replace h0:=ip c27 h0
  refine An (st (BS tv (Hj ?_)))
  exact jn J26 ⟨_,rfl,h0⟩
 ·replace h0:=Wx c27 h0
  refine Jf ?_
  exact jn J26 ⟨_,rfl,h0⟩

/- (loop.example/g00149/impl.Vault).turned -/
def XM:=[X_ 3 0,X_ 4 1,a_ 6 (zV 387 388 389),a_ 7 [iV 0,iV 0]]
def XN:=[m_ 8 2,B_ .neq 9 8 0]
def XO:=[L_ 10 3 6,m_ 11 2,q_ 12 464 [.t 10,.t 11],e_ 13 12 0,e_ 14 12 1,s_ 6 13 6,s_ 7 14 2]
def XP:=[L_ 15 4 3,f_ 16 3 0,s_ 16 15 3]
def XQ:=[L_ 17 3 6,iQ 18 (.build [iV 0,iV 0] []),s_ 6 17 6,s_ 7 18 2]
def c466:Dp:=⟨3,19,[.cell 6 6 true,.cell 7 2 true],sr XM (.seq (sr XN (iz 9 (rr XO))) (sr XP (rr XQ)))⟩
def K466 (D:Bh):Prop:=∀a0 a1 a2 r,AL a0 a1 a2=some r→D 466 ⟨[.agg (Bk a0 (Ap 1024000) (Ap 1024001) (Ap 1024002)),.agg (Cm a1 (Ap 1024003)),iV a2],[]⟩ ⟨.tup [.agg (Bk r.1 (Ap 0) (Ap 1) (Ap 2)),.agg (Bg r.2)],[],[]⟩
theorem F466 (H464:sB C):K466 (FO C c466):=by
 intro a0 a1 a2 r h0
 refine f0 (Ay 12 [(2,iV a2),(3,.ptr 192 0),(4,.ptr 256 0),(6,.ptr 384 0),(7,.ptr 448 0),(9,.bool (a2 != 0))] [(192,Bk a0 (Ap 1024000) (Ap 1024001) (Ap 1024002)),(256,Cm a1 (Ap 1024003)),(384,At 0 0 (Ap 387) [] (Ap 388) [] (Ap 389) [] false),(448,[iV 0,iV 0])] (Ct h0 (fun c1 h0=>?_) (fun c1 h0=>?_)))
 ·refine Bc 3 (An (bb h0 fun r2 e3 h0=>gW [] [] [1024000,1024001,1024002] (H464 a0 a2 r2 e3) (Bi (ar (Bi rfl (af (af (af (ar (Bi rfl (Bi rfl rfl)))))))) rfl) (o_ ?_)))
  obtain rfl:=sj h0
  exact Dd 6
 ·obtain rfl:=sj h0
  exact Dd 15

/- slices.Delete[[]loop.example/g00149/impl.Lease,loop.example/g00149/impl.Lease] -/
def IG:List Bt:=[⟨some 6,.nilS 4,none⟩]
def IH:List Bt:=[m_ 8 0,m_ 9 1,m_ 10 2,m_ 11 0,n_ 12 11,⟨some 13,.chk3 (.t 8) (.t 9) (.t 10) (.t 12),none⟩]
def II:=[m_ 14 1,m_ 15 2,b_ .eql 16 14 15]
def IJ:=[m_ 17 0,m_ 6 17]
def IK:=[m_ 18 0,n_ 19 18,m_ 7 19]
def IL:=tk [m_ 20 0,m_ 21 1,⟨some 22,.p (.slice (.t 20) none (some (.t 21)) 4),none⟩,m_ 23 0,m_ 24 2,⟨some 25,.p (.slice (.t 23) (some (.t 24)) none 4),none⟩] (.alt [] ⟨some 26,.app 4 32 (.t 22) (.t 25),none⟩ (.alt [] (m_ 0 26) .fin .stop) .stop)
def IM:List Bt:=[m_ 27 0,m_ 28 0,n_ 29 28,m_ 30 7,⟨some 31,.p (.slice (.t 27) (some (.t 29)) (some (.t 30)) 4),none⟩,⟨none,.clear 4 [iV 0,iV 0,iV 0,.bool false] (.t 31),none⟩]
def IN:=[m_ 32 0,m_ 6 32]
def c115:Dp:=⟨3,33,[.t 6],sr IG (sr IH (.seq (sr II (iz 16 (rr IJ))) (sr IK (sd IL (sr IM (rr IN))))))⟩
def K115 (D:Bh):Prop:=∀a0 a1 a2 r,g115 a0 a1 a2=some r→D 115 ⟨[Af 1024000 a0,iV a1,iV a2],[]⟩ ⟨Af 0 r,[],[]⟩
theorem F115:K115 (FO C c115):=by
 intro a0 a1 a2 r h0
 refine f0 ?_
 obtain ⟨⟨hb,hl⟩,h0⟩:=grd h0
 obtain rfl:=sj h0
 obtain ⟨i,rfl⟩:=Int.eq_ofNat_of_zero_le hb.1
 obtain ⟨j,rfl⟩:=Int.eq_ofNat_of_zero_le (Int.le_trans hb.1 hb.2.1)
 have hij:i≤j:=by omega
 have hx63:(a0.length:Int)<Em:=by have:=hl; simp only [Em]; omega
 have hj:j≤a0.length:=by omega
 rw [show ((i:Nat):Int).toNat=i from rfl,show ((j:Nat):Int).toNat=j from rfl]
 refine Ay 3 [(0,Af 1024000 a0),(1,iV i),(2,iV j)] [] (Bj (An (st (Bw rfl tv (st (Bw rfl tv (st (Bw rfl tv (st (Bw rfl tv (aS rfl (st (chk3O (e:=Ac) (l0:=a0) rfl rfl rfl rfl ⟨by omega,by omega,by omega,Int.le_refl _⟩ (o_ (Ay 1 [(0,Af 1024000 a0),(1,iV i),(2,iV j)] [] (Bj (Bj (An (st (Bw rfl tv (st (Bw rfl tv (st (c_ (Bb t3 rfl tv) (Hj (bM (Vo (cb:=(i:Int)==(j:Int)) rfl (fun h=>?_) (fun h=>?_))))))))))))))))))))))))))))
 ·have e1:i=j:=by have:=eq_of_beq h; omega
  subst e1
  rw [List.take_append_drop]
  refine Bj (An (st (Bw rfl tv (st (Bw rfl tv (Hj (bM ?_)))))))
  exact Lf (Eg rfl rfl rfl rfl rfl tv)
 ·have hne:i≠j:=fun e1=>by subst e1; simp at h
  have hemp:a0.map Ac≠[]:=fun e1=>by
   have:=congrArg List.length e1
   simp at this
   subst this
   simp at hj
   omega
  refine Ay 1 [(0,Af 1024000 a0),(1,iV i),(2,iV j)] [] (Bj (An (st (Bw rfl tv (aS rfl (st (Bw rfl tv (Hj (Dn ⟨[(0,Af 1024000 a0),(1,iV i),(2,iV j),(7,iV (a0.length:Int))],[],[(0,(a0.length:Int))]⟩ (zR ⟨rfl,rfl,rfl,rfl,tv⟩ tv ⟨.inr (.inl ⟨_,_,_,_,rfl,hemp,by simp,hx63,by decide⟩),tv⟩) (Bj (Bl (Ag tv (Bw rfl tv (⟨tv,Ag tv (Bw rfl tv (⟨tv,Ag tv (c_ (Ep (e:=Ac) (y:=a0.take i) rfl rfl tv ⟨tv,tv⟩ rfl rfl (by rw [show (none:Option Int).getD 0=((0:Nat):Int) from rfl]; exact slcN a0 0 i (by omega) (by omega))) (⟨tv,Ag tv (Bw rfl tv (⟨tv,Ag tv (Bw rfl tv (⟨tv,Ag tv (c_ (Ep (e:=Ac) (y:=a0.drop j) rfl rfl tv ⟨tv,tv⟩ rfl rfl (cC a0 j hj)) (⟨tv,Bu (appc_ (e:=Ac) (l0:=a0.take i) (l1:=a0.drop j) (t:=1024000) (sz:=4) (vy:=.own 1024000 (0+j) 4 ((a0.drop j).map Ac)) (c:=(a0.length:Int)-0) rfl rfl tv rfl (show (1024000:Nat)<1048576 by decide) ?_ rfl ?_ ?_) Au⟩))⟩))⟩))⟩))⟩))⟩))))))))))))))
  ·have:(a0.take i).length+(a0.drop j).length≤a0.length:=by simp; omega
   exact Nat.le_trans (Nat.mul_le_mul_right 32 this) (Nat.le_trans (Nat.mul_le_mul_right 32 hl) (by decide))
  ·rw [Lr (show (a0.length:Int)-0<Em by omega)]; simp; omega
  refine d0 tv (Bu (Bw rfl tv (d0 tv (Gf ?_))) Au)
  generalize hR:a0.take i++a0.drop j=R
  have hRl:R.length≤a0.length:=by rw [←hR]; simp; omega
  refine Dn ⟨[(0,Af 1024000 R),(7,iV (a0.length:Int))],[],[(0,(a0.length:Int)-0)]⟩ (zR ⟨rfl,rfl,tv⟩ tv ⟨.inl ⟨_,rfl,.inl rfl⟩,tv⟩) (Bj (An (st (Bw rfl tv (st (Bw rfl tv (aS rfl (st (Bw rfl tv (st (c_ (dN (e:=Ac) (R:=R) (t:=1024000) (sz:=4) (L:=R.length) (H:=a0.length) (c:=(a0.length:Int)-0) rfl rfl rfl rfl hRl (show (0:Nat)<4 by decide) rfl (by rw [Lr (show (a0.length:Int)-0<Em by omega)]; omega)) (st (hY rfl (Hj (Dn ⟨[(0,Af 1024000 R)],[],[]⟩ (fg ⟨past1 (Nat.le_refl _),tv⟩ tv) (Bj (An (st (Bw rfl tv (st (Bw rfl tv (Hj (bM ?_)))))))))))))))))))))))
  exact Lf (Eg rfl rfl rfl rfl rfl tv)

/- (loop.example/g00149/impl.Table).without -/
def c78_r0:=[X_ 2 0,a_ 4 (zT 259)]
def c78_r1:=[L_ 6 2 3,q_ 7 112 [.t 6],a_ 5 (zT 323),s_ 5 7 3]
def c78_r2:=[f_ 8 5 2,l_ 9 8 1,m_ 10 1,m_ 11 1,B_ .add 12 11 1,q_ 13 115 [.t 9,.t 10,.t 12],f_ 14 5 2,s_ 14 13 1]
def c78_r3:=[L_ 15 5 3,s_ 4 15 3]
def c78:Dp:=⟨2,16,[.cell 4 3 true],sr c78_r0 (sr c78_r1 (sr c78_r2 (rr c78_r3)))⟩
def K78 (D:Bh):Prop:=∀a0 a1 r,g78 a0 a1=some r→D 78 ⟨[.agg (Bd a0),iV a1],[]⟩ ⟨.agg (Cm r (Ap 0)),[],[]⟩
theorem F78 (H112:gO C) (H115:K115 C):K78 (FO C c78):=by
 intro a0 a1 r h0
 refine f0 (Ay 4 [(1,iV a1),(2,.ptr 128 0),(4,.ptr 256 0)] [(128,Bd a0),(256,Bo 0 0 (Ap 259) [])] (Bc 2 (An (bb h0 fun r1 e2 h0=>Sy (H112 a0 r1 e2) (ar (Bi rfl (af rfl))) (o_ (Ay 3 [(1,iV a1),(4,.ptr 256 0),(5,.ptr 320 0)] [(256,Bo 0 0 (Ap 259) []),(320,Cm r1 (Ap 448))] (Bc 6 (An (bb h0 fun r3 e4 h0=>gW [] [] [448] (H115 r1.Ae a1 (wi (a1+1)) r3 e4) (Bi (af rfl) rfl) (o_ ?_))))))))))
 obtain rfl:=sj h0
 exact Dd 9

/- cmp.Or[int] -/
def GV:=[i_ 2 0]
def GW:=[i_ 3 0]
def GX:=[m_ 6 0,n_ 7 6,i_ 8 0]
def GY:=[b_ .lss 9 8 7]
def GZ:=[x_ 10 6 8 1,l_ 11 10 1,m_ 5 11]
def HA:=[m_ 12 5,m_ 13 3,b_ .neq 14 12 13]
def HB:=[m_ 15 5,m_ 2 15]
def HC:=[B_ .add 16 8 1,m_ 8 16]
def GU:IR:=(sr GY (.seq (.ite (.t 9) .skip (.exit 0)) (.seq (.block 1 (sr GZ (sr HA (iz 14 (rr HB))))) (.reg HC))))
def HD:=[m_ 17 3,m_ 2 17]
def c109:Dp:=⟨1,18,[.t 2],sr GV (sr GW (.seq (sr GX (Ju 0 GU)) (rr HD)))⟩
def K109 (D:Bh):Prop:=∀a0 r,g109 a0=some r→D 109 ⟨[lI a0],[]⟩ ⟨iV r,[],[]⟩
theorem F109:K109 (FO C c109):=by
 intro a0 r h0
 refine f0 (Ay 7 [(0,lI a0),(3,iV 0)] [] (Bc 3 (An (Sn rfl (o_ (Ay 2 [(3,iV 0),(6,lI a0),(7,iV (a0.length:Int)),(8,iV 0)] [] (Cg (bb h0 fun r15 e16 h0=>Cz (R:=(fun S=>.inl ()=r15∧S=⟨[(3,iV 0)],[],[]⟩)) (Tb a0) (fun s S=>match s with | p5=>S=⟨[(3,iV 0),(6,lI a0),(7,iV (a0.length:Int)),(8,iV p5)],[],[]⟩) e16 _ (Ez (by kernel_rfl)) rfl 0 (fun _=>rfl) ?_ ?_))))))))
 ·rintro S _ hfg ⟨rfl,rfl⟩
  refine Dn _ hfg ?_
  obtain rfl:=sj h0
  exact Dd 5
 ·rintro p5 o1 _ K1 rfl h1 hx1 hK1 hE1 hR1
  refine Ay 3 [(3,iV 0),(6,lI a0),(7,iV (a0.length:Int)),(8,iV p5),(9,.bool (decide (p5<(a0.length:Int))))] [] (Bj (Ct h1 (fun c11 h1=>?_) (fun c11 h1=>?_)))
  ·refine Mx 5 (An (bb h1 fun y12 e13 h1=>Vv rfl rfl e13 (o_ (Ay 9 [(3,iV 0),(5,iV y12),(6,lI a0),(7,iV (a0.length:Int)),(8,iV p5),(14,.bool (y12 != 0))] [] (Ct h1 (fun c14 h1=>?_) (fun c14 h1=>?_))))))
   ·obtain rfl:=sj h1
    obtain rfl:=hx1 _ rfl
    obtain rfl:=sj h0
    exact rX 5 hR1
   ·refine Bc 6 ?_
    obtain rfl:=sj h1
    exact kn hK1 rfl rfl
  ·obtain rfl:=sj h1
   obtain rfl:=hx1 _ rfl
   refine Jv rfl ?_
   exact jn hE1 ⟨rfl,rfl⟩

/- loop.example/g00149/impl.byTime -/
def c69_r0:=[X_ 2 0,X_ 3 1,i_ 4 0]
def c69_r1:=tk [f_ 5 2 1,l_ 6 5 1,f_ 7 3 1,l_ 8 7 1,f_ 10 2 0,l_ 11 10 1,f_ 12 3 0,l_ 13 12 1] (.alt [l_ 13 12 1,f_ 12 3 0,l_ 11 10 1,f_ 10 2 0] (q_ 9 110 [.t 6,.t 8]) (.alt [] (q_ 14 110 [.t 11,.t 13]) (.alt [] ⟨some 15,.mkS 1 [iV 0] 2 [(0,.t 9),(1,.t 14)],none⟩ (.alt [] (q_ 16 109 [.t 15]) (tk [m_ 4 16] .fin) .stop) .stop) .stop) .stop)
def c69:Dp:=⟨2,17,[.t 4],sr c69_r0 (sd c69_r1 .ret)⟩
def K69 (D:Bh):Prop:=∀a0 a1 r,g69 a0 a1=some r→D 69 ⟨[.agg (Ac a0),.agg (Ac a1)],[]⟩ ⟨iV r,[],[]⟩
theorem F69 (H109:K109 C) (H110:EH C):K69 (FO C c69):=by
 intro a0 a1 r h0
 refine f0 (Ay 5 [(2,.ptr 128 0),(3,.ptr 192 0)] [(128,Ac a0),(192,Ac a1)] (Bj (bb h0 fun r1 e2 h0=>bb h0 fun r3 e4 h0=>bb h0 fun r5 e6 h0=>Bc 8 (Bl (Xg (H110 a0.Bm a1.Bm r1 e2) rfl (dw [(2,.ptr 128 0),(3,.ptr 192 0),(9,iV r1),(10,.ptr 128 0),(11,iV a0.id),(12,.ptr 192 0),(13,iV a1.id)] [(128,Ac a0),(192,Ac a1)] hB (Xg (H110 a0.id a1.id r3 e4) rfl (dw [(9,iV r1),(14,iV r3)] [] tv (Bu (Wy ⟨tv,tv,tv⟩ ⟨⟨nl rfl,rfl,rfl⟩,⟨nl rfl,rfl,rfl⟩,tv⟩ (d0 tv (Xg (H109 ([r1,r3]:List Int) r5 e6) rfl (dw [(16,iV r5)] [] tv (d_ (Ay 2 [(4,iV r5)] [] ?_))) Au))) Au)) Au)) Au)))))
 obtain rfl:=sj h0
 exact Lf (Eg rfl rfl rfl rfl rfl tv)

/- slices.insertionSortCmpFunc[loop.example/g00149/impl.Lease] -/
def PW:=[m_ 10 1,B_ .add 11 10 1,m_ 8 11]
def PX:=[m_ 12 8,m_ 13 2,b_ .lss 14 12 13]
def PY:=[m_ 17 8,m_ 9 17]
def PZ:=tk [m_ 18 9,m_ 19 1,b_ .gtr 20 18 19,m_ 21 20,mT 21 22 3,mT 21 23 0,mT 21 24 9,xT 21 25 23 24 4,lT 21 26 25 4 true,mT 21 27 0,mT 21 28 9,pT 21 29 (.bin .sub (.t 28) (.c (iV 1))),xT 21 30 27 29 4,lT 21 31 30 4 true] (.alt [] ⟨some 32,.callv (.t 22) [.t 26,.t 31],some (21,true)⟩ (tk [pT 21 33 (.bin .lss (.t 32) (.c (iV 0))),pa 34 21 33] .fin) .stop)
def QA:=tk [m_ 37 0,m_ 38 9,m_ 39 0,m_ 40 9,B_ .sub 41 40 1,m_ 42 0,m_ 43 9,B_ .sub 44 43 1,x_ 45 42 44 4,L_ 46 45 4,m_ 47 0,m_ 48 9,x_ 49 47 48 4,L_ 50 49 4,x_ 51 37 38 4] (.alt [B_ .sub 41 40 1,m_ 40 9,m_ 39 0] (s_ 51 46 4) (tk [x_ 52 39 41 4] (.alt [] (s_ 52 50 4) .fin .stop)) .stop)
def QB:=[m_ 35 9,B_ .sub 36 35 1,m_ 9 36]
def PT:IR:=(.seq (sd PZ (.ite (.t 34) .skip (.exit 2))) (.seq (.block 3 (.draw QA)) (.reg QB)))
def QC:=[m_ 15 8,B_ .add 16 15 1,m_ 8 16]
def PV:IR:=(.seq (sr PX (.ite (.t 14) .skip (.exit 0))) (.seq (.block 1 (sr PY (Ju 2 PT))) (.reg QC)))
def c148:Dp:=⟨4,53,[],sr PW (Ju 0 PV)⟩
def K148 (C:Bh) (D:Bh:=C):Prop:=∀(a0:List Aa) (a1:Int) (a2:Int) (f3:Nat) (k3:List V) (is3:Aa→Aa→Option Int) (hs3:Iu k3) (hf3:∀(x0:Aa) (x1:Aa) r,is3 x0 x1=some r→C f3 ⟨.agg (Ac x0) :: .agg (Ac x1)::k3,[]⟩ ⟨iV r,[],[]⟩) (r:(List Aa)),g148 a0 a1 a2 is3=some r→D 148 ⟨[Af 2097152 a0,iV a1,iV a2,.clo f3 k3],[]⟩ ⟨.tup [],[],[(0,4,r.map Ac)]⟩
abbrev Sl:=fun x0 x1 x2 x3 x4 (r:List (Nat×V))=>(1,iV x0)::(2,iV x1)::(3,.clo x2 x3)::(8,iV x4)::r
theorem F148:K148 C (FO C c148):=by
 intro a0 a1 a2 f3 k3 is3 hs3 hf3 r h0
 refine f0 (Ay 5 [(0,Af 2097152 a0),(1,iV a1),(2,iV a2),(3,.clo f3 k3),(8,iV (wi (a1+1)))] [] (Cg (bb h0 fun r189 e190 h0=>Cz (R:=(fun S=>∃p111:List Aa,p111=r189∧S=⟨[(0,Af 2097152 p111)],[],[]⟩)) (Xs a1 a2 is3) (fun s S=>match s with | (p55,p56)=>S=⟨Sl a1 a2 f3 k3 p56 [(0,Af 2097152 p55)],[],[]⟩) e190 _ (Ez (by kernel_rfl)) rfl 0 (fun _=>rfl) ?_ ?_)))
 ·rintro S _ hfg ⟨p111,rfl,rfl⟩
  obtain rfl:=sj h0
  exact bF (bE hfg (Eg rfl rfl rfl rfl rfl ⟨⟨rfl,Mp (fun _=>rfl)⟩,tv⟩))
 ·rintro ⟨p55,p56⟩ o1 _ K1 rfl h1 hx1 hK1 hE1 hR1
  refine Ay 6 (Sl a1 a2 f3 k3 p56 [(0,Af 2097152 p55),(14,.bool (decide (p56<a2)))]) [] (Ct h1 (fun gV h1=>?_) (fun gV h1=>?_))
  ·refine Ay 8 (Sl a1 a2 f3 k3 p56 [(0,Af 2097152 p55),(9,iV p56)]) [] (Cg (bb h1 fun r187 e188 h1=>Cz (R:=(fun S=>∃p163:List Aa,p163=r187∧S=⟨Sl a1 a2 f3 k3 p56 [(0,Af 2097152 p163)],[],[]⟩)) (Xt a1 is3) (fun s S=>match s with | (p136,p137)=>S=⟨Sl a1 a2 f3 k3 p56 [(0,Af 2097152 p136),(9,iV p137)],[],[]⟩) e188 _ (Ez (by kernel_rfl)) rfl 2 (fun _=>rfl) ?_ ?_))
   ·rintro S _ hfg ⟨p163,rfl,rfl⟩
    refine Rd (Dn ⟨Sl a1 a2 f3 k3 p56 [(0,Af 2097152 p163)],[],[]⟩ (rW hfg ⟨rfl,rfl,rfl,rfl,rfl,tv⟩ tv) (Bc 4 ?_))
    obtain rfl:=sj h1
    exact kn hK1 rfl rfl
   ·rintro ⟨p136,p137⟩ o2 _ K2 rfl h2 hx2 hK2 hE2 hR2
    refine Bj (Bj (bb h2 fun y164 e165 h2=>bb h2 fun y166 e167 h2=>bb h2 fun y168 e169 h2=>bb h2 fun y170 e171 h2=>bb h2 fun r172 e173 h2=>Bc 4 (Bl (Ag tv (Ce (u:=.clo f3 k3) rfl (fun hg=>(Dt (v:=.clo f3 k3) rfl tv)) (⟨tv,Ag tv (Ce (u:=Af 2097152 p136) rfl (fun hg=>(Dt (v:=Af 2097152 p136) rfl tv)) (⟨tv,Ag tv (Ce (u:=iV p137) rfl (fun hg=>(Dt (v:=iV p137) rfl tv)) (⟨tv,Ag tv (Ce (u:=.optr 2097152 4 (0+p137.toNat) 0) rfl (fun hg=>(Hd (e:=Ac) (y:=y164) rfl rfl (fun _=>hg) rfl rfl (fun _=>hg) (ip hg e165))) (⟨tv,Ca (Ce (u:=.agg (Ac y166)) rfl (fun hg=>(Bf (e:=Ac) (y:=y166) (v:=.agg (Ac y166)) rfl rfl (fun _=>hg) rfl rfl (ip hg e167) rfl (nl rfl) rfl)) (⟨⟨Bn (v:=.agg (Ac y166)) rfl (fun hg=>(Bf (e:=Ac) (y:=y166) (v:=.agg (Ac y166)) rfl rfl (fun _=>hg) rfl rfl (ip hg e167) rfl (nl rfl) rfl)) rfl,tv⟩,Ag tv (Ce (u:=Af 2097152 p136) rfl (fun hg=>(Dt (v:=Af 2097152 p136) rfl tv)) (⟨⟨Bn (v:=.agg (Ac y166)) rfl (fun hg=>(Bf (e:=Ac) (y:=y166) (v:=.agg (Ac y166)) rfl rfl (fun _=>hg) rfl rfl (ip hg e167) rfl (nl rfl) rfl)) rfl,tv⟩,Ag tv (Ce (u:=iV p137) rfl (fun hg=>(Dt (v:=iV p137) rfl tv)) (⟨⟨Bn (v:=.agg (Ac y166)) rfl (fun hg=>(Bf (e:=Ac) (y:=y166) (v:=.agg (Ac y166)) rfl rfl (fun _=>hg) rfl rfl (ip hg e167) rfl (nl rfl) rfl)) rfl,tv⟩,Ag tv (Ce (u:=iV (wi (p137-1))) rfl (fun hg=>(Bb ⟨(fun _=>hg),tv,tv⟩ rfl tv)) (⟨⟨Bn (v:=.agg (Ac y166)) rfl (fun hg=>(Bf (e:=Ac) (y:=y166) (v:=.agg (Ac y166)) rfl rfl (fun _=>hg) rfl rfl (ip hg e167) rfl (nl rfl) rfl)) rfl,tv⟩,Ag tv (Ce (u:=.optr 2097152 4 (0+((wi (p137-1)).toNat)) 0) rfl (fun hg=>(Hd (e:=Ac) (y:=y168) rfl rfl (fun _=>hg) rfl rfl (fun _=>hg) (ip hg e169))) (⟨⟨Bn (v:=.agg (Ac y166)) rfl (fun hg=>(Bf (e:=Ac) (y:=y166) (v:=.agg (Ac y166)) rfl rfl (fun _=>hg) rfl rfl (ip hg e167) rfl (nl rfl) rfl)) rfl,tv⟩,Ca (Ce (u:=.agg (Ac y170)) rfl (fun hg=>(Bf (e:=Ac) (y:=y170) (v:=.agg (Ac y170)) rfl rfl (fun _=>hg) rfl rfl (ip hg e171) rfl (nl rfl) rfl)) (⟨⟨Bn (v:=.agg (Ac y170)) rfl (fun hg=>(Bf (e:=Ac) (y:=y170) (v:=.agg (Ac y170)) rfl rfl (fun _=>hg) rfl rfl (ip hg e171) rfl (nl rfl) rfl)) rfl,Bn (v:=.agg (Ac y166)) rfl (fun hg=>(Bf (e:=Ac) (y:=y166) (v:=.agg (Ac y166)) rfl rfl (fun _=>hg) rfl rfl (ip hg e167) rfl (nl rfl) rfl)) rfl,tv⟩,Bu (Ii (r:=iV r172) rfl rfl rfl (fun hg=>hg) false (fun hg=>hf3 _ _ r172 (ip hg e173)) ⟨(fun hg=>hg),(fun hg=>hg),tv⟩ (fun _=>(ar (Bi rfl hs3.2.2.1))) (fun _=>(Av rfl (Av rfl (hs3.2.1 _ _ _ _ _)))) (fun _=>rfl) (fun h=>nomatch h) (dw [(0,Af 2097152 p136),(1,iV a1),(2,iV a2),(3,.clo f3 k3),(8,iV p56),(9,iV p137),(21,.bool (decide (p137>a1))),(32,.may ((decide (p137>a1))==true) (iV r172))] [] tv ?_)) Au⟩))⟩))⟩))⟩))⟩))⟩))⟩))⟩))⟩))⟩))))))
    refine Ag tv (Ce (u:=.bool (decide (r172<0))) rfl (fun hg=>(Bb ⟨(fun _=>hg),tv,tv⟩ rfl tv)) (⟨tv,Ag tv (Eh rfl rfl rfl (fun h=>Sr h) tv rfl (⟨tv,d_ (Ay 1 (Sl a1 a2 f3 k3 p56 [(0,Af 2097152 p136),(9,iV p137),(34,.bool (bif (decide (p137>a1)) then (decide (r172<0)) else false))]) [] (Ct h2 (fun c174 h2=>?_) (fun c174 h2=>?_)))⟩))⟩))
    ·refine Mx 4 (bb h2 fun y175 e176 h2=>bb h2 fun y177 e178 h2=>bb h2 fun y179 e180 h2=>bb h2 fun y181 e182 h2=>bb h2 fun y183 e184 h2=>bb h2 fun y185 e186 h2=>Bc 8 (Bl (d_ (Yp rfl rfl rfl e176 (Bl (Ca (c_ (Oa rfl rfl e178) (⟨⟨Cv rfl rfl e178 rfl,tv⟩,Ag tv (Bw rfl tv (⟨⟨Cv rfl rfl e178 rfl,tv⟩,Ag tv (Bw rfl tv (⟨⟨Cv rfl rfl e178 rfl,tv⟩,Ag tv (c_ (Ka rfl rfl e180) (⟨⟨Cv rfl rfl e178 rfl,tv⟩,Ca (c_ (Oa rfl rfl e182) (⟨⟨Cv rfl rfl e182 rfl,Cv rfl rfl e178 rfl,tv⟩,Ag tv (c_ (Ka rfl rfl e180) (⟨⟨Cv rfl rfl e182 rfl,Cv rfl rfl e178 rfl,tv⟩,?_⟩))⟩))⟩))⟩))⟩))⟩))))))))
     refine Bu (Hh (y':=y177) rfl rfl tv rfl rfl rfl rfl e182 (nl rfl) rfl rfl rfl rfl (iC ⟨[(0,Af 2097152 (p136.set p137.toNat y177)),(1,iV a1),(2,iV a2),(3,.clo f3 k3),(8,iV p56),(9,iV p137),(39,Af 2097152 (p136.set p137.toNat y177)),(40,iV p137),(41,iV (wi (p137-1))),(50,.agg (Ac y181))],[],[]⟩ (fg ⟨congrArg (fun z=>some ((.own 2097152 0 4 z:V))) Aw,rfl,rfl,rfl,rfl,rfl,congrArg (fun z=>some ((.own 2097152 0 4 z:V))) Aw,rfl,rfl,rfl,tv⟩ tv) ⟨[],⟨⟨.inl tv,Ba (Bb t3 rfl tv) rfl⟩,⟨.inl tv,Ba (Dt (v:=iV p137) rfl tv) rfl⟩,⟨.inl tv,Ba (Dt (v:=Af 2097152 (p136.set p137.toNat y177)) rfl tv) rfl⟩,tv⟩,tv,d_ (Yp rfl rfl rfl e184 (Bl (Bu (Hh (y':=y181) rfl rfl tv rfl rfl rfl rfl e186 (nl rfl) rfl rfl rfl rfl (d0 tv (Gf (Rd (Dn ⟨[(0,Af 2097152 ((p136.set p137.toNat y177).set ((wi (p137-1)).toNat) y181)),(1,iV a1),(2,iV a2),(3,.clo f3 k3),(8,iV p56),(9,iV p137)],[],[]⟩ (fg ⟨congrArg (fun z=>some ((.own 2097152 0 4 z:V))) Aw,rfl,rfl,rfl,rfl,rfl,tv⟩ tv) (Bc 4 ?_)))))) Au)))⟩)) Au
     obtain rfl:=sj h2
     exact kn hK2 rfl rfl
    ·obtain rfl:=sj h2
     obtain rfl:=hx2 _ rfl
     refine Jv rfl ?_
     exact jn hE2 ⟨_,rfl,rfl⟩
  ·obtain rfl:=sj h1
   obtain rfl:=hx1 _ rfl
   refine Jv rfl ?_
   exact jn hE1 ⟨_,rfl,rfl⟩
end Go.Ev
