/- The walks of functions: the code comes to the answers that QgD tells. Written by a program of ours. -/
import Derived.Test.YtfpbbpkdjmldkaaGreatQgW2
set_option linter.all false
set_option maxHeartbeats 4000000
set_option linter.unusedVariables false
set_option maxRecDepth 100000
namespace Go.Ev
variable {C:Ba}

/- slices.Delete[[]int,int] -/
def UB:List Bj:=[⟨some 6,.nilS 1,none⟩]
def UC:List Bj:=[m_ 8 0,m_ 9 1,m_ 10 2,m_ 11 0,n_ 12 11,⟨some 13,.chk3 (.t 8) (.t 9) (.t 10) (.t 12),none⟩]
def UD:=[m_ 14 1,m_ 15 2,b_ .eql 16 14 15]
def UE:=[m_ 17 0,m_ 6 17]
def UF:=[m_ 18 0,n_ 19 18,m_ 7 19]
def UG:=tk [m_ 20 0,m_ 21 1,⟨some 22,.p (.slice (.t 20) none (some (.t 21)) 1),none⟩,m_ 23 0,m_ 24 2,⟨some 25,.p (.slice (.t 23) (some (.t 24)) none 1),none⟩] (.alt [] ⟨some 26,.app 1 8 (.t 22) (.t 25),none⟩ (.alt [] (m_ 0 26) .fin .stop) .stop)
def UH:List Bj:=[m_ 27 0,m_ 28 0,n_ 29 28,m_ 30 7,⟨some 31,.p (.slice (.t 27) (some (.t 29)) (some (.t 30)) 1),none⟩,⟨none,.clear 1 [iV 0] (.t 31),none⟩]
def UI:=[m_ 32 0,m_ 6 32]
def c123:De:=⟨3,33,[.t 6],sr UB (sr UC (.seq (sr UD (iz 16 (rr UE))) (sr UF (sd UG (sr UH (rr UI))))))⟩
def K123 (D:Ba):Prop:=∀a0 a1 a2 r,g123 a0 a1 a2=some r→D 123 ⟨[oI 1024000 a0,iV a1,iV a2],[]⟩ ⟨oI 0 r,[],[]⟩
theorem F123:K123 (FO C c123):=by
 intro a0 a1 a2 r h0
 refine f0 ?_
 obtain ⟨⟨hb,hl⟩,h0⟩:=xE h0
 obtain rfl:=sj h0
 obtain ⟨i,rfl⟩:=Int.eq_ofNat_of_zero_le hb.1
 obtain ⟨j,rfl⟩:=Int.eq_ofNat_of_zero_le (Int.le_trans hb.1 hb.2.1)
 have hij:i≤j:=by omega
 have hx63:(a0.length:Int)<Es:=by have:=hl; simp only [Es]; omega
 have hj:j≤a0.length:=by omega
 rw [show ((i:Nat):Int).toNat=i from rfl,show ((j:Nat):Int).toNat=j from rfl]
 refine As 3 [(0,oI 1024000 a0),(1,iV i),(2,iV j)] [] (Bk (Ah (st (Dc rfl tv (st (Dc rfl tv (st (Dc rfl tv (st (Dc rfl tv (Qb rfl (st (HL (e:=eI) (l0:=a0) rfl rfl rfl rfl ⟨by omega,by omega,by omega,Int.le_refl _⟩ (o_ (As 1 [(0,oI 1024000 a0),(1,iV i),(2,iV j)] [] (Bk (Bk (Ah (st (Dc rfl tv (st (Dc rfl tv (st (c_ (Bw t3 rfl tv) (In (aC (Od (cb:=(i:Int)==(j:Int)) rfl (fun h=>?_) (fun h=>?_))))))))))))))))))))))))))))
 ·have e1:i=j:=by have:=eq_of_beq h; omega
  subst e1
  rw [List.take_append_drop]
  refine Bk (Ah (st (Dc rfl tv (st (Dc rfl tv (In (aC ?_)))))))
  exact Kv (Fe rfl rfl rfl rfl rfl tv)
 ·have hne:i≠j:=fun e1=>by subst e1; simp at h
  have hemp:a0.map eI≠[]:=fun e1=>by
   have:=congrArg List.length e1
   simp at this
   subst this
   simp at hj
   omega
  refine As 1 [(0,oI 1024000 a0),(1,iV i),(2,iV j)] [] (Bk (Ah (st (Dc rfl tv (Qb rfl (st (Dc rfl tv (In (Dy ⟨[(0,oI 1024000 a0),(1,iV i),(2,iV j),(7,iV (a0.length:Int))],[],[(0,(a0.length:Int))]⟩ (qG ⟨rfl,rfl,rfl,rfl,tv⟩ tv ⟨.inr (.inl ⟨_,_,_,_,rfl,hemp,by simp,hx63,by decide⟩),tv⟩) (Bk (Bm (Au tv (Dc rfl tv (⟨tv,Au tv (Dc rfl tv (⟨tv,Au tv (c_ (Dk (e:=eI) (y:=a0.take i) rfl rfl tv ⟨tv,tv⟩ rfl rfl (by rw [show (none:Option Int).getD 0=((0:Nat):Int) from rfl]; exact yE a0 0 i (by omega) (by omega))) (⟨tv,Au tv (Dc rfl tv (⟨tv,Au tv (Dc rfl tv (⟨tv,Au tv (c_ (Dk (e:=eI) (y:=a0.drop j) rfl rfl tv ⟨tv,tv⟩ rfl rfl (Pp a0 j hj)) (⟨tv,Cb (zK (e:=eI) (l0:=a0.take i) (l1:=a0.drop j) (t:=1024000) (sz:=1) (vy:=.own 1024000 (0+j) 1 ((a0.drop j).map eI)) (c:=(a0.length:Int)-0) rfl rfl tv rfl (show (1024000:Nat)<1048576 by decide) ?_ rfl ?_ ?_) Az⟩))⟩))⟩))⟩))⟩))⟩))))))))))))))
  ·have:(a0.take i).length+(a0.drop j).length≤a0.length:=by simp; omega
   exact Nat.le_trans (Nat.mul_le_mul_right 8 this) (Nat.le_trans (Nat.mul_le_mul_right 8 hl) (by decide))
  ·rw [Kn (show (a0.length:Int)-0<Es by omega)]; simp; omega
  refine d0 tv (Cb (Dc rfl tv (d0 tv (Jz ?_))) Az)
  generalize hR:a0.take i++a0.drop j=R
  have hRl:R.length≤a0.length:=by rw [←hR]; simp; omega
  refine Dy ⟨[(0,oI 1024000 R),(7,iV (a0.length:Int))],[],[(0,(a0.length:Int)-0)]⟩ (qG ⟨rfl,rfl,tv⟩ tv ⟨.inl ⟨_,rfl,.inl rfl⟩,tv⟩) (Bk (Ah (st (Dc rfl tv (st (Dc rfl tv (Qb rfl (st (Dc rfl tv (st (c_ (Zd (e:=eI) (R:=R) (t:=1024000) (sz:=1) (L:=R.length) (H:=a0.length) (c:=(a0.length:Int)-0) rfl rfl rfl rfl hRl (show (0:Nat)<1 by decide) rfl (by rw [Kn (show (a0.length:Int)-0<Es by omega)]; omega)) (st (cC rfl (In (Dy ⟨[(0,oI 1024000 R)],[],[]⟩ (fg ⟨LF (Nat.le_refl _),tv⟩ tv) (Bk (Ah (st (Dc rfl tv (st (Dc rfl tv (In (aC ?_)))))))))))))))))))))))
  exact Kv (Fe rfl rfl rfl rfl rfl tv)

/- loop.example/g00149/impl.call -/
def c89_r0:List Bj:=[⟨some 8,.nilS 1,none⟩,i_ 9 0]
def c89_r1:=[m_ 13 0,q_ 14 120 [.t 13],m_ 10 14]
def c89_r2:=[m_ 15 3,B_ .eql 16 15 1]
def c89_r3:=[m_ 17 10,m_ 8 17,i_ 9 13]
def c89_r4:=[m_ 19 10,m_ 20 1,q_ 21 121 [.t 19,.t 20],m_ 18 21,e_ 22 18 0,e_ 23 18 1,m_ 11 22,m_ 12 23]
def c89_r5:=[m_ 25 2,m_ 26 25,mT 26 27 12,pT 26 28 (.un .not (.t 27)),pa 29 26 28,m_ 24 29]
def c89_r6:List Bj:=[m_ 30 10,m_ 31 11,m_ 32 1,⟨some 33,.mkS 1 [iV 0] 1 [(0,.t 32)],none⟩,q_ 34 122 [.t 30,.t 31,.t 33],m_ 10 34]
def c89_r7:=[m_ 36 2,N_ 37 36,m_ 38 37,mT 38 39 12,pa 40 38 39,m_ 35 40]
def c89_r8:=[m_ 41 10,m_ 42 11,m_ 43 11,B_ .add 44 43 1,q_ 45 123 [.t 41,.t 42,.t 44],m_ 10 45]
def c89_r9:=[m_ 46 3,B_ .eql 47 46 2]
def Aky:=[m_ 48 10,m_ 8 48,i_ 9 15]
def Akz:=[m_ 49 10,m_ 8 49,i_ 9 0]
def c89:De:=⟨4,50,[.t 8,.t 9],sr c89_r0 (sr c89_r1 (.seq (sr c89_r2 (iz 16 (rr c89_r3))) (sr c89_r4 (.seq (.block 0 (sr c89_r5 (.ite (.t 24) (.reg c89_r6) (sr c89_r7 (iz 35 (.reg c89_r8)))))) (.seq (sr c89_r9 (iz 47 (rr Aky))) (rr Akz))))))⟩
def K89 (D:Ba):Prop:=∀a0 a1 a2 a3 r,g89 a0 a1 a2 a3=some r→D 89 ⟨[lI a0,iV a1,.bool a2,iV a3],[]⟩ ⟨.tup [oI 0 r.1,iV r.2],[],[]⟩
theorem F89 (H120:yY C) (H121:K121 C) (H122:K122 C) (H123:K123 C):K89 (FO C c89):=by
 intro a0 a1 a2 a3 r h0
 refine f0 (As 4 [(0,lI a0),(1,iV a1),(2,.bool a2),(3,iV a3)] [] (Bk (Ah (st (Dc rfl tv (bb h0 fun r1 e2 h0=>Ji (H120 a0 r1 e2) (af rfl) (o_ (As 8 [(1,iV a1),(2,.bool a2),(3,iV a3),(10,oI 896 r1),(16,.bool (a3==1))] [] (Cw h0 (fun c3 h0=>?_) (fun c3 h0=>?_))))))))))
 ·obtain rfl:=sj h0
  exact Cs 6
 ·refine At 5 (Ah (bb h0 fun r4 e5 h0=>Il (H121 r1 a1 r4 e5) (o_ (As 6 [(1,iV a1),(2,.bool a2),(3,iV a3),(10,oI 896 r1),(11,iV r4.1),(12,.bool r4.2)] [] (Bk (Hz (fun S=>∃p13:List Int,S=⟨[(3,iV a3),(10,oI 2176 p13)],[],[]⟩∧Yj a3 p13=some r) ?_ (fun J15=>?_)))))))
  ·rintro _ ⟨p13,rfl,h0⟩
   refine As 6 [(10,oI 2176 p13),(47,.bool (a3==2))] [] (Cw h0 (fun c14 h0=>?_) (fun c14 h0=>?_))
   ·obtain rfl:=sj h0
    exact Cs 6
   ·obtain rfl:=sj h0
    exact Cs 8
  ·refine Bk ?_
   refine uE 7 [(1,iV a1),(2,.bool a2),(3,iV a3),(10,oI 896 r1),(11,iV r4.1),(12,.bool r4.2),(24,.bool (bif a2 then (!r4.2) else false))] [] (Cw h0 (fun c16 h0=>?_) (fun c16 h0=>?_))
   ·refine At 4 (Ah (bb h0 fun r17 e18 h0=>gg h0 fun c19 h0=>fE [] [2112] [896] (H122 r1 r4.1 ([a1]:List Int) r17 e18) (Bq (af rfl) (Bq (fl2 (fun _=>rfl)) rfl)) (st (Dc rfl tv (In (Um ?_))))))
    exact jn J15 ⟨_,rfl,h0⟩
   ·refine uE 8 [(3,iV a3),(10,oI 896 r1),(11,iV r4.1),(35,.bool (bif (!a2) then r4.2 else false))] [] (Cw h0 (fun eZ h0=>?_) (fun eZ h0=>?_))
    ·refine At 4 (Ah (bb h0 fun r21 e22 h0=>fE [] [] [896] (H123 r1 r4.1 (wi (r4.1+1)) r21 e22) (Bq (af rfl) rfl) (st (Dc rfl tv (In (Um ?_))))))
     exact J15 _ _ (Lz [] [(2880,2176)] rfl (by kernel_rfl)) ⟨_,rfl,h0⟩
    ·refine Nh (Um ?_)
     exact J15 _ _ (Lz [] [(896,2176)] rfl (by kernel_rfl)) ⟨_,rfl,h0⟩

/- (*loop.example/g00149/impl.runner).call -/
def Ajt:=[i_ 6 0]
def Aju:=[i_ 7 0]
def Ajv:=tk [m_ 10 0,iQ 11 (.nilc (.t 10)),f_ 12 11 13,l_ 13 12 1,m_ 14 0,iQ 15 (.nilc (.t 14)),f_ 16 15 6,f_ 17 16 5,l_ 18 17 1,n_ 19 18,b_ .lss 20 13 19] .fin
def Ajw:=tk [m_ 21 0,iQ 22 (.nilc (.t 21)),f_ 23 22 6,f_ 24 23 5,l_ 25 24 1,m_ 26 0,iQ 27 (.nilc (.t 26)),f_ 28 27 13,l_ 29 28 1,x_ 30 25 29 1,l_ 31 30 1,m_ 7 31] .fin
def Ajx:=[m_ 32 0,iQ 33 (.nilc (.t 32)),f_ 34 33 13,l_ 35 34 1,B_ .add 36 35 1,iQ 37 (.nilc (.t 32)),f_ 38 37 13,s_ 38 36 1]
def Ajy:=[m_ 40 0,iQ 41 (.nilc (.t 40)),f_ 42 41 0,f_ 43 42 4,l_ 44 43 1,m_ 45 1,m_ 46 2,m_ 47 7,q_ 48 89 [.t 44,.t 45,.t 46,.t 47],m_ 39 48,e_ 49 39 0,e_ 50 39 1,m_ 8 49,m_ 9 50]
def Ajz:=[m_ 51 0,m_ 52 8,iQ 53 (.nilc (.t 51)),f_ 54 53 0,f_ 55 54 4,s_ 55 52 1]
def AjA:=[m_ 56 9,m_ 6 56]
def c471:De:=⟨3,57,[.t 6],sr Ajt (sr Aju (.seq (sd Ajv (iz 20 (.draw Ajw))) (sr Ajx (sr Ajy (sr Ajz (rr AjA))))))⟩
def OG (D:Ba):Prop:=∀a0 a1 a2 r,jU a0 a1 a2=some r→D 471 ⟨[.ptr 1048576 0,iV a1,.bool a2],[Hn a0 (Al 1024000) (Al 1024001) (Al 1024002) u_]⟩ ⟨iV r.1,[Hn r.2 (Al 0) (Al 1) (Al 2) u_],[]⟩
abbrev rL:=fun x0 (r:List (Nat×List V))=>(1048576,Hn x0 (Al 1024000) (Al 1024001) (Al 1024002) u_)::r
theorem F471 (H89:K89 C):OG (FO C c471):=by
 intro a0 a1 a2 r h0
 refine f0 (As 7 [(0,.ptr 1048576 0),(1,iV a1),(2,.bool a2),(7,iV 0)] (rL a0 []) (At 10 (Bm (Au tv (c_ (Bw ⟨tv,tv⟩ rfl (nl rfl)) ?_)))))
 refine ⟨tv,Au tv (c_ (Mu (e:=eI) (l0:=a0.a.Cp) rfl rfl tv) (⟨tv,d_ (As 2 [(0,.ptr 1048576 0),(1,iV a1),(2,.bool a2),(7,iV 0),(20,.bool (decide (a0.Hl<(a0.a.Cp.length:Int))))] (rL a0 []) (Vc (cb:=(decide (a0.Hl<(a0.a.Cp.length:Int)))) (fun S=>∃p4:Int,S=⟨[(0,.ptr 1048576 0),(1,iV a1),(2,.bool a2),(7,iV p4)],rL a0 [],[]⟩∧Wt a0 a1 a2 p4=some r) rfl ?_ (fun c8 J7=>?_) (fun c8 J7=>?_)))⟩))⟩
 ·rintro _ ⟨p4,rfl,h0⟩
  refine As 11 [(0,.ptr 1048576 0),(1,iV a1),(2,.bool a2),(7,iV p4)] [(1048576,Dl a0.v.Ab.clock a0.v.Ab.next (Al 1024000) a0.v.Ab.Ac (Al 1024001) a0.v.Aa (Al 1024002) a0.v.Ae a0.v.Ai a0.a.kind a0.a.id a0.a.ttl a0.a.Fd a0.a.clock u_ a0.a.Cp a0.a.stop (wi (a0.Hl+1)))] (At 9 (Ah (bb h0 fun r5 e6 h0=>Ji (H89 a0.v.Ae a1 a2 p4 r5 e6) (af (Bq rfl rfl)) (o_ ?_))))
  obtain rfl:=sj h0
  exact Cs 21
 ·replace h0:=ip c8 h0
  refine bb h0 fun y9 e10 h0=>At 9 (Bm (d_ (sN rfl rfl rfl e10 (At 3 ?_))))
  exact jn J7 ⟨_,rfl,h0⟩
 ·replace h0:=oY c8 h0
  refine Nh ?_
  exact jn J7 ⟨_,rfl,h0⟩

/- (loop.example/g00149/impl.Vault).issue -/
def Aiw:=[X_ 2 0,X_ 3 1,a_ 4 (zV 259 260 261),a_ 5 [iV 0,iV 0]]
def Aix:=[f_ 12 2 0,L_ 13 12 3,f_ 14 3 2,l_ 15 14 1,f_ 16 3 3,l_ 17 16 1,q_ 18 71 [.t 13,.t 15,.t 17],m_ 11 18,e_ 19 11 0,e_ 20 11 1,e_ 21 11 2,a_ 6 (zT 387),s_ 6 19 3,m_ 7 20,m_ 8 21]
def Aiy:=[m_ 22 8,B_ .eql 23 22 0,m_ 24 23,fT 24 25 2 3,lT 24 26 25 1 false,pT 24 27 (.len (.t 26)),pT 24 28 (.bin .eql (.t 27) (.c (iV 40))),pa 29 24 28]
def Aiz:=[i_ 8 9]
def AiA:=[m_ 30 8,B_ .neq 31 30 0]
def AiB:=[L_ 32 2 6,m_ 33 8,q_ 34 464 [.t 32,.t 33],e_ 35 34 0,e_ 36 34 1,s_ 4 35 6,s_ 5 36 2]
def AiC:List Bj:=[L_ 37 2 6,L_ 38 3 7,⟨some 39,.p (.build [iV 0,iV 0,.own 2499 0 4 [],.own 2500 0 2 [],.own 2501 0 1 [],.bool false,iV 0,iV 0,iV 0,iV 0,iV 0,.own 2508 0 1 [],iV 0,iV 0] [(0,6,.t 37),(6,7,.t 38)]),none⟩,X_ 40 39,m_ 9 40]
def AiD:=[m_ 41 9,iQ 42 (.nilc (.t 41)),f_ 43 42 0,f_ 44 43 0,f_ 45 44 1,l_ 46 45 1,B_ .add 47 46 1,iQ 48 (.nilc (.t 41)),f_ 49 48 0,f_ 50 49 0,f_ 51 50 1,s_ 51 47 1]
def AiE:List Bj:=[m_ 52 9,m_ 53 9,iQ 54 (.nilc (.t 53)),f_ 55 54 0,f_ 56 55 3,l_ 57 56 1,m_ 58 7,⟨some 59,.p (.build [iV 0,.bool false] [(0,1,.t 58)]),none⟩,⟨some 60,.mkS 2 [iV 0,.bool false] 1 [(0,.t 59)],none⟩,⟨some 61,.app 2 16 (.t 57) (.t 60),none⟩,iQ 62 (.nilc (.t 52)),f_ 63 62 0,f_ 64 63 3,s_ 64 61 1]
def AiF:=[f_ 65 3 6,l_ 66 65 1,B_ .eql 67 66 1]
def GB:=[m_ 68 9,iQ 69 (.nilc (.t 68)),f_ 70 69 0,L_ 71 70 6,q_ 72 470 [.t 71],e_ 73 72 0,e_ 74 72 1,s_ 4 73 6,s_ 5 74 2]
def GC:=[m_ 75 9,m_ 76 7,q_ 77 471 [.t 75,.t 76,.c (.bool true)],m_ 8 77]
def GD:=[f_ 78 3 6,l_ 79 78 1,B_ .eql 80 79 2]
def GE:=[m_ 81 9,iQ 82 (.nilc (.t 81)),f_ 83 82 0,L_ 84 83 6,q_ 85 470 [.t 84],e_ 86 85 0,e_ 87 85 1,s_ 4 86 6,s_ 5 87 2]
def GF:=[m_ 88 9,iQ 89 (.nilc (.t 88)),f_ 90 89 0,f_ 91 90 3,l_ 92 91 1,n_ 93 92,B_ .sub 94 93 1,m_ 10 94]
def GG:=[m_ 95 8,B_ .neq 96 95 0]
def GH:List Bj:=[m_ 97 9,iQ 98 (.nilc (.t 97)),f_ 99 98 0,f_ 100 99 3,l_ 101 100 1,m_ 102 10,x_ 103 101 102 2,f_ 104 103 1,⟨none,.store (.t 104) (.c (.bool true)) 1,none⟩]
def GI:=[m_ 105 9,iQ 106 (.nilc (.t 105)),f_ 107 106 0,L_ 108 107 6,m_ 109 8,q_ 110 464 [.t 108,.t 109],e_ 111 110 0,e_ 112 110 1,s_ 4 111 6,s_ 5 112 2]
def GJ:List Bj:=[m_ 113 9,m_ 114 9,iQ 115 (.nilc (.t 114)),f_ 116 115 0,f_ 117 116 3,l_ 118 117 1,m_ 119 10,⟨some 120,.p (.slice (.t 118) none (some (.t 119)) 2),none⟩,iQ 121 (.nilc (.t 113)),f_ 122 121 0,f_ 123 122 3,s_ 123 120 1]
def GK:=[m_ 124 9,L_ 125 6 3,iQ 126 (.nilc (.t 124)),f_ 127 126 0,f_ 128 127 0,s_ 128 125 3]
def GL:List Bj:=[m_ 129 9,iQ 130 (.nilc (.t 129)),f_ 131 130 0,L_ 132 131 6,m_ 133 7,⟨some 134,.p (.build [iV 0,iV 0] [(1,1,.t 133)]),none⟩,s_ 4 132 6,s_ 5 134 2]
def c465:De:=⟨2,135,[.cell 4 6 true,.cell 5 2 true],sr Aiw (sr Aix (.seq (sr Aiy (iz 29 (.reg Aiz))) (.seq (sr AiA (iz 31 (rr AiB))) (sr AiC (sr AiD (sr AiE (.seq (sr AiF (iz 67 (rr GB))) (sr GC (.seq (sr GD (iz 80 (rr GE))) (sr GF (.seq (sr GG (iz 96 (sr GH (rr GI)))) (sr GJ (sr GK (rr GL))))))))))))))⟩
def K465 (D:Ba):Prop:=∀a0 a1 r,Aml a0 a1=some r→D 465 ⟨[.agg (Bi a0 (Al 1024000) (Al 1024001) (Al 1024002)),.agg (Ao a1)],[]⟩ ⟨.tup [.agg (Bi r.1 (Al 0) (Al 1) (Al 2)),.agg (Bp r.2)],[],[]⟩
abbrev Mj:=fun (r:List (Nat×List V))=>(256,Ap 0 0 (Al 259) [] (Al 260) [] (Al 261) [] false)::(320,[iV 0,iV 0])::r
abbrev Rk:=fun x0 (r:List (Nat×V))=>(4,.ptr 256 0)::(5,.ptr 320 0)::(6,.ptr 384 0)::(7,iV x0)::r
theorem F465 (H71:K71 C) (H464:zB C) (H470:OF C) (H471:OG C):K465 (FO C c465):=by
 intro a0 a1 r h0
 refine f0 (As 6 [(2,.ptr 128 0),(3,.ptr 192 0),(4,.ptr 256 0),(5,.ptr 320 0)] (Mj [(128,Bi a0 (Al 1024000) (Al 1024001) (Al 1024002)),(192,Ao a1)]) (At 7 (Ah (bb h0 fun r1 e2 h0=>Ji (H71 a0.Ab a1.ttl a1.Fd r1 e2) (ar (Bq rfl (af (ar (Bq rfl rfl))))) (o_ (As 9 (Rk r1.2.1 [(2,.ptr 128 0),(3,.ptr 192 0),(8,iV r1.2.2)]) (Mj [(128,Bi a0 (Al 1024000) (Al 1024001) (Al 1024002)),(192,Ao a1),(384,Db r1.1 (Al 1152))]) (At 5 (Ah (st (Ep (u:=.ptr 128 3) rfl (fun hg=>(Bw ⟨tv,tv⟩ rfl tv)) (st (Ep (u:=Cf 1024001 a0.Aa) rfl (fun hg=>(Bw ⟨(fun _=>hg),tv⟩ rfl (nl rfl))) (st (Ep (u:=iV (a0.Aa.length:Int)) rfl (fun hg=>(mC (e:=Cd) (l0:=a0.Aa) rfl rfl (fun _=>hg))) (st (Ep (u:=.bool ((a0.Aa.length:Int)==40)) rfl (fun hg=>(Bw ⟨(fun _=>hg),tv,tv⟩ rfl tv)) (st (Hp rfl rfl rfl (fun h=>tM h) tv rfl (o_ (As 1 (Rk r1.2.1 [(2,.ptr 128 0),(3,.ptr 192 0),(8,iV r1.2.2),(29,.bool (bif (r1.2.2==0) then ((a0.Aa.length:Int)==40) else false))]) (Mj [(128,Bi a0 (Al 1024000) (Al 1024001) (Al 1024002)),(192,Ao a1),(384,Db r1.1 (Al 1152))]) (Vc (cb:=(bif (r1.2.2==0) then ((a0.Aa.length:Int)==40) else false)) (fun S=>∃p4:Int,S=⟨Rk r1.2.1 [(2,.ptr 128 0),(3,.ptr 192 0),(8,iV p4)],Mj [(128,Bi a0 (Al 1024000) (Al 1024001) (Al 1024002)),(192,Ao a1),(384,Db r1.1 (Al 1152))],[]⟩∧Lg a0 a1 r1 p4=some r) rfl ?_ (fun c27 J26=>?_) (fun c27 J26=>?_))))))))))))))))))))))
 ·rintro _ ⟨p4,rfl,h0⟩
  refine As 6 (Rk r1.2.1 [(2,.ptr 128 0),(3,.ptr 192 0),(8,iV p4),(31,.bool (p4 != 0))]) (Mj [(128,Bi a0 (Al 1024000) (Al 1024001) (Al 1024002)),(192,Ao a1),(384,Db r1.1 (Al 1152))]) (Cw h0 (fun c5 h0=>?_) (fun c5 h0=>?_))
  ·refine At 3 (Ah (bb h0 fun r6 e7 h0=>fE [] [] [1024000,1024001,1024002] (H464 a0 p4 r6 e7) (Bq (ar (Bq rfl (af (af (af (ar (Bq rfl (Bq rfl rfl)))))))) rfl) (o_ ?_)))
   obtain rfl:=sj h0
   exact Cs 6
  ·refine At 5 (Ah (st (c_ (v:=.agg (Dl a0.Ab.clock a0.Ab.next (Al 1024000) a0.Ab.Ac (Al 1024001) a0.Aa (Al 1024002) a0.Ae a0.Ai a1.kind a1.id a1.ttl a1.Fd a1.clock u_ a1.Cp a1.stop 0)) (Bw ⟨tv,tv,tv⟩ rfl ⟨⟨rfl,rfl,nl rfl⟩,⟨rfl,rfl,nl rfl⟩,tv⟩) (o_ (As 18 (Rk r1.2.1 [(3,.ptr 192 0),(9,.ptr 2560 0)]) (Mj [(192,Ao a1),(384,Db r1.1 (Al 1152)),(2560,Dl a0.Ab.clock (wi (a0.Ab.next+1)) (Al 1024000) a0.Ab.Ac (Al 1024001) a0.Aa (Al 1024002) a0.Ae a0.Ai a1.kind a1.id a1.ttl a1.Fd a1.clock u_ a1.Cp a1.stop 0)]) (At 3 (Ah ?_)))))))
   refine o_ (At 5 (Ah (st (c_ (v:=.agg [iV r1.2.1,.bool false]) (Bw ⟨tv,tv⟩ rfl ⟨⟨rfl,rfl,nl rfl⟩,tv⟩) (st (Ky ⟨tv,tv⟩ ⟨⟨nl rfl,rfl,rfl⟩,tv⟩ (gg h0 fun c8 h0=>st (Fp (e:=Cd) (l0:=a0.Aa) (l1:=([Ad.mk r1.2.1 false]:List Ad)) rfl rfl tv rfl (by decide) c8 (o_ (As 12 (Rk r1.2.1 [(3,.ptr 192 0),(9,.ptr 2560 0),(67,.bool (a1.stop==1))]) (Mj [(192,Ao a1),(384,Db r1.1 (Al 1152)),(2560,[iV a0.Ab.clock,iV (wi (a0.Ab.next+1)),Bu 1024000 a0.Ab.Ac,Cf 1024001 (a0.Aa++([Ad.mk r1.2.1 false]:List Ad)),oI 1024002 a0.Ae,.bool a0.Ai,iV a1.kind,iV a1.id,iV a1.ttl,iV a1.Fd,iV a1.clock,lI a1.Cp,iV a1.stop,iV 0])]) (Cw h0 (fun c9 h0=>?_) (fun c9 h0=>?_))))))))))))
   ·refine At 5 (Ah (bb h0 fun r10 e11 h0=>fE [] [] [1024000,1024001,1024002] (H470 (Ag.mk (Ak.mk a0.Ab.clock (wi (a0.Ab.next+1)) a0.Ab.Ac) (a0.Aa++([Ad.mk r1.2.1 false]:List Ad)) a0.Ae a0.Ai) r10 e11) (Bq (ar (Bq rfl (af (af (af (ar (Bq rfl (Bq rfl rfl)))))))) rfl) (o_ ?_)))
    obtain rfl:=sj h0
    exact Cs 6
   ·refine At 5 (Ah (bb h0 fun r12 e13 h0=>Vv [2560] [] [1024000,1024001,1024002] (H471 (Dp.mk (Ag.mk (Ak.mk a0.Ab.clock (wi (a0.Ab.next+1)) a0.Ab.Ac) (a0.Aa++([Ad.mk r1.2.1 false]:List Ad)) a0.Ae a0.Ai) a1 0) r1.2.1 true r12 e13) (o_ (As 9 (Rk r1.2.1 [(8,iV r12.1),(9,.ptr 2560 0),(80,.bool (a1.stop==2))]) (Mj [(384,Db r1.1 (Al 1152)),(2560,Hn r12.2 (Al 4928) (Al 4929) (Al 4930) u_)]) (Cw h0 (fun c14 h0=>?_) (fun c14 h0=>?_))))))
    ·refine At 5 (Ah (bb h0 fun r15 e16 h0=>fE [] [] [4928,4929,4930] (H470 r12.2.v r15 e16) (Bq (ar (Bq rfl (af (af (af (ar (Bq rfl (Bq rfl rfl)))))))) rfl) (o_ ?_)))
     obtain rfl:=sj h0
     exact Cs 6
    ·refine At 8 (Ah (Qb rfl (o_ (As 9 (Rk r1.2.1 [(8,iV r12.1),(9,.ptr 2560 0),(10,iV (wi ((r12.2.v.Aa.length:Int)-1))),(96,.bool (r12.1 != 0))]) (Mj [(384,Db r1.1 (Al 1152)),(2560,Hn r12.2 (Al 4928) (Al 4929) (Al 4930) u_)]) (Cw h0 (fun c17 h0=>?_) (fun c17 h0=>?_))))))
     ·refine At 7 (Ah (bb h0 fun y18 e19 h0=>iO rfl rfl e19 (st (c_ (Bw ⟨tv,tv⟩ rfl tv) (bb h0 fun y20 e21 h0=>NJ (Ad.mk y20.Bb true) rfl rfl e21 (o_ (As 1 [(4,.ptr 256 0),(5,.ptr 320 0),(8,iV r12.1),(9,.ptr 2560 0)] (Mj [(2560,Dl r12.2.v.Ab.clock r12.2.v.Ab.next (Al 4928) r12.2.v.Ab.Ac (Al 4929) (r12.2.v.Aa.set ((wi ((r12.2.v.Aa.length:Int)-1)).toNat) (Ad.mk y20.Bb true)) (Al 4930) r12.2.v.Ae r12.2.v.Ai r12.2.a.kind r12.2.a.id r12.2.a.ttl r12.2.a.Fd r12.2.a.clock u_ r12.2.a.Cp r12.2.a.stop r12.2.Hl)]) (At 6 (Ah (bb h0 fun r22 e23 h0=>fE [] [] [4928,4929,4930] (H464 (Ag.mk r12.2.v.Ab (r12.2.v.Aa.set ((wi ((r12.2.v.Aa.length:Int)-1)).toNat) (Ad.mk y20.Bb true)) r12.2.v.Ae r12.2.v.Ai) r12.1 r22 e23) (Bq (ar (Bq rfl (af (af (af (ar (Bq rfl (Bq rfl rfl)))))))) rfl) (o_ ?_)))))))))))
      obtain rfl:=sj h0
      exact Cs 6
     ·refine At 10 (Ah (bb h0 fun s24 e25 h0=>st (c_ (Dk (e:=Cd) (y:=s24) rfl rfl tv ⟨tv,tv⟩ rfl rfl e25) (o_ (As 14 [(4,.ptr 256 0),(5,.ptr 320 0),(7,iV r1.2.1),(9,.ptr 2560 0)] (Mj [(2560,Dl r1.1.clock r1.1.next (Al 1152) r1.1.Ac (Al 4929) s24 (Al 4930) r12.2.v.Ae r12.2.v.Ai r12.2.a.kind r12.2.a.id r12.2.a.ttl r12.2.a.Fd r12.2.a.clock u_ r12.2.a.Cp r12.2.a.stop r12.2.Hl)]) (At 6 (Ah (st (c_ (v:=.agg [iV 0,iV r1.2.1]) (Bw ⟨tv,tv⟩ rfl ⟨⟨rfl,rfl,nl rfl⟩,tv⟩) (o_ ?_))))))))))
      obtain rfl:=sj h0
      exact Cs 4
 ·replace h0:=ip c27 h0
  refine Ah (st (mvc_ tv (In ?_)))
  exact jn J26 ⟨_,rfl,h0⟩
 ·replace h0:=oY c27 h0
  refine Nh ?_
  exact jn J26 ⟨_,rfl,h0⟩

/- (loop.example/g00149/impl.Vault).turned -/
def AiG:=[X_ 3 0,X_ 4 1,a_ 6 (zV 387 388 389),a_ 7 [iV 0,iV 0]]
def AiH:=[m_ 8 2,B_ .neq 9 8 0]
def AiI:=[L_ 10 3 6,m_ 11 2,q_ 12 464 [.t 10,.t 11],e_ 13 12 0,e_ 14 12 1,s_ 6 13 6,s_ 7 14 2]
def AiJ:=[L_ 15 4 3,f_ 16 3 0,s_ 16 15 3]
def AiK:=[L_ 17 3 6,iQ 18 (.build [iV 0,iV 0] []),s_ 6 17 6,s_ 7 18 2]
def c466:De:=⟨3,19,[.cell 6 6 true,.cell 7 2 true],sr AiG (.seq (sr AiH (iz 9 (rr AiI))) (sr AiJ (rr AiK)))⟩
def K466 (D:Ba):Prop:=∀a0 a1 a2 r,JB a0 a1 a2=some r→D 466 ⟨[.agg (Bi a0 (Al 1024000) (Al 1024001) (Al 1024002)),.agg (Db a1 (Al 1024003)),iV a2],[]⟩ ⟨.tup [.agg (Bi r.1 (Al 0) (Al 1) (Al 2)),.agg (Bp r.2)],[],[]⟩
theorem F466 (H464:zB C):K466 (FO C c466):=by
 intro a0 a1 a2 r h0
 refine f0 (As 12 [(2,iV a2),(3,.ptr 192 0),(4,.ptr 256 0),(6,.ptr 384 0),(7,.ptr 448 0),(9,.bool (a2 != 0))] [(192,Bi a0 (Al 1024000) (Al 1024001) (Al 1024002)),(256,Db a1 (Al 1024003)),(384,Ap 0 0 (Al 387) [] (Al 388) [] (Al 389) [] false),(448,[iV 0,iV 0])] (Cw h0 (fun c1 h0=>?_) (fun c1 h0=>?_)))
 ·refine At 3 (Ah (bb h0 fun r2 e3 h0=>fE [] [] [1024000,1024001,1024002] (H464 a0 a2 r2 e3) (Bq (ar (Bq rfl (af (af (af (ar (Bq rfl (Bq rfl rfl)))))))) rfl) (o_ ?_)))
  obtain rfl:=sj h0
  exact Cs 6
 ·obtain rfl:=sj h0
  exact Cs 15

/- slices.Delete[[]loop.example/g00149/impl.Lease,loop.example/g00149/impl.Lease] -/
def SF:List Bj:=[⟨some 6,.nilS 4,none⟩]
def SG:List Bj:=[m_ 8 0,m_ 9 1,m_ 10 2,m_ 11 0,n_ 12 11,⟨some 13,.chk3 (.t 8) (.t 9) (.t 10) (.t 12),none⟩]
def SH:=[m_ 14 1,m_ 15 2,b_ .eql 16 14 15]
def SI:=[m_ 17 0,m_ 6 17]
def SJ:=[m_ 18 0,n_ 19 18,m_ 7 19]
def SK:=tk [m_ 20 0,m_ 21 1,⟨some 22,.p (.slice (.t 20) none (some (.t 21)) 4),none⟩,m_ 23 0,m_ 24 2,⟨some 25,.p (.slice (.t 23) (some (.t 24)) none 4),none⟩] (.alt [] ⟨some 26,.app 4 32 (.t 22) (.t 25),none⟩ (.alt [] (m_ 0 26) .fin .stop) .stop)
def SL:List Bj:=[m_ 27 0,m_ 28 0,n_ 29 28,m_ 30 7,⟨some 31,.p (.slice (.t 27) (some (.t 29)) (some (.t 30)) 4),none⟩,⟨none,.clear 4 [iV 0,iV 0,iV 0,.bool false] (.t 31),none⟩]
def SM:=[m_ 32 0,m_ 6 32]
def c115:De:=⟨3,33,[.t 6],sr SF (sr SG (.seq (sr SH (iz 16 (rr SI))) (sr SJ (sd SK (sr SL (rr SM))))))⟩
def K115 (D:Ba):Prop:=∀a0 a1 a2 r,g115 a0 a1 a2=some r→D 115 ⟨[Bu 1024000 a0,iV a1,iV a2],[]⟩ ⟨Bu 0 r,[],[]⟩
theorem F115:K115 (FO C c115):=by
 intro a0 a1 a2 r h0
 refine f0 ?_
 obtain ⟨⟨hb,hl⟩,h0⟩:=xE h0
 obtain rfl:=sj h0
 obtain ⟨i,rfl⟩:=Int.eq_ofNat_of_zero_le hb.1
 obtain ⟨j,rfl⟩:=Int.eq_ofNat_of_zero_le (Int.le_trans hb.1 hb.2.1)
 have hij:i≤j:=by omega
 have hx63:(a0.length:Int)<Es:=by have:=hl; simp only [Es]; omega
 have hj:j≤a0.length:=by omega
 rw [show ((i:Nat):Int).toNat=i from rfl,show ((j:Nat):Int).toNat=j from rfl]
 refine As 3 [(0,Bu 1024000 a0),(1,iV i),(2,iV j)] [] (Bk (Ah (st (Dc rfl tv (st (Dc rfl tv (st (Dc rfl tv (st (Dc rfl tv (Qb rfl (st (HL (e:=Bg) (l0:=a0) rfl rfl rfl rfl ⟨by omega,by omega,by omega,Int.le_refl _⟩ (o_ (As 1 [(0,Bu 1024000 a0),(1,iV i),(2,iV j)] [] (Bk (Bk (Ah (st (Dc rfl tv (st (Dc rfl tv (st (c_ (Bw t3 rfl tv) (In (aC (Od (cb:=(i:Int)==(j:Int)) rfl (fun h=>?_) (fun h=>?_))))))))))))))))))))))))))))
 ·have e1:i=j:=by have:=eq_of_beq h; omega
  subst e1
  rw [List.take_append_drop]
  refine Bk (Ah (st (Dc rfl tv (st (Dc rfl tv (In (aC ?_)))))))
  exact Kv (Fe rfl rfl rfl rfl rfl tv)
 ·have hne:i≠j:=fun e1=>by subst e1; simp at h
  have hemp:a0.map Bg≠[]:=fun e1=>by
   have:=congrArg List.length e1
   simp at this
   subst this
   simp at hj
   omega
  refine As 1 [(0,Bu 1024000 a0),(1,iV i),(2,iV j)] [] (Bk (Ah (st (Dc rfl tv (Qb rfl (st (Dc rfl tv (In (Dy ⟨[(0,Bu 1024000 a0),(1,iV i),(2,iV j),(7,iV (a0.length:Int))],[],[(0,(a0.length:Int))]⟩ (qG ⟨rfl,rfl,rfl,rfl,tv⟩ tv ⟨.inr (.inl ⟨_,_,_,_,rfl,hemp,by simp,hx63,by decide⟩),tv⟩) (Bk (Bm (Au tv (Dc rfl tv (⟨tv,Au tv (Dc rfl tv (⟨tv,Au tv (c_ (Dk (e:=Bg) (y:=a0.take i) rfl rfl tv ⟨tv,tv⟩ rfl rfl (by rw [show (none:Option Int).getD 0=((0:Nat):Int) from rfl]; exact yE a0 0 i (by omega) (by omega))) (⟨tv,Au tv (Dc rfl tv (⟨tv,Au tv (Dc rfl tv (⟨tv,Au tv (c_ (Dk (e:=Bg) (y:=a0.drop j) rfl rfl tv ⟨tv,tv⟩ rfl rfl (Pp a0 j hj)) (⟨tv,Cb (zK (e:=Bg) (l0:=a0.take i) (l1:=a0.drop j) (t:=1024000) (sz:=4) (vy:=.own 1024000 (0+j) 4 ((a0.drop j).map Bg)) (c:=(a0.length:Int)-0) rfl rfl tv rfl (show (1024000:Nat)<1048576 by decide) ?_ rfl ?_ ?_) Az⟩))⟩))⟩))⟩))⟩))⟩))))))))))))))
  ·have:(a0.take i).length+(a0.drop j).length≤a0.length:=by simp; omega
   exact Nat.le_trans (Nat.mul_le_mul_right 32 this) (Nat.le_trans (Nat.mul_le_mul_right 32 hl) (by decide))
  ·rw [Kn (show (a0.length:Int)-0<Es by omega)]; simp; omega
  refine d0 tv (Cb (Dc rfl tv (d0 tv (Jz ?_))) Az)
  generalize hR:a0.take i++a0.drop j=R
  have hRl:R.length≤a0.length:=by rw [←hR]; simp; omega
  refine Dy ⟨[(0,Bu 1024000 R),(7,iV (a0.length:Int))],[],[(0,(a0.length:Int)-0)]⟩ (qG ⟨rfl,rfl,tv⟩ tv ⟨.inl ⟨_,rfl,.inl rfl⟩,tv⟩) (Bk (Ah (st (Dc rfl tv (st (Dc rfl tv (Qb rfl (st (Dc rfl tv (st (c_ (Zd (e:=Bg) (R:=R) (t:=1024000) (sz:=4) (L:=R.length) (H:=a0.length) (c:=(a0.length:Int)-0) rfl rfl rfl rfl hRl (show (0:Nat)<4 by decide) rfl (by rw [Kn (show (a0.length:Int)-0<Es by omega)]; omega)) (st (cC rfl (In (Dy ⟨[(0,Bu 1024000 R)],[],[]⟩ (fg ⟨LF (Nat.le_refl _),tv⟩ tv) (Bk (Ah (st (Dc rfl tv (st (Dc rfl tv (In (aC ?_)))))))))))))))))))))))
  exact Kv (Fe rfl rfl rfl rfl rfl tv)

/- (loop.example/g00149/impl.Table).without -/
def c78_r0:=[X_ 2 0,a_ 4 (zT 259)]
def c78_r1:=[L_ 6 2 3,q_ 7 112 [.t 6],a_ 5 (zT 323),s_ 5 7 3]
def c78_r2:=[f_ 8 5 2,l_ 9 8 1,m_ 10 1,m_ 11 1,B_ .add 12 11 1,q_ 13 115 [.t 9,.t 10,.t 12],f_ 14 5 2,s_ 14 13 1]
def c78_r3:=[L_ 15 5 3,s_ 4 15 3]
def c78:De:=⟨2,16,[.cell 4 3 true],sr c78_r0 (sr c78_r1 (sr c78_r2 (rr c78_r3)))⟩
def K78 (D:Ba):Prop:=∀a0 a1 r,g78 a0 a1=some r→D 78 ⟨[.agg (Bh a0),iV a1],[]⟩ ⟨.agg (Db r (Al 0)),[],[]⟩
theorem F78 (H112:lO C) (H115:K115 C):K78 (FO C c78):=by
 intro a0 a1 r h0
 refine f0 (As 4 [(1,iV a1),(2,.ptr 128 0),(4,.ptr 256 0)] [(128,Bh a0),(256,Bt 0 0 (Al 259) [])] (At 2 (Ah (bb h0 fun r1 e2 h0=>Ji (H112 a0 r1 e2) (ar (Bq rfl (af rfl))) (o_ (As 3 [(1,iV a1),(4,.ptr 256 0),(5,.ptr 320 0)] [(256,Bt 0 0 (Al 259) []),(320,Db r1 (Al 448))] (At 6 (Ah (bb h0 fun r3 e4 h0=>fE [] [] [448] (H115 r1.Ac a1 (wi (a1+1)) r3 e4) (Bq (af rfl) rfl) (o_ ?_))))))))))
 obtain rfl:=sj h0
 exact Cs 9

/- cmp.Or[int] -/
def QL:=[i_ 2 0]
def QM:=[i_ 3 0]
def QN:=[m_ 6 0,n_ 7 6,i_ 8 0]
def QO:=[b_ .lss 9 8 7]
def QP:=[x_ 10 6 8 1,l_ 11 10 1,m_ 5 11]
def QQ:=[m_ 12 5,m_ 13 3,b_ .neq 14 12 13]
def QR:=[m_ 15 5,m_ 2 15]
def QS:=[B_ .add 16 8 1,m_ 8 16]
def QK:IR:=(sr QO (.seq (.ite (.t 9) .skip (.exit 0)) (.seq (.block 1 (sr QP (sr QQ (iz 14 (rr QR))))) (.reg QS))))
def QT:=[m_ 17 3,m_ 2 17]
def c109:De:=⟨1,18,[.t 2],sr QL (sr QM (.seq (sr QN (Jc 0 QK)) (rr QT)))⟩
def K109 (D:Ba):Prop:=∀a0 r,AkN a0=some r→D 109 ⟨[lI a0],[]⟩ ⟨iV r,[],[]⟩
theorem F109:K109 (FO C c109):=by
 intro a0 r h0
 refine f0 (As 7 [(0,lI a0),(3,iV 0)] [] (At 3 (Ah (Hf rfl (o_ (As 2 [(3,iV 0),(6,lI a0),(7,iV (a0.length:Int)),(8,iV 0)] [] (Ci (bb h0 fun r15 e16 h0=>Df (R:=(fun S=>.inl ()=r15∧S=⟨[(3,iV 0)],[],[]⟩)) (Wc a0) (fun s S=>match s with | p5=>S=⟨[(3,iV 0),(6,lI a0),(7,iV (a0.length:Int)),(8,iV p5)],[],[]⟩) e16 _ (Er (by kernel_rfl)) rfl 0 (fun _=>rfl) ?_ ?_))))))))
 ·rintro S _ hfg ⟨rfl,rfl⟩
  refine Dy _ hfg ?_
  obtain rfl:=sj h0
  exact Cs 5
 ·rintro p5 o1 _ K1 rfl h1 hx1 hK1 hE1 hR1
  refine As 3 [(3,iV 0),(6,lI a0),(7,iV (a0.length:Int)),(8,iV p5),(9,.bool (decide (p5<(a0.length:Int))))] [] (Bk (Cw h1 (fun c11 h1=>?_) (fun c11 h1=>?_)))
  ·refine Mm 5 (Ah (bb h1 fun y12 e13 h1=>Ns rfl rfl e13 (o_ (As 9 [(3,iV 0),(5,iV y12),(6,lI a0),(7,iV (a0.length:Int)),(8,iV p5),(14,.bool (y12 != 0))] [] (Cw h1 (fun c14 h1=>?_) (fun c14 h1=>?_))))))
   ·obtain rfl:=sj h1
    obtain rfl:=hx1 _ rfl
    obtain rfl:=sj h0
    exact Yy 5 hR1
   ·refine At 6 ?_
    obtain rfl:=sj h1
    exact kn hK1 rfl rfl
  ·obtain rfl:=sj h1
   obtain rfl:=hx1 _ rfl
   refine Iw rfl ?_
   exact jn hE1 ⟨rfl,rfl⟩

/- loop.example/g00149/impl.byTime -/
def c69_r0:=[X_ 2 0,X_ 3 1,i_ 4 0]
def c69_r1:=tk [f_ 5 2 1,l_ 6 5 1,f_ 7 3 1,l_ 8 7 1,f_ 10 2 0,l_ 11 10 1,f_ 12 3 0,l_ 13 12 1] (.alt [l_ 13 12 1,f_ 12 3 0,l_ 11 10 1,f_ 10 2 0] (q_ 9 110 [.t 6,.t 8]) (.alt [] (q_ 14 110 [.t 11,.t 13]) (.alt [] ⟨some 15,.mkS 1 [iV 0] 2 [(0,.t 9),(1,.t 14)],none⟩ (.alt [] (q_ 16 109 [.t 15]) (tk [m_ 4 16] .fin) .stop) .stop) .stop) .stop)
def c69:De:=⟨2,17,[.t 4],sr c69_r0 (sd c69_r1 .ret)⟩
def K69 (D:Ba):Prop:=∀a0 a1 r,g69 a0 a1=some r→D 69 ⟨[.agg (Bg a0),.agg (Bg a1)],[]⟩ ⟨iV r,[],[]⟩
theorem F69 (H109:K109 C) (H110:NK C):K69 (FO C c69):=by
 intro a0 a1 r h0
 refine f0 (As 5 [(2,.ptr 128 0),(3,.ptr 192 0)] [(128,Bg a0),(192,Bg a1)] (Bk (bb h0 fun r1 e2 h0=>bb h0 fun r3 e4 h0=>bb h0 fun r5 e6 h0=>At 8 (Bm (Oo (H110 a0.Bn a1.Bn r1 e2) rfl (dw [(2,.ptr 128 0),(3,.ptr 192 0),(9,iV r1),(10,.ptr 128 0),(11,iV a0.id),(12,.ptr 192 0),(13,iV a1.id)] [(128,Bg a0),(192,Bg a1)] hB (Oo (H110 a0.id a1.id r3 e4) rfl (dw [(9,iV r1),(14,iV r3)] [] tv (Cb (Ky ⟨tv,tv,tv⟩ ⟨⟨nl rfl,rfl,rfl⟩,⟨nl rfl,rfl,rfl⟩,tv⟩ (d0 tv (Oo (H109 ([r1,r3]:List Int) r5 e6) rfl (dw [(16,iV r5)] [] tv (d_ (As 2 [(4,iV r5)] [] ?_))) Az))) Az)) Az)) Az)))))
 obtain rfl:=sj h0
 exact Kv (Fe rfl rfl rfl rfl rfl tv)

/- slices.SortFunc[[]loop.example/g00149/impl.Lease,loop.example/g00149/impl.Lease] -/
def K116 (C:Ba):Prop:=∀(a0:List Af) (f1:Nat) (k1:List V) (is1:Af→Af→Option Int) (hs1:k1=[]) (hf1:∀(x0:Af) (x1:Af) r,is1 x0 x1=some r→C f1 ⟨.agg (Bg x0) :: .agg (Bg x1)::k1,[]⟩ ⟨iV r,[],[]⟩) (r:List Af),AkO a0 is1=some r→C 116 ⟨[Bu 2097152 a0,.clo f1 k1],[]⟩ ⟨.tup [],[],[(0,4,r.map Bg)]⟩

/- (loop.example/g00149/impl.Table).tick -/
def c82_r0:List Bj:=[X_ 2 0,a_ 4 (zT 259),⟨some 5,.nilS 1,none⟩]
def c82_r1:=[L_ 10 2 3,q_ 11 112 [.t 10],a_ 6 (zT 387),s_ 6 11 3]
def c82_r2:=[f_ 12 2 0,l_ 13 12 1,m_ 14 1,iQ 15 (.mx (.t 13) (.t 14)),f_ 16 6 0,s_ 16 15 1]
def c82_r3:List Bj:=[⟨some 7,.nilS 4,none⟩]
def c82_r4:=[f_ 17 6 2,l_ 18 17 1,n_ 19 18,i_ 20 0]
def c82_r5:=[b_ .lss 21 20 19]
def c82_r6:=[m_ 22 20,x_ 23 18 20 4,L_ 24 23 4,a_ 9 [iV 0,iV 0,iV 0,.bool false],m_ 8 22,s_ 9 24 4]
def c82_r7:=[f_ 25 9 3,l_ 26 25 1,N_ 27 26,m_ 28 27,fT 28 29 9 1,lT 28 30 29 1 false,fT 28 31 6 0,lT 28 32 31 1 false,pT 28 33 (.bin .leq (.t 30) (.t 32)),pa 34 28 33]
def c82_r8:List Bj:=[f_ 35 6 2,l_ 36 35 1,m_ 37 8,x_ 38 36 37 4,f_ 39 38 3,⟨none,.store (.t 39) (.c (.bool true)) 1,none⟩]
def c82_r9:List Bj:=[m_ 40 7,L_ 41 9 4,⟨some 42,.mkS 4 [iV 0,iV 0,iV 0,.bool false] 1 [(0,.t 41)],none⟩,⟨some 43,.app 4 32 (.t 40) (.t 42),none⟩,m_ 7 43]
def Ako:=[B_ .add 44 20 1,m_ 20 44]
def c82_l0:IR:=(sr c82_r5 (.seq (.ite (.t 21) .skip (.exit 0)) (.seq (.block 1 (sr c82_r6 (sr c82_r7 (iz 34 (sr c82_r8 (.reg c82_r9)))))) (.reg Ako))))
def Akp:=[m_ 45 7,q_ 46 116 [.t 45,.c (.clo 69 [])]]
def Akq:=tk [L_ 47 6 3,m_ 48 7,⟨some 49,.p (.build (zT 3139) [(2,1,.t 48)]),none⟩] (.alt [L_ 47 6 3] (q_ 50 60 [.t 49]) (.alt [] (s_ 4 47 3) (tk [m_ 5 50] .fin) .stop) .stop)
def c82:De:=⟨2,51,[.cell 4 3 true,.t 5],sr c82_r0 (sr c82_r1 (sr c82_r2 (sr c82_r3 (.seq (sr c82_r4 (Jc 0 c82_l0)) (sr Akp (sd Akq .ret))))))⟩
def K82 (D:Ba):Prop:=∀a0 a1 r,g82 a0 a1=some r→D 82 ⟨[.agg (Bh a0),iV a1],[]⟩ ⟨.tup [.agg (Db r.1 (Al 0)),oI 1 r.2],[],[]⟩
abbrev Ue:=fun (r:List (Nat×List V))=>(256,Bt 0 0 (Al 259) [])::r
abbrev Xd:=fun (r:List (Nat×V))=>(4,.ptr 256 0)::(6,.ptr 384 0)::r
theorem F82 (H60:K60 C) (H69:K69 C) (H112:lO C) (H116:K116 C):K82 (FO C c82):=by
 intro a0 a1 r h0
 refine f0 (As 5 [(1,iV a1),(2,.ptr 128 0),(4,.ptr 256 0)] (Ue [(128,Bh a0)]) (At 2 (Ah (bb h0 fun r1 e2 h0=>Ji (H112 a0 r1 e2) (ar (Bq rfl (af rfl))) (o_ (As 16 (Xd [(7,.own 448 0 4 ([].map Bg))]) (Ue [(384,Bt (if a1>a0.clock then a1 else a0.clock) r1.next (Al 704) r1.Ac)]) (At 4 (Ah (Qb rfl (o_ (As 2 (Xd [(7,.own 448 0 4 ([].map Bg)),(18,Bu 704 r1.Ac),(19,iV (r1.Ac.length:Int)),(20,iV 0)]) (Ue [(384,Bt (if a1>a0.clock then a1 else a0.clock) r1.next (Al 704) r1.Ac)]) (Ci (bb h0 fun r74 e75 h0=>Df (R:=(fun S=>∃p43:List Af,∃p44:List Af,(p43,p44)=r74∧S=⟨Xd [(7,Bu 448 p43)],Ue [(384,Bt (if a1>a0.clock then a1 else a0.clock) r1.next (Al 704) p44)],[]⟩)) (Uz a0 a1 r1) (fun s S=>match s with | (p19,p20,p21)=>S=⟨Xd [(7,Bu 448 p19),(18,Bu 704 p20),(19,iV (r1.Ac.length:Int)),(20,iV p21)],Ue [(384,Bt (if a1>a0.clock then a1 else a0.clock) r1.next (Al 704) p20)],[]⟩) e75 _ (Er (by kernel_rfl)) rfl 0 (fun _=>rfl) ?_ ?_)))))))))))))
 ·rintro S _ hfg ⟨p43,p44,rfl,rfl⟩
  refine Dy _ hfg (Bk (Ah (st (Dc rfl tv (bb h0 fun r76 e77 h0=>gg h0 fun c78 h0=>st (Up [] [448] [] false (H116 p43 69 [] (fun z69_0 z69_1=>g69 z69_0 z69_1) rfl (fun z69_0 z69_1 r h=>H69 z69_0 z69_1 r h) r76 e77) ⟨tv,tv,tv⟩ (by kernel_rfl) (by kernel_rfl) (by kernel_rfl) (by kernel_rfl) (fun _=>Bq rfl (Bq (fl2 (fun _=>rfl)) rfl)) (In (Dy ⟨[(4,.ptr 256 0),(6,.ptr 384 0),(7,Bu 448 r76)],[(256,Bt 0 0 (Al 259) []),(384,Bt (if a1>a0.clock then a1 else a0.clock) r1.next (Al 704) p44)],[]⟩ (fg ⟨rfl,rfl,congrArg (fun z=>some ((z:V))) (row_eq c78),tv⟩ ⟨rfl,rfl,tv⟩) (Bk (bb h0 fun r79 e80 h0=>At 2 (Bm (Au tv (c_ (v:=.agg (Bt 0 0 (Al 448) r76)) (Bw ⟨tv,tv⟩ rfl ⟨⟨rfl,rfl,nl rfl⟩,tv⟩) (⟨tv,Oo (H60 (Ak.mk 0 0 r76) r79 e80) (af rfl) (dw [(4,.ptr 256 0),(6,.ptr 384 0),(47,.agg (Bt (if a1>a0.clock then a1 else a0.clock) r1.next (Al 704) p44)),(50,oI 3200 r79)] [(256,Bt 0 0 (Al 259) []),(384,Bt (if a1>a0.clock then a1 else a0.clock) r1.next (Al 704) p44)] hB (Cb (Gc rfl rfl tv rfl rfl rfl (nl rfl) (d0 tv (d_ (As 2 [(4,.ptr 256 0),(5,oI 3200 r79)] [(256,Bt (if a1>a0.clock then a1 else a0.clock) r1.next (Al 704) p44)] ?_)))) Az)) Az⟩))))))))))))))
  obtain rfl:=sj h0
  exact Kv (Fe rfl rfl rfl rfl rfl tv)
 ·rintro ⟨p19,p20,p21⟩ o1 _ K1 rfl h1 hx1 hK1 hE1 hR1
  refine As 3 (Xd [(7,Bu 448 p19),(18,Bu 704 p20),(19,iV (r1.Ac.length:Int)),(20,iV p21),(21,.bool (decide (p21<(r1.Ac.length:Int))))]) (Ue [(384,Bt (if a1>a0.clock then a1 else a0.clock) r1.next (Al 704) p20)]) (Bk (Cw h1 (fun c45 h1=>?_) (fun c45 h1=>?_)))
  ·refine Mm 3 (Hz (fun S=>∃p58:List Af,∃p59:List Af,S=⟨Xd [(7,Bu 448 p58),(18,Bu 704 p59),(19,iV (r1.Ac.length:Int)),(20,iV p21)],Ue [(384,Bt (if a1>a0.clock then a1 else a0.clock) r1.next (Al 704) p59)],[]⟩∧cX p21 p58 p59=some o1) ?_ (fun J61=>?_))
   ·rintro _ ⟨p58,p59,rfl,h1⟩
    refine At 4 ?_
    obtain rfl:=sj h1
    exact kn hK1 rfl rfl
   ·refine Bk ?_
    refine Ah (st (Dc rfl tv (bb h1 fun y62 e63 h1=>iO rfl rfl e63 (bb h1 fun y64 e65 h1=>NH rfl rfl e65 (o_ (As 4 (Xd [(7,Bu 448 p19),(8,iV p21),(9,.ptr 576 0),(18,Bu 704 p20),(19,iV (r1.Ac.length:Int)),(20,iV p21)]) (Ue [(384,Bt (if a1>a0.clock then a1 else a0.clock) r1.next (Al 704) p20),(576,Bg y64)]) (Hj 12 (bv h1 fun v66 e67 h1=>Dy ⟨Xd [(7,Bu 448 p19),(8,iV p21),(9,.ptr 576 0),(18,Bu 704 p20),(19,iV (r1.Ac.length:Int)),(20,iV p21),(34,.bool v66)],Ue [(384,Bt (if a1>a0.clock then a1 else a0.clock) r1.next (Al 704) p20),(576,Bg y64)],[]⟩ (Er (by subst e67; kernel_rfl)) (Cw h1 (fun c68 h1=>?_) (fun c68 h1=>?_))))))))))
    ·refine At 4 (Ah (bb h1 fun y69 e70 h1=>iO rfl rfl e70 (st (c_ (Bw ⟨tv,tv⟩ rfl tv) (bb h1 fun y71 e72 h1=>NJ (Af.mk y71.id y71.Bn y71.cap true) rfl rfl e72 (o_ (As 1 (Xd [(7,Bu 448 p19),(9,.ptr 576 0),(18,Bu 704 (p20.set p21.toNat (Af.mk y71.id y71.Bn y71.cap true))),(19,iV (r1.Ac.length:Int)),(20,iV p21)]) (Ue [(384,Bt (if a1>a0.clock then a1 else a0.clock) r1.next (Al 704) (p20.set p21.toNat (Af.mk y71.id y71.Bn y71.cap true))),(576,Bg y64)]) (At 3 (Ah (gg h1 fun c73 h1=>st (Fp (e:=Bg) (l0:=p19) (l1:=([y64]:List Af)) rfl rfl tv rfl (by decide) c73 (st (Dc rfl tv (In (Um ?_)))))))))))))))
     exact jn J61 ⟨_,_,rfl,h1⟩
    ·refine Nh (Um ?_)
     exact jn J61 ⟨_,_,rfl,h1⟩
  ·obtain rfl:=sj h1
   obtain rfl:=hx1 _ rfl
   refine Iw rfl ?_
   exact jn hE1 ⟨_,_,rfl,rfl⟩

/- (loop.example/g00149/impl.Vault).tick$1 -/
def AjB:=[k_ 2 (.bool false)]
def AjC:=[f_ 3 0 6,l_ 4 3 1,B_ .eql 5 4 2,m_ 6 5,lT 6 7 1 1 false,pT 6 8 (.nilc (.t 7)),fT 6 9 8 13,lT 6 10 9 1 false,pT 6 11 (.bin .eql (.t 10) (.c (iV 1))),pa 12 6 11,m_ 2 12]
def c472:De:=⟨2,13,[.t 2],sr AjB (rr AjC)⟩
def K472 (D:Ba):Prop:=∀a0 a1 r,qX a0 a1=some r→D 472 ⟨[.iptr (Ao a0),.iptr [.iptr (mH a1)]],[]⟩ ⟨.bool r,[],[]⟩
theorem F472:K472 (FO C c472):=by
 intro a0 a1 r h0
 refine f0 (As 3 [(0,.iptr (Ao a0)),(1,.iptr [.iptr (mH a1)])] [] (Hj 11 (Ah (o_ ?_))))
 obtain rfl:=sj h0
 exact Cs 3

/- slices.IndexFunc[[]loop.example/g00149/impl.Intent,loop.example/g00149/impl.Intent] -/
def AjR:=[i_ 4 0]
def AjS:=[m_ 6 0,n_ 7 6,i_ 8 0]
def AjT:=[b_ .lss 9 8 7]
def AjU:=[m_ 10 8,m_ 5 10]
def AjV:List Bj:=[m_ 11 1,m_ 12 0,m_ 13 5,x_ 14 12 13 2,L_ 15 14 2,⟨some 16,.callv (.t 11) [.t 15],none⟩]
def AjW:=[m_ 17 5,m_ 4 17]
def AjX:=[B_ .add 18 8 1,m_ 8 18]
def AjQ:IR:=(sr AjT (.seq (.ite (.t 9) .skip (.exit 0)) (.seq (.block 1 (sr AjU (sr AjV (iz 16 (rr AjW))))) (.reg AjX))))
def AjY:=[i_ 4 (-1)]
def c475:De:=⟨2,19,[.t 4],sr AjR (.seq (sr AjS (Jc 0 AjQ)) (rr AjY))⟩
def K475 (C:Ba) (D:Ba:=C):Prop:=∀(a0:List Ad) (f1:Nat) (k1:List V) (is1:Ad→Option Bool) (hs1:Kp k1) (hf1:∀(x0:Ad) r,is1 x0=some r→C f1 ⟨.agg (Cd x0)::k1,[]⟩ ⟨.bool r,[],[]⟩) (r:Int),g475 a0 is1=some r→D 475 ⟨[Cj a0,.clo f1 k1],[]⟩ ⟨iV r,[],[]⟩
theorem F475:K475 C (FO C c475):=by
 intro a0 f1 k1 is1 hs1 hf1 r h0
 refine f0 (As 3 [(0,Cj a0),(1,.clo f1 k1)] [] (At 3 (Ah (Hf rfl (o_ (As 2 [(0,Cj a0),(1,.clo f1 k1),(7,iV (a0.length:Int)),(8,iV 0)] [] (Ci (bb h0 fun r21 e22 h0=>Df (R:=(fun S=>.inl ()=r21∧S=⟨[],[],[]⟩)) (uD a0 is1) (fun s S=>match s with | p7=>S=⟨[(0,Cj a0),(1,.clo f1 k1),(7,iV (a0.length:Int)),(8,iV p7)],[],[]⟩) e22 _ (Er (by kernel_rfl)) rfl 0 (fun _=>rfl) ?_ ?_))))))))
 ·rintro S _ hfg ⟨rfl,rfl⟩
  refine Dy _ hfg ?_
  obtain rfl:=sj h0
  exact Cs 4
 ·rintro p7 o1 _ K1 rfl h1 hx1 hK1 hE1 hR1
  refine As 3 [(0,Cj a0),(1,.clo f1 k1),(7,iV (a0.length:Int)),(8,iV p7),(9,.bool (decide (p7<(a0.length:Int))))] [] (Bk (Cw h1 (fun c15 h1=>?_) (fun c15 h1=>?_)))
  ·refine As 8 [(0,Cj a0),(1,.clo f1 k1),(5,iV p7),(7,iV (a0.length:Int)),(8,iV p7)] [] (At 4 (Ah (bb h1 fun y16 e17 h1=>Ns rfl rfl e17 (st (c_ (v:=.agg (Cd y16)) (Bw ⟨tv,tv⟩ rfl (nl rfl)) (bb h1 fun r18 e19 h1=>st (Gg (r:=.bool r18) rfl false (hf1 _ r18 e19) ⟨tv,tv⟩ (Bq rfl hs1.2.2.1) (Ej rfl (hs1.2.1 _ _ _ _ _)) (fun _=>rfl) (o_ (As 1 [(0,Cj a0),(1,.clo f1 k1),(5,iV p7),(7,iV (a0.length:Int)),(8,iV p7),(16,.bool r18)] [] (Cw h1 (fun eZ h1=>?_) (fun eZ h1=>?_)))))))))))
   ·obtain rfl:=sj h1
    obtain rfl:=hx1 _ rfl
    obtain rfl:=sj h0
    exact Yy 5 hR1
   ·refine At 6 ?_
    obtain rfl:=sj h1
    exact kn hK1 rfl rfl
  ·obtain rfl:=sj h1
   obtain rfl:=hx1 _ rfl
   refine Iw rfl ?_
   exact jn hE1 ⟨rfl,rfl⟩

/- slices.DeleteFunc[[]loop.example/g00149/impl.Intent,loop.example/g00149/impl.Intent] -/
def AjE:List Bj:=[⟨some 4,.nilS 2,none⟩]
def AjF:=[m_ 8 0,m_ 9 1,q_ 10 475 [.t 8,.t 9],m_ 5 10]
def AjG:=[m_ 11 5,B_ .eql 12 11 (-1)]
def AjH:=[m_ 13 0,m_ 4 13]
def AjI:=[m_ 14 5,B_ .add 15 14 1,m_ 6 15]
def AjJ:=[m_ 16 6,m_ 17 0,n_ 18 17,b_ .lss 19 16 18]
def AjK:=[m_ 22 0,m_ 23 6,x_ 24 22 23 2,L_ 25 24 2,a_ 7 [iV 0,.bool false],s_ 7 25 2]
def AjL:List Bj:=[m_ 26 1,L_ 27 7 2,⟨some 28,.callv (.t 26) [.t 27],none⟩,N_ 29 28]
def AjM:=[m_ 30 0,m_ 31 5,L_ 32 7 2,x_ 33 30 31 2,s_ 33 32 2]
def AjN:=[m_ 34 5,B_ .add 35 34 1,m_ 5 35]
def HE:=[m_ 20 6,B_ .add 21 20 1,m_ 6 21]
def AjD:IR:=(.seq (sr AjJ (.ite (.t 19) .skip (.exit 0))) (.seq (.block 1 (sr AjK (sr AjL (iz 29 (sr AjM (.reg AjN)))))) (.reg HE)))
def HF:List Bj:=[m_ 36 0,m_ 37 5,⟨some 38,.p (.slice (.t 36) (some (.t 37)) none 2),none⟩,⟨none,.clear 2 [iV 0,.bool false] (.t 38),none⟩]
def HG:List Bj:=[m_ 39 0,m_ 40 5,⟨some 41,.p (.slice (.t 39) none (some (.t 40)) 2),none⟩,m_ 4 41]
def c473:De:=⟨2,42,[.t 4],sr AjE (sr AjF (.seq (sr AjG (iz 12 (rr AjH))) (.seq (sr AjI (Jc 0 AjD)) (sr HF (rr HG)))))⟩
def K473 (C:Ba) (D:Ba:=C):Prop:=∀(a0:List Ad) (f1:Nat) (k1:List V) (is1:Ad→Option Bool) (hs1:Kp k1) (hf1:∀(x0:Ad) r,is1 x0=some r→C f1 ⟨.agg (Cd x0)::k1,[]⟩ ⟨.bool r,[],[]⟩) (r:(List Ad)),JC a0 is1=some r→D 473 ⟨[Cf 1024000 a0,.clo f1 k1],[]⟩ ⟨Cf 0 r,[],[]⟩
theorem F473 (H475:K475 C):K473 C (FO C c473):=by
 intro a0 f1 k1 is1 hs1 hf1 r h0
 refine f0 (Bk (Ah (st (Zy (In (Dy ⟨[(0,Cf 1024000 a0),(1,.clo f1 k1)],[],[]⟩ (fg ⟨rfl,congrArg (fun z=>some z) (cJ hs1),tv⟩ tv) (At 3 (Ah (bb h0 fun r1 e2 h0=>st (Cm (r:=iV r1) false (H475 a0 f1 k1 is1 hs1 hf1 r1 e2) ⟨tv,tv,tv⟩ rfl (Ej rfl (Ej (Yc hs1) rfl)) (fun _=>rfl) (o_ (As 8 [(0,Cf 1024000 a0),(1,.clo f1 k1),(5,iV r1),(12,.bool (r1==(-1)))] [] (Cw h0 (fun c3 h0=>?_) (fun c3 h0=>?_))))))))))))))
 ·obtain rfl:=sj h0
  exact Cs 5
 ·refine As 8 [(0,Cf 1024000 a0),(1,.clo f1 k1),(5,iV r1),(6,iV (wi (r1+1)))] [] (Ci (bb h0 fun r66 e67 h0=>Df (R:=(fun S=>∃p38:List Ad,∃p39:Int,(p38,p39)=r66∧S=⟨[(0,Cf 1024000 p38),(5,iV p39)],[],[]⟩)) (uC is1) (fun s S=>match s with | (p18,p19,p20)=>S=⟨[(0,Cf 1024000 p18),(1,.clo f1 k1),(5,iV p19),(6,iV p20)],[],[]⟩) e67 _ (Er (by kernel_rfl)) rfl 0 (fun _=>rfl) ?_ ?_))
  ·rintro S _ hfg ⟨p38,p39,rfl,rfl⟩
   refine Dy _ hfg (At 3 (Ah (bb h0 fun s68 e69 h0=>st (c_ (Dk (e:=Cd) (y:=s68) rfl rfl tv ⟨tv,tv⟩ rfl rfl e69) (st (clear_ (e:=Cd) (z:=(Ad.mk 0 false)) rfl rfl (In (Dy ⟨[(0,Cf 1024000 (ovl p38 p39.toNat (List.replicate s68.length (Ad.mk 0 false)))),(5,iV p39)],[],[]⟩ (fg ⟨congrArg (fun z=>some ((.own 1024000 0 2 z:V))) Fb,rfl,tv⟩ tv) (At 3 (Ah (bb h0 fun s70 e71 h0=>st (c_ (Dk (e:=Cd) (y:=s70) rfl rfl tv ⟨tv,tv⟩ rfl rfl e71) (o_ ?_)))))))))))))
   obtain rfl:=sj h0
   exact Cs 3
  ·rintro ⟨p18,p19,p20⟩ o1 _ K1 rfl h1 hx1 hK1 hE1 hR1
   refine At 4 (Ah (Qb rfl (o_ (As 2 [(0,Cf 1024000 p18),(1,.clo f1 k1),(5,iV p19),(6,iV p20),(19,.bool (decide (p20<(p18.length:Int))))] [] (Cw h1 (fun c40 h1=>?_) (fun c40 h1=>?_))))))
   ·refine Mm 3 (Hz (fun S=>∃p52:List Ad,∃p53:Int,S=⟨[(0,Cf 1024000 p52),(1,.clo f1 k1),(5,iV p53),(6,iV p20)],[],[]⟩∧jV p20 p52 p53=some o1) ?_ (fun J54=>?_))
    ·rintro _ ⟨p52,p53,rfl,h1⟩
     refine At 5 ?_
     obtain rfl:=sj h1
     exact kn hK1 rfl rfl
    ·refine Bk ?_
     refine At 2 (Ah (bb h1 fun y55 e56 h1=>iO rfl rfl e56 (bb h1 fun y57 e58 h1=>NH rfl rfl e58 (st (Hg (sw ⟨[(0,Cf 1024000 p18),(1,.clo f1 k1),(5,iV p19),(6,iV p20),(7,.ptr 448 0),(25,.agg (Cd y57))],[(448,[iV 0,.bool false])],[]⟩ (fg ⟨rfl,congrArg (fun z=>some z) (cJ hs1),rfl,rfl,rfl,rfl,tv⟩ ⟨rfl,tv⟩) (Gc rfl rfl tv rfl rfl rfl (nl rfl) (o_ (As 1 [(0,Cf 1024000 p18),(1,.clo f1 k1),(5,iV p19),(6,iV p20),(7,.ptr 448 0)] [(448,Cd y57)] (At 3 (Ah (bb h1 fun r59 e60 h1=>st (Gg (r:=.bool r59) rfl false (hf1 _ r59 e60) ⟨tv,tv⟩ (Bq rfl hs1.2.2.1) (Ej rfl (hs1.2.1 _ _ _ _ _)) (fun _=>rfl) (o_ (As 2 [(0,Cf 1024000 p18),(1,.clo f1 k1),(5,iV p19),(6,iV p20),(7,.ptr 448 0),(29,.bool (!r59))] [(448,Cd y57)] (Cw h1 (fun c61 h1=>?_) (fun c61 h1=>?_)))))))))))))))))
     ·refine At 4 (Ah (bb h1 fun y62 e63 h1=>iO rfl rfl e63 (bb h1 fun y64 e65 h1=>NJ y57 rfl rfl e65 (o_ (As 1 [(0,Cf 1024000 (p18.set p19.toNat y57)),(1,.clo f1 k1),(5,iV p19),(6,iV p20)] [] (At 5 ?_))))))
      exact jn J54 ⟨_,_,rfl,h1⟩
     ·refine Nh (Um ?_)
      exact jn J54 ⟨_,_,rfl,h1⟩
   ·obtain rfl:=sj h1
    obtain rfl:=hx1 _ rfl
    refine Iw rfl ?_
    exact jn hE1 ⟨_,_,rfl,rfl⟩

/- (loop.example/g00149/impl.Vault).tick$2 -/
def AjO:=[X_ 2 0,k_ 3 (.bool false)]
def AjP:=[f_ 4 2 0,l_ 5 4 1,f_ 6 1 0,l_ 7 6 1,b_ .eql 8 5 7,m_ 3 8]
def c474:De:=⟨2,9,[.t 3],sr AjO (rr AjP)⟩
def K474 (D:Ba):Prop:=∀a0 a1 r,JD a0 a1=some r→D 474 ⟨[.agg (Cd a0),.iptr (Cd a1)],[]⟩ ⟨.bool r,[],[]⟩
theorem F474:K474 (FO C c474):=by
 intro a0 a1 r h0
 refine f0 (?_)
 obtain rfl:=sj h0
 exact Cs 14

/- (loop.example/g00149/impl.Vault).tick -/
def AiN:=[X_ 2 0,X_ 3 1,a_ 4 (zV 259 260 261),a_ 5 [iV 0,iV 0]]
def AiO:List Bj:=[L_ 16 2 6,L_ 17 3 7,⟨some 18,.p (.build [iV 0,iV 0,.own 1155 0 4 [],.own 1156 0 2 [],.own 1157 0 1 [],.bool false,iV 0,iV 0,iV 0,iV 0,iV 0,.own 1164 0 1 [],iV 0,iV 0] [(0,6,.t 16),(6,7,.t 17)]),none⟩,X_ 19 18,a_ 6 [.undef],s_ 6 19 1]
def AiP:=tk [l_ 21 6 1,f_ 22 2 0,L_ 23 22 3,f_ 24 3 4,l_ 25 24 1] (.alt [l_ 21 6 1] (q_ 26 82 [.t 23,.t 25]) (tk [m_ 20 26,e_ 27 20 0,e_ 28 20 1,iQ 29 (.nilc (.t 21)),f_ 30 29 0,f_ 31 30 0] (.alt [e_ 28 20 1] (s_ 31 27 3) .fin .stop)) .stop)
def AiQ:=[f_ 32 3 6,l_ 33 32 1,B_ .eql 34 33 1]
def AiR:=[l_ 35 6 1,iQ 36 (.nilc (.t 35)),f_ 37 36 0,L_ 38 37 6,q_ 39 470 [.t 38],e_ 40 39 0,e_ 41 39 1,s_ 4 40 6,s_ 5 41 2]
def AiS:=[iQ 42 (.fn 472 [.t 3,.t 6]),m_ 7 42]
def AiT:=[l_ 43 6 1,iQ 44 (.nilc (.t 43)),f_ 45 44 0,f_ 46 45 0,f_ 47 46 2,l_ 48 47 1,q_ 49 66 [.t 48],n_ 50 49,i_ 51 0]
def AiU:=[b_ .lss 52 51 50]
def AiV:=[x_ 53 49 51 4,L_ 54 53 4,a_ 9 [iV 0,iV 0,iV 0,.bool false],s_ 9 54 4]
def AiW:=[f_ 55 9 3,l_ 56 55 1,N_ 57 56]
def GM:=[l_ 58 6 1,f_ 59 9 0,l_ 60 59 1,q_ 61 471 [.t 58,.t 60,.c (.bool false)],m_ 10 61]
def GN:=tk [l_ 63 6 1,iQ 64 (.nilc (.t 63)),f_ 65 64 0,f_ 66 65 0,L_ 67 66 3,f_ 68 9 0,l_ 69 68 1] (.alt [] (q_ 70 77 [.t 67,.t 69]) (tk [m_ 62 70,e_ 71 62 0,e_ 72 62 1,m_ 11 71,m_ 12 72] .fin) .stop)
def GO:=[m_ 73 10,B_ .eql 74 73 0]
def GP:=tk [l_ 75 6 1,l_ 76 6 1,iQ 77 (.nilc (.t 76)),f_ 78 77 0,f_ 79 78 0,L_ 80 79 3,m_ 81 11] (.alt [l_ 75 6 1] (q_ 82 78 [.t 80,.t 81]) (tk [iQ 83 (.nilc (.t 75)),f_ 84 83 0,f_ 85 84 0] (.alt [] (s_ 85 82 3) .fin .stop)) .stop)
def GQ:List Bj:=[m_ 86 7,⟨some 87,.callv (.t 86) [],none⟩]
def GR:=[l_ 88 6 1,iQ 89 (.nilc (.t 88)),f_ 90 89 0,L_ 91 90 6,q_ 92 470 [.t 91],e_ 93 92 0,e_ 94 92 1,s_ 4 93 6,s_ 5 94 2]
def GS:=[B_ .add 95 51 1,m_ 51 95]
def AiL:IR:=(sr AiU (.seq (.ite (.t 52) .skip (.exit 0)) (.seq (.block 1 (sr AiV (.seq (sr AiW (iz 57 (.exit 1))) (sr GM (.seq (sd GN (sr GO (iz 74 (.draw GP)))) (sr GQ (iz 87 (rr GR)))))))) (.reg GS))))
def GT:=[l_ 96 6 1,iQ 97 (.nilc (.t 96)),f_ 98 97 0,f_ 99 98 3,l_ 100 99 1,q_ 101 469 [.t 100],n_ 102 101,i_ 103 0]
def GU:=[b_ .lss 104 103 102]
def GV:=[x_ 105 101 103 2,L_ 106 105 2,a_ 14 [iV 0,.bool false],s_ 14 106 2]
def GW:=[f_ 107 14 1,l_ 108 107 1,N_ 109 108]
def GX:=[l_ 110 6 1,f_ 111 14 0,l_ 112 111 1,q_ 113 471 [.t 110,.t 112,.c (.bool false)],m_ 15 113]
def GY:=[m_ 114 15,B_ .eql 115 114 0]
def GZ:=tk [l_ 116 6 1,l_ 117 6 1,iQ 118 (.nilc (.t 117)),f_ 119 118 0,f_ 120 119 3,l_ 121 120 1,iQ 122 (.fn 474 [.t 14])] (.alt [l_ 116 6 1] (q_ 123 473 [.t 121,.t 122]) (tk [iQ 124 (.nilc (.t 116)),f_ 125 124 0,f_ 126 125 3] (.alt [] (s_ 126 123 1) .fin .stop)) .stop)
def HA:List Bj:=[m_ 127 7,⟨some 128,.callv (.t 127) [],none⟩]
def HB:=[l_ 129 6 1,iQ 130 (.nilc (.t 129)),f_ 131 130 0,L_ 132 131 6,q_ 133 470 [.t 132],e_ 134 133 0,e_ 135 133 1,s_ 4 134 6,s_ 5 135 2]
def HC:=[B_ .add 136 103 1,m_ 103 136]
def AiM:IR:=(sr GU (.seq (.ite (.t 104) .skip (.exit 2)) (.seq (.block 3 (sr GV (.seq (sr GW (iz 109 (.exit 3))) (sr GX (.seq (sr GY (iz 115 (.draw GZ))) (sr HA (iz 128 (rr HB)))))))) (.reg HC))))
def HD:=[l_ 137 6 1,iQ 138 (.nilc (.t 137)),f_ 139 138 0,L_ 140 139 6,iQ 141 (.build [iV 0,iV 0] []),s_ 4 140 6,s_ 5 141 2]
def c467:De:=⟨2,142,[.cell 4 6 true,.cell 5 2 true],sr AiN (sr AiO (sd AiP (.seq (sr AiQ (iz 34 (rr AiR))) (sr AiS (.seq (sr AiT (Jc 0 AiL)) (.seq (sr GT (Jc 2 AiM)) (rr HD)))))))⟩
def K467 (D:Ba):Prop:=∀a0 a1 r,Amm a0 a1=some r→D 467 ⟨[.agg (Bi a0 (Al 1024000) (Al 1024001) (Al 1024002)),.agg (Ao a1)],[]⟩ ⟨.tup [.agg (Bi r.1 (Al 0) (Al 1) (Al 2)),.agg (Bp r.2)],[],[]⟩
abbrev Fu:=fun x0 (r:List (Nat×List V))=>(192,Ao x0)::(256,Ap 0 0 (Al 259) [] (Al 260) [] (Al 261) [] false)::(320,[iV 0,iV 0])::(384,[.ptr 1216 0])::r
abbrev Gq:=fun (r:List (Nat×V))=>(4,.ptr 256 0)::(5,.ptr 320 0)::(6,.ptr 384 0)::(7,.clo 472 [.ptr 192 0,.ptr 384 0])::r
abbrev kM:=fun (r:List (Nat×V))=>(3,.ptr 192 0)::(4,.ptr 256 0)::(5,.ptr 320 0)::r
theorem F467 (H66:K66 C) (H77:K77 C) (H78:K78 C) (H82:K82 C) (H469:OE C) (H470:OF C) (H471:OG C) (H472:K472 C) (H473:K473 C) (H474:K474 C):K467 (FO C c467):=by
 intro a0 a1 r h0
 refine f0 (As 6 (kM [(2,.ptr 128 0)]) [(128,Bi a0 (Al 1024000) (Al 1024001) (Al 1024002)),(192,Ao a1),(256,Ap 0 0 (Al 259) [] (Al 260) [] (Al 261) [] false),(320,[iV 0,iV 0])] (At 3 (Ah (st (c_ (v:=.agg (Dl a0.Ab.clock a0.Ab.next (Al 1024000) a0.Ab.Ac (Al 1024001) a0.Aa (Al 1024002) a0.Ae a0.Ai a1.kind a1.id a1.ttl a1.Fd a1.clock u_ a1.Cp a1.stop 0)) (Bw ⟨tv,tv,tv⟩ rfl ⟨⟨rfl,rfl,nl rfl⟩,⟨rfl,rfl,nl rfl⟩,tv⟩) (o_ (As 4 (kM [(2,.ptr 128 0),(6,.ptr 384 0)]) (Fu a1 [(128,Bi a0 (Al 1024000) (Al 1024001) (Al 1024002)),(1216,Dl a0.Ab.clock a0.Ab.next (Al 1024000) a0.Ab.Ac (Al 1024001) a0.Aa (Al 1024002) a0.Ae a0.Ai a1.kind a1.id a1.ttl a1.Fd a1.clock u_ a1.Cp a1.stop 0)]) (Bk (bb h0 fun r1 e2 h0=>At 5 (Bm (Oo (H82 a0.Ab a1.clock r1 e2) (ar (Bq rfl (af (af rfl)))) (dw [(3,.ptr 192 0),(4,.ptr 256 0),(5,.ptr 320 0),(6,.ptr 384 0),(21,.ptr 1216 0),(26,.tup [.agg (Db r1.1 (Al 1664)),oI 1665 r1.2])] [(192,Ao a1),(256,Ap 0 0 (Al 259) [] (Al 260) [] (Al 261) [] false),(320,[iV 0,iV 0]),(384,[.ptr 1216 0]),(1216,Dl a0.Ab.clock a0.Ab.next (Al 1024000) a0.Ab.Ac (Al 1024001) a0.Aa (Al 1024002) a0.Ae a0.Ai a1.kind a1.id a1.ttl a1.Fd a1.clock u_ a1.Cp a1.stop 0)] hB (d_ (At 6 (Bm (Cb (Gc rfl rfl tv rfl rfl rfl (nl rfl) (d0 hB (d_ (As 1 (kM [(6,.ptr 384 0)]) (Fu a1 [(1216,Dl r1.1.clock r1.1.next (Al 1664) r1.1.Ac (Al 1024001) a0.Aa (Al 1024002) a0.Ae a0.Ai a1.kind a1.id a1.ttl a1.Fd a1.clock u_ a1.Cp a1.stop 0)]) (Bk (Bk ?_)))))) Az))))) Az)))))))))))
 refine As 4 (kM [(6,.ptr 384 0),(34,.bool (a1.stop==1))]) (Fu a1 [(1216,Dl r1.1.clock r1.1.next (Al 1664) r1.1.Ac (Al 1024001) a0.Aa (Al 1024002) a0.Ae a0.Ai a1.kind a1.id a1.ttl a1.Fd a1.clock u_ a1.Cp a1.stop 0)]) (Cw h0 (fun c3 h0=>?_) (fun c3 h0=>?_))
 ·refine At 5 (Ah (bb h0 fun r4 e5 h0=>fE [] [] [1664,1024001,1024002] (H470 (Ag.mk r1.1 a0.Aa a0.Ae a0.Ai) r4 e5) (Bq (ar (Bq rfl (af (af (af (ar (Bq rfl (Bq rfl rfl)))))))) rfl) (o_ ?_)))
  obtain rfl:=sj h0
  exact Cs 6
 ·refine As 6 (Gq []) (Fu a1 [(1216,Dl r1.1.clock r1.1.next (Al 1664) r1.1.Ac (Al 1024001) a0.Aa (Al 1024002) a0.Ae a0.Ai a1.kind a1.id a1.ttl a1.Fd a1.clock u_ a1.Cp a1.stop 0)]) (At 8 (Ah (bb h0 fun r6 e7 h0=>Ji (H66 r1.1.Ac r6 e7) (af rfl) (Qb rfl (o_ (As 2 (Gq [(49,Bu 3136 r6),(50,iV (r6.length:Int)),(51,iV 0)]) (Fu a1 [(1216,Dl r1.1.clock r1.1.next (Al 1664) r1.1.Ac (Al 1024001) a0.Aa (Al 1024002) a0.Ae a0.Ai a1.kind a1.id a1.ttl a1.Fd a1.clock u_ a1.Cp a1.stop 0)]) (Ci (bb h0 fun r182 e183 h0=>Df (R:=(fun S=>∃p108:Int,∃p109:Int,∃p110:List Af,∃p111:List Ad,∃p112:List Int,∃p113:Bool,∃p114:Int,∃p115:Int,∃p116:Int,∃p117:Int,∃p118:Int,∃p119:List Int,∃p120:Int,∃p121:Int,.inl (p108,p109,p110,p111,p112,p113,p114,p115,p116,p117,p118,p119,p120,p121)=r182∧S=⟨Gq [],Fu a1 [(1216,Dl p108 p109 (Al 1664) p110 (Al 1024001) p111 (Al 1024002) p112 p113 p114 p115 p116 p117 p118 u_ p119 p120 p121)],[]⟩)) (Lh a1 r6) (fun s S=>match s with | (p43,p44,p45,p46,p47,p48,p49,p50,p51,p52,p53,p54,p55,p56,p57)=>S=⟨Gq [(49,Bu 3136 r6),(50,iV (r6.length:Int)),(51,iV p43)],Fu a1 [(1216,Dl p44 p45 (Al 1664) p46 (Al 1024001) p47 (Al 1024002) p48 p49 p50 p51 p52 p53 p54 u_ p55 p56 p57)],[]⟩) e183 _ (Er (by kernel_rfl)) rfl 0 (fun _=>rfl) ?_ ?_))))))))
  ·rintro S _ hfg ⟨p108,p109,p110,p111,p112,p113,p114,p115,p116,p117,p118,p119,p120,p121,rfl,rfl⟩
   refine Dy _ hfg (At 7 (Ah (bb h0 fun r184 e185 h0=>Ji (H469 p111 r184 e185) (af rfl) (Qb rfl (o_ (As 2 (Gq [(101,Cf 6464 r184),(102,iV (r184.length:Int)),(103,iV 0)]) (Fu a1 [(1216,Dl p108 p109 (Al 1664) p110 (Al 1024001) p111 (Al 1024002) p112 p113 p114 p115 p116 p117 p118 u_ p119 p120 p121)]) (Ci (bb h0 fun r344 e345 h0=>Df (R:=(fun S=>∃p278:Int,∃p279:Int,∃p280:List Af,∃p281:List Ad,∃p282:List Int,∃p283:Bool,∃p284:Int,∃p285:Int,∃p286:Int,∃p287:Int,∃p288:Int,∃p289:List Int,∃p290:Int,∃p291:Int,.inl (p278,p279,p280,p281,p282,p283,p284,p285,p286,p287,p288,p289,p290,p291)=r344∧S=⟨[(4,.ptr 256 0),(5,.ptr 320 0),(6,.ptr 384 0)],[(256,Ap 0 0 (Al 259) [] (Al 260) [] (Al 261) [] false),(320,[iV 0,iV 0]),(384,[.ptr 1216 0]),(1216,Dl p278 p279 (Al 1664) p280 (Al 1024001) p281 (Al 1024002) p282 p283 p284 p285 p286 p287 p288 u_ p289 p290 p291)],[]⟩)) (Jk a1 r184) (fun s S=>match s with | (p217,p218,p219,p220,p221,p222,p223,p224,p225,p226,p227,p228,p229,p230,p231)=>S=⟨Gq [(101,Cf 6464 r184),(102,iV (r184.length:Int)),(103,iV p217)],Fu a1 [(1216,Dl p218 p219 (Al 1664) p220 (Al 1024001) p221 (Al 1024002) p222 p223 p224 p225 p226 p227 p228 u_ p229 p230 p231)],[]⟩) e345 _ (Er (by kernel_rfl)) rfl 2 (fun _=>rfl) ?_ ?_))))))))
   ·rintro S _ hfg ⟨p278,p279,p280,p281,p282,p283,p284,p285,p286,p287,p288,p289,p290,p291,rfl,rfl⟩
    refine Dy _ hfg ?_
    obtain rfl:=sj h0
    exact Cs 10
   ·rintro ⟨p217,p218,p219,p220,p221,p222,p223,p224,p225,p226,p227,p228,p229,p230,p231⟩ o1 _ K1 rfl h1 hx1 hK1 hE1 hR1
    refine As 3 (Gq [(101,Cf 6464 r184),(102,iV (r184.length:Int)),(103,iV p217),(104,.bool (decide (p217<(r184.length:Int))))]) (Fu a1 [(1216,Dl p218 p219 (Al 1664) p220 (Al 1024001) p221 (Al 1024002) p222 p223 p224 p225 p226 p227 p228 u_ p229 p230 p231)]) (Bk (Cw h1 (fun c292 h1=>?_) (fun c292 h1=>?_)))
    ·refine Mm 3 (Hz (fun S=>∃p309:Int,∃p310:Int,∃p311:List Af,∃p312:List Ad,∃p313:List Int,∃p314:Bool,∃p315:Int,∃p316:Int,∃p317:Int,∃p318:Int,∃p319:Int,∃p320:List Int,∃p321:Int,∃p322:Int,S=⟨Gq [(101,Cf 6464 r184),(102,iV (r184.length:Int)),(103,iV p217)],Fu a1 [(1216,Dl p309 p310 (Al 1664) p311 (Al 1024001) p312 (Al 1024002) p313 p314 p315 p316 p317 p318 p319 u_ p320 p321 p322)],[]⟩∧Ws p217 p309 p310 p311 p312 p313 p314 p315 p316 p317 p318 p319 p320 p321 p322=some o1) ?_ (fun J323=>?_))
     ·rintro _ ⟨p309,p310,p311,p312,p313,p314,p315,p316,p317,p318,p319,p320,p321,p322,rfl,h1⟩
      refine At 4 ?_
      obtain rfl:=sj h1
      exact kn hK1 rfl rfl
     ·refine Bk ?_
      refine Ah (bb h1 fun y324 e325 h1=>iO rfl rfl e325 (bb h1 fun y326 e327 h1=>NH rfl rfl e327 (o_ (As 10 (Gq [(14,.ptr 896 0),(101,Cf 6464 r184),(102,iV (r184.length:Int)),(103,iV p217),(109,.bool (!y326.Ij))]) (Fu a1 [(896,Cd y326),(1216,Dl p218 p219 (Al 1664) p220 (Al 1024001) p221 (Al 1024002) p222 p223 p224 p225 p226 p227 p228 u_ p229 p230 p231)]) (Cw h1 (fun AcK h1=>?_) (fun AcK h1=>?_))))))
      ·refine ex_ rfl ?_
       exact jn J323 ⟨_,_,_,_,_,_,_,_,_,_,_,_,_,_,rfl,h1⟩
      ·refine At 6 (Ah (bb h1 fun r329 e330 h1=>Vv [1216] [] [1664,1024001,1024002] (H471 (Dp.mk (Ag.mk (Ak.mk p218 p219 p220) p221 p222 p223) (Aj.mk p224 p225 p226 p227 p228 p229 p230) p231) y326.Bb false r329 e330) (o_ (As 8 (Gq [(14,.ptr 896 0),(101,Cf 6464 r184),(102,iV (r184.length:Int)),(103,iV p217),(115,.bool (r329.1==0))]) (Fu a1 [(896,Cd y326),(1216,Hn r329.2 (Al 7232) (Al 7233) (Al 7234) u_)]) (Vc (cb:=(r329.1==0)) (fun S=>∃p334:List Ad,S=⟨Gq [(101,Cf 6464 r184),(102,iV (r184.length:Int)),(103,iV p217)],Fu a1 [(1216,Dl r329.2.v.Ab.clock r329.2.v.Ab.next (Al 7232) r329.2.v.Ab.Ac (Al 7872) p334 (Al 7234) r329.2.v.Ae r329.2.v.Ai r329.2.a.kind r329.2.a.id r329.2.a.ttl r329.2.a.Fd r329.2.a.clock u_ r329.2.a.Cp r329.2.a.stop r329.2.Hl)],[]⟩∧Te a1 p217 r329 p334=some o1) rfl ?_ (fun vZ J340=>?_) (fun vZ J340=>?_))))))
       ·rintro _ ⟨p334,rfl,h1⟩
        refine At 3 (Ah (bb h1 fun r335 e336 h1=>st (Gg (r:=.bool r335) rfl false (H472 a1 (Dp.mk (Ag.mk r329.2.v.Ab p334 r329.2.v.Ae r329.2.v.Ai) r329.2.a r329.2.Hl) r335 e336) tv rfl rfl (fun _=>rfl) (o_ (As 1 (Gq [(101,Cf 6464 r184),(102,iV (r184.length:Int)),(103,iV p217),(128,.bool r335)]) (Fu a1 [(1216,Dl r329.2.v.Ab.clock r329.2.v.Ab.next (Al 7232) r329.2.v.Ab.Ac (Al 7872) p334 (Al 7234) r329.2.v.Ae r329.2.v.Ai r329.2.a.kind r329.2.a.id r329.2.a.ttl r329.2.a.Fd r329.2.a.clock u_ r329.2.a.Cp r329.2.a.stop r329.2.Hl)]) (Cw h1 (fun c337 h1=>?_) (fun c337 h1=>?_)))))))
        ·refine At 5 (Ah (bb h1 fun r338 e339 h1=>fE [] [] [7232,7872,7234] (H470 (Ag.mk r329.2.v.Ab p334 r329.2.v.Ae r329.2.v.Ai) r338 e339) (Bq (ar (Bq rfl (af (af (af (ar (Bq rfl (Bq rfl rfl)))))))) rfl) (o_ ?_)))
         obtain rfl:=sj h1
         obtain rfl:=hx1 _ rfl
         obtain rfl:=sj h0
         exact Yy 6 hR1
        ·refine Nh (Um ?_)
         exact J323 _ _ (Lz [] [(7232,1664),(7872,1024001),(7234,1024002)] rfl (by kernel_rfl)) ⟨_,_,_,_,_,_,_,_,_,_,_,_,_,_,rfl,h1⟩
       ·replace h1:=ip vZ h1
        refine bb h1 fun r342 e343 h1=>At 7 (Bm (Cb (Up [] [] [7233] false (H473 r329.2.v.Aa 474 [.iptr (Cd y326)] (fun z474_0=>JD z474_0 y326) (⟨fun _ _ _ _ _=>rfl,fun _ _ _ _ _=>rfl,rfl,fun _ _ _ n=>by cases n<;>rfl,fun _=>rfl⟩) (fun z474_0 r h=>H474 z474_0 y326 r h) r342 e343) ⟨tv,tv,tv⟩ (by kernel_rfl) (by kernel_rfl) (by kernel_rfl) (by kernel_rfl) (fun _=>Bq (af rfl) rfl) (dw [(4,.ptr 256 0),(5,.ptr 320 0),(6,.ptr 384 0),(7,.clo 472 [.ptr 192 0,.ptr 384 0]),(101,Cf 6464 r184),(102,iV (r184.length:Int)),(103,iV p217),(116,.ptr 1216 0),(123,Cf 7872 r342)] [(192,Ao a1),(256,Ap 0 0 (Al 259) [] (Al 260) [] (Al 261) [] false),(320,[iV 0,iV 0]),(384,[.ptr 1216 0]),(1216,[iV r329.2.v.Ab.clock,iV r329.2.v.Ab.next,Bu 7232 r329.2.v.Ab.Ac,.undef,oI 7234 r329.2.v.Ae,.bool r329.2.v.Ai,iV r329.2.a.kind,iV r329.2.a.id,iV r329.2.a.ttl,iV r329.2.a.Fd,iV r329.2.a.clock,lI r329.2.a.Cp,iV r329.2.a.stop,iV r329.2.Hl])] hB (d_ (At 3 (Bm (Cb (Gc rfl rfl tv rfl rfl rfl (nl rfl) (d0 tv (Jz ?_))) Az)))))) Az))
        exact jn J340 ⟨_,rfl,h1⟩
       ·replace h1:=oY vZ h1
        refine Nh ?_
        exact J340 _ _ (Lz [] [(7233,7872)] rfl (by kernel_rfl)) ⟨_,rfl,h1⟩
    ·obtain rfl:=sj h1
     obtain rfl:=hx1 _ rfl
     refine Iw rfl ?_
     exact jn hE1 ⟨_,_,_,_,_,_,_,_,_,_,_,_,_,_,rfl,rfl⟩
  ·rintro ⟨p43,p44,p45,p46,p47,p48,p49,p50,p51,p52,p53,p54,p55,p56,p57⟩ o1 _ K1 rfl h1 hx1 hK1 hE1 hR1
   refine As 3 (Gq [(49,Bu 3136 r6),(50,iV (r6.length:Int)),(51,iV p43),(52,.bool (decide (p43<(r6.length:Int))))]) (Fu a1 [(1216,Dl p44 p45 (Al 1664) p46 (Al 1024001) p47 (Al 1024002) p48 p49 p50 p51 p52 p53 p54 u_ p55 p56 p57)]) (Bk (Cw h1 (fun TP h1=>?_) (fun TP h1=>?_)))
   ·refine Mm 3 (Hz (fun S=>∃p143:Int,∃p144:Int,∃p145:List Af,∃p146:List Ad,∃p147:List Int,∃p148:Bool,∃p149:Int,∃p150:Int,∃p151:Int,∃p152:Int,∃p153:Int,∃p154:List Int,∃p155:Int,∃p156:Int,S=⟨Gq [(49,Bu 3136 r6),(50,iV (r6.length:Int)),(51,iV p43)],Fu a1 [(1216,Dl p143 p144 (Al 1664) p145 (Al 1024001) p146 (Al 1024002) p147 p148 p149 p150 p151 p152 p153 u_ p154 p155 p156)],[]⟩∧Wr p43 p143 p144 p145 p146 p147 p148 p149 p150 p151 p152 p153 p154 p155 p156=some o1) ?_ (fun J157=>?_))
    ·rintro _ ⟨p143,p144,p145,p146,p147,p148,p149,p150,p151,p152,p153,p154,p155,p156,rfl,h1⟩
     refine At 4 ?_
     obtain rfl:=sj h1
     exact kn hK1 rfl rfl
    ·refine Bk ?_
     refine Ah (bb h1 fun y158 e159 h1=>iO rfl rfl e159 (bb h1 fun y160 e161 h1=>NH rfl rfl e161 (o_ (As 10 (Gq [(9,.ptr 576 0),(49,Bu 3136 r6),(50,iV (r6.length:Int)),(51,iV p43),(57,.bool (!y160.Cg))]) (Fu a1 [(576,Bg y160),(1216,Dl p44 p45 (Al 1664) p46 (Al 1024001) p47 (Al 1024002) p48 p49 p50 p51 p52 p53 p54 u_ p55 p56 p57)]) (Cw h1 (fun c162 h1=>?_) (fun c162 h1=>?_))))))
     ·refine ex_ rfl ?_
      exact jn J157 ⟨_,_,_,_,_,_,_,_,_,_,_,_,_,_,rfl,h1⟩
     ·refine At 6 (Ah (bb h1 fun r163 e164 h1=>Vv [1216] [] [1664,1024001,1024002] (H471 (Dp.mk (Ag.mk (Ak.mk p44 p45 p46) p47 p48 p49) (Aj.mk p50 p51 p52 p53 p54 p55 p56) p57) y160.id false r163 e164) (o_ (As 2 (Gq [(9,.ptr 576 0),(10,iV r163.1),(49,Bu 3136 r6),(50,iV (r6.length:Int)),(51,iV p43)]) (Fu a1 [(576,Bg y160),(1216,Hn r163.2 (Al 3904) (Al 3905) (Al 3906) u_)]) (Bk (Bk (bb h1 fun r165 e166 h1=>At 7 (Bm (Oo (H77 r163.2.v.Ab y160.id r165 e166) rfl (dw [(4,.ptr 256 0),(5,.ptr 320 0),(6,.ptr 384 0),(7,.clo 472 [.ptr 192 0,.ptr 384 0]),(10,iV r163.1),(49,Bu 3136 r6),(50,iV (r6.length:Int)),(51,iV p43),(70,.tup [iV r165.1,.bool r165.2])] [(192,Ao a1),(256,Ap 0 0 (Al 259) [] (Al 260) [] (Al 261) [] false),(320,[iV 0,iV 0]),(384,[.ptr 1216 0]),(1216,Hn r163.2 (Al 3904) (Al 3905) (Al 3906) u_)] tv (d_ (As 6 (Gq [(10,iV r163.1),(11,iV r165.1),(49,Bu 3136 r6),(50,iV (r6.length:Int)),(51,iV p43)]) (Fu a1 [(1216,Hn r163.2 (Al 3904) (Al 3905) (Al 3906) u_)]) (Bk (Ah ?_))))) Az)))))))))
      refine o_ (As 3 (Gq [(11,iV r165.1),(49,Bu 3136 r6),(50,iV (r6.length:Int)),(51,iV p43),(74,.bool (r163.1==0))]) (Fu a1 [(1216,Hn r163.2 (Al 3904) (Al 3905) (Al 3906) u_)]) (Vc (cb:=(r163.1==0)) (fun S=>∃p170:Int,∃p171:Int,∃p172:List Af,S=⟨Gq [(49,Bu 3136 r6),(50,iV (r6.length:Int)),(51,iV p43)],Fu a1 [(1216,Dl p170 p171 (Al 5248) p172 (Al 3905) r163.2.v.Aa (Al 3906) r163.2.v.Ae r163.2.v.Ai r163.2.a.kind r163.2.a.id r163.2.a.ttl r163.2.a.Fd r163.2.a.clock u_ r163.2.a.Cp r163.2.a.stop r163.2.Hl)],[]⟩∧Td a1 p43 r163 p170 p171 p172=some o1) rfl ?_ (fun c179 J178=>?_) (fun c179 J178=>?_)))
      ·rintro _ ⟨p170,p171,p172,rfl,h1⟩
       refine At 3 (Ah (bb h1 fun r173 e174 h1=>st (Gg (r:=.bool r173) rfl false (H472 a1 (Dp.mk (Ag.mk (Ak.mk p170 p171 p172) r163.2.v.Aa r163.2.v.Ae r163.2.v.Ai) r163.2.a r163.2.Hl) r173 e174) tv rfl rfl (fun _=>rfl) (o_ (As 1 (Gq [(49,Bu 3136 r6),(50,iV (r6.length:Int)),(51,iV p43),(87,.bool r173)]) (Fu a1 [(1216,Dl p170 p171 (Al 5248) p172 (Al 3905) r163.2.v.Aa (Al 3906) r163.2.v.Ae r163.2.v.Ai r163.2.a.kind r163.2.a.id r163.2.a.ttl r163.2.a.Fd r163.2.a.clock u_ r163.2.a.Cp r163.2.a.stop r163.2.Hl)]) (Cw h1 (fun c175 h1=>?_) (fun c175 h1=>?_)))))))
       ·refine At 5 (Ah (bb h1 fun r176 e177 h1=>fE [] [] [5248,3905,3906] (H470 (Ag.mk (Ak.mk p170 p171 p172) r163.2.v.Aa r163.2.v.Ae r163.2.v.Ai) r176 e177) (Bq (ar (Bq rfl (af (af (af (ar (Bq rfl (Bq rfl rfl)))))))) rfl) (o_ ?_)))
        obtain rfl:=sj h1
        obtain rfl:=hx1 _ rfl
        obtain rfl:=sj h0
        exact Yy 6 hR1
       ·refine Nh (Um ?_)
        exact J157 _ _ (Lz [] [(5248,1664),(3905,1024001),(3906,1024002)] rfl (by kernel_rfl)) ⟨_,_,_,_,_,_,_,_,_,_,_,_,_,_,rfl,h1⟩
      ·replace h1:=ip c179 h1
       refine bb h1 fun r180 e181 h1=>At 7 (Bm (Oo (H78 r163.2.v.Ab r165.1 r180 e181) (ar (Bq rfl (af rfl))) (dw [(4,.ptr 256 0),(5,.ptr 320 0),(6,.ptr 384 0),(7,.clo 472 [.ptr 192 0,.ptr 384 0]),(49,Bu 3136 r6),(50,iV (r6.length:Int)),(51,iV p43),(75,.ptr 1216 0),(82,.agg (Db r180 (Al 5248)))] [(192,Ao a1),(256,Ap 0 0 (Al 259) [] (Al 260) [] (Al 261) [] false),(320,[iV 0,iV 0]),(384,[.ptr 1216 0]),(1216,Hn r163.2 (Al 3904) (Al 3905) (Al 3906) u_)] hB (d_ (At 3 (Bm (Cb (Gc rfl rfl tv rfl rfl rfl (nl rfl) (d0 tv (Jz ?_))) Az))))) Az))
       exact jn J178 ⟨_,_,_,rfl,h1⟩
      ·replace h1:=oY c179 h1
       refine Nh ?_
       exact J178 _ _ (Lz [] [(3904,5248)] rfl (by kernel_rfl)) ⟨_,_,_,rfl,h1⟩
   ·obtain rfl:=sj h1
    obtain rfl:=hx1 _ rfl
    refine Iw rfl ?_
    exact jn hE1 ⟨_,_,_,_,_,_,_,_,_,_,_,_,_,_,rfl,rfl⟩

/- (loop.example/g00149/impl.Vault).step -/
def Aic:=[X_ 2 0,X_ 3 1,a_ 4 (zV 259 260 261),a_ 5 [iV 0,iV 0]]
def Aid:=[L_ 6 2 6,q_ 7 463 [.t 6],s_ 2 7 6]
def Aie:=[f_ 9 3 0,l_ 10 9 1,q_ 11 63 [.t 10,.c (iV 1),.c (iV 6)],N_ 12 11,m_ 8 12]
def Aif:=[L_ 13 2 6,q_ 14 464 [.t 13,.c (iV 16)],e_ 15 14 0,e_ 16 14 1,s_ 4 15 6,s_ 5 16 2]
def Aig:=[f_ 18 2 5,l_ 19 18 1,m_ 20 19,fT 20 21 3 0,lT 20 22 21 1 false,pT 20 23 (.bin .neq (.t 22) (.c (iV 6))),pa 24 20 23,m_ 17 24]
def Aih:=[L_ 25 2 6,q_ 26 464 [.t 25,.c (iV 14)],e_ 27 26 0,e_ 28 26 1,s_ 4 27 6,s_ 5 28 2]
def Aii:=[f_ 29 3 0,l_ 30 29 1]
def Aij:=[B_ .eql 32 30 1,m_ 31 32]
def Aik:=[L_ 33 2 6,L_ 34 3 7,q_ 35 465 [.t 33,.t 34],e_ 36 35 0,e_ 37 35 1,s_ 4 36 6,s_ 5 37 2]
def Ail:=[B_ .eql 39 30 2,m_ 38 39]
def FU:=tk [L_ 40 2 6,f_ 41 2 0,L_ 42 41 3,f_ 43 3 1,l_ 44 43 1,f_ 45 3 2,l_ 46 45 1] (.alt [L_ 40 2 6] (q_ 47 80 [.t 42,.t 44,.t 46]) (tk [e_ 48 47 0,e_ 49 47 1] (.alt [] (q_ 50 466 [.t 40,.t 48,.t 49]) (tk [e_ 51 50 0,e_ 52 50 1] (.alt [] (s_ 4 51 6) (.alt [] (s_ 5 52 2) .fin .stop) .stop)) .stop)) .stop)
def FV:=[B_ .eql 54 30 3,m_ 53 54]
def FW:=tk [L_ 55 2 6,f_ 56 2 0,L_ 57 56 3,f_ 58 3 1,l_ 59 58 1] (.alt [L_ 55 2 6] (q_ 60 75 [.t 57,.t 59]) (tk [e_ 61 60 0,e_ 62 60 1] (.alt [] (q_ 63 466 [.t 55,.t 61,.t 62]) (tk [e_ 64 63 0,e_ 65 63 1] (.alt [] (s_ 4 64 6) (.alt [] (s_ 5 65 2) .fin .stop) .stop)) .stop)) .stop)
def FX:=[B_ .eql 67 30 4,m_ 66 67]
def FY:=[L_ 68 2 6,L_ 69 3 7,q_ 70 467 [.t 68,.t 69],e_ 71 70 0,e_ 72 70 1,s_ 4 71 6,s_ 5 72 2]
def FZ:=[f_ 73 3 0,l_ 74 73 1,B_ .eql 75 74 5,f_ 76 2 5,s_ 76 75 1]
def GA:=[L_ 77 2 6,iQ 78 (.build [iV 0,iV 0] []),s_ 4 77 6,s_ 5 78 2]
def c459:De:=⟨2,79,[.cell 4 6 true,.cell 5 2 true],sr Aic (sr Aid (.seq (.block 0 (sr Aie (.ite (.t 8) (rr Aif) (sr Aig (iz 17 (rr Aih)))))) (.seq (sr Aii (.block 1 (sr Aij (.ite (.t 31) (rr Aik) (sr Ail (.ite (.t 38) (sd FU .ret) (sr FV (.ite (.t 53) (sd FW .ret) (sr FX (iz 66 (rr FY))))))))))) (sr FZ (rr GA)))))⟩
def OD (D:Ba):Prop:=∀a0 a1 r,fM a0 a1=some r→D 459 ⟨[.agg (Ax a0),.agg (Ao a1)],[]⟩ ⟨.tup [.agg (Bi r.1 (Al 0) (Al 1) (Al 2)),.agg (Bp r.2)],[],[]⟩
abbrev Vm:=fun x0 x1 (r:List (Nat×List V))=>(128,Bi x0 (Al 448) (Al 449) (Al 450))::(192,Ao x1)::(256,Ap 0 0 (Al 259) [] (Al 260) [] (Al 261) [] false)::(320,[iV 0,iV 0])::r
abbrev Rj:=fun (r:List (Nat×V))=>(2,.ptr 128 0)::(3,.ptr 192 0)::(4,.ptr 256 0)::(5,.ptr 320 0)::r
theorem F459 (H63:yV C) (H75:K75 C) (H80:K80 C) (H463:K463 C) (H464:zB C) (H465:K465 C) (H466:K466 C) (H467:K467 C):OD (FO C c459):=by
 intro a0 a1 r h0
 refine f0 (As 6 (Rj []) [(128,Ax a0),(192,Ao a1),(256,Ap 0 0 (Al 259) [] (Al 260) [] (Al 261) [] false),(320,[iV 0,iV 0])] (At 2 (Ah (bb h0 fun r1 e2 h0=>Ji (H463 a0 r1 e2) (ar (Bq rfl (af (af (af (Bq rfl rfl)))))) (o_ (As 2 (Rj []) (Vm r1 a1 []) (At 5 (Ah (bb h0 fun r3 e4 h0=>Il (H63 a1.kind 1 6 r3 e4) (o_ (As 3 (Rj [(8,.bool (!r3))]) (Vm r1 a1 []) (Cw h0 (fun c5 h0=>?_) (fun c5 h0=>?_)))))))))))))
 ·refine At 2 (Ah (bb h0 fun r6 e7 h0=>fE [] [] [448,449,450] (H464 r1 16 r6 e7) (Bq (ar (Bq rfl (af (af (af (ar (Bq rfl (Bq rfl rfl)))))))) rfl) (o_ ?_)))
  obtain rfl:=sj h0
  exact Cs 6
 ·refine uE 10 (Rj [(17,.bool (bif r1.Ai then (a1.kind != 6) else false))]) (Vm r1 a1 []) (Cw h0 (fun c8 h0=>?_) (fun c8 h0=>?_))
  ·refine At 2 (Ah (bb h0 fun r9 e10 h0=>fE [] [] [448,449,450] (H464 r1 14 r9 e10) (Bq (ar (Bq rfl (af (af (af (ar (Bq rfl (Bq rfl rfl)))))))) rfl) (o_ ?_)))
   obtain rfl:=sj h0
   exact Cs 6
  ·refine As 14 (Rj [(30,iV a1.kind),(31,.bool (a1.kind==1))]) (Vm r1 a1 []) (Cw h0 (fun c11 h0=>?_) (fun c11 h0=>?_))
   ·refine At 3 (Ah (bb h0 fun r12 e13 h0=>fE [] [] [448,449,450] (H465 r1 a1 r12 e13) (Bq (ar (Bq rfl (af (af (af (ar (Bq rfl (Bq rfl rfl)))))))) rfl) (o_ ?_)))
    obtain rfl:=sj h0
    exact Cs 6
   ·refine As 4 (Rj [(30,iV a1.kind),(38,.bool (a1.kind==2))]) (Vm r1 a1 []) (Cw h0 (fun c14 h0=>?_) (fun c14 h0=>?_))
    ·refine Bk (bb h0 fun r15 e16 h0=>bb h0 fun r17 e18 h0=>At 7 (Bm (Oo (H80 r1.Ab a1.id a1.ttl r15 e16) (ar (Bq rfl (af (Bq rfl rfl)))) (dw [(2,.ptr 128 0),(4,.ptr 256 0),(5,.ptr 320 0),(40,.agg (Bi r1 (Al 448) (Al 449) (Al 450))),(47,.tup [.agg (Db r15.1 (Al 3008)),iV r15.2])] [(128,Bi r1 (Al 448) (Al 449) (Al 450)),(256,Ap 0 0 (Al 259) [] (Al 260) [] (Al 261) [] false),(320,[iV 0,iV 0])] hB (d_ (At 2 (Bm (Cb (Up [] [] [448,449,450,3008] false (H466 r1 r15.1 r15.2 r17 e18) ⟨tv,tv,tv,tv⟩ (by kernel_rfl) (by kernel_rfl) (by kernel_rfl) (by kernel_rfl) (fun _=>Bq (ar (Bq rfl (af (af (af (ar (Bq rfl (Bq rfl rfl)))))))) rfl) (dw [(4,.ptr 256 0),(5,.ptr 320 0),(50,.tup [.agg (Bi r17.1 (Al 3200) (Al 3201) (Al 3202)),.agg (Bp r17.2)])] [(256,Ap 0 0 (Al 259) [] (Al 260) [] (Al 261) [] false),(320,[iV 0,iV 0])] tv (d_ (At 2 (Bm (Cb (Gc rfl rfl tv rfl rfl rfl (nl rfl) (d0 tv (Cb (Gc rfl rfl tv rfl rfl rfl (nl rfl) (d0 tv ?_)) Az))) Az)))))) Az))))) Az)))
     refine d_ ?_
     obtain rfl:=sj h0
     exact Cs 2
    ·refine As 4 (Rj [(30,iV a1.kind),(53,.bool (a1.kind==3))]) (Vm r1 a1 []) (Cw h0 (fun c19 h0=>?_) (fun c19 h0=>?_))
     ·refine Bk (bb h0 fun r20 e21 h0=>bb h0 fun r22 e23 h0=>At 5 (Bm (Oo (H75 r1.Ab a1.id r20 e21) (ar (Bq rfl (af (Bq rfl rfl)))) (dw [(2,.ptr 128 0),(4,.ptr 256 0),(5,.ptr 320 0),(55,.agg (Bi r1 (Al 448) (Al 449) (Al 450))),(60,.tup [.agg (Db r20.1 (Al 3840)),iV r20.2])] [(128,Bi r1 (Al 448) (Al 449) (Al 450)),(256,Ap 0 0 (Al 259) [] (Al 260) [] (Al 261) [] false),(320,[iV 0,iV 0])] hB (d_ (At 2 (Bm (Cb (Up [] [] [448,449,450,3840] false (H466 r1 r20.1 r20.2 r22 e23) ⟨tv,tv,tv,tv⟩ (by kernel_rfl) (by kernel_rfl) (by kernel_rfl) (by kernel_rfl) (fun _=>Bq (ar (Bq rfl (af (af (af (ar (Bq rfl (Bq rfl rfl)))))))) rfl) (dw [(4,.ptr 256 0),(5,.ptr 320 0),(63,.tup [.agg (Bi r22.1 (Al 4032) (Al 4033) (Al 4034)),.agg (Bp r22.2)])] [(256,Ap 0 0 (Al 259) [] (Al 260) [] (Al 261) [] false),(320,[iV 0,iV 0])] tv (d_ (At 2 (Bm (Cb (Gc rfl rfl tv rfl rfl rfl (nl rfl) (d0 tv (Cb (Gc rfl rfl tv rfl rfl rfl (nl rfl) (d0 tv (d_ (As 1 [(4,.ptr 256 0),(5,.ptr 320 0)] [(256,Bi r22.1 (Al 4032) (Al 4033) (Al 4034)),(320,Bp r22.2)] ?_)))) Az))) Az)))))) Az))))) Az)))
      obtain rfl:=sj h0
      exact Kv (Fe rfl rfl rfl rfl rfl tv)
     ·refine As 4 (Rj [(66,.bool (a1.kind==4))]) (Vm r1 a1 []) (Cw h0 (fun c24 h0=>?_) (fun c24 h0=>?_))
      ·refine At 3 (Ah (bb h0 fun r25 e26 h0=>fE [] [] [448,449,450] (H467 r1 a1 r25 e26) (Bq (ar (Bq rfl (af (af (af (ar (Bq rfl (Bq rfl rfl)))))))) rfl) (o_ ?_)))
       obtain rfl:=sj h0
       exact Cs 6
      ·obtain rfl:=sj h0
       exact Cs 18

/- loop.example/g00149/impl.RunVault -/
def Ahy:List Bj:=[a_ 2 (zV 131 132 133),⟨some 3,.nilS 2,none⟩,i_ 4 0]
def Ahz:=[m_ 12 0,q_ 13 455 [.t 12],N_ 14 13,m_ 11 14]
def AhA:List Bj:=[iQ 15 (.build (zV 963 964 965) []),s_ 2 15 6,⟨some 3,.nilS 2,none⟩,i_ 4 2]
def AhB:=[m_ 17 0,n_ 18 17,B_ .gtr 19 18 120,m_ 16 19]
def AhC:List Bj:=[iQ 20 (.build (zV 1283 1284 1285) []),s_ 2 20 6,⟨some 3,.nilS 2,none⟩,i_ 4 6]
def AhD:=[m_ 22 0,q_ 23 456 [.t 22,.c (.clo 457 [])],N_ 24 23,m_ 21 24]
def AhE:List Bj:=[iQ 25 (.build (zV 1603 1604 1605) []),s_ 2 25 6,⟨some 3,.nilS 2,none⟩,i_ 4 1]
def AhF:=[q_ 26 458 [],a_ 5 (zV 323 324 325),s_ 5 26 6]
def AhG:List Bj:=[⟨some 6,.nilS 2,none⟩]
def AhH:=[m_ 27 0,n_ 28 27,i_ 29 0]
def FL:=[b_ .lss 30 29 28]
def FM:=[x_ 31 27 29 7,L_ 32 31 7,a_ 8 [iV 0,iV 0,iV 0,iV 0,iV 0,.own 518 0 1 [],iV 0],s_ 8 32 7]
def FN:=[L_ 34 5 6,L_ 35 8 7,q_ 36 459 [.t 34,.t 35],m_ 33 36,e_ 37 33 0,e_ 38 33 1,a_ 9 (zV 579 580 581),a_ 10 [iV 0,iV 0],s_ 9 37 6,s_ 10 38 2]
def FP:=[L_ 39 9 6,s_ 5 39 6]
def FR:List Bj:=[m_ 40 6,L_ 41 10 2,⟨some 42,.mkS 2 [iV 0,iV 0] 1 [(0,.t 41)],none⟩,⟨some 43,.app 2 16 (.t 40) (.t 42),none⟩,m_ 6 43]
def FS:=[B_ .add 44 29 1,m_ 29 44]
def Ahx:IR:=(sr FL (.seq (.ite (.t 30) .skip (.exit 1)) (.seq (.block 2 (sr FM (sr FN (sr FP (.reg FR))))) (.reg FS))))
def FT:=[L_ 45 5 6,m_ 46 6,s_ 2 45 6,m_ 3 46,i_ 4 0]
def c438:De:=⟨1,47,[.cell 2 6 true,.t 3,.t 4],sr Ahy (.seq (.block 0 (sr Ahz (.ite (.t 11) (rr AhA) (sr AhB (.ite (.t 16) (rr AhC) (sr AhD (iz 21 (rr AhE)))))))) (sr AhF (sr AhG (.seq (sr AhH (Jc 1 Ahx)) (rr FT)))))⟩
def K438 (D:Ba):Prop:=∀a0 r,Amd a0=some r→D 438 ⟨[Ca a0],[]⟩ ⟨.tup [.agg (Bi r.1 (Al 0) (Al 1) (Al 2)),Ct 3 r.2.1,iV r.2.2],[],[]⟩
abbrev La:=fun (r:List (Nat×List V))=>(128,Ap 0 0 (Al 131) [] (Al 132) [] (Al 133) [] false)::r
abbrev Yx:=fun x0 (r:List (Nat×V))=>(2,.ptr 128 0)::(5,.ptr 320 0)::(27,Ca x0)::r
theorem F438 (H455:K455 C) (H456:K456 C) (H457:OC C) (H458:K458 C) (H459:OD C):K438 (FO C c438):=by
 intro a0 r h0
 refine f0 (As 5 [(0,Ca a0),(2,.ptr 128 0)] (La []) (At 4 (Ah (bb h0 fun r1 e2 h0=>Il (H455 a0 r1 e2) (o_ (As 3 [(0,Ca a0),(2,.ptr 128 0),(11,.bool (!r1))] (La []) (Cw h0 (fun c3 h0=>?_) (fun c3 h0=>?_))))))))
 ·obtain rfl:=sj h0
  exact Cs 7
 ·refine Bk (Ah (st (Dc rfl tv (Hf rfl (o_ (As 3 [(0,Ca a0),(2,.ptr 128 0),(16,.bool (decide ((a0.length:Int)>120)))] (La []) (Cw h0 (fun c4 h0=>?_) (fun c4 h0=>?_))))))))
  ·obtain rfl:=sj h0
   exact Cs 7
  ·refine Bk (Ah (st (Dc rfl tv (bb h0 fun r5 e6 h0=>st (Cm (r:=.bool r5) false (H456 a0 457 [] (fun z457_0=>xB z457_0) (⟨fun _ _ _ _ _=>rfl,fun _ _ _ _ _=>rfl,rfl,fun _ _ _ n=>by cases n<;>rfl,fun _=>rfl⟩) (fun z457_0 r h=>H457 z457_0 r h) r5 e6) ⟨tv,tv,tv⟩ rfl rfl (fun _=>rfl) (o_ (As 3 [(0,Ca a0),(2,.ptr 128 0),(21,.bool (!r5))] (La []) (Cw h0 (fun c7 h0=>?_) (fun c7 h0=>?_)))))))))
   ·obtain rfl:=sj h0
    exact Cs 7
   ·refine Mm 4 (Ah (bb h0 fun r8 e9 h0=>Ji (H458  r8 e9) (ar (Bq rfl (af (af (af (Bq rfl rfl)))))) (o_ (As 7 [(0,Ca a0),(2,.ptr 128 0),(5,.ptr 320 0),(6,.own 384 0 2 ([].map Bp))] (La [(320,Bi r8 (Al 1664) (Al 1665) (Al 1666))]) (At 3 (Ah (Hf rfl (o_ (As 2 (Yx a0 [(6,.own 384 0 2 ([].map Bp)),(28,iV (a0.length:Int)),(29,iV 0)]) (La [(320,Bi r8 (Al 1664) (Al 1665) (Al 1666))]) (Ci (bb h0 fun r51 e52 h0=>Df (R:=(fun S=>∃p38:List Am,∃p39:Int,∃p40:Int,∃p41:List Af,∃p42:List Ad,∃p43:List Int,∃p44:Bool,(p38,p39,p40,p41,p42,p43,p44)=r51∧S=⟨[(2,.ptr 128 0),(5,.ptr 320 0),(6,Ct 384 p38)],La [(320,Ap p39 p40 (Al 1664) p41 (Al 1665) p42 (Al 1666) p43 p44)],[]⟩)) (Wq a0) (fun s S=>match s with | (p16,p17,p18,p19,p20,p21,p22,p23)=>S=⟨Yx a0 [(6,Ct 384 p16),(28,iV (a0.length:Int)),(29,iV p17)],La [(320,Ap p18 p19 (Al 1664) p20 (Al 1665) p21 (Al 1666) p22 p23)],[]⟩) e52 _ (Er (by kernel_rfl)) rfl 1 (fun _=>rfl) ?_ ?_)))))))))))
    ·rintro S _ hfg ⟨p38,p39,p40,p41,p42,p43,p44,rfl,rfl⟩
     refine Dy _ hfg ?_
     obtain rfl:=sj h0
     exact Cs 8
    ·rintro ⟨p16,p17,p18,p19,p20,p21,p22,p23⟩ o1 _ K1 rfl h1 hx1 hK1 hE1 hR1
     refine As 3 (Yx a0 [(6,Ct 384 p16),(28,iV (a0.length:Int)),(29,iV p17),(30,.bool (decide (p17<(a0.length:Int))))]) (La [(320,Ap p18 p19 (Al 1664) p20 (Al 1665) p21 (Al 1666) p22 p23)]) (Bk (Cw h1 (fun c45 h1=>?_) (fun c45 h1=>?_)))
     ·refine Mm 5 (Ah (bb h1 fun y46 e47 h1=>Ns rfl rfl e47 (o_ (As 4 (Yx a0 [(6,Ct 384 p16),(8,.ptr 512 0),(28,iV (a0.length:Int)),(29,iV p17)]) (La [(320,Ap p18 p19 (Al 1664) p20 (Al 1665) p21 (Al 1666) p22 p23),(512,Ao y46)]) (At 3 (Ah (bb h1 fun r48 e49 h1=>Ji (H459 (Ag.mk (Ak.mk p18 p19 p20) p21 p22 p23) y46 r48 e49) (ar (Bq rfl (af (af (af (ar (Bq rfl (Bq rfl rfl)))))))) (o_ (As 13 (Yx a0 [(6,Ct 384 p16),(10,.ptr 640 0),(28,iV (a0.length:Int)),(29,iV p17)]) (La [(320,Bi r48.1 (Al 2304) (Al 2305) (Al 2306)),(640,Bp r48.2)]) (At 3 (Ah (gg h1 fun c50 h1=>st (Fp (e:=Bp) (l0:=p16) (l1:=([r48.2]:List Am)) rfl rfl tv rfl (by decide) c50 (o_ (As 3 (Yx a0 [(6,Ct 384 (p16++([r48.2]:List Am))),(28,iV (a0.length:Int)),(29,iV p17)]) (La [(320,Bi r48.1 (Al 2304) (Al 2305) (Al 2306))]) (At 3 ?_))))))))))))))))
      obtain rfl:=sj h1
      exact hK1 _ rfl _ _ (Lz [] [(2304,1664),(2305,1665),(2306,1666)] rfl (by kernel_rfl)) rfl
     ·obtain rfl:=sj h1
      obtain rfl:=hx1 _ rfl
      refine Iw rfl ?_
      exact jn hE1 ⟨_,_,_,_,_,_,_,rfl,rfl⟩

/- loop.example/g00149/impl.isList[loop.example/g00149/impl.Intent] -/
def Aim:=[k_ 2 (.bool false)]
def Ain:=[m_ 3 0,n_ 4 3,B_ .leq 5 4 4096,m_ 2 5]
def c460:De:=⟨1,6,[.t 2],sr Aim (rr Ain)⟩
def K460 (D:Ba):Prop:=∀a0 r,g460 a0=some r→D 460 ⟨[Cj a0],[]⟩ ⟨.bool r,[],[]⟩
theorem F460:K460 (FO C c460):=by
 intro a0 r h0
 refine f0 (As 3 [(0,Cj a0)] [] (Bk (Ah (st (Dc rfl tv (Hf rfl (o_ ?_)))))))
 obtain rfl:=sj h0
 exact Cs 4

/- loop.example/g00149/impl.Owned -/
def AhI:=[X_ 1 0,i_ 2 0,i_ 3 0]
def AhJ:List Bj:=[f_ 6 1 0,L_ 7 6 3,q_ 8 20 [.t 7],N_ 9 8,m_ 10 9,fF 10 11 1 3,lF 10 12 11 1 false,⟨some 13,.call 460 [.t 12],some (10,false)⟩,pF 10 14 (.un .not (.t 13)),po 15 10 14,m_ 16 15,fF 16 17 1 4,lF 16 18 17 1 false,⟨some 19,.call 87 [.t 18],some (16,false)⟩,pF 16 20 (.un .not (.t 19)),po 21 16 20]
def AhK:=[i_ 2 0,i_ 3 1]
def AhL:=[L_ 23 1 6,q_ 24 96 [.t 23],m_ 22 24,e_ 25 22 0,e_ 26 22 1,m_ 4 25,m_ 5 26]
def AhM:=[m_ 27 5]
def AhN:=[m_ 28 4,m_ 2 28,i_ 3 13]
def AhO:=[i_ 2 0,i_ 3 0]
def c439:De:=⟨1,29,[.t 2,.t 3],sr AhI (.seq (sr AhJ (iz 21 (rr AhK))) (.seq (sr AhL (sr AhM (iz 27 (rr AhN)))) (rr AhO)))⟩
def K439 (D:Ba):Prop:=∀a0 r,Ame a0=some r→D 439 ⟨[.agg (Ax a0)],[]⟩ ⟨.tup [iV r.1,iV r.2],[],[]⟩
theorem F439 (H20:K20 C) (H87:K87 C) (H96:K96 C) (H460:K460 C):K439 (FO C c439):=by
 intro a0 r h0
 refine f0 (As 5 [(1,.ptr 64 0)] [(64,Ax a0)] (At 4 (Ah (bb h0 fun r1 e2 h0=>Il (H20 a0.Ab r1 e2) (o_ (At 2 (Ah (st (Ep (u:=.ptr 64 3) rfl (fun hg=>(Bw ⟨tv,tv⟩ rfl tv)) (st (Ep (u:=Cj a0.Aa) rfl (fun hg=>(Bw ⟨(fun _=>hg),tv⟩ rfl (nl rfl))) (bb h0 fun r3 e4 h0=>st (En (r:=.bool r3) rfl false (fun hg=>H460 a0.Aa r3 (ip hg e4)) ⟨(fun hg=>hg),tv⟩ (fun _=>rfl) (fun _=>rfl) (fun _=>rfl) (fun h=>nomatch h) (st (Ep (u:=.bool (!r3)) rfl (fun hg=>(Bw ⟨(fun _=>hg),tv⟩ rfl tv)) (st (Hp rfl rfl rfl tv (fun h=>lN h) rfl (st (Dc rfl tv (st (Ep (u:=.ptr 64 4) rfl (fun hg=>(Bw ⟨tv,tv⟩ rfl tv)) (st (Ep (u:=lI a0.Ae) rfl (fun hg=>(Bw ⟨(fun _=>hg),tv⟩ rfl (nl rfl))) (bb h0 fun r5 e6 h0=>st (En (r:=.bool r5) rfl false (fun hg=>H87 a0.Ae r5 (ip hg e6)) ⟨(fun hg=>hg),tv⟩ (fun _=>rfl) (fun _=>rfl) (fun _=>rfl) (fun h=>nomatch h) (st (Ep (u:=.bool (!r5)) rfl (fun hg=>(Bw ⟨(fun _=>hg),tv⟩ rfl tv)) (st (Hp rfl rfl rfl tv (fun h=>lN h) rfl (o_ (As 1 [(1,.ptr 64 0),(21,.bool (bif (bif (!r1) then true else (!r3)) then true else (!r5)))] [(64,Ax a0)] (Cw h0 (fun c7 h0=>?_) (fun c7 h0=>?_)))))))))))))))))))))))))))))))))
 ·obtain rfl:=sj h0
  exact Cs 5
 ·refine At 5 (Ah (bb h0 fun r8 e9 h0=>Il (H96 a0 r8 e9) (o_ (As 10 [(4,iV r8.1),(27,.bool r8.2)] [] (Cw h0 (fun c10 h0=>?_) (fun c10 h0=>?_))))))
  ·obtain rfl:=sj h0
   exact Cs 6
  ·obtain rfl:=sj h0
   exact Cs 7

/- loop.example/g00149/impl.StepVault -/
def AhP:=[X_ 2 0,X_ 3 1,a_ 4 (zV 259 260 261),a_ 5 [iV 0,iV 0],i_ 6 0]
def AhQ:List Bj:=[L_ 9 2 6,q_ 10 48 [.t 9],N_ 11 10,m_ 12 11,lF 12 13 3 7 true,⟨some 14,.call 457 [.t 13],some (12,false)⟩,pF 12 15 (.un .not (.t 14)),po 16 12 15]
def AhR:=[iQ 17 (.build (zV 1091 1092 1093) []),iQ 18 (.build [iV 0,iV 0] []),s_ 4 17 6,s_ 5 18 2,i_ 6 1]
def AhS:=[L_ 20 2 6,L_ 21 3 7,q_ 22 459 [.t 20,.t 21],m_ 19 22,e_ 23 19 0,e_ 24 19 1,a_ 7 (zV 451 452 453),a_ 8 [iV 0,iV 0],s_ 7 23 6,s_ 8 24 2]
def AhT:=tk [L_ 25 7 6,L_ 26 8 2] (.alt [L_ 26 8 2] (s_ 4 25 6) (.alt [] (s_ 5 26 2) (tk [i_ 6 0] .fin) .stop) .stop)
def c440:De:=⟨2,27,[.cell 4 6 true,.cell 5 2 true,.t 6],sr AhP (.seq (sr AhQ (iz 16 (rr AhR))) (sr AhS (sd AhT .ret)))⟩
def K440 (D:Ba):Prop:=∀a0 a1 r,qV a0 a1=some r→D 440 ⟨[.agg (Ax a0),.agg (Ao a1)],[]⟩ ⟨.tup [.agg (Bi r.1 (Al 0) (Al 1) (Al 2)),.agg (Bp r.2.1),iV r.2.2],[],[]⟩
abbrev rK:=fun (r:List (Nat×List V))=>(256,Ap 0 0 (Al 259) [] (Al 260) [] (Al 261) [] false)::(320,[iV 0,iV 0])::r
theorem F440 (H48:K48 C) (H457:OC C) (H459:OD C):K440 (FO C c440):=by
 intro a0 a1 r h0
 refine f0 (As 7 [(2,.ptr 128 0),(3,.ptr 192 0),(4,.ptr 256 0),(5,.ptr 320 0)] (rK [(128,Ax a0),(192,Ao a1)]) (At 3 (Ah (bb h0 fun r1 e2 h0=>Il (H48 a0 r1 e2) (o_ (Hj 3 (Ah (bb h0 fun r3 e4 h0=>st (En (r:=.bool r3) rfl false (fun hg=>H457 a1 r3 (ip hg e4)) ⟨(fun hg=>hg),tv⟩ (fun _=>rfl) (fun _=>rfl) (fun _=>rfl) (fun h=>nomatch h) (o_ (uE 3 [(2,.ptr 128 0),(3,.ptr 192 0),(4,.ptr 256 0),(5,.ptr 320 0),(16,.bool (bif (!r1) then true else (!r3)))] (rK [(128,Ax a0),(192,Ao a1)]) (Cw h0 (fun c5 h0=>?_) (fun c5 h0=>?_)))))))))))))
 ·obtain rfl:=sj h0
  exact Cs 8
 ·refine At 5 (Ah (bb h0 fun r6 e7 h0=>Ji (H459 a0 a1 r6 e7) (ar (Bq rfl (af (af (af (ar (Bq rfl (Bq rfl rfl)))))))) (o_ (As 8 [(4,.ptr 256 0),(5,.ptr 320 0),(7,.ptr 448 0),(8,.ptr 512 0)] (rK [(448,Bi r6.1 (Al 1408) (Al 1409) (Al 1410)),(512,Bp r6.2)]) (At 3 (Bm (Cb (Gc rfl rfl tv rfl rfl rfl (nl rfl) (d0 hB (Cb (Gc rfl rfl tv rfl rfl rfl (nl rfl) (d0 tv (d_ (As 2 [(4,.ptr 256 0),(5,.ptr 320 0),(6,iV 0)] [(256,Bi r6.1 (Al 1408) (Al 1409) (Al 1410)),(320,Bp r6.2)] ?_)))) Az))) Az)))))))
  obtain rfl:=sj h0
  exact Kv (Fe rfl rfl rfl rfl rfl tv)

/- loop.example/g00149/laws.FnTop -/
def Ahn:=[k_ 4 (.bool false)]
def Aho:=[m_ 37 0,n_ 38 37,B_ .gtr 39 38 1048576,m_ 40 39,mF 40 41 1,pF 40 42 (.len (.t 41)),pF 40 43 (.bin .gtr (.t 42) (.c (iV 1048576))),po 44 40 43]
def Ahp:=[k_ 4 (.bool true)]
def Ahq:=[m_ 46 0,q_ 47 51 [.t 46],q_ 48 438 [.t 47],m_ 45 48,e_ 49 45 0,e_ 50 45 1,e_ 51 45 2,a_ 5 (zV 323 324 325),s_ 5 49 6,m_ 6 50,m_ 7 51]
def Ahr:=[m_ 53 0,q_ 54 51 [.t 53],q_ 55 50 [.t 54],m_ 52 55,e_ 56 52 0,e_ 57 52 1,e_ 58 52 2,a_ 8 (zV 515 516 517),s_ 8 56 6,m_ 9 57,m_ 10 58]
def Ahs:=[L_ 60 5 6,q_ 61 250 [.t 60],m_ 59 61,e_ 62 59 0,e_ 63 59 1,m_ 11 62,m_ 12 63]
def Aht:List Bj:=[m_ 64 7,B_ .neq 65 64 0,m_ 66 65,mF 66 67 12,pF 66 68 (.bin .neq (.t 67) (.c (iV 0))),po 69 66 68,m_ 70 69,lF 70 71 5 6 true,lF 70 72 8 6 true,⟨some 73,.call 261 [.t 71,.t 72],some (70,false)⟩,pF 70 74 (.un .not (.t 73)),po 75 70 74]
def Ahu:=[k_ 4 (.bool false)]
def Ahv:=[iQ 76 (.build [.own 4865 0 1 [],.own 4866 0 2 []] []),a_ 13 [.own 833 0 1 [],.own 834 0 2 []],s_ 13 76 2]
def Ahw:=[i_ 14 0]
def EL:=[m_ 77 14,m_ 78 11,n_ 79 78,b_ .lss 80 77 79]
def gF:DP:=.alt [] (q_ 97 382 [.t 84,.t 96]) (tk [m_ 83 97,e_ 98 83 0,e_ 99 83 1] (.alt [e_ 99 83 1] (s_ 15 98 2) (tk [m_ 16 99] .fin) .stop)) .stop
def EM:=tk [L_ 84 13 2,m_ 85 11,m_ 86 14,x_ 87 85 86 2,f_ 88 87 0,l_ 89 88 1,m_ 90 11,m_ 91 14,x_ 92 90 91 2,f_ 93 92 1,l_ 94 93 1,⟨some 95,.p (.build [.str [],.str [],.bool false] [(0,1,.t 89),(1,1,.t 94)]),none⟩] (.alt [L_ 84 13 2] ⟨some 96,.mkS 3 [.str [],.str [],.bool false] 1 [(0,.t 95)],none⟩ (.alt [] (q_ 97 382 [.t 84,.t 96]) (tk [m_ 83 97,e_ 98 83 0,e_ 99 83 1] (.alt [e_ 99 83 1,e_ 98 83 0,m_ 83 97] (a_ 15 [.own 961 0 1 [],.own 962 0 2 []]) (.alt [e_ 99 83 1] (s_ 15 98 2) (tk [m_ 16 99] .fin) .stop) .stop)) (.alt [L_ 84 13 2] (a_ 15 [.own 961 0 1 [],.own 962 0 2 []]) gF .stop)) (.alt [⟨some 95,.p (.build [.str [],.str [],.bool false] [(0,1,.t 89),(1,1,.t 94)]),none⟩,l_ 94 93 1,f_ 93 92 1,x_ 92 90 91 2,m_ 91 14,m_ 90 11,l_ 89 88 1,f_ 88 87 0,x_ 87 85 86 2,m_ 86 14,m_ 85 11,L_ 84 13 2] (a_ 15 [.own 961 0 1 [],.own 962 0 2 []]) (.alt [L_ 84 13 2] ⟨some 96,.mkS 3 [.str [],.str [],.bool false] 1 [(0,.t 95)],none⟩ gF .stop) .stop))
def EN:=[m_ 100 16,B_ .eql 101 100 9]
def EO:=[k_ 4 (.bool true)]
def EP:=[m_ 102 16,B_ .neq 103 102 0]
def EQ:=[k_ 4 (.bool false)]
def ER:=[L_ 104 15 2,s_ 13 104 2]
def ES:=[m_ 81 14,B_ .add 82 81 1,m_ 14 82]
def Ahl:IR:=(.seq (sr EL (.ite (.t 80) .skip (.exit 0))) (.seq (.block 1 (sd EM (.seq (sr EN (iz 101 (rr EO))) (.seq (sr EP (iz 103 (rr EQ))) (.reg ER))))) (.reg ES)))
def ET:=[i_ 17 0]
def EU:=[L_ 106 13 2,q_ 107 220 [.t 106],m_ 105 107,e_ 108 105 0,e_ 109 105 1,m_ 18 108,m_ 19 109]
def EV:=[i_ 20 0]
def EW:=[m_ 110 20,m_ 111 18,n_ 112 111,b_ .lss 113 110 112]
def EX:=[m_ 116 17,m_ 117 18,m_ 118 20,x_ 119 117 118 1,l_ 120 119 1,n_ 121 120,B_ .add 122 121 6,b_ .add 123 116 122,m_ 17 123]
def EY:=[m_ 114 20,B_ .add 115 114 1,m_ 20 115]
def Ahm:IR:=(.seq (sr EW (.ite (.t 113) .skip (.exit 2))) (.seq (.block 3 (.reg EX)) (.reg EY)))
def EZ:List Bj:=[L_ 125 13 2,m_ 126 17,⟨some 127,.mkS 1 [.int .u8 0] 5 [(0,.c (.int .u8 0)),(1,.c (.int .u8 9)),(2,.c (.int .u8 1)),(3,.c (.int .u8 2)),(4,.c (.int .u8 3))],none⟩,q_ 128 214 [.t 125,.t 126,.t 127],m_ 124 128,e_ 129 124 0,e_ 130 124 1,a_ 21 [.own 1345 0 1 [],.own 1346 0 2 []],s_ 21 129 2,m_ 22 130]
def FA:=[m_ 131 22,B_ .eql 132 131 9]
def FB:=[k_ 4 (.bool true)]
def gG:DP:=.alt [] (q_ 137 242 [.t 134,.t 136]) (tk [m_ 133 137,e_ 138 133 0,e_ 139 133 1] (.alt [e_ 139 133 1] (s_ 23 138 2) (tk [m_ 24 139] .fin) .stop)) .stop
def FC:=tk [L_ 134 21 2,m_ 135 1] (.alt [L_ 134 21 2] (q_ 136 243 [.t 135]) (.alt [] (q_ 137 242 [.t 134,.t 136]) (tk [m_ 133 137,e_ 138 133 0,e_ 139 133 1] (.alt [e_ 139 133 1,e_ 138 133 0,m_ 133 137] (a_ 23 [.own 1473 0 1 [],.own 1474 0 2 []]) (.alt [e_ 139 133 1] (s_ 23 138 2) (tk [m_ 24 139] .fin) .stop) .stop)) (.alt [L_ 134 21 2] (a_ 23 [.own 1473 0 1 [],.own 1474 0 2 []]) gG .stop)) (.alt [m_ 135 1,L_ 134 21 2] (a_ 23 [.own 1473 0 1 [],.own 1474 0 2 []]) (.alt [L_ 134 21 2] (q_ 136 243 [.t 135]) gG .stop) .stop))
def FD:=[L_ 141 23 2,q_ 142 384 [.t 141],m_ 140 142,e_ 143 140 0,e_ 144 140 1,m_ 25 143,m_ 26 144]
def FE:=[m_ 146 25,f_ 147 5 4,l_ 148 147 1,q_ 149 258 [.t 146,.t 148],m_ 145 149,e_ 150 145 0,e_ 151 145 1,a_ 27 (zV 1731 1732 1733),s_ 27 150 6,m_ 28 151]
def FF:List Bj:=[m_ 152 22,B_ .neq 153 152 0,m_ 154 153,mF 154 155 24,pF 154 156 (.bin .neq (.t 155) (.c (iV 0))),po 157 154 156,m_ 158 157,mF 158 159 26,pF 158 160 (.bin .neq (.t 159) (.c (iV 0))),po 161 158 160,m_ 162 161,mF 162 163 28,pF 162 164 (.bin .neq (.t 163) (.c (iV 0))),po 165 162 164,m_ 166 165,mF 166 167 25,mF 166 168 11,⟨some 169,.call 260 [.t 167,.t 168],some (166,false)⟩,pF 166 170 (.un .not (.t 169)),po 171 166 170,m_ 172 171,lF 172 173 27 6 true,lF 172 174 5 6 true,⟨some 175,.call 261 [.t 173,.t 174],some (172,false)⟩,pF 172 176 (.un .not (.t 175)),po 177 172 176]
def FG:=[k_ 4 (.bool false)]
def FH:=[L_ 179 27 6,q_ 180 439 [.t 179],m_ 178 180,e_ 181 178 0,e_ 182 178 1,m_ 29 181,m_ 30 182]
def FI:List Bj:=[L_ 184 27 6,⟨some 185,.p (.build [iV 0,iV 0,iV 0,iV 0,iV 0,.own 11846 0 1 [],iV 0] [(0,1,.c (iV 6))]),none⟩,q_ 186 440 [.t 184,.t 185],m_ 183 186,e_ 187 183 0,e_ 188 183 1,e_ 189 183 2,a_ 31 (zV 1987 1988 1989),a_ 32 [iV 0,iV 0],s_ 31 187 6,s_ 32 188 2,m_ 33 189]
def FJ:List Bj:=[L_ 191 31 6,⟨some 192,.p (.build [iV 0,iV 0,iV 0,iV 0,iV 0,.own 12294 0 1 [],iV 0] [(0,1,.c (iV 4)),(4,1,.c (iV 9223372036854775807))]),none⟩,q_ 193 440 [.t 191,.t 192],m_ 190 193,e_ 194 190 0,e_ 195 190 1,e_ 196 190 2,a_ 34 (zV 2179 2180 2181),a_ 35 [iV 0,iV 0],s_ 34 194 6,s_ 35 195 2,m_ 36 196]
def FK:=[m_ 197 29,B_ .eql 198 197 0,m_ 199 198,mT 199 200 30,pT 199 201 (.bin .eql (.t 200) (.c (iV 0))),pa 202 199 201,m_ 203 202,mT 203 204 33,pT 203 205 (.bin .eql (.t 204) (.c (iV 0))),pa 206 203 205,m_ 207 206,mT 207 208 36,pT 207 209 (.bin .eql (.t 208) (.c (iV 0))),pa 210 207 209,m_ 211 210,fT 211 212 34 4,lT 211 213 212 1 false,pT 211 214 (.len (.t 213)),pT 211 215 (.bin .eql (.t 214) (.c (iV 0))),pa 216 211 215,m_ 217 216,fT 217 218 34 0,fT 217 219 218 2,lT 217 220 219 1 false,pT 217 221 (.len (.t 220)),pT 217 222 (.bin .eql (.t 221) (.c (iV 0))),pa 223 217 222,m_ 4 223]
def c433:De:=⟨2,224,[.t 4],sr Ahn (.seq (sr Aho (iz 44 (rr Ahp))) (sr Ahq (sr Ahr (sr Ahs (.seq (sr Aht (iz 75 (rr Ahu))) (sr Ahv (.seq (sr Ahw (Jc 0 Ahl)) (sr ET (sr EU (.seq (sr EV (Jc 2 Ahm)) (sr EZ (.seq (sr FA (iz 132 (rr FB))) (sd FC (sr FD (sr FE (.seq (sr FF (iz 177 (rr FG))) (sr FH (sr FI (sr FJ (rr FK))))))))))))))))))))⟩
def K433 (D:Ba):Prop:=∀a0 a1 r,g433 a0 a1=some r→D 433 ⟨[Eb a0,Eb a1],[]⟩ ⟨.bool r,[],[]⟩
abbrev Ft:=fun x0 (r:List (Nat×List V))=>(320,Bi x0 (Al 3072) (Al 3073) (Al 3074))::r
abbrev Ir:=fun x0 x1 (r:List (Nat×V))=>(1,Eb x0)::(5,.ptr 320 0)::(11,Be 3904 x1)::(13,.ptr 832 0)::r
abbrev Yw:=fun x0 (r:List (Nat×V))=>(5,.ptr 320 0)::(11,Be 3904 x0)::r
theorem F433 (H50:K50 C) (H51:K51 C) (H214:K214 C) (H220:K220 C) (H242:K242 C) (H243:K243 C) (H250:K250 C) (H258:K258 C) (H260:K260 C) (H261:K261 C) (H382:K382 C) (H384:K384 C) (H438:K438 C) (H439:K439 C) (H440:K440 C):K433 (FO C c433):=by
 intro a0 a1 r h0
 refine f0 (As 3 [(0,Eb a0),(1,Eb a1)] [] (At 3 (Ah (Hf rfl (o_ (Hj 3 (Ah (st (Ep (u:=iV (a1.length:Int)) rfl (fun hg=>(Mu (e:=Gh) (l0:=a1) rfl rfl (fun _=>hg))) (o_ (Hj 3 (bv h0 fun v1 e2 h0=>Dy ⟨[(0,Eb a0),(1,Eb a1),(44,.bool v1)],[],[]⟩ (Er (by subst e2; kernel_rfl)) (Cw h0 (fun c3 h0=>?_) (fun c3 h0=>?_))))))))))))))
 ·obtain rfl:=sj h0
  exact Cs 4
 ·refine At 4 (Ah (bb h0 fun r4 e5 h0=>st (Cm (r:=Fi 0 r4) true (H51 a0 r4 e5) ⟨tv,tv⟩ rfl rfl (fun h=>nomatch h) (bb h0 fun r6 e7 h0=>Ji (H438 r4 r6 e7) (ar (Bq rfl (af (af (af (ar (af (Bq rfl rfl)))))))) (o_ (As 9 [(0,Eb a0),(1,Eb a1),(5,.ptr 320 0),(7,iV r6.2.2)] (Ft r6.1 []) (Bk (Ah (st (Dc rfl tv (bb h0 fun r8 e9 h0=>st (Cm (r:=Fi 0 r8) true (H51 a0 r8 e9) ⟨tv,tv⟩ rfl rfl (fun h=>nomatch h) (bb h0 fun r10 e11 h0=>Ji (H50 r8 r10 e11) (ar (Bq rfl (af (af (af (ar (af (Bq rfl rfl)))))))) (o_ (As 9 [(1,Eb a1),(5,.ptr 320 0),(7,iV r6.2.2),(8,.ptr 512 0)] (Ft r6.1 [(512,Bi r10.1 (Al 3520) (Al 3521) (Al 3522))]) (At 2 (Ah (bb h0 fun r12 e13 h0=>Ji (H250 r6.1 r12 e13) (af (Bq rfl rfl)) (o_ (As 6 (Yw r12.1 [(1,Eb a1),(7,iV r6.2.2),(8,.ptr 512 0),(12,iV r12.2)]) (Ft r6.1 [(512,Bi r10.1 (Al 3520) (Al 3521) (Al 3522))]) (Hj 11 (Ah (bb h0 fun r14 e15 h0=>st (En (r:=.bool r14) rfl false (fun hg=>H261 r6.1 r10.1 r14 (ip hg e15)) ⟨(fun hg=>hg),(fun hg=>hg),tv⟩ (fun _=>rfl) (fun _=>rfl) (fun _=>rfl) (fun h=>nomatch h) (o_ (Hj 3 (bv h0 fun v16 e17 h0=>Dy ⟨Yw r12.1 [(1,Eb a1),(75,.bool v16)],Ft r6.1 [],[]⟩ (Er (by subst e17; kernel_rfl)) (Cw h0 (fun c18 h0=>?_) (fun c18 h0=>?_)))))))))))))))))))))))))))))
  ·obtain rfl:=sj h0
   exact Cs 4
  ·refine As 12 (Ir a1 r12.1 [(14,iV 0)]) (Ft r6.1 [(832,[Eo 4865 [],Bo 4866 []])]) (Ci (bb h0 fun r57 e58 h0=>Df (R:=(fun S=>∃p45:List UInt8,∃p46:List Aw,.inl (p45,p46)=r57∧S=⟨Ir a1 r12.1 [],Ft r6.1 [(832,[Eo 4865 p45,Bo 4866 p46])],[]⟩)) (Wp r12) (fun s S=>match s with | (p29,p30,p31)=>S=⟨Ir a1 r12.1 [(14,iV p29)],Ft r6.1 [(832,[Eo 4865 p30,Bo 4866 p31])],[]⟩) e58 _ (Er (by kernel_rfl)) rfl 0 (fun _=>rfl) ?_ ?_))
   ·rintro S _ hfg ⟨p45,p46,rfl,rfl⟩
    refine Dy _ hfg (As 3 (Ir a1 r12.1 [(17,iV 0)]) (Ft r6.1 [(832,[Eo 4865 p45,Bo 4866 p46])]) (At 2 (Ah (bb h0 fun r59 e60 h0=>st (Cm (r:=.tup [.own 0 0 1 (r59.1.map (eL 1 Gh)),iV r59.2]) true (H220 (Ay.mk p45 p46) r59 e60) ⟨tv,tv⟩ rfl rfl (fun h=>nomatch h) (o_ (As 11 (Ir a1 r12.1 [(17,iV 0),(18,.own 6848 0 1 (r59.1.map (eL 1 Gh))),(20,iV 0)]) (Ft r6.1 [(832,[Eb p45,Cr p46])]) (Ci (bb h0 fun r81 e82 h0=>Df (R:=(fun S=>∃p75:Int,p75=r81∧S=⟨Ir a1 r12.1 [(17,iV p75)],Ft r6.1 [(832,[Eb p45,Cr p46])],[]⟩)) (Tc r59) (fun s S=>match s with | (p66,p67)=>S=⟨Ir a1 r12.1 [(17,iV p66),(18,.own 6848 0 1 (r59.1.map (eL 1 Gh))),(20,iV p67)],Ft r6.1 [(832,[Eb p45,Cr p46])],[]⟩) e82 _ (Er (by kernel_rfl)) rfl 2 (fun _=>rfl) ?_ ?_)))))))))
    ·rintro S _ hfg ⟨p75,rfl,rfl⟩
     refine Dy _ hfg (At 4 (Ah (bb h0 fun r83 e84 h0=>st (Cm (r:=.tup [.agg (By r83.1 (Al 0) (Al 1)),iV r83.2]) true (H214 (Ay.mk p45 p46) p75 ([(0:UInt8),(9:UInt8),(1:UInt8),(2:UInt8),(3:UInt8)]:List UInt8) r83 e84) ⟨tv,tv,tv,tv⟩ rfl rfl (fun h=>nomatch h) (o_ (As 13 (Yw r12.1 [(1,Eb a1),(21,.ptr 1344 0),(22,iV r83.2),(132,.bool (r83.2==9))]) (Ft r6.1 [(1344,By r83.1 (Al 8192) (Al 8193))]) (Cw h0 (fun c85 h0=>?_) (fun c85 h0=>?_))))))))
     ·obtain rfl:=sj h0
      exact Cs 4
     ·refine Mm 3 (bb h0 fun r86 e87 h0=>bb h0 fun r88 e89 h0=>HU (fun S=>S=⟨Yw r12.1 [(22,iV r83.2),(23,.ptr 1472 0),(24,iV r88.2)],Ft r6.1 [(1472,By r88.1 (Al 8768) (Al 8769))],[]⟩) ?_ (fun J90=>?_))
      ·rintro _ rfl
       refine At 2 (Ah (bb h0 fun r91 e92 h0=>Ji (H384 r88.1 r91 e92) (af (Bq rfl rfl)) (o_ (As 6 (Yw r12.1 [(22,iV r83.2),(24,iV r88.2),(25,Be 9088 r91.1),(26,iV r91.2)]) (Ft r6.1 []) (At 4 (Ah (bb h0 fun r93 e94 h0=>Ji (H258 r91.1 r6.1.Ae r93 e94) (ar (Bq rfl (af (af (af (ar (Bq rfl rfl))))))) (o_ (As 7 (Yw r12.1 [(22,iV r83.2),(24,iV r88.2),(25,Be 9088 r91.1),(26,iV r91.2),(27,.ptr 1728 0),(28,iV r93.2)]) (Ft r6.1 [(1728,Bi r93.1 (Al 9536) (Al 9537) (Al 9538))]) (Hj 19 (Ah (bb h0 fun r95 e96 h0=>st (En (r:=.bool r95) rfl false (fun hg=>H260 r91.1 r12.1 r95 (ip hg e96)) ⟨(fun hg=>hg),(fun hg=>hg),tv⟩ (fun _=>rfl) (fun _=>rfl) (fun _=>rfl) (fun h=>nomatch h) (o_ (Hj 5 (Ah (bb h0 fun r97 e98 h0=>st (En (r:=.bool r97) rfl false (fun hg=>H261 r93.1 r6.1 r97 (ip hg e98)) ⟨(fun hg=>hg),(fun hg=>hg),tv⟩ (fun _=>rfl) (fun _=>rfl) (fun _=>rfl) (fun h=>nomatch h) (o_ (Hj 3 (bv h0 fun v99 e100 h0=>Dy ⟨[(27,.ptr 1728 0),(177,.bool v99)],[(1728,Bi r93.1 (Al 9536) (Al 9537) (Al 9538))],[]⟩ (Er (by subst e100; kernel_rfl)) (Cw h0 (fun OT h0=>?_) (fun OT h0=>?_)))))))))))))))))))))))
       ·obtain rfl:=sj h0
        exact Cs 4
       ·refine At 4 (Ah (bb h0 fun r102 e103 h0=>Il (H439 r93.1 r102 e103) (o_ (As 6 [(27,.ptr 1728 0),(29,iV r102.1),(30,iV r102.2)] [(1728,Bi r93.1 (Al 9536) (Al 9537) (Al 9538))] (At 2 (Ah (st (c_ (v:=.agg (Ck 6 0 0 0 0 (Al 11846) [] 0)) (Bw ⟨tv,tv⟩ rfl ⟨⟨rfl,rfl,nl rfl⟩,tv⟩) (bb h0 fun r104 e105 h0=>Ji (H440 r93.1 (Aj.mk 6 0 0 0 0 ([]:List Int) 0) r104 e105) (ar (Bq rfl (af (af (af (ar (Bq rfl (ar (Bq rfl rfl))))))))) (o_ (As 10 [(29,iV r102.1),(30,iV r102.2),(31,.ptr 1984 0),(33,iV r104.2.2)] [(1984,Bi r104.1 (Al 11904) (Al 11905) (Al 11906))] (At 2 (Ah (st (c_ (v:=.agg (Ck 4 0 0 0 9223372036854775807 (Al 12294) [] 0)) (Bw ⟨tv,tv,tv⟩ rfl ⟨⟨rfl,rfl,nl rfl⟩,⟨rfl,rfl,nl rfl⟩,tv⟩) (bb h0 fun r106 e107 h0=>Ji (H440 r104.1 (Aj.mk 4 0 0 0 9223372036854775807 ([]:List Int) 0) r106 e107) (ar (Bq rfl (af (af (af (ar (Bq rfl (ar (Bq rfl rfl))))))))) (o_ (As 10 [(29,iV r102.1),(30,iV r102.2),(33,iV r104.2.2),(34,.ptr 2176 0),(36,iV r106.2.2)] [(2176,Bi r106.1 (Al 12352) (Al 12353) (Al 12354))] (Hj 18 (Ah ?_))))))))))))))))))))
        refine st (Ep (u:=iV (r106.1.Ae.length:Int)) rfl (fun hg=>(mC (e:=eI) (l0:=r106.1.Ae) rfl rfl (fun _=>hg))) (o_ (Hj 6 (Ah (st (Ep (u:=iV (r106.1.Ab.Ac.length:Int)) rfl (fun hg=>(mC (e:=Bg) (l0:=r106.1.Ab.Ac) rfl rfl (fun _=>hg))) (o_ (Hj 4 (bv h0 fun v108 e109 h0=>Dy ⟨[(4,.bool v108)],[],[]⟩ (Er (by subst e109; kernel_rfl)) ?_)))))))))
        obtain rfl:=sj h0
        exact Kv (Fe rfl rfl rfl rfl rfl tv)
      ·refine Au tv (c_ (v:=.agg (By r83.1 (Al 8192) (Al 8193))) (Bw ⟨tv,tv⟩ rfl (nl rfl)) ?_)
       refine ⟨tv,Au tv (Dc rfl tv (⟨tv,Cb (Cm (r:=oB 0 r86) false (H243 a1 r86 e87) ⟨tv,tv⟩ rfl rfl (fun _=>(af rfl)) ?_) ?_⟩))⟩
       ·refine dw [(5,.ptr 320 0),(11,Be 3904 r12.1),(21,.ptr 1344 0),(22,iV r83.2),(134,.agg (By r83.1 (Al 8192) (Al 8193))),(136,oB 8704 r86)] [(320,Bi r6.1 (Al 3072) (Al 3073) (Al 3074)),(1344,By r83.1 (Al 8192) (Al 8193))] hB ?_
        refine Cb (Cm (r:=.tup [.agg (By r88.1 (Al 0) (Al 1)),iV r88.2]) true (H242 r83.1 r86 r88 e89) ⟨tv,tv,tv⟩ rfl rfl (fun h=>nomatch h) ?_) ?_
        ·refine dw [(5,.ptr 320 0),(11,Be 3904 r12.1),(22,iV r83.2),(137,.tup [.agg (By r88.1 (Al 8768) (Al 8769)),iV r88.2])] [(320,Bi r6.1 (Al 3072) (Al 3073) (Al 3074))] tv ?_
         refine d_ (At 3 (Bm (Cb (Hg (d0 hB (Cb (Gc rfl rfl tv rfl rfl rfl (nl rfl) (d0 hB (d_ (At 2 ?_)))) Az))) Az)))
         exact jn J90 rfl
        ·refine Cb (Hg ?_) Az
         refine d0 hB (Cb (Cm (r:=.tup [.agg (By r88.1 (Al 0) (Al 1)),iV r88.2]) true (H242 r83.1 r86 r88 e89) ⟨tv,tv,tv⟩ rfl rfl (fun h=>nomatch h) (dw [(5,.ptr 320 0),(11,Be 3904 r12.1),(22,iV r83.2),(23,.ptr 1472 0),(137,.tup [.agg (By r88.1 (Al 8768) (Al 8769)),iV r88.2])] [(320,Bi r6.1 (Al 3072) (Al 3073) (Al 3074)),(1472,[Eo 1473 [],Bo 1474 []])] tv (d_ (At 3 (Bm (Cb (Gc rfl rfl tv rfl rfl rfl (nl rfl) (d0 hB (d_ (At 2 ?_)))) Az)))))) Az)
         exact jn J90 rfl
       ·refine Cb (Hg ?_) Az
        refine d0 hB (Oo (H243 a1 r86 e87) (af rfl) (dw [(5,.ptr 320 0),(11,Be 3904 r12.1),(21,.ptr 1344 0),(22,iV r83.2),(23,.ptr 1472 0),(134,.agg (By r83.1 (Al 8192) (Al 8193))),(136,oB 8704 r86)] [(320,Bi r6.1 (Al 3072) (Al 3073) (Al 3074)),(1344,By r83.1 (Al 8192) (Al 8193)),(1472,[Eo 1473 [],Bo 1474 []])] hB (Cb (Cm (r:=.tup [.agg (By r88.1 (Al 0) (Al 1)),iV r88.2]) true (H242 r83.1 r86 r88 e89) ⟨tv,tv,tv⟩ rfl rfl (fun h=>nomatch h) (dw [(5,.ptr 320 0),(11,Be 3904 r12.1),(22,iV r83.2),(23,.ptr 1472 0),(137,.tup [.agg (By r88.1 (Al 8768) (Al 8769)),iV r88.2])] [(320,Bi r6.1 (Al 3072) (Al 3073) (Al 3074)),(1472,[Eo 1473 [],Bo 1474 []])] tv (d_ (At 3 (Bm (Cb (Gc rfl rfl tv rfl rfl rfl (nl rfl) (d0 hB (d_ (At 2 ?_)))) Az)))))) Az)) Az)
        exact jn J90 rfl
    ·rintro ⟨p66,p67⟩ o1 _ K1 rfl h1 hx1 hK1 hE1 hR1
     refine At 4 (Ah (Qb rfl (o_ (As 2 (Ir a1 r12.1 [(17,iV p66),(18,.own 6848 0 1 (r59.1.map (eL 1 Gh))),(20,iV p67),(113,.bool (decide (p67<(r59.1.length:Int))))]) (Ft r6.1 [(832,[Eb p45,Cr p46])]) (Cw h1 (fun c76 h1=>?_) (fun c76 h1=>?_))))))
     ·refine At 7 (Ah (bb h1 fun y77 e78 h1=>iO rfl rfl e78 (bb h1 fun y79 e80 h1=>NH rfl rfl e80 (Hf rfl (o_ (As 5 (Ir a1 r12.1 [(17,iV (wi (p66+(wi ((y79.length:Int)+6))))),(18,.own 6848 0 1 (r59.1.map (eL 1 Gh))),(20,iV p67)]) (Ft r6.1 [(832,[Eb p45,Cr p46])]) (At 4 ?_)))))))
      obtain rfl:=sj h1
      exact kn hK1 rfl rfl
     ·obtain rfl:=sj h1
      obtain rfl:=hx1 _ rfl
      refine Iw rfl ?_
      exact jn hE1 ⟨_,rfl,rfl⟩
   ·rintro ⟨p29,p30,p31⟩ o1 _ K1 rfl h1 hx1 hK1 hE1 hR1
    refine At 4 (Ah (Qb rfl (o_ (As 2 (Ir a1 r12.1 [(14,iV p29),(80,.bool (decide (p29<(r12.1.length:Int))))]) (Ft r6.1 [(832,[Eo 4865 p30,Bo 4866 p31])]) (Cw h1 (fun c47 h1=>?_) (fun c47 h1=>?_))))))
    ·refine Mm 5 (bb h1 fun y48 e49 h1=>bb h1 fun y50 e51 h1=>bb h1 fun r52 e53 h1=>HU (fun S=>S=⟨Ir a1 r12.1 [(14,iV p29),(15,.ptr 960 0),(16,iV r52.2)],Ft r6.1 [(832,[Eb p30,Cr p31]),(960,By r52.1 (Al 6208) (Al 6209))],[]⟩) ?_ (fun J54=>?_))
     ·rintro _ rfl
      refine As 5 (Ir a1 r12.1 [(14,iV p29),(15,.ptr 960 0),(16,iV r52.2),(101,.bool (r52.2==9))]) (Ft r6.1 [(832,[Eb p30,Cr p31]),(960,By r52.1 (Al 6208) (Al 6209))]) (Cw h1 (fun c55 h1=>?_) (fun c55 h1=>?_))
      ·obtain rfl:=sj h1
       obtain rfl:=hx1 _ rfl
       obtain rfl:=sj h0
       exact Yy 4 hR1
      ·refine As 7 (Ir a1 r12.1 [(14,iV p29),(15,.ptr 960 0),(103,.bool (r52.2 != 0))]) (Ft r6.1 [(832,[Eb p30,Cr p31]),(960,By r52.1 (Al 6208) (Al 6209))]) (Cw h1 (fun c56 h1=>?_) (fun c56 h1=>?_))
       ·obtain rfl:=sj h1
        obtain rfl:=hx1 _ rfl
        obtain rfl:=sj h0
        exact Yy 4 hR1
       ·refine As 6 (Ir a1 r12.1 [(14,iV p29)]) (Ft r6.1 [(832,By r52.1 (Al 6208) (Al 6209))]) (At 4 ?_)
        obtain rfl:=sj h1
        exact hK1 _ rfl _ _ (Lz [] [(6208,4865),(6209,4866)] rfl (by kernel_rfl)) rfl
     ·refine Au tv (c_ (v:=.agg [Eo 4865 p30,Bo 4866 p31]) (Bw ⟨tv,tv⟩ rfl (nl rfl)) ?_)
      refine ⟨tv,d_ (At 2 (Bm (d_ (xw_ rfl rfl rfl e49 (Bm (Au tv (c_ (Bw ⟨tv,tv⟩ rfl tv) (⟨tv,cL (c_ (ld_ rfl rfl e51) (⟨⟨Xu rfl rfl e51 rfl,tv⟩,Au tv (Dc rfl tv (⟨⟨Xu rfl rfl e51 rfl,tv⟩,Au tv (Dc rfl tv (⟨⟨Xu rfl rfl e51 rfl,tv⟩,Au tv (c_ (ci_ rfl rfl e49) (⟨⟨Xu rfl rfl e51 rfl,tv⟩,Au tv (c_ (Bw ⟨tv,tv⟩ rfl tv) (⟨⟨Xu rfl rfl e51 rfl,tv⟩,cL (c_ (ld_ rfl rfl e51) (⟨⟨Xu rfl rfl e51 rfl,Xu rfl rfl e51 rfl,tv⟩,Au tv (c_ (v:=.agg (Ie y50.key y50.value false)) (Bw ⟨tv,tv,tv⟩ rfl ⟨⟨rfl,rfl,nl rfl⟩,⟨rfl,rfl,nl rfl⟩,tv⟩) (⟨⟨Xu rfl rfl e51 rfl,Xu rfl rfl e51 rfl,tv⟩,Cb (Ky ⟨tv,tv⟩ ⟨⟨nl rfl,rfl,rfl⟩,tv⟩ ?_) ?_⟩))⟩))⟩))⟩))⟩))⟩))⟩))⟩))))))))⟩
      ·refine dw [(1,Eb a1),(5,.ptr 320 0),(11,Be 3904 r12.1),(13,.ptr 832 0),(14,iV p29),(84,.agg [Eo 4865 p30,Bo 4866 p31]),(96,Jp 6144 ([Ar.mk y50.key y50.value false]:List Ar))] [(320,Bi r6.1 (Al 3072) (Al 3073) (Al 3074)),(832,[Eo 4865 p30,Bo 4866 p31])] hB ?_
       refine Cb (Cm (r:=.tup [.agg (By r52.1 (Al 0) (Al 1)),iV r52.2]) true (H382 (Ay.mk p30 p31) ([Ar.mk y50.key y50.value false]:List Ar) r52 e53) ⟨tv,tv,tv⟩ rfl rfl (fun h=>nomatch h) ?_) ?_
       ·refine dw [(1,Eb a1),(5,.ptr 320 0),(11,Be 3904 r12.1),(13,.ptr 832 0),(14,iV p29),(97,.tup [.agg (By r52.1 (Al 6208) (Al 6209)),iV r52.2])] [(320,Bi r6.1 (Al 3072) (Al 3073) (Al 3074)),(832,[Eb p30,Cr p31])] tv ?_
        refine d_ (At 3 (Bm (Cb (Hg (d0 hB (Cb (Gc rfl rfl tv rfl rfl rfl (nl rfl) (d0 hB (d_ (At 2 ?_)))) Az))) Az)))
        exact jn J54 rfl
       ·refine Cb (Hg ?_) Az
        refine d0 hB (Cb (Cm (r:=.tup [.agg (By r52.1 (Al 0) (Al 1)),iV r52.2]) true (H382 (Ay.mk p30 p31) ([Ar.mk y50.key y50.value false]:List Ar) r52 e53) ⟨tv,tv,tv⟩ rfl rfl (fun h=>nomatch h) (dw [(1,Eb a1),(5,.ptr 320 0),(11,Be 3904 r12.1),(13,.ptr 832 0),(14,iV p29),(15,.ptr 960 0),(97,.tup [.agg (By r52.1 (Al 6208) (Al 6209)),iV r52.2])] [(320,Bi r6.1 (Al 3072) (Al 3073) (Al 3074)),(832,[Eb p30,Cr p31]),(960,[Eo 961 [],Bo 962 []])] tv (d_ (At 3 (Bm (Cb (Gc rfl rfl tv rfl rfl rfl (nl rfl) (d0 hB (d_ (At 2 ?_)))) Az)))))) Az)
        exact jn J54 rfl
      ·refine Cb (Hg ?_) Az
       refine dkw ⟨Ir a1 r12.1 [(14,iV p29),(15,.ptr 960 0),(84,.agg [Eo 4865 p30,Bo 4866 p31]),(85,Be 3904 r12.1),(86,iV p29),(87,.optr 3904 2 (0+p29.toNat) 0),(88,.optr 3904 2 (0+p29.toNat) 0),(89,.str y50.key),(90,Be 3904 r12.1),(91,iV p29),(92,.optr 3904 2 (0+p29.toNat) 0),(93,.optr 3904 2 (0+p29.toNat) 1),(94,.str y50.value),(95,.agg (Ie y50.key y50.value false))],Ft r6.1 [(832,[Eo 4865 p30,Bo 4866 p31]),(960,[Eo 961 [],Bo 962 []])],[]⟩ (Er (by kernel_rfl)) ⟨[iQ 94 (.load (.t 93) 1 false),iQ 89 (.load (.t 88) 1 false)],⟨⟨.inl tv,Bl (Bw ⟨tv,tv,tv⟩ rfl ⟨⟨rfl,rfl,nl rfl⟩,⟨rfl,rfl,nl rfl⟩,tv⟩) rfl⟩,⟨.inr (.head _),Xu rfl rfl e51 rfl⟩,⟨.inl tv,Bl (Bw ⟨tv,tv⟩ rfl tv) rfl⟩,⟨.inl tv,Bl (ci_ rfl rfl e49) rfl⟩,⟨.inl tv,Bl (Qc (v:=iV p29) rfl tv) rfl⟩,⟨.inl tv,Bl (Qc (v:=Be 3904 r12.1) rfl tv) rfl⟩,⟨.inr (.tail _ (.head _)),Xu rfl rfl e51 rfl⟩,⟨.inl tv,Bl (Bw ⟨tv,tv⟩ rfl tv) rfl⟩,⟨.inl tv,Bl (ci_ rfl rfl e49) rfl⟩,⟨.inl tv,Bl (Qc (v:=iV p29) rfl tv) rfl⟩,⟨.inl tv,Bl (Qc (v:=Be 3904 r12.1) rfl tv) rfl⟩,⟨.inl tv,Bl (Bw ⟨tv,tv⟩ rfl (nl rfl)) rfl⟩,tv⟩,⟨Xu rfl rfl e51 rfl,Xu rfl rfl e51 rfl,tv⟩,Cb (Ky ⟨tv,tv⟩ ⟨⟨nl rfl,rfl,rfl⟩,tv⟩ (d0 hB (Cb (Cm (r:=.tup [.agg (By r52.1 (Al 0) (Al 1)),iV r52.2]) true (H382 (Ay.mk p30 p31) ([Ar.mk y50.key y50.value false]:List Ar) r52 e53) ⟨tv,tv,tv⟩ rfl rfl (fun h=>nomatch h) (dw [(1,Eb a1),(5,.ptr 320 0),(11,Be 3904 r12.1),(13,.ptr 832 0),(14,iV p29),(15,.ptr 960 0),(97,.tup [.agg (By r52.1 (Al 6208) (Al 6209)),iV r52.2])] [(320,Bi r6.1 (Al 3072) (Al 3073) (Al 3074)),(832,[Eb p30,Cr p31]),(960,[Eo 961 [],Bo 962 []])] tv (d_ (At 3 (Bm (Cb (Gc rfl rfl tv rfl rfl rfl (nl rfl) (d0 hB (d_ (At 2 ?_)))) Az)))))) Az))) Az⟩
       exact jn J54 rfl
    ·obtain rfl:=sj h1
     obtain rfl:=hx1 _ rfl
     refine Iw rfl ?_
     exact jn hE1 ⟨_,_,rfl,rfl⟩
end Go.Ev
