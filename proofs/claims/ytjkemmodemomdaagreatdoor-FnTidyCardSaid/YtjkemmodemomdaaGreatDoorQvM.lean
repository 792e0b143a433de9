/- Steps of the small machine, second part: slices, rows that grow, calls, ends, drawn orders. -/
import Derived.Test.YtjkemmodemomdaaGreatDoorQvL
set_option linter.all false
namespace Go.Ev
def pB {α:Type} (l:List α) (lo hi:Int):Option (List α):=if 0≤lo∧lo≤hi∧hi≤l.length then some ((l.take hi.toNat).drop lo.toNat) else none
theorem eD {α:Type} {l y:List α} {lo hi:Int} (h:pB l lo hi=some y):0≤lo∧lo≤hi∧hi≤l.length∧y=(l.take hi.toNat).drop lo.toNat:=by
 unfold pB at h
 split at h
 ·rename_i hc
  exact ⟨hc.1,hc.2.1,hc.2.2,(Option.some.inj h).symm⟩
 ·cases h
def ovl {α:Type} (l:List α) (at_:Nat) (ys:List α):List α:=l.mapIdx fun i e=>if at_≤i then (ys[i-at_]?).getD e else e
theorem Vi {α:Type} {e:α→List V} {l ys:List α} {off i:Nat}:Dm off (l.map e) (off+i) (ys.map e)=(ovl l i ys).map e:=by
 unfold Dm ovl
 apply List.ext_getElem?
 intro k
 simp only [List.getElem?_mapIdx,List.getElem?_map]
 cases hk:l[k]? with
 | none=>rfl
 | some z=>
  simp only [Option.map_some]
  by_cases h:i≤k
  ·have e1:off+k-(off+i)=k-i:=by omega
   rw [if_pos (by omega),if_pos h,e1]
   cases ys[k-i]? <;> rfl
  ·rw [if_neg (by omega),if_neg h]
section
variable {C:Bb} {Q:Ex→St→Prop} {S:St} {T:List Et} {l:List Bq} {d:Option Nat} {K:St→Prop} {i:Bq}
theorem Dk {x:Ay} {v:V} (h:S.val x=v) (hm:Af true v):Af true (S.val x):=by rw [h]; exact hm
theorem Xw {α:Type} {e:α→List V} {l0 y:List α} {x:Ay} {lo hi:Option Ay} {a b:Option Int} {vx:V} {t off sz:Nat} (hx:S.val x=vx) (hx':Ab vx = .own t off sz (l0.map e)) (hm:Af true vx)
  (hm2:Be (nm S) (lo.toList++hi.toList)) (ha:Fz (lo.map fun x=>Ab (S.val x))=some a) (hb:Fz (hi.map fun x=>Ab (S.val x))=some b)
  (hy:pB l0 (a.getD 0) (b.getD l0.length)=some y):Cf S (.p (.slice x lo hi sz)) (.own t (off+(a.getD 0).toNat) sz (y.map e)):=by
 obtain ⟨h1,h2,h3,rfl⟩:=eD hy
 refine ⟨⟨Dk hx hm,hm2⟩,?_⟩
 have h0:(b.getD l0.length).toNat-l0.length=0:=by omega
 simp only [pu,hx,hx',ha,hb,List.length_map,h0,dU,List.replicate_zero,List.append_nil,List.map_take,List.map_drop]
 exact ⟨_,rfl,trivial,h1,h2,.inl h3⟩
theorem Un {α:Type} {e:α→List V} {l0:List α} {x:Ay} {vx:V} {t off sz:Nat} (hx:S.val x=vx) (hx':Ab vx = .own t off sz (l0.map e)) (hm:Af true vx) (hz:sz≠0:=by decide):Cf S (.p (.len x)) (.int .i64 (l0.length:Int)):=by
 refine ⟨⟨Dk hx hm,trivial⟩,(sz≠0),?_,hz⟩
 simp only [pu,hx,hx',List.length_map]
theorem Um {α:Type} {e:α→List V} {l0:List α} {x i:Ay} {vx vi:V} {t off sz:Nat} {k:IntKind} {n:Int} {y:α} (hx:S.val x=vx) (hx':Ab vx = .own t off sz (l0.map e)) (hmx:Af true vx)
  (hi:S.val i=vi) (hi':Ab vi = .int k n) (hmi:Af true vi) (hy:Je l0 n=some y):Cf S (.p (.idxA x i sz)) (.optr t sz (off+n.toNat) 0):=by
 obtain ⟨h0,h1,h2⟩:=Qc hy
 refine ⟨⟨Dk hx hmx,Dk hi hmi,trivial⟩,sz=sz∧0≤n∧n<(l0.map e).length,?_,rfl,h0,by simpa using h1⟩
 simp only [pu,hx,hi,hx',hi']
theorem Hs {α:Type} {e:α→List V} {l0:List α} {x:Ay} {vx:V} {t off sz j k n i:Nat} {ag:Bool} {y:α} {v:V} (hx:S.val x=vx) (hx':Ab vx = .optr t sz j k) (hm:Af true vx) (hf:S.find t=some (off,l0.map e)) (hj:j=off+i)
  (hy:l0[i]? = some y) (hv:Iz ag n ((e y).drop k)=some v) (hn:k+n≤sz) (hsz:(e y).length=sz) (hdp:Az t=false:=by rfl):Cf S (.p (.load x n ag)) v:=by
 subst hj
 have hlt:=(List.getElem?_eq_some_iff.1 hy).1
 have hg:(l0.map e).getD (off+i-off) []=e y:=by
  rw [Nat.add_sub_cancel_left]
  simp [List.getD,hy]
 refine ⟨⟨Dk hx hm,trivial⟩,off≤off+i∧off+i<off+(l0.map e).length∧k+n≤sz∧((l0.map e).getD (off+i-off) []).length=sz,?_,Nat.le_add_right _ _,by simp; omega,hn,by rw [hg]; exact hsz⟩
 simp only [pu,hx,hx',hf,tE,hdp,cond_false]
 rw [hg,hv]
theorem c_ {o:PU} {v:V} (h:Cf S (.p o) v) (k:K (S.putC d v (Fv (fun x=>Ab (S.val x)) o))):Cb C ⟨d,.p o,none⟩ S K:=by
 obtain ⟨h1,ψ,h2,h3⟩:=h
 exact p_ h1 h2 h3 k
theorem fN {α:Type} {e:α→List V} {l0 l1:List α} {x y:Ay} {t sz by_:Nat} {vy:V} (hx:S.val x = .own t 0 sz (l0.map e)) (hy:S.val y=vy) (hm:Af true vy) (hs:Jb (Ab vy)=some (sz,l1.map e))
  (ht:t<Au) (hn:(l0.length+l1.length)*by_≤140737488355328) (k:K ((S.drop t).putC d (.own t 0 sz ((l0++l1).map e)) (Ih x (l0.length+l1.length)))) (hdp:Az t=false:=by rfl):Cb C ⟨d,.app sz by_ x y,none⟩ S K:=by
 refine ⟨Dk hx trivial,Dk hy hm,?_⟩
 rw [hx,hy]
 dsimp only [Ab]
 dsimp only [Ab] at hs
 rw [hs]
 refine ⟨ht,rfl,rfl,rfl,by simpa using hn,hdp,?_⟩
 rw [←List.map_append,List.length_map,List.length_map]
 exact k
theorem cap_ {α:Type} {e:α→List V} {l0:List α} {t off sz n:Nat} (hx:S.val (.t n) = .own t off sz (l0.map e))
  (k:∀c:Nat,l0.length≤c→(off=0→c≤9223372036854775807)→(∀c0,S.capOf (.t n)=some c0→Fj≤c0→(c:Int)=c0-Fj)→K (St.put { S with cp:=Ho n (fun _=>some (Fj+c)) S.cp } d (.int .i64 c))) (hz:sz≠0:=by decide):Cb C ⟨d,.cap (.t n),none⟩ S K:=by
 refine ⟨Dk hx trivial,?_⟩
 rw [hx]
 dsimp only [Ab]
 rw [List.length_map]
 exact ⟨hz,k⟩
theorem tC {s:List UInt8} {x i:Ay} {vx vi:V} {n:Int} (hx:S.val x=vx) (hx':Ab vx = .str s) (hmx:Af true vx)
  (hi:S.val i=vi) (hi':Ab vi = .int .u8 n) (hmi:Af true vi):Cf S (.p (.xbyte x i)) (.int .i64 (Sz s n)):=by
 refine ⟨⟨Dk hx hmx,Dk hi hmi,trivial⟩,True,?_,trivial⟩
 simp only [pu,hx,hi,hx',hi']
theorem wR {α:Type} {e:α→List V} {x y:Ay} {d sz by_:Nat} {k1 k2:IntKind} {a c:Int} {zero:List V} (z:α) (hx:S.val x = .int k1 a) (hy:S.val y = .int k2 c) (h0:0≤a) (hac:a=c) (hn:c*by_≤140737488355328)
  (hz:e z=zero) (k:K ((S.drop (64*d)).put (some d) (.own (64*d) 0 sz ((List.replicate a.toNat z).map e)))):Cb C ⟨some d,.make sz by_ zero x y,none⟩ S K:=by
 refine ⟨Dk hx trivial,Dk hy trivial,?_⟩
 rw [hx,hy]
 refine ⟨h0,hac,hn,?_⟩
 rw [List.map_replicate,hz] at k
 exact .inl k
theorem copy_ {α:Type} {e:α→List V} {l0 l1:List α} {x y:Ay} {t off sz:Nat} {vy:V} (hx:S.val x = .own t off sz (l0.map e)) (hy:S.val y=vy) (hm:Af true vy) (hs:Jb (Ab vy)=some (sz,l1.map e))
  (k:K ((S.map (Tz t sz off ((l1.take l0.length).map e))).put d (.int .i64 (min l1.length l0.length:Nat)))) (hdp:Az t=false:=by rfl):Cb C ⟨d,.copy sz x y,none⟩ S K:=by
 refine ⟨Dk hx trivial,Dk hy hm,?_⟩
 rw [hx,hy]
 dsimp only [Ab]
 dsimp only [Ab] at hs
 rw [hs]
 refine ⟨rfl,rfl,hdp,?_⟩
 rw [List.map_take,] at k
 simpa using k
theorem clear_ {α:Type} {e:α→List V} {l0:List α} {z:α} {x:Ay} {t off sz:Nat} {zero:List V} (hx:S.val x = .own t off sz (l0.map e)) (hz:e z=zero)
  (k:K ((S.map (Tz t sz off ((List.replicate l0.length z).map e))).put d .undef)) (hdp:Az t=false:=by rfl):Cb C ⟨d,.clear sz zero x,none⟩ S K:=by
 refine ⟨Dk hx trivial,?_⟩
 rw [hx]
 refine ⟨rfl,hdp,?_⟩
 rw [List.map_replicate,hz] at k
 simpa using k
theorem cS {α:Type} {e:α→List V} {l0:List α} {x:Ay} {sz:Nat} {ne:Bool} (hx:S.val x = .lst sz (l0.map e)) (k:∀b:Bool,(b=true→l0=[])→K (S.put d (.bool (if ne then !b else b)))) (hz:sz≠0:=by decide):
  Cb C ⟨d,.isnil x ne,none⟩ S K:=by
 obtain ⟨s0,rfl⟩:=Nat.exists_eq_succ_of_ne_zero hz
 refine ⟨Dk hx trivial,?_⟩
 rw [hx]
 exact fun b hb=>k b fun h=>by simpa using hb h
theorem eH {x:Ay} {s:List UInt8} (hx:S.val x = .str s) (k:K (S.put d (.lst 1 (s.map Iy)))):Cb C ⟨d,.toBytes x,none⟩ S K:=by
 refine ⟨Dk hx trivial,?_⟩
 rw [hx]
 exact k
theorem oS {sz len d:Nat} {zero:List V} {parts:List (Nat×Ay)} (hm:Be (fun p=>nm S p.2) parts)
  (h:Be (fun p=>p.1<len∧p.2.cells.length=sz∧p.2.cells.all (fun c => !He c)=true) (parts.map fun p=>(p.1,Ab (S.val p.2))))
  (k:K (((S.freezes (Gf (parts.map fun p=>(p.1,Ab (S.val p.2))))).drop (64*d)).put (some d)
    (.own (64*d) 0 sz (Hb sz (List.replicate len zero) ((parts.map fun p=>(p.1,Ab (S.val p.2))).map fun p=>(p.1,p.2.cells.map Cj)))))):
  Cb C ⟨some d,.mkS sz zero len parts,none⟩ S K:=⟨hm,h,.inl k⟩
theorem eO {f:Nat} {args:List V} (fz:Bool) {gv:List V} {r:V} (h:C f ⟨gv,[]⟩ ⟨r,[],[]⟩) (h0:Lk (fun v => !As v) args=true) (hg:args.map (mapW (S.liftC [] [] [] fz))=gv)
  (h3:fz=false→r.flat.all Gb=true) (k:K (((if fz then S.freezes (Bj (Ld args)) else S).drops (Kb (d.getD 0) (Bj r.flat))).put d (Ft (Ek (d.getD 0) 0 [] []) r))):Vw C f args d S K:=by
 have e0:∀l:List Nat,Rp [] l=l:=fun l=>by
  induction l with
  | nil=>rfl
  | cons x r ih=>simp [Rp,ih]
 refine ⟨h0,[],[],[],fz,⟨r,[],[]⟩,⟨rfl,rfl,rfl,rfl⟩,⟨rfl,rfl,rfl⟩,fun hz=>?_,?_,?_⟩
 ·simp [Dh.flat,h3 hz]
 ·subst hg; exact h
 ·simpa [St.after,St.frzTags,St.given,e0,Dh.newR,Dh.newB,Lh,St.rows,St.boxes,St.drops] using k
theorem Cp {f:Nat} {as:List Ay} (fz:Bool) {gv:List V} {r:V} (h:C f ⟨gv,[]⟩ ⟨r,[],[]⟩) (hm:Be (nm S) as) (h0:Lk (fun v => !As v) (as.map fun x=>Ab (S.val x))=true)
  (hg:(as.map fun x=>Ab (S.val x)).map (mapW (S.liftC [] [] [] fz))=gv) (h3:fz=false→r.flat.all Gb=true)
  (k:K (((if fz then S.freezes (Bj (Ld (as.map fun x=>Ab (S.val x)))) else S).drops (Kb (d.getD 0) (Bj r.flat))).put d (Ft (Ek (d.getD 0) 0 [] []) r))):
  Cb C ⟨d,.call f as,none⟩ S K:=⟨hm,.inl (eO fz h h0 hg h3 k)⟩
theorem Mh {f:Nat} {x:Ay} {as:List Ay} {caps:List V} (hx:S.val x = .clo f caps) (fz:Bool) {gv:List V} {r:V} (h:C f ⟨gv,[]⟩ ⟨r,[],[]⟩) (hm:Be (nm S) as)
  (h0:Lk (fun v => !As v) ((as.map fun x=>Ab (S.val x))++caps)=true) (hg:((as.map fun x=>Ab (S.val x))++caps).map (mapW (S.liftC [] [] [] fz))=gv) (h3:fz=false→r.flat.all Gb=true)
  (k:K (((if fz then S.freezes (Bj (Ld ((as.map fun x=>Ab (S.val x))++caps))) else S).drops (Kb (d.getD 0) (Bj r.flat))).put d (Ft (Ek (d.getD 0) 0 [] []) r))):
  Cb C ⟨d,.callv x as,none⟩ S K:=by
 refine ⟨Dk hx trivial,hm,?_⟩
 rw [hx]
 exact eO fz h h0 hg h3 k
theorem tY {f:Nat} {args:List V} (LB LR LM:List Nat) (fz:Bool) {g:Lj} {t:Dh} (h:C f g t) (h0:Lk (fun v => !As v) args=true) (hg:S.give args LB LR LM fz=g)
  (h1:(Bn LB&&Bn (LR++LM)&&Lv Au LM&&LB.all (fun T=>(look S.bx T).isSome))=true)
  (h2:(Lv 33 [t.bx.length-LB.length,LM.length,LR.length]&&Hx (t.newB (d.getD 0) LB.length) LB&&Hx (t.newR (d.getD 0)) LR)=true) (h3:fz=false→t.flat=true)
  (k:K ((S.after args (d.getD 0) fz LB LR LM t).put d (Ft (Ek (d.getD 0) (t.bx.length-LB.length) LB LR) t.r))):Vw C f args d S K:=by
 simp only [Bool.and_eq_true] at h1 h2
 refine ⟨h0,LB,LR,LM,fz,t,⟨h1.1.1.1,h1.1.1.2,h1.1.2,h1.2⟩,⟨h2.1.1,h2.1.2,h2.2⟩,h3,?_,k⟩
 subst hg; exact h
theorem Eh {f:Nat} {as:List Ay} (LB LR LM:List Nat) (fz:Bool) {g:Lj} {t:Dh} (h:C f g t) (hm:Be (nm S) as) (h0:Lk (fun v => !As v) (as.map fun x=>Ab (S.val x))=true)
  (hg:S.give (as.map fun x=>Ab (S.val x)) LB LR LM fz=g)
  (h1:(Bn LB&&Bn (LR++LM)&&Lv Au LM&&LB.all (fun T=>(look S.bx T).isSome))=true)
  (h2:(Lv 33 [t.bx.length-LB.length,LM.length,LR.length]&&Hx (t.newB (d.getD 0) LB.length) LB&&Hx (t.newR (d.getD 0)) LR)=true) (h3:fz=false→t.flat=true)
  (k:K ((S.after (as.map fun x=>Ab (S.val x)) (d.getD 0) fz LB LR LM t).put d (Ft (Ek (d.getD 0) (t.bx.length-LB.length) LB LR) t.r))):Cb C ⟨d,.call f as,none⟩ S K:=
 ⟨hm,.inl (tY LB LR LM fz h h0 hg h1 h2 h3 k)⟩
theorem Fb {f:Nat} {as:List Ay} {gs:Nat} {want g:Bool} (hgv:Jc (S.val (.t gs)) want=some g) (fz:Bool) {gv:List V} {r:V} (h:g=true→C f ⟨gv,[]⟩ ⟨r,[],[]⟩)
  (hm:Be (fun x=>Af g (S.val x)) as) (h0:g=true→Lk (fun v => !As v) (as.map fun x=>Ab (S.val x))=true)
  (hg:g=true→(as.map fun x=>Ab (S.val x)).map (mapW (S.liftC [] [] [] fz))=gv) (h3:fz=false→r.flat.all Gb=true) (h4:fz=true→Bj (Ld (as.map fun x=>Ab (S.val x)))=[])
  (k:K (S.put d (.may g (Ft Jn r)))):Cb C ⟨d,.call f as,some (gs,want)⟩ S K:=by
 unfold Cb
 dsimp only
 rw [hgv]
 exact .inl ⟨hm,h0,fz,r,fun e=>by have:=hg e; subst this; exact h e,h3,h4,k⟩
theorem zY {o:PU} {x:Int} (h:Cf S (.p o) (.int .u8 (IntKind.u8.wrap x))):Cf S (.p o) (.int .u8 ((b8 x).toNat:Int)):=by
 unfold b8
 rw [pG]
 exact h
theorem nG {α:Type} {e:α→List V} {xs:List α} {t off sz:Nat} (h:∀x,(e x).all scal=true):Gb (.own t off sz (xs.map e))=true:=by
 simp only [Gb,Bool.or_eq_true]
 refine .inr ?_
 simp only [List.all_map,List.all_eq_true,Function.comp]
 intro x _
 exact List.all_eq_true.1 (h x)
theorem Co {res:List Su} {nb:Nat} {t:Dh} {v:V} {css:List (List V)} (h1:dT S res=some v) (h2:Io S (On nb++Cw v.flat)=some css)
  (h3:Lv 33 [(Fe (v.flat++css.flatten)).length,(Cw v.flat).length]=true) (h4:Ft (My (Fe (v.flat++css.flatten)) (Cw v.flat)) v=t.r)
  (h5:Jy (My (Fe (v.flat++css.flatten)) (Cw v.flat)) css=t.bx) (h6:Mz S 0 t.rw):FQ res nb t .ret S:=by
 refine ⟨S,Fg.refl S,?_⟩
 unfold Xo
 rw [h1]
 show Rd S v nb t
 unfold Rd
 dsimp only
 rw [h2]
 exact ⟨h3,h4,h5,h6⟩
theorem wT {res:List Su} {nb:Nat} {t:Dh} {S1:St} (hf:Fg S S1) (h:FQ res nb t .ret S1):FQ res nb t .ret S:=by
 obtain ⟨S2,h1,h2⟩:=h
 exact ⟨S2,hf.trans h1,h2⟩
theorem AO {fn:Es} {args:List V} {bx:List (List V)} {t:Dh} (h0:args.length≤fn.nt) (h:WL C [.c fn.body] (FQ fn.res bx.length t) .normal ⟨Lb args 0,Lc bx Au,[]⟩):Yy C fn ⟨args,bx⟩ t:=⟨h0,.inl h⟩
theorem Ww {d:Option Nat} {v:V} {f g:List (Nat×Int)→Option Int} (h:f S.cp=g S.cp):S.putC d v f=S.putC d v g:=by
 cases d with
 | none=>rfl
 | some d=>
  have:Ho d f S.cp=Ho d g S.cp:=by
   cases hl:S.cp with
   | nil=>rw [hl] at h; simp only [Ho,h]
   | cons p r=>rw [hl] at h; simp only [Ho,h]
  simp only [St.putC,this]
theorem Fk {p:DP} (h:WD C p [] (WL C T Q .normal) S):WL C (.c (.draw p)::T) Q .normal S:=h
section
variable {X:List Bq}
theorem Td (h:K S):WD C .fin X K S:=h
theorem Ai {p:DP} (h1:Bu i S) (h2:Cb C i S (fun S'=>Ct C X S'∧WD C p X K S')):WD C (.take i p) X K S:=.inl ⟨h1,h2⟩
theorem tD {p:DP} (h2:Cb C i S (fun S'=>Ct C (i::X) S'∧WD C p (i::X) K S')):WD C (.take i p) X K S:=.inr h2
theorem Dl:WD C .stop X K S:=trivial
theorem Gl {held:List Bq} {r rest:DP} (h1:Cb C i S (fun S'=>∃S1,Fg S' S1∧∃X',Fp C X' held S1∧Ct C X' S1∧WD C r X' K S1)) (h2:WD C rest X K S):WD C (.alt held i r rest) X K S:=⟨h1,h2⟩
theorem qC {held:List Bq} {r:DP} (h:∃X',Fp C X' held S∧Ct C X' S∧WD C r X' K S):∃S1,Fg S S1∧∃X',Fp C X' held S1∧Ct C X' S1∧WD C r X' K S1:=⟨S,Fg.refl S,h⟩
theorem Wo {held:List Bq} {r:DP} (S1:St) (hf:Fg S S1) (h:∃X',Fp C X' held S1∧Ct C X' S1∧WD C r X' K S1):∃S1,Fg S S1∧∃X',Fp C X' held S1∧Ct C X' S1∧WD C r X' K S1:=⟨S1,hf,h⟩
theorem qN {d:Nat} {v:V} (hl:look S.env d=some v) (hc:S.cp=[]):Pj (S.put (some d) v) S:=by
 constructor
 ·intro t
  show look ((d,v)::S.env) t=_
  simp only [look]
  split
  ·rename_i e; subst e; exact hl.symm
  ·rfl
 ·intro k
  show look (Ho d (fun _=>none) S.cp) k=look S.cp k
  rw [hc]; rfl
theorem Sa (hc:S.cp=[]) (x:Ay):S.capOf x=none:=by
 cases x with
 | t n=>show look S.cp n=none; rw [hc]; rfl
 | c v=>rfl
theorem Wi (hc:S.cp=[]) {rd:Ay→V} (o:PU):Jm S rd o=none:=by
 cases o<;>try rfl
 case mv x=>exact Sa hc x
 case slice x lo hi sz=>
  simp only [Jm,Fv]
  rw [show Ii S.cp x=none from Sa hc x]
theorem Cv {o:PU} {d:Nat} {v:V} (h:Cf S (.p o) v) (hl:look S.env d=some v) (hc:S.cp=[]:=by rfl):Cb C ⟨some d,.p o,none⟩ S (fun S'=>Pj S' S):=
 c_ h (by rw [Ww (g:=fun _=>none) (Wi hc o)]; exact qN hl hc)
theorem Gx {o:PU} {d:Nat} {v:V} {gs:Nat} {want g:Bool} (hg:Jc (S.val (.t gs)) want=some g) (h:g=true→Cf S (.p o) v) (hl:look S.env d=some (.may g v)) (hc:S.cp=[]:=by rfl):Cb C ⟨some d,.p o,some (gs,want)⟩ S (fun S'=>Pj S' S):=Da hg h (qN hl hc)
end
end
end Go.Ev
