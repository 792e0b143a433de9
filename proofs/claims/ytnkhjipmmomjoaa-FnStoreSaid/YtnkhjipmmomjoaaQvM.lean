/- Steps of the small machine, second part: slices, rows that grow, calls, ends, drawn orders. -/
import Derived.Test.YtnkhjipmmomjoaaQvL
set_option linter.all false
namespace Go.Ev
def Hx {α:Type} (l:List α) (lo hi:Int):Option (List α):=if 0≤lo∧lo≤hi∧hi≤l.length then some ((l.take hi.toNat).drop lo.toNat) else none
theorem Vb {α:Type} {l y:List α} {lo hi:Int} (h:Hx l lo hi=some y):0≤lo∧lo≤hi∧hi≤l.length∧y=(l.take hi.toNat).drop lo.toNat:=by
 unfold Hx at h
 split at h
 ·rename_i hc
  exact ⟨hc.1,hc.2.1,hc.2.2,(Option.some.inj h).symm⟩
 ·cases h
def ovl {α:Type} (l:List α) (at_:Nat) (ys:List α):List α:=l.mapIdx fun i e=>if at_≤i then (ys[i-at_]?).getD e else e
theorem Ee {α:Type} {e:α→List V} {l ys:List α} {off i:Nat}:Ei off (l.map e) (off+i) (ys.map e)=(ovl l i ys).map e:=by
 unfold Ei ovl
 apply List.ext_getElem?
 intro k
 simp only [List.getElem?_mapIdx,List.getElem?_map]
 cases hk:l[k]? with
 | none=>rfl
 | some z=>
  simp only [Option.map_some]
  by_cases h:i≤k
  ·have e1:off+k-(off+i)=k-i:=by omega
   rw [if_pos (by omega),if_pos h,e1]
   cases ys[k-i]? <;> rfl
  ·rw [if_neg (by omega),if_neg h]
section
variable {C:Bf} {Q:Ex→St→Prop} {S:St} {T:List Fz} {l:List Bi} {d:Option Nat} {K:St→Prop} {i:Bi}
theorem Ce {x:Bm} {v:V} (h:S.val x=v) (hm:Au true v):Au true (S.val x):=by rw [h]; exact hm
theorem Gp {α:Type} {e:α→List V} {l0 y:List α} {x:Bm} {lo hi:Option Bm} {a b:Option Int} {vx:V} {sz:Nat} (hx:S.val x=vx) (hx':Am vx = .lst sz (l0.map e)) (hm:Au true vx)
  (hm2:Bt (nm S) (lo.toList++hi.toList)) (ha:Ep (lo.map fun x=>Am (S.val x))=some a) (hb:Ep (hi.map fun x=>Am (S.val x))=some b)
  (hy:Hx l0 (a.getD 0) (b.getD l0.length)=some y):Cj S (.p (.slice x lo hi sz)) (.lst sz (y.map e)):=by
 obtain ⟨h1,h2,h3,rfl⟩:=Vb hy
 refine ⟨⟨Ce hx hm,hm2⟩,?_⟩
 simp only [pu,hx,hx',ha,hb,List.length_map,←List.map_take,←List.map_drop]
 exact ⟨_,rfl,trivial,h1,h2,h3⟩
theorem De {α:Type} {e:α→List V} {l0 y:List α} {x:Bm} {lo hi:Option Bm} {a b:Option Int} {vx:V} {t off sz:Nat} (hx:S.val x=vx) (hx':Am vx = .own t off sz (l0.map e)) (hm:Au true vx)
  (hm2:Bt (nm S) (lo.toList++hi.toList)) (ha:Ep (lo.map fun x=>Am (S.val x))=some a) (hb:Ep (hi.map fun x=>Am (S.val x))=some b)
  (hy:Hx l0 (a.getD 0) (b.getD l0.length)=some y):Cj S (.p (.slice x lo hi sz)) (.own t (off+(a.getD 0).toNat) sz (y.map e)):=by
 obtain ⟨h1,h2,h3,rfl⟩:=Vb hy
 refine ⟨⟨Ce hx hm,hm2⟩,?_⟩
 have h0:(b.getD l0.length).toNat-l0.length=0:=by omega
 simp only [pu,hx,hx',ha,hb,List.length_map,h0,Uz,List.replicate_zero,List.append_nil,List.map_take,List.map_drop]
 exact ⟨_,rfl,trivial,h1,h2,.inl h3⟩
theorem cY {s y:List UInt8} {x:Bm} {lo hi:Option Bm} {a b:Option Int} {vx:V} (hx:S.val x=vx) (hx':Am vx = .str s) (hm:Au true vx)
  (hm2:Bt (nm S) (lo.toList++hi.toList)) (ha:Ep (lo.map fun x=>Am (S.val x))=some a) (hb:Ep (hi.map fun x=>Am (S.val x))=some b)
  (hy:Hx s (a.getD 0) (b.getD s.length)=some y):Cj S (.p (.sliceStr x lo hi)) (.str y):=by
 obtain ⟨h1,h2,h3,rfl⟩:=Vb hy
 refine ⟨⟨Ce hx hm,hm2⟩,?_⟩
 simp only [pu,hx,hx',ha,hb]
 exact ⟨_,rfl,h1,h2,h3⟩
theorem Ve:∀l:List UInt8,Vr (l.map Bo)=l
 | []=>rfl
 | b::r=>by
  simp only [List.map_cons,Bo,Vr]
  rw [Ve r]
  simp
theorem Sj {x:Bm} {vx:V} {s:List UInt8} (hx:S.val x=vx) (hx':Am vx = .lst 1 (s.map Bo)) (hm:Au true vx):Cj S (.p (.toStr x)) (.str s):=by
 refine ⟨⟨Ce hx hm,trivial⟩,?_⟩
 simp only [pu,hx,hx',Ve]
 exact ⟨_,rfl,trivial,rfl⟩
theorem cZ {x:Bm} {vx:V} {s:List UInt8} {t off:Nat} (hx:S.val x=vx) (hx':Am vx = .own t off 1 (s.map Bo)) (hm:Au true vx):Cj S (.p (.toStr x)) (.str s):=by
 refine ⟨⟨Ce hx hm,trivial⟩,?_⟩
 simp only [pu,hx,hx',Ve]
 exact ⟨_,rfl,trivial,rfl⟩
theorem Ez {α:Type} {e:α→List V} {l0:List α} {x:Bm} {vx:V} {t off sz:Nat} (hx:S.val x=vx) (hx':Am vx = .own t off sz (l0.map e)) (hm:Au true vx) (hz:sz≠0:=by decide):Cj S (.p (.len x)) (.int .i64 (l0.length:Int)):=by
 refine ⟨⟨Ce hx hm,trivial⟩,(sz≠0),?_,hz⟩
 simp only [pu,hx,hx',List.length_map]
theorem Hw {α:Type} {e:α→List V} {l0:List α} {x i:Bm} {vx vi:V} {t off sz:Nat} {k:IntKind} {n:Int} {y:α} (hx:S.val x=vx) (hx':Am vx = .own t off sz (l0.map e)) (hmx:Au true vx)
  (hi:S.val i=vi) (hi':Am vi = .int k n) (hmi:Au true vi) (hy:Ew l0 n=some y):Cj S (.p (.idxA x i sz)) (.optr t sz (off+n.toNat) 0):=by
 obtain ⟨h0,h1,h2⟩:=Ud hy
 refine ⟨⟨Ce hx hmx,Ce hi hmi,trivial⟩,sz=sz∧0≤n∧n<(l0.map e).length,?_,rfl,h0,by simpa using h1⟩
 simp only [pu,hx,hi,hx',hi']
theorem Cd {α:Type} {e:α→List V} {l0:List α} {x:Bm} {vx:V} {t off sz j k n i:Nat} {ag:Bool} {y:α} {v:V} (hx:S.val x=vx) (hx':Am vx = .optr t sz j k) (hm:Au true vx) (hf:S.find t=some (off,l0.map e)) (hj:j=off+i)
  (hy:l0[i]? = some y) (hv:Lf ag n ((e y).drop k)=some v) (hn:k+n≤sz) (hsz:(e y).length=sz):Cj S (.p (.load x n ag)) v:=by
 subst hj
 have hlt:=(List.getElem?_eq_some_iff.1 hy).1
 have hg:(l0.map e).getD (off+i-off) []=e y:=by
  rw [Nat.add_sub_cancel_left]
  simp [List.getD,hy]
 refine ⟨⟨Ce hx hm,trivial⟩,off≤off+i∧off+i<off+(l0.map e).length∧k+n≤sz∧((l0.map e).getD (off+i-off) []).length=sz,?_,Nat.le_add_right _ _,by simp; omega,hn,by rw [hg]; exact hsz⟩
 simp only [pu,hx,hx',hf]
 rw [hg,hv]
theorem c_ {o:PU} {v:V} (h:Cj S (.p o) v) (k:K (S.putC d v (Hi (fun x=>Am (S.val x)) o))):Cn C ⟨d,.p o,none⟩ S K:=by
 obtain ⟨h1,ψ,h2,h3⟩:=h
 exact p_ h1 h2 h3 k
theorem Hc {α:Type} {e:α→List V} {l0 l1:List α} {x y:Bm} {t sz by_:Nat} {vy:V} (hx:S.val x = .own t 0 sz (l0.map e)) (hy:S.val y=vy) (hm:Au true vy) (hs:Oa (Am vy)=some (sz,l1.map e))
  (ht:t<Bx) (hn:(l0.length+l1.length)*by_≤140737488355328) (k:K ((S.drop t).putC d (.own t 0 sz ((l0++l1).map e)) (Hh x (l0.length+l1.length)))):Cn C ⟨d,.app sz by_ x y,none⟩ S K:=by
 refine ⟨Ce hx trivial,Ce hy hm,?_⟩
 rw [hx,hy]
 dsimp only [Am]
 dsimp only [Am] at hs
 rw [hs]
 refine ⟨ht,rfl,rfl,rfl,by simpa using hn,?_⟩
 rw [←List.map_append,List.length_map,List.length_map]
 exact k
theorem iN {α:Type} {e:α→List V} {l0:List α} {x y:Bm} {t sz by_:Nat} {ki:IntKind} {l:Int} {zero:List V} (z:α) (hx:S.val x = .own t 0 sz (l0.map e)) (hy:S.val y = .int ki l) (hz:e z=zero)
  (ht:t<Bx) (h0:0≤l) (hn:((l0.length:Int)+l)*by_≤140737488355328) (k:K ((S.drop t).putC d (.own t 0 sz ((l0++List.replicate l.toNat z).map e)) (Hh x (l0.length+l.toNat)))):Cn C ⟨d,.appz sz by_ zero x y,none⟩ S K:=by
 refine ⟨Ce hx trivial,Ce hy trivial,?_⟩
 rw [hx,hy]
 dsimp only [Am]
 refine ⟨ht,rfl,rfl,h0,by simpa using hn,?_⟩
 rw [List.map_append,List.map_replicate,hz] at k
 rw [List.length_map]
 exact .inl k
theorem SO {α:Type} {e:α→List V} {l0:List α} {x y:Bm} {t sz by_ d':Nat} {ki:IntKind} {l c:Int} {zero:List V} (z:α) (hx:S.val x = .own t 0 sz (l0.map e)) (hy:S.val y = .int ki l) (hz:e z=zero)
  (ht:t<Bx) (h0:0≤l) (hn:((l0.length:Int)+l)*by_≤140737488355328) (hc:S.capOf x=some c) (hc1:Em≤c) (hc2:c-Em<l0.length+l)
  (k:K ((S.drop (64*d')).put (some d') (.own (64*d') 0 sz ((l0++List.replicate l.toNat z).map e)))):Cn C ⟨some d',.appz sz by_ zero x y,none⟩ S K:=by
 refine ⟨Ce hx trivial,Ce hy trivial,?_⟩
 rw [hx,hy]
 dsimp only [Am]
 refine ⟨ht,rfl,rfl,h0,by simpa using hn,?_⟩
 rw [List.map_append,List.map_replicate,hz] at k
 rw [List.length_map]
 exact .inr ⟨d',c,rfl,hc,hc1,hc2,k⟩
theorem cap_ {α:Type} {e:α→List V} {l0:List α} {t off sz n:Nat} (hx:S.val (.t n) = .own t off sz (l0.map e))
  (k:∀c:Nat,l0.length≤c→(off=0→c≤9223372036854775807)→(∀c0,S.capOf (.t n)=some c0→Em≤c0→(c:Int)=c0-Em)→K (St.put { S with cp:=Ja n (fun _=>some (Em+c)) S.cp } d (.int .i64 c))) (hz:sz≠0:=by decide):Cn C ⟨d,.cap (.t n),none⟩ S K:=by
 refine ⟨Ce hx trivial,?_⟩
 rw [hx]
 dsimp only [Am]
 rw [List.length_map]
 exact ⟨hz,k⟩
theorem covl {x y:Bm} {t off sz t' off' sz':Nat} {es es':List (List V)} (hx:S.val x = .own t off sz es) (hy:S.val y = .own t' off' sz' es') (h:t≠t') (h1:es≠[]) (h2:es'≠[]) (hz:sz≠0:=by decide) (hz':sz'≠0:=by decide):Cj S (.p (.ovl x y)) (.bool false):=by
 refine ⟨⟨Ce hx trivial,Ce hy trivial,trivial⟩,(t≠t'∧(es≠[]∧es'≠[])∧sz≠0∧sz'≠0),?_,h,⟨h1,h2⟩,hz,hz'⟩
 simp only [pu,hx,hy,Am]
theorem XY {s:List UInt8} {x i:Bm} {vx vi:V} {n:List UInt8} (hx:S.val x=vx) (hx':Am vx = .str s) (hmx:Au true vx)
  (hi:S.val i=vi) (hi':Am vi = .str n) (hmi:Au true vi):Cj S (.p (.scmp x i)) (.int .i64 (Vj s n)):=by
 refine ⟨⟨Ce hx hmx,Ce hi hmi,trivial⟩,True,?_,trivial⟩
 simp only [pu,hx,hi,hx',hi']
theorem YG {α:Type} {e:α→List V} {x y:Bm} {d sz by_:Nat} {k1 k2:IntKind} {a c:Int} {zero:List V} (z:α) (hx:S.val x = .int k1 a) (hy:S.val y = .int k2 c) (h0:0≤a) (hac:a=c) (hn:c*by_≤140737488355328)
  (hz:e z=zero) (k:K ((S.drop (64*d)).put (some d) (.own (64*d) 0 sz ((List.replicate a.toNat z).map e)))):Cn C ⟨some d,.make sz by_ zero x y,none⟩ S K:=by
 refine ⟨Ce hx trivial,Ce hy trivial,?_⟩
 rw [hx,hy]
 refine ⟨h0,hac,hn,?_⟩
 rw [List.map_replicate,hz] at k
 exact k
theorem copy_ {α:Type} {e:α→List V} {l0 l1:List α} {x y:Bm} {t off sz:Nat} {vy:V} (hx:S.val x = .own t off sz (l0.map e)) (hy:S.val y=vy) (hm:Au true vy) (hs:Oa (Am vy)=some (sz,l1.map e))
  (k:K ((S.map (aO t sz off ((l1.take l0.length).map e))).put d (.int .i64 (min l1.length l0.length:Nat)))):Cn C ⟨d,.copy sz x y,none⟩ S K:=by
 refine ⟨Ce hx trivial,Ce hy hm,?_⟩
 rw [hx,hy]
 dsimp only [Am]
 dsimp only [Am] at hs
 rw [hs]
 refine ⟨rfl,rfl,?_⟩
 rw [List.map_take,] at k
 simpa using k
theorem clear_ {α:Type} {e:α→List V} {l0:List α} {z:α} {x:Bm} {t off sz:Nat} {zero:List V} (hx:S.val x = .own t off sz (l0.map e)) (hz:e z=zero)
  (k:K ((S.map (aO t sz off ((List.replicate l0.length z).map e))).put d .undef)):Cn C ⟨d,.clear sz zero x,none⟩ S K:=by
 refine ⟨Ce hx trivial,?_⟩
 rw [hx]
 refine ⟨rfl,?_⟩
 rw [List.map_replicate,hz] at k
 simpa using k
theorem XW {α:Type} {e:α→List V} {l0:List α} {x lo hi mx:Bm} {t off sz:Nat} {k1 k2 k3:IntKind} {a b c:Int} (hx:S.val x = .own t off sz (l0.map e)) (h1:S.val lo = .int k1 a) (h2:S.val hi = .int k2 b) (h3:S.val mx = .int k3 c)
  (hc:0≤a∧a≤b∧b≤c∧c≤(l0.length:Int)) (k:K (S.put d .undef)) (hz:sz≠0:=by decide):Cn C ⟨d,.chk3 x lo hi mx,none⟩ S K:=by
 obtain ⟨s0,rfl⟩:=Nat.exists_eq_succ_of_ne_zero hz
 refine ⟨⟨Ce hx trivial,Ce h1 trivial,Ce h2 trivial,Ce h3 trivial⟩,?_⟩
 rw [hx,h1,h2,h3]
 exact ⟨hc.1,hc.2.1,hc.2.2.1,by simpa using hc.2.2.2,k⟩
theorem nT {α:Type} {e:α→List V} {l0:List α} {x:Bm} {sz:Nat} {ne:Bool} (hx:S.val x = .lst sz (l0.map e)) (k:∀b:Bool,(b=true→l0=[])→K (S.put d (.bool (if ne then !b else b)))) (hz:sz≠0:=by decide):
  Cn C ⟨d,.isnil x ne,none⟩ S K:=by
 obtain ⟨s0,rfl⟩:=Nat.exists_eq_succ_of_ne_zero hz
 refine ⟨Ce hx trivial,?_⟩
 rw [hx]
 exact fun b hb=>k b fun h=>by simpa using hb h
theorem Fk {sz len d:Nat} {zero:List V} {parts:List (Nat×Bm)} (hm:Bt (fun p=>nm S p.2) parts)
  (h:Bt (fun p=>p.1<len∧p.2.cells.length=sz∧p.2.cells.all (fun c => !Io c)=true) (parts.map fun p=>(p.1,Am (S.val p.2))))
  (k:K (((S.freezes (Hs (parts.map fun p=>(p.1,Am (S.val p.2))))).drop (64*d)).put (some d)
    (.own (64*d) 0 sz (Il sz (List.replicate len zero) ((parts.map fun p=>(p.1,Am (S.val p.2))).map fun p=>(p.1,p.2.cells.map Dz)))))):
  Cn C ⟨some d,.mkS sz zero len parts,none⟩ S K:=⟨hm,h,k⟩
theorem pD {f:Nat} {args:List V} (fz:Bool) {gv:List V} {r:V} (h:C f ⟨gv,[]⟩ ⟨r,[],[]⟩) (h0:Lp (fun v => !Bk v) args=true) (hg:args.map (mapW (S.liftC [] [] [] fz))=gv)
  (h3:fz=false→r.flat.all Ho=true) (k:K (((if fz then S.freezes (Fx (Mb args)) else S).drops (Ld (d.getD 0) (Fx r.flat))).put d (Gt (Fs (d.getD 0) 0 [] []) r))):aP C f args d S K:=by
 have e0:∀l:List Nat,Vp [] l=l:=fun l=>by
  induction l with
  | nil=>rfl
  | cons x r ih=>simp [Vp,ih]
 refine ⟨h0,[],[],[],fz,⟨r,[],[]⟩,⟨rfl,rfl,rfl,rfl⟩,⟨rfl,rfl,rfl⟩,fun hz=>?_,?_,?_⟩
 ·simp [Eo.flat,h3 hz]
 ·subst hg; exact h
 ·simpa [St.after,St.frzTags,St.given,e0,Eo.newR,Eo.newB,Nz,St.rows,St.boxes,St.drops] using k
theorem Ax {f:Nat} {as:List Bm} (fz:Bool) {gv:List V} {r:V} (h:C f ⟨gv,[]⟩ ⟨r,[],[]⟩) (hm:Bt (nm S) as) (h0:Lp (fun v => !Bk v) (as.map fun x=>Am (S.val x))=true)
  (hg:(as.map fun x=>Am (S.val x)).map (mapW (S.liftC [] [] [] fz))=gv) (h3:fz=false→r.flat.all Ho=true)
  (k:K (((if fz then S.freezes (Fx (Mb (as.map fun x=>Am (S.val x)))) else S).drops (Ld (d.getD 0) (Fx r.flat))).put d (Gt (Fs (d.getD 0) 0 [] []) r))):
  Cn C ⟨d,.call f as,none⟩ S K:=⟨hm,pD fz h h0 hg h3 k⟩
theorem Kj {f:Nat} {x:Bm} {as:List Bm} {caps:List V} (hx:S.val x = .clo f caps) (fz:Bool) {gv:List V} {r:V} (h:C f ⟨gv,[]⟩ ⟨r,[],[]⟩) (hm:Bt (nm S) as)
  (h0:Lp (fun v => !Bk v) ((as.map fun x=>Am (S.val x))++caps)=true) (hg:((as.map fun x=>Am (S.val x))++caps).map (mapW (S.liftC [] [] [] fz))=gv) (h3:fz=false→r.flat.all Ho=true)
  (k:K (((if fz then S.freezes (Fx (Mb ((as.map fun x=>Am (S.val x))++caps))) else S).drops (Ld (d.getD 0) (Fx r.flat))).put d (Gt (Fs (d.getD 0) 0 [] []) r))):
  Cn C ⟨d,.callv x as,none⟩ S K:=by
 refine ⟨Ce hx trivial,hm,?_⟩
 rw [hx]
 exact pD fz h h0 hg h3 k
theorem TR {f:Nat} {args:List V} (LB LR LM:List Nat) (fz:Bool) {g:Oc} {t:Eo} (h:C f g t) (h0:Lp (fun v => !Bk v) args=true) (hg:S.give args LB LR LM fz=g)
  (h1:(Dr LB&&Dr (LR++LM)&&Ou Bx LM&&LB.all (fun T=>(look S.bx T).isSome))=true)
  (h2:(Ou 65 [t.bx.length-LB.length,LM.length]&&Jt (t.newB (d.getD 0) LB.length) LB&&Jt (t.newR (d.getD 0)) LR)=true) (h3:fz=false→t.flat=true)
  (k:K ((S.after args (d.getD 0) fz LB LR LM t).put d (Gt (Fs (d.getD 0) (t.bx.length-LB.length) LB LR) t.r))):aP C f args d S K:=by
 simp only [Bool.and_eq_true] at h1 h2
 refine ⟨h0,LB,LR,LM,fz,t,⟨h1.1.1.1,h1.1.1.2,h1.1.2,h1.2⟩,⟨h2.1.1,h2.1.2,h2.2⟩,h3,?_,k⟩
 subst hg; exact h
theorem Gm {f:Nat} {as:List Bm} (LB LR LM:List Nat) (fz:Bool) {g:Oc} {t:Eo} (h:C f g t) (hm:Bt (nm S) as) (h0:Lp (fun v => !Bk v) (as.map fun x=>Am (S.val x))=true)
  (hg:S.give (as.map fun x=>Am (S.val x)) LB LR LM fz=g)
  (h1:(Dr LB&&Dr (LR++LM)&&Ou Bx LM&&LB.all (fun T=>(look S.bx T).isSome))=true)
  (h2:(Ou 65 [t.bx.length-LB.length,LM.length]&&Jt (t.newB (d.getD 0) LB.length) LB&&Jt (t.newR (d.getD 0)) LR)=true) (h3:fz=false→t.flat=true)
  (k:K ((S.after (as.map fun x=>Am (S.val x)) (d.getD 0) fz LB LR LM t).put d (Gt (Fs (d.getD 0) (t.bx.length-LB.length) LB LR) t.r))):Cn C ⟨d,.call f as,none⟩ S K:=
 ⟨hm,TR LB LR LM fz h h0 hg h1 h2 h3 k⟩
theorem Hu {f:Nat} {as:List Bm} {gs:Nat} {want g:Bool} (hgv:Kr (S.val (.t gs)) want=some g) (fz:Bool) {gv:List V} {r:V} (h:g=true→C f ⟨gv,[]⟩ ⟨r,[],[]⟩)
  (hm:Bt (fun x=>Au g (S.val x)) as) (h0:g=true→Lp (fun v => !Bk v) (as.map fun x=>Am (S.val x))=true)
  (hg:g=true→(as.map fun x=>Am (S.val x)).map (mapW (S.liftC [] [] [] fz))=gv) (h3:fz=false→r.flat.all Ho=true) (h4:fz=true→Fx (Mb (as.map fun x=>Am (S.val x)))=[])
  (k:K (S.put d (.may g (Gt Ol r)))):Cn C ⟨d,.call f as,some (gs,want)⟩ S K:=by
 unfold Cn
 dsimp only
 rw [hgv]
 exact .inl ⟨hm,h0,fz,r,fun e=>by have:=hg e; subst this; exact h e,h3,h4,k⟩
theorem KJ {f:Nat} {x:Bm} {as:List Bm} {caps:List V} {vx:V} {gs:Nat} {want g:Bool} (hgv:Kr (S.val (.t gs)) want=some g) (hx:S.val x=vx) (hx':Am vx = .clo f caps) (hmx:Au g vx) (fz:Bool) {gv:List V} {r:V}
  (h:g=true→C f ⟨gv,[]⟩ ⟨r,[],[]⟩)
  (hm:Bt (fun x=>Au g (S.val x)) as) (h0:g=true→Lp (fun v => !Bk v) ((as.map fun x=>Am (S.val x))++caps)=true)
  (hg:g=true→((as.map fun x=>Am (S.val x))++caps).map (mapW (S.liftC [] [] [] fz))=gv) (h3:fz=false→r.flat.all Ho=true) (h4:fz=true→Fx (Mb ((as.map fun x=>Am (S.val x))++caps))=[])
  (k:K (S.put d (.may g (Gt Ol r)))):Cn C ⟨d,.callv x as,some (gs,want)⟩ S K:=by
 unfold Cn
 dsimp only
 rw [hgv]
 refine .inl ⟨by rw [hx]; exact hmx,hm,?_⟩
 rw [hx,hx']
 exact ⟨h0,fz,r,fun e=>by have:=hg e; subst this; exact h e,h3,h4,k⟩
theorem PD {o:PU} {x:Int} (h:Cj S (.p o) (.int .u8 (IntKind.u8.wrap x))):Cj S (.p o) (.int .u8 ((b8 x).toNat:Int)):=by
 unfold b8
 rw [eK]
 exact h
theorem fl2 {α:Type} {e:α→List V} {xs:List α} (h:∀x,(e x).all Vq=true):((xs.map e).all fun x=>x.all Vq)=true:=by
 simp only [List.all_map,List.all_eq_true,Function.comp]
 intro x _
 exact List.all_eq_true.1 (h x)
theorem TM {α:Type} {e:α→List V} {xs:List α} {n:Nat} (h:∀x,(e x).length=n):∀y∈xs.map e,y.length=n:=by
 intro y hy
 obtain ⟨x,_,rfl⟩:=List.mem_map.1 hy
 exact h x
theorem Jo {α:Type} {e:α→List V} {xs:List α} {t off sz:Nat} (h:∀x,(e x).all Vq=true):Ho (.own t off sz (xs.map e))=true:=by
 simp only [Ho,List.all_map,List.all_eq_true,Function.comp]
 intro x _
 exact List.all_eq_true.1 (h x)
theorem Bj {res:List Xa} {nb:Nat} {t:Eo} {v:V} {css:List (List V)} (h1:oT S res=some v) (h2:Kt S (Ru nb++Dy v.flat)=some css)
  (h3:Ou 65 [(Gu (v.flat++css.flatten)).length,(Dy v.flat).length]=true) (h4:Gt (Qg (Gu (v.flat++css.flatten)) (Dy v.flat)) v=t.r)
  (h5:Mj (Qg (Gu (v.flat++css.flatten)) (Dy v.flat)) css=t.bx) (h6:Qh S 0 t.rw):FQ res nb t .ret S:=by
 refine ⟨S,Fg.refl S,?_⟩
 unfold cO
 rw [h1]
 show Vd S v nb t
 unfold Vd
 dsimp only
 rw [h2]
 exact ⟨h3,h4,h5,h6⟩
theorem YI {res:List Xa} {nb:Nat} {t:Eo} {S1:St} (hf:Fg S S1) (h:FQ res nb t .ret S1):FQ res nb t .ret S:=by
 obtain ⟨S2,h1,h2⟩:=h
 exact ⟨S2,hf.trans h1,h2⟩
theorem fn_ {fn:Dh} {args:List V} {bx:List (List V)} {t:Eo} (h0:args.length≤fn.nt) (h:WL C [.c fn.body] (FQ fn.res bx.length t) .normal ⟨Nv args 0,Nw bx Bx,[]⟩):eR C fn ⟨args,bx⟩ t:=⟨h0,.inl h⟩
theorem YM {α:Type} (l:List α) (a b:Nat) (h:a≤b) (h2:b≤l.length):Hx l (a:Int) ((some (b:Int)).getD l.length)=some ((l.take b).drop a):=by
 unfold Hx
 simp only [Option.getD_some]
 rw [if_pos ⟨by omega,by omega,by omega⟩]
 simp
theorem Yj {α:Type} (l:List α) (a:Nat) (h:a≤l.length):Hx l ((some (a:Int)).getD 0) ((none:Option Int).getD l.length)=some (l.drop a):=by
 unfold Hx
 simp only [Option.getD_some,Option.getD_none]
 rw [if_pos ⟨by omega,by omega,by omega⟩]
 simp
theorem Ur {d:Option Nat} {v:V} {f g:List (Nat×Int)→Option Int} (h:f S.cp=g S.cp):S.putC d v f=S.putC d v g:=by
 cases d with
 | none=>rfl
 | some d=>
  have:Ja d f S.cp=Ja d g S.cp:=by
   cases hl:S.cp with
   | nil=>rw [hl] at h; simp only [Ja,h]
   | cons p r=>rw [hl] at h; simp only [Ja,h]
  simp only [St.putC,this]
theorem UN {α:Type} {e:α→List V} {l0 l1:List α} {x y:Bm} {t sz by_:Nat} {vy:V} {c:Int} (hx:S.val x = .own t 0 sz (l0.map e)) (hy:S.val y=vy) (hm:Au true vy) (hs:Oa (Am vy)=some (sz,l1.map e))
  (ht:t<Bx) (hn:(l0.length+l1.length)*by_≤140737488355328) (hc:S.capOf x=some c) (hle:((l0.length+l1.length:Nat):Int)≤Kv c)
  (k:K ((S.drop t).putC d (.own t 0 sz ((l0++l1).map e)) fun _=>some c)):Cn C ⟨d,.app sz by_ x y,none⟩ S K:=by
 refine Hc hx hy hm hs ht hn ?_
 rw [Ur (g:=fun _=>some c)]
 ·exact k
 ·show Hh x _ S.cp=_
  unfold Hh
  rw [show Ji S.cp x=some c from hc]
  dsimp only
  rw [if_pos hle]
theorem gR {α:Type} {e:α→List V} {R:List α} {x lo hi:Bm} {t sz L H:Nat} {k1 k2:IntKind} {c:Int} (hx:S.val x = .own t 0 sz (R.map e)) (hlo:S.val lo = .int k1 (L:Int)) (hhi:S.val hi = .int k2 (H:Int))
  (hR:R.length=L) (hLH:L≤H) (hsz:0<sz) (hc:S.capOf x=some c) (hH:(H:Int)≤Kv c):Cj S (.p (.slice x (some lo) (some hi) sz)) (.own t L sz (Uz sz (H-L))):=by
 have ha:Ep ((some lo).map fun x=>Am (S.val x))=some (some (L:Int)):=by simp only [Option.map_some,hlo]; rfl
 have hb:Ep ((some hi).map fun x=>Am (S.val x))=some (some (H:Int)):=by simp only [Option.map_some,hhi]; rfl
 refine ⟨⟨Ce hx trivial,Ce hlo trivial,Ce hhi trivial,trivial⟩,?_⟩
 have e1:((R.map e++Uz sz (H-L)).take H).drop L=Uz sz (H-L):=by
  rw [List.take_of_length_le (by simp [Uz]; omega)]
  exact List.drop_left' (by simpa using hR)
 have hx':Am (S.val x) = .own t 0 sz (R.map e):=by rw [hx]; rfl
 simp only [pu,hx',ha,hb,Option.getD_some,List.length_map,Int.toNat_natCast,hR,e1,Nat.zero_add]
 exact ⟨_,rfl,trivial,by omega,by omega,.inr ⟨trivial,hsz,c,hc,hH⟩⟩
def eo {α:Type} (e:α→List V) (k:Nat):Option α→List V
 | none=>List.replicate k .undef
 | some x=>e x
theorem Xi {α:Type} {e:α→List V} {k:Nat} (l:List α):l.map e=(l.map some).map (eo e k):=by
 rw [List.map_map]; rfl
theorem OM {α:Type} {e:α→List V} {l0:List α} {x hi:Bm} {t sz H:Nat} {k2:IntKind} {c:Int} (hx:S.val x = .own t 0 sz (l0.map e)) (hhi:S.val hi = .int k2 (H:Int))
  (hLH:l0.length≤H) (hsz:0<sz) (hc:S.capOf x=some c) (hH:(H:Int)≤Kv c):Cj S (.p (.slice x none (some hi) sz)) (.own t 0 sz ((l0.map some++List.replicate (H-l0.length) none).map (eo e sz))):=by
 have hb:Ep ((some hi).map fun x=>Am (S.val x))=some (some (H:Int)):=by simp only [Option.map_some,hhi]; rfl
 have ha:Ep ((none:Option Bm).map fun x=>Am (S.val x))=some none:=rfl
 refine ⟨⟨Ce hx trivial,Ce hhi trivial,trivial⟩,?_⟩
 have e1:((l0.map e++Uz sz (H-l0.length)).take H).drop 0=(l0.map some++List.replicate (H-l0.length) none).map (eo e sz):=by
  rw [List.drop_zero,List.take_of_length_le (by simp [Uz]; omega),List.map_append,List.map_replicate,←Xi]
  rfl
 have hx':Am (S.val x) = .own t 0 sz (l0.map e):=by rw [hx]; rfl
 simp only [pu,hx',ha,hb,Option.getD_some,Option.getD_none,List.length_map,Int.toNat_natCast,Int.toNat_zero,e1]
 exact ⟨_,rfl,trivial,by omega,by omega,.inr ⟨trivial,hsz,c,hc,hH⟩⟩
theorem pM {x:Int} (n:Nat) (h:x=n) (hb:n≤140737488355328):IntKind.i64.wrap x=n:=by
 subst h
 have e1:IntKind.i64.wrap (n:Int)=if (n:Int)%18446744073709551616≥9223372036854775808 then (n:Int)%18446744073709551616-18446744073709551616 else (n:Int)%18446744073709551616:=by
  simp [IntKind.wrap,IntKind.bits,IntKind.signed]
 rw [e1]; split<;>omega
theorem No {α:Type} {l ys:List α} {i:Nat}:(ovl l i ys).length=l.length:=by simp [ovl]
theorem Ya {α:Type} {l ys:List α} {i:Nat} (h:i+ys.length≤l.length):ovl l i ys=l.take i++ys++l.drop (i+ys.length):=by
 apply List.ext_getElem?
 intro k
 simp only [ovl,List.getElem?_mapIdx,List.append_assoc,List.getElem?_append,List.getElem?_drop,List.length_take,Nat.min_eq_left (show i≤l.length by omega),List.getElem?_take]
 by_cases h1:k<i
 ·simp only [h1,if_true,if_neg (show ¬i≤k by omega)]
  cases l[k]? <;> rfl
 ·simp only [h1,if_false,if_pos (show i≤k by omega)]
  by_cases h2:k-i<ys.length
  ·simp only [h2,if_true]
   have:k<l.length:=by omega
   simp [this,h2]
  ·simp only [h2,if_false]
   rw [show i+ys.length+(k-i-ys.length)=k by omega,List.getElem?_eq_none (show ys.length≤k-i by omega)]
   cases l[k]? <;> rfl
theorem OF {α:Type} {A X Y Z:List α} {i:Nat} (h0:A.length=i+Y.length+Z.length) (h1:A.take i=X):ovl (ovl A (i+Y.length) Z) i Y=X++Y++Z:=by
 have hx:X.length=i:=by rw [←h1]; simp; omega
 have hd:A.drop (i+Y.length+Z.length)=[]:=List.drop_eq_nil_of_le (by omega)
 have e1:ovl A (i+Y.length) Z=A.take (i+Y.length)++Z:=by rw [Ya (by omega),hd,List.append_nil]
 have hl:(A.take (i+Y.length)).length=i+Y.length:=by simp; omega
 have e2:(A.take (i+Y.length)++Z).take i=X:=by rw [List.take_append_of_le_length (by omega),List.take_take,Nat.min_eq_left (by omega),h1]
 have e3:(A.take (i+Y.length)++Z).drop (i+Y.length)=Z:=List.drop_left' hl
 rw [e1,Ya (by rw [List.length_append,hl]; omega),e2,e3]
theorem oI {α:Type} {A X Y Z:List α} {i:Nat} (h0:A.length=i+Y.length+Z.length) (h1:A.take i=X):ovl (ovl A i Y) (i+Y.length) Z=X++Y++Z:=by
 have hx:X.length=i:=by rw [←h1]; simp; omega
 have e1:ovl A i Y=X++Y++A.drop (i+Y.length):=by rw [Ya (by omega),h1]
 have hd:(X++Y++A.drop (i+Y.length)).drop (i+Y.length+Z.length)=[]:=List.drop_eq_nil_of_le (by simp; omega)
 rw [e1,Ya (by simp; omega),hd,List.append_nil,List.take_left' (by simp; omega)]
theorem oG {α:Type} {A:List (Option α)} {a0 a2:List α} {i:Nat} (h0:A.length=a0.length+a2.length) (h1:A.take i=(a0.take i).map some) (hi:i≤a0.length):
  ovl (ovl A (i+a2.length) ((a0.drop i).map some)) i (a2.map some)=(a0.take i++a2++a0.drop i).map some:=by
 have:=OF (A:=A) (Y:=a2.map some) (Z:=(a0.drop i).map some) (by simp; omega) h1
 rw [List.length_map] at this
 rw [this]; simp
theorem OE {α:Type} {R a0 a2:List α} {i:Nat} (h0:R.length=a0.length+a2.length) (h1:R.take i=a0.take i) (hi:i≤a0.length):
  ovl (ovl R i (a2.take (R.drop i).length)) (i+a2.length) ((a0.drop i).take ((ovl R i (a2.take (R.drop i).length)).drop (i+a2.length)).length)=a0.take i++a2++a0.drop i:=by
 have e0:a2.take (R.drop i).length=a2:=List.take_of_length_le (by rw [List.length_drop]; omega)
 have e2:(a0.drop i).take ((ovl R i a2).drop (i+a2.length)).length=a0.drop i:=List.take_of_length_le (by rw [List.length_drop,List.length_drop,No]; omega)
 rw [e0,e2]
 exact oI (by rw [List.length_drop]; omega) h1
theorem Xz {es ys:List (List V)} {at_:Nat} (h:es.length≤at_):Ei 0 es at_ ys=es:=by
 apply List.ext_getElem
 ·simp [Ei]
 ·intro k h1 h2
  simp only [Ei,List.getElem_mapIdx]
  rw [if_neg (by omega)]
theorem mI {x:Bm} {t off sz:Nat} {es:List (List V)} {zero:List V} (hx:S.val x = .own t off sz es) (k:K ((S.map (aO t sz off (List.replicate es.length zero))).put d .undef)):Cn C ⟨d,.clear sz zero x,none⟩ S K:=by
 refine ⟨Ce hx trivial,?_⟩
 rw [hx]
 exact ⟨rfl,k⟩
theorem YH {α:Type} {e:α→List V} {R:List α} {t sz at_:Nat} {ys:List (List V)} (h:R.length≤at_):some (V.own t 0 sz (Ei 0 (R.map e) at_ ys))=some (.own t 0 sz (R.map e)):=by
 rw [Xz (by simpa using h)]
theorem Ds {p:DP} (h:WD C p [] (WL C T Q .normal) S):WL C (.c (.draw p)::T) Q .normal S:=h
theorem XZ {p:DP} (R:St→Prop) (hJ:∀S,R S→WL C T Q .normal S) (h:(∀S S1,Fg S S1→R S1→WL C (.w::T) Q .normal S)→WD C p [] (WL C (.w::T) Q .normal) S):
  WL C (.c (.draw p) :: .w::T) Q .normal S:=h fun _ S1 h1 h2=>⟨S1,h1,hJ S1 h2⟩
section
variable {X:List Bi}
theorem Iu (h:K S):WD C .fin X K S:=h
theorem Ah {p:DP} (h1:Cl i S) (h2:Cn C i S (fun S'=>Dj C X S'∧WD C p X K S')):WD C (.take i p) X K S:=.inl ⟨h1,h2⟩
theorem Qz {p:DP} (h2:Cn C i S (fun S'=>Dj C (i::X) S'∧WD C p (i::X) K S')):WD C (.take i p) X K S:=.inr h2
theorem Dl:WD C .stop X K S:=trivial
theorem Fm {held:List Bi} {r rest:DP} (h1:Cn C i S (fun S'=>∃S1,Fg S' S1∧∃X',Fn C X' held S1∧Dj C X' S1∧WD C r X' K S1)) (h2:WD C rest X K S):WD C (.alt held i r rest) X K S:=⟨h1,h2⟩
theorem Wg {held:List Bi} {r:DP} (h:∃X',Fn C X' held S∧Dj C X' S∧WD C r X' K S):∃S1,Fg S S1∧∃X',Fn C X' held S1∧Dj C X' S1∧WD C r X' K S1:=⟨S,Fg.refl S,h⟩
theorem mP {held:List Bi} {r:DP} (S1:St) (hf:Fg S S1) (h:∃X',Fn C X' held S1∧Dj C X' S1∧WD C r X' K S1):∃S1,Fg S S1∧∃X',Fn C X' held S1∧Dj C X' S1∧WD C r X' K S1:=⟨S1,hf,h⟩
theorem PO {d:Nat} {v:V} (hl:look S.env d=some v) (hc:S.cp=[]):Ti (S.put (some d) v) S:=by
 constructor
 ·intro t
  show look ((d,v)::S.env) t=_
  simp only [look]
  split
  ·rename_i e; subst e; exact hl.symm
  ·rfl
 ·intro k
  show look (Ja d (fun _=>none) S.cp) k=look S.cp k
  rw [hc]; rfl
theorem Wf (hc:S.cp=[]) (x:Bm):S.capOf x=none:=by
 cases x with
 | t n=>show look S.cp n=none; rw [hc]; rfl
 | c v=>rfl
theorem bA (hc:S.cp=[]) {rd:Bm→V} (o:PU):Lu S rd o=none:=by
 cases o<;>try rfl
 case mv x=>exact Wf hc x
 case slice x lo hi sz=>
  simp only [Lu,Hi]
  rw [show Ji S.cp x=none from Wf hc x]
theorem By {o:PU} {d:Nat} {v:V} (h:Cj S (.p o) v) (hl:look S.env d=some v) (hc:S.cp=[]:=by rfl):Cn C ⟨some d,.p o,none⟩ S (fun S'=>Ti S' S):=
 c_ h (by rw [Ur (g:=fun _=>none) (bA hc o)]; exact PO hl hc)
theorem Ga {o:PU} {d:Nat} {v:V} {gs:Nat} {want g:Bool} (hg:Kr (S.val (.t gs)) want=some g) (h:g=true→Cj S (.p o) v) (hl:look S.env d=some (.may g v)) (hc:S.cp=[]:=by rfl):Cn C ⟨some d,.p o,some (gs,want)⟩ S (fun S'=>Ti S' S):=Bu hg h (PO hl hc)
end
end
end Go.Ev
