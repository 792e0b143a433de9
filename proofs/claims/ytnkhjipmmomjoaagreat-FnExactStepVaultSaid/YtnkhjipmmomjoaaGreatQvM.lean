/- Steps of the small machine, second part: slices, rows that grow, calls, ends, drawn orders. -/
import Derived.Test.YtnkhjipmmomjoaaGreatQvL
set_option linter.all false
namespace Go.Ev
def cG {α:Type} (l:List α) (lo hi:Int):Option (List α):=if 0≤lo∧lo≤hi∧hi≤l.length then some ((l.take hi.toNat).drop lo.toNat) else none
theorem kA {α:Type} {l y:List α} {lo hi:Int} (h:cG l lo hi=some y):0≤lo∧lo≤hi∧hi≤l.length∧y=(l.take hi.toNat).drop lo.toNat:=by
 unfold cG at h
 split at h
 ·rename_i hc
  exact ⟨hc.1,hc.2.1,hc.2.2,(Option.some.inj h).symm⟩
 ·cases h
def ovl {α:Type} (l:List α) (at_:Nat) (ys:List α):List α:=l.mapIdx fun i e=>if at_≤i then (ys[i-at_]?).getD e else e
theorem Jg {α:Type} {e:α→List V} {l ys:List α} {off i:Nat}:Fi off (l.map e) (off+i) (ys.map e)=(ovl l i ys).map e:=by
 unfold Fi ovl
 apply List.ext_getElem?
 intro k
 simp only [List.getElem?_mapIdx,List.getElem?_map]
 cases hk:l[k]? with
 | none=>rfl
 | some z=>
  simp only [Option.map_some]
  by_cases h:i≤k
  ·have e1:off+k-(off+i)=k-i:=by omega
   rw [if_pos (by omega),if_pos h,e1]
   cases ys[k-i]? <;> rfl
  ·rw [if_neg (by omega),if_neg h]
theorem Ep {α:Type} {e:α→List V} {l y:List α} {t off sz:Nat} (h:y.length=l.length):
  (if off=off∧sz=sz∧(l.map e).length=(y.map e).length then V.own t off sz (y.map e) else .undef) = .own t off sz (y.map e):=if_pos ⟨rfl,rfl,by simp [h]⟩
section
variable {C:Bj} {Q:Ex→St→Prop} {S:St} {T:List Hg} {l:List Cd} {d:Option Nat} {K:St→Prop} {i:Cd}
theorem Do {x:Ck} {v:V} (h:S.val x=v) (hm:Bh true v):Bh true (S.val x):=by rw [h]; exact hm
theorem Qi {α:Type} {e:α→List V} {l0 y:List α} {x:Ck} {lo hi:Option Ck} {a b:Option Int} {vx:V} {sz:Nat} (hx:S.val x=vx) (hx':Av vx = .lst sz (l0.map e)) (hm:Bh true vx)
  (hm2:Ct (nm S) (lo.toList++hi.toList)) (ha:Gl (lo.map fun x=>Av (S.val x))=some a) (hb:Gl (hi.map fun x=>Av (S.val x))=some b)
  (hy:cG l0 (a.getD 0) (b.getD l0.length)=some y):Dd S (.p (.slice x lo hi sz)) (.lst sz (y.map e)):=by
 obtain ⟨h1,h2,h3,rfl⟩:=kA hy
 refine ⟨⟨Do hx hm,hm2⟩,?_⟩
 simp only [pu,hx,hx',ha,hb,List.length_map,←List.map_take,←List.map_drop]
 exact ⟨_,rfl,trivial,h1,h2,h3⟩
theorem Ew {α:Type} {e:α→List V} {l0 y:List α} {x:Ck} {lo hi:Option Ck} {a b:Option Int} {vx:V} {t off sz:Nat} (hx:S.val x=vx) (hx':Av vx = .own t off sz (l0.map e)) (hm:Bh true vx)
  (hm2:Ct (nm S) (lo.toList++hi.toList)) (ha:Gl (lo.map fun x=>Av (S.val x))=some a) (hb:Gl (hi.map fun x=>Av (S.val x))=some b)
  (hy:cG l0 (a.getD 0) (b.getD l0.length)=some y):Dd S (.p (.slice x lo hi sz)) (.own t (off+(a.getD 0).toNat) sz (y.map e)):=by
 obtain ⟨h1,h2,h3,rfl⟩:=kA hy
 refine ⟨⟨Do hx hm,hm2⟩,?_⟩
 have h0:(b.getD l0.length).toNat-l0.length=0:=by omega
 simp only [pu,hx,hx',ha,hb,List.length_map,h0,bG,List.replicate_zero,List.append_nil,List.map_take,List.map_drop]
 exact ⟨_,rfl,trivial,h1,h2,.inl h3⟩
theorem cidxS {s:List UInt8} {x i:Ck} {vx vi:V} {k:IntKind} {n:Int} {y:UInt8} (hx:S.val x=vx) (hx':Av vx = .str s) (hmx:Bh true vx)
  (hi:S.val i=vi) (hi':Av vi = .int k n) (hmi:Bh true vi) (hy:Co s n=some y):Dd S (.p (.idxStr x i)) (.int .u8 (y.toNat:Int)):=by
 obtain ⟨h0,h1,h2⟩:=Ph hy
 refine ⟨⟨Do hx hmx,Do hi hmi,trivial⟩,0≤n∧n<s.length,?_,h0,h1⟩
 have:s.getD n.toNat 0=y:=by simp [List.getD,h2]
 simp only [pu,hx,hi,hx',hi',this]
theorem clenO {α:Type} {e:α→List V} {l0:List α} {x:Ck} {vx:V} {t off sz:Nat} (hx:S.val x=vx) (hx':Av vx = .own t off sz (l0.map e)) (hm:Bh true vx) (hz:sz≠0:=by decide):Dd S (.p (.len x)) (.int .i64 (l0.length:Int)):=by
 refine ⟨⟨Do hx hm,trivial⟩,(sz≠0),?_,hz⟩
 simp only [pu,hx,hx',List.length_map]
theorem Gx {α:Type} {e:α→List V} {l0:List α} {x i:Ck} {vx vi:V} {t off sz:Nat} {k:IntKind} {n:Int} {y:α} (hx:S.val x=vx) (hx':Av vx = .own t off sz (l0.map e)) (hmx:Bh true vx)
  (hi:S.val i=vi) (hi':Av vi = .int k n) (hmi:Bh true vi) (hy:Co l0 n=some y):Dd S (.p (.idxA x i sz)) (.optr t sz (off+n.toNat) 0):=by
 obtain ⟨h0,h1,h2⟩:=Ph hy
 refine ⟨⟨Do hx hmx,Do hi hmi,trivial⟩,sz=sz∧0≤n∧n<(l0.map e).length,?_,rfl,h0,by simpa using h1⟩
 simp only [pu,hx,hi,hx',hi']
theorem Bn {α:Type} {e:α→List V} {l0:List α} {x:Ck} {vx:V} {t off sz j k n i:Nat} {ag:Bool} {y:α} {v:V} (hx:S.val x=vx) (hx':Av vx = .optr t sz j k) (hm:Bh true vx) (hf:S.find t=some (off,l0.map e)) (hj:j=off+i)
  (hy:l0[i]? = some y) (hv:Hv ag n ((e y).drop k)=some v) (hn:k+n≤sz) (hsz:(e y).length=sz):Dd S (.p (.load x n ag)) v:=by
 subst hj
 have hlt:=(List.getElem?_eq_some_iff.1 hy).1
 have hg:(l0.map e).getD (off+i-off) []=e y:=by
  rw [Nat.add_sub_cancel_left]
  simp [List.getD,hy]
 refine ⟨⟨Do hx hm,trivial⟩,off≤off+i∧off+i<off+(l0.map e).length∧k+n≤sz∧((l0.map e).getD (off+i-off) []).length=sz,?_,Nat.le_add_right _ _,by simp; omega,hn,by rw [hg]; exact hsz⟩
 simp only [pu,hx,hx',hf]
 rw [hg,hv]
theorem c_ {o:PU} {v:V} (h:Dd S (.p o) v) (k:K (S.putC d v (Iz (fun x=>Av (S.val x)) o))):Di C ⟨d,.p o,none⟩ S K:=by
 obtain ⟨h1,ψ,h2,h3⟩:=h
 exact p_ h1 h2 h3 k
theorem Kk {α:Type} {e:α→List V} {l0 l1:List α} {x y:Ck} {t sz by_:Nat} {vy:V} (hx:S.val x = .own t 0 sz (l0.map e)) (hy:S.val y=vy) (hm:Bh true vy) (hs:Rs (Av vy)=some (sz,l1.map e))
  (ht:t<Cu) (hn:(l0.length+l1.length)*by_≤140737488355328) (k:K ((S.drop t).putC d (.own t 0 sz ((l0++l1).map e)) (Jt x (l0.length+l1.length)))):Di C ⟨d,.app sz by_ x y,none⟩ S K:=by
 refine ⟨Do hx trivial,Do hy hm,?_⟩
 rw [hx,hy]
 dsimp only [Av]
 dsimp only [Av] at hs
 rw [hs]
 refine ⟨ht,rfl,rfl,rfl,by simpa using hn,?_⟩
 rw [←List.map_append,List.length_map,List.length_map]
 exact k
theorem tA {α:Type} {e:α→List V} {l0:List α} {x y:Ck} {t sz by_ d':Nat} {ki:IntKind} {l c:Int} {zero:List V} (z:α) (hx:S.val x = .own t 0 sz (l0.map e)) (hy:S.val y = .int ki l) (hz:e z=zero)
  (ht:t<Cu) (h0:0≤l) (hn:((l0.length:Int)+l)*by_≤140737488355328) (hc:S.capOf x=some c) (hc1:Em≤c) (hc2:c-Em<l0.length+l)
  (k:K ((S.drop (64*d')).put (some d') (.own (64*d') 0 sz ((l0++List.replicate l.toNat z).map e)))):Di C ⟨some d',.appz sz by_ zero x y,none⟩ S K:=by
 refine ⟨Do hx trivial,Do hy trivial,?_⟩
 rw [hx,hy]
 dsimp only [Av]
 refine ⟨ht,rfl,rfl,h0,by simpa using hn,?_⟩
 rw [List.map_append,List.map_replicate,hz] at k
 rw [List.length_map]
 exact .inr ⟨d',c,rfl,hc,hc1,hc2,k⟩
theorem cap_ {α:Type} {e:α→List V} {l0:List α} {t off sz n:Nat} (hx:S.val (.t n) = .own t off sz (l0.map e))
  (k:∀c:Nat,l0.length≤c→(off=0→c≤9223372036854775807)→(∀c0,S.capOf (.t n)=some c0→Em≤c0→(c:Int)=c0-Em)→K (St.put { S with cp:=Li n (fun _=>some (Em+c)) S.cp } d (.int .i64 c))) (hz:sz≠0:=by decide):Di C ⟨d,.cap (.t n),none⟩ S K:=by
 refine ⟨Do hx trivial,?_⟩
 rw [hx]
 dsimp only [Av]
 rw [List.length_map]
 exact ⟨hz,k⟩
theorem covl {x y:Ck} {t off sz t' off' sz':Nat} {es es':List (List V)} (hx:S.val x = .own t off sz es) (hy:S.val y = .own t' off' sz' es') (h:t≠t') (h1:es≠[]) (h2:es'≠[]) (hz:sz≠0:=by decide) (hz':sz'≠0:=by decide):Dd S (.p (.ovl x y)) (.bool false):=by
 refine ⟨⟨Do hx trivial,Do hy trivial,trivial⟩,(t≠t'∧(es≠[]∧es'≠[])∧sz≠0∧sz'≠0),?_,h,⟨h1,h2⟩,hz,hz'⟩
 simp only [pu,hx,hy,Av]
theorem DR {α:Type} {e:α→List V} {x y:Ck} {d sz by_:Nat} {k1 k2:IntKind} {a c:Int} {zero:List V} (z:α) (hx:S.val x = .int k1 a) (hy:S.val y = .int k2 c) (h0:0≤a) (hac:a=c) (hn:c*by_≤140737488355328)
  (hz:e z=zero) (k:K ((S.drop (64*d)).put (some d) (.own (64*d) 0 sz ((List.replicate a.toNat z).map e)))):Di C ⟨some d,.make sz by_ zero x y,none⟩ S K:=by
 refine ⟨Do hx trivial,Do hy trivial,?_⟩
 rw [hx,hy]
 refine ⟨h0,hac,hn,?_⟩
 rw [List.map_replicate,hz] at k
 exact k
theorem copy_ {α:Type} {e:α→List V} {l0 l1:List α} {x y:Ck} {t off sz:Nat} {vy:V} (hx:S.val x = .own t off sz (l0.map e)) (hy:S.val y=vy) (hm:Bh true vy) (hs:Rs (Av vy)=some (sz,l1.map e))
  (k:K ((S.map (gW t sz off ((l1.take l0.length).map e))).put d (.int .i64 (min l1.length l0.length:Nat)))):Di C ⟨d,.copy sz x y,none⟩ S K:=by
 refine ⟨Do hx trivial,Do hy hm,?_⟩
 rw [hx,hy]
 dsimp only [Av]
 dsimp only [Av] at hs
 rw [hs]
 refine ⟨rfl,rfl,?_⟩
 rw [List.map_take,] at k
 simpa using k
theorem clear_ {α:Type} {e:α→List V} {l0:List α} {z:α} {x:Ck} {t off sz:Nat} {zero:List V} (hx:S.val x = .own t off sz (l0.map e)) (hz:e z=zero)
  (k:K ((S.map (gW t sz off ((List.replicate l0.length z).map e))).put d .undef)):Di C ⟨d,.clear sz zero x,none⟩ S K:=by
 refine ⟨Do hx trivial,?_⟩
 rw [hx]
 refine ⟨rfl,?_⟩
 rw [List.map_replicate,hz] at k
 simpa using k
theorem chk3O {α:Type} {e:α→List V} {l0:List α} {x lo hi mx:Ck} {t off sz:Nat} {k1 k2 k3:IntKind} {a b c:Int} (hx:S.val x = .own t off sz (l0.map e)) (h1:S.val lo = .int k1 a) (h2:S.val hi = .int k2 b) (h3:S.val mx = .int k3 c)
  (hc:0≤a∧a≤b∧b≤c∧c≤(l0.length:Int)) (k:K (S.put d .undef)) (hz:sz≠0:=by decide):Di C ⟨d,.chk3 x lo hi mx,none⟩ S K:=by
 obtain ⟨s0,rfl⟩:=Nat.exists_eq_succ_of_ne_zero hz
 refine ⟨⟨Do hx trivial,Do h1 trivial,Do h2 trivial,Do h3 trivial⟩,?_⟩
 rw [hx,h1,h2,h3]
 exact ⟨hc.1,hc.2.1,hc.2.2.1,by simpa using hc.2.2.2,k⟩
theorem mL {α:Type} {e:α→List V} {l0:List α} {x:Ck} {sz:Nat} {ne:Bool} (hx:S.val x = .lst sz (l0.map e)) (k:∀b:Bool,(b=true→l0=[])→K (S.put d (.bool (if ne then !b else b)))) (hz:sz≠0:=by decide):
  Di C ⟨d,.isnil x ne,none⟩ S K:=by
 obtain ⟨s0,rfl⟩:=Nat.exists_eq_succ_of_ne_zero hz
 refine ⟨Do hx trivial,?_⟩
 rw [hx]
 exact fun b hb=>k b fun h=>by simpa using hb h
theorem gB {sz len d:Nat} {zero:List V} {parts:List (Nat×Ck)} (hm:Ct (fun p=>nm S p.2) parts)
  (h:Ct (fun p=>p.1<len∧p.2.cells.length=sz∧p.2.cells.all (fun c => !Jp c)=true) (parts.map fun p=>(p.1,Av (S.val p.2))))
  (k:K (((S.freezes (Jh (parts.map fun p=>(p.1,Av (S.val p.2))))).drop (64*d)).put (some d)
    (.own (64*d) 0 sz (Ko sz (List.replicate len zero) ((parts.map fun p=>(p.1,Av (S.val p.2))).map fun p=>(p.1,p.2.cells.map Fc)))))):
  Di C ⟨some d,.mkS sz zero len parts,none⟩ S K:=⟨hm,h,k⟩
theorem FL {f:Nat} {args:List V} (fz:Bool) {gv:List V} {r:V} (h:C f ⟨gv,[]⟩ ⟨r,[],[]⟩) (h0:Of (fun v => !Cg v) args=true) (hg:args.map (mapW (S.liftC [] [] [] fz))=gv)
  (h3:fz=false→r.flat.all Ir=true) (k:K (((if fz then S.freezes (Hm (Pc args)) else S).drops (Ob (d.getD 0) (Hm r.flat))).put d (Gd (Gw (d.getD 0) 0 [] []) r))):kM C f args d S K:=by
 have e0:∀l:List Nat,cF [] l=l:=fun l=>by
  induction l with
  | nil=>rfl
  | cons x r ih=>simp [cF,ih]
 refine ⟨h0,[],[],[],fz,⟨r,[],[]⟩,⟨rfl,rfl,rfl,rfl⟩,⟨rfl,rfl,rfl⟩,fun hz=>?_,?_,?_⟩
 ·simp [Fk.flat,h3 hz]
 ·subst hg; exact h
 ·simpa [St.after,St.frzTags,St.given,e0,Fk.newR,Fk.newB,Rq,St.rows,St.boxes,St.drops] using k
theorem Ci {f:Nat} {as:List Ck} (fz:Bool) {gv:List V} {r:V} (h:C f ⟨gv,[]⟩ ⟨r,[],[]⟩) (hm:Ct (nm S) as) (h0:Of (fun v => !Cg v) (as.map fun x=>Av (S.val x))=true)
  (hg:(as.map fun x=>Av (S.val x)).map (mapW (S.liftC [] [] [] fz))=gv) (h3:fz=false→r.flat.all Ir=true)
  (k:K (((if fz then S.freezes (Hm (Pc (as.map fun x=>Av (S.val x)))) else S).drops (Ob (d.getD 0) (Hm r.flat))).put d (Gd (Gw (d.getD 0) 0 [] []) r))):
  Di C ⟨d,.call f as,none⟩ S K:=⟨hm,FL fz h h0 hg h3 k⟩
theorem Gt {f:Nat} {x:Ck} {as:List Ck} {caps:List V} (hx:S.val x = .clo f caps) (fz:Bool) {gv:List V} {r:V} (h:C f ⟨gv,[]⟩ ⟨r,[],[]⟩) (hm:Ct (nm S) as)
  (h0:Of (fun v => !Cg v) ((as.map fun x=>Av (S.val x))++caps)=true) (hg:((as.map fun x=>Av (S.val x))++caps).map (mapW (S.liftC [] [] [] fz))=gv) (h3:fz=false→r.flat.all Ir=true)
  (k:K (((if fz then S.freezes (Hm (Pc ((as.map fun x=>Av (S.val x))++caps))) else S).drops (Ob (d.getD 0) (Hm r.flat))).put d (Gd (Gw (d.getD 0) 0 [] []) r))):
  Di C ⟨d,.callv x as,none⟩ S K:=by
 refine ⟨Do hx trivial,hm,?_⟩
 rw [hx]
 exact FL fz h h0 hg h3 k
theorem wcall1 {f:Nat} {args:List V} (LB LR LM:List Nat) (fz:Bool) {g:Gj} {t:Fk} (h:C f g t) (h0:Of (fun v => !Cg v) args=true) (hg:S.give args LB LR LM fz=g)
  (h1:(Ej LB&&Ej (LR++LM)&&Pl Cu LM&&LB.all (fun T=>(look S.bx T).isSome))=true)
  (h2:(Pl 65 [t.bx.length-LB.length,LM.length]&&Ki (t.newB (d.getD 0) LB.length) LB&&Ki (t.newR (d.getD 0)) LR)=true) (h3:fz=false→t.flat=true)
  (k:K ((S.after args (d.getD 0) fz LB LR LM t).put d (Gd (Gw (d.getD 0) (t.bx.length-LB.length) LB LR) t.r))):kM C f args d S K:=by
 simp only [Bool.and_eq_true] at h1 h2
 refine ⟨h0,LB,LR,LM,fz,t,⟨h1.1.1.1,h1.1.1.2,h1.1.2,h1.2⟩,⟨h2.1.1,h2.1.2,h2.2⟩,h3,?_,k⟩
 subst hg; exact h
theorem Ed {f:Nat} {as:List Ck} (LB LR LM:List Nat) (fz:Bool) {g:Gj} {t:Fk} (h:C f g t) (hm:Ct (nm S) as) (h0:Of (fun v => !Cg v) (as.map fun x=>Av (S.val x))=true)
  (hg:S.give (as.map fun x=>Av (S.val x)) LB LR LM fz=g)
  (h1:(Ej LB&&Ej (LR++LM)&&Pl Cu LM&&LB.all (fun T=>(look S.bx T).isSome))=true)
  (h2:(Pl 65 [t.bx.length-LB.length,LM.length]&&Ki (t.newB (d.getD 0) LB.length) LB&&Ki (t.newR (d.getD 0)) LR)=true) (h3:fz=false→t.flat=true)
  (k:K ((S.after (as.map fun x=>Av (S.val x)) (d.getD 0) fz LB LR LM t).put d (Gd (Gw (d.getD 0) (t.bx.length-LB.length) LB LR) t.r))):Di C ⟨d,.call f as,none⟩ S K:=
 ⟨hm,wcall1 LB LR LM fz h h0 hg h1 h2 h3 k⟩
theorem Eh {f:Nat} {as:List Ck} {gs:Nat} {want g:Bool} (hgv:Nc (S.val (.t gs)) want=some g) (fz:Bool) {gv:List V} {r:V} (h:g=true→C f ⟨gv,[]⟩ ⟨r,[],[]⟩)
  (hm:Ct (fun x=>Bh g (S.val x)) as) (h0:g=true→Of (fun v => !Cg v) (as.map fun x=>Av (S.val x))=true)
  (hg:g=true→(as.map fun x=>Av (S.val x)).map (mapW (S.liftC [] [] [] fz))=gv) (h3:fz=false→r.flat.all Ir=true) (h4:fz=true→Hm (Pc (as.map fun x=>Av (S.val x)))=[])
  (k:K (S.put d (.may g (Gd Rz r)))):Di C ⟨d,.call f as,some (gs,want)⟩ S K:=by
 unfold Di
 dsimp only
 rw [hgv]
 exact .inl ⟨hm,h0,fz,r,fun e=>by have:=hg e; subst this; exact h e,h3,h4,k⟩
theorem Ie {f:Nat} {x:Ck} {as:List Ck} {caps:List V} {vx:V} {gs:Nat} {want g:Bool} (hgv:Nc (S.val (.t gs)) want=some g) (hx:S.val x=vx) (hx':Av vx = .clo f caps) (hmx:Bh g vx) (fz:Bool) {gv:List V} {r:V}
  (h:g=true→C f ⟨gv,[]⟩ ⟨r,[],[]⟩)
  (hm:Ct (fun x=>Bh g (S.val x)) as) (h0:g=true→Of (fun v => !Cg v) ((as.map fun x=>Av (S.val x))++caps)=true)
  (hg:g=true→((as.map fun x=>Av (S.val x))++caps).map (mapW (S.liftC [] [] [] fz))=gv) (h3:fz=false→r.flat.all Ir=true) (h4:fz=true→Hm (Pc ((as.map fun x=>Av (S.val x))++caps))=[])
  (k:K (S.put d (.may g (Gd Rz r)))):Di C ⟨d,.callv x as,some (gs,want)⟩ S K:=by
 unfold Di
 dsimp only
 rw [hgv]
 refine .inl ⟨by rw [hx]; exact hmx,hm,?_⟩
 rw [hx,hx']
 exact ⟨h0,fz,r,fun e=>by have:=hg e; subst this; exact h e,h3,h4,k⟩
theorem cb8 {o:PU} {x:Int} (h:Dd S (.p o) (.int .u8 (IntKind.u8.wrap x))):Dd S (.p o) (.int .u8 ((b8 x).toNat:Int)):=by
 unfold b8
 rw [pV]
 exact h
theorem Wi {α:Type} {e:α→List V} {xs:List α} (h:∀x,(e x).all bH=true):((xs.map e).all fun x=>x.all bH)=true:=by
 simp only [List.all_map,List.all_eq_true,Function.comp]
 intro x _
 exact List.all_eq_true.1 (h x)
theorem Ip {α:Type} {e:α→List V} {xs:List α} {n:Nat} (h:∀x,(e x).length=n):∀y∈xs.map e,y.length=n:=by
 intro y hy
 obtain ⟨x,_,rfl⟩:=List.mem_map.1 hy
 exact h x
theorem fl1 {α:Type} {e:α→List V} {xs:List α} {t off sz:Nat} (h:∀x,(e x).all bH=true):Ir (.own t off sz (xs.map e))=true:=by
 simp only [Ir,List.all_map,List.all_eq_true,Function.comp]
 intro x _
 exact List.all_eq_true.1 (h x)
theorem Dx {res:List cL} {nb:Nat} {t:Fk} {v:V} {css:List (List V)} (h1:EU S res=some v) (h2:Nf S (Wu nb++Ff v.flat)=some css)
  (h3:Pl 65 [(Im (v.flat++css.flatten)).length,(Ff v.flat).length]=true) (h4:Gd (Uo (Im (v.flat++css.flatten)) (Ff v.flat)) v=t.r)
  (h5:Pm (Uo (Im (v.flat++css.flatten)) (Ff v.flat)) css=t.bx) (h6:Up S 0 t.rw):FQ res nb t .ret S:=by
 refine ⟨S,Fg.refl S,?_⟩
 unfold nT
 rw [h1]
 show bL S v nb t
 unfold bL
 dsimp only
 rw [h2]
 exact ⟨h3,h4,h5,h6⟩
theorem bE {res:List cL} {nb:Nat} {t:Fk} {S1:St} (hf:Fg S S1) (h:FQ res nb t .ret S1):FQ res nb t .ret S:=by
 obtain ⟨S2,h1,h2⟩:=h
 exact ⟨S2,hf.trans h1,h2⟩
theorem bF {res:List cL} {nb:Nat} {t:Fk} (h:FQ res nb t .ret S):FQ res nb t .normal S:=h
theorem fn_ {fn:Cz} {args:List V} {bx:List (List V)} {t:Fk} (h0:args.length≤fn.nt) (h:WL C [.c fn.body] (FQ fn.res bx.length t) .normal ⟨Ow args 0,Ox bx Cu,[]⟩):hO C fn ⟨args,bx⟩ t:=⟨h0,.inl h⟩
theorem fnc_ {fn:Cz} {args:List V} {bx:List (List V)} {t:Fk} (h0:args.length≤fn.nt) (h:∀f:Nat→Nat,(∀(k t off sz:Nat) (es:List (List V)),args[k]? = some (.own t off sz es)→sz≠0→es.length≤f k∧(off=0→f k≤9223372036854775807)) →
  WL C [.c fn.body] (FQ fn.res bx.length t) .normal ⟨Ow args 0,Ox bx Cu,Ou f args 0⟩):hO C fn ⟨args,bx⟩ t:=⟨h0,.inr h⟩
theorem slcN {α:Type} (l:List α) (a b:Nat) (h:a≤b) (h2:b≤l.length):cG l (a:Int) ((some (b:Int)).getD l.length)=some ((l.take b).drop a):=by
 unfold cG
 simp only [Option.getD_some]
 rw [if_pos ⟨by omega,by omega,by omega⟩]
 simp
theorem cH {α:Type} (l:List α) (a:Nat) (h:a≤l.length):cG l ((some (a:Int)).getD 0) ((none:Option Int).getD l.length)=some (l.drop a):=by
 unfold cG
 simp only [Option.getD_some,Option.getD_none]
 rw [if_pos ⟨by omega,by omega,by omega⟩]
 simp
theorem aX {d:Option Nat} {v:V} {f g:List (Nat×Int)→Option Int} (h:f S.cp=g S.cp):S.putC d v f=S.putC d v g:=by
 cases d with
 | none=>rfl
 | some d=>
  have:Li d f S.cp=Li d g S.cp:=by
   cases hl:S.cp with
   | nil=>rw [hl] at h; simp only [Li,h]
   | cons p r=>rw [hl] at h; simp only [Li,h]
  simp only [St.putC,this]
theorem appc_ {α:Type} {e:α→List V} {l0 l1:List α} {x y:Ck} {t sz by_:Nat} {vy:V} {c:Int} (hx:S.val x = .own t 0 sz (l0.map e)) (hy:S.val y=vy) (hm:Bh true vy) (hs:Rs (Av vy)=some (sz,l1.map e))
  (ht:t<Cu) (hn:(l0.length+l1.length)*by_≤140737488355328) (hc:S.capOf x=some c) (hle:((l0.length+l1.length:Nat):Int)≤Nh c)
  (k:K ((S.drop t).putC d (.own t 0 sz ((l0++l1).map e)) fun _=>some c)):Di C ⟨d,.app sz by_ x y,none⟩ S K:=by
 refine Kk hx hy hm hs ht hn ?_
 rw [aX (g:=fun _=>some c)]
 ·exact k
 ·show Jt x _ S.cp=_
  unfold Jt
  rw [show Lt S.cp x=some c from hc]
  dsimp only
  rw [if_pos hle]
theorem eA {α:Type} {e:α→List V} {R:List α} {x lo hi:Ck} {t sz L H:Nat} {k1 k2:IntKind} {c:Int} (hx:S.val x = .own t 0 sz (R.map e)) (hlo:S.val lo = .int k1 (L:Int)) (hhi:S.val hi = .int k2 (H:Int))
  (hR:R.length=L) (hLH:L≤H) (hsz:0<sz) (hc:S.capOf x=some c) (hH:(H:Int)≤Nh c):Dd S (.p (.slice x (some lo) (some hi) sz)) (.own t L sz (bG sz (H-L))):=by
 have ha:Gl ((some lo).map fun x=>Av (S.val x))=some (some (L:Int)):=by simp only [Option.map_some,hlo]; rfl
 have hb:Gl ((some hi).map fun x=>Av (S.val x))=some (some (H:Int)):=by simp only [Option.map_some,hhi]; rfl
 refine ⟨⟨Do hx trivial,Do hlo trivial,Do hhi trivial,trivial⟩,?_⟩
 have e1:((R.map e++bG sz (H-L)).take H).drop L=bG sz (H-L):=by
  rw [List.take_of_length_le (by simp [bG]; omega)]
  exact List.drop_left' (by simpa using hR)
 have hx':Av (S.val x) = .own t 0 sz (R.map e):=by rw [hx]; rfl
 simp only [pu,hx',ha,hb,Option.getD_some,List.length_map,Int.toNat_natCast,hR,e1,Nat.zero_add]
 exact ⟨_,rfl,trivial,by omega,by omega,.inr ⟨trivial,hsz,c,hc,hH⟩⟩
def eo {α:Type} (e:α→List V) (k:Nat):Option α→List V
 | none=>List.replicate k .undef
 | some x=>e x
theorem Xo {α:Type} {e:α→List V} {k:Nat} (l:List α):l.map e=(l.map some).map (eo e k):=by
 rw [List.map_map]; rfl
theorem pP {α:Type} {e:α→List V} {l0:List α} {x hi:Ck} {t sz H:Nat} {k2:IntKind} {c:Int} (hx:S.val x = .own t 0 sz (l0.map e)) (hhi:S.val hi = .int k2 (H:Int))
  (hLH:l0.length≤H) (hsz:0<sz) (hc:S.capOf x=some c) (hH:(H:Int)≤Nh c):Dd S (.p (.slice x none (some hi) sz)) (.own t 0 sz ((l0.map some++List.replicate (H-l0.length) none).map (eo e sz))):=by
 have hb:Gl ((some hi).map fun x=>Av (S.val x))=some (some (H:Int)):=by simp only [Option.map_some,hhi]; rfl
 have ha:Gl ((none:Option Ck).map fun x=>Av (S.val x))=some none:=rfl
 refine ⟨⟨Do hx trivial,Do hhi trivial,trivial⟩,?_⟩
 have e1:((l0.map e++bG sz (H-l0.length)).take H).drop 0=(l0.map some++List.replicate (H-l0.length) none).map (eo e sz):=by
  rw [List.drop_zero,List.take_of_length_le (by simp [bG]; omega),List.map_append,List.map_replicate,←Xo]
  rfl
 have hx':Av (S.val x) = .own t 0 sz (l0.map e):=by rw [hx]; rfl
 simp only [pu,hx',ha,hb,Option.getD_some,Option.getD_none,List.length_map,Int.toNat_natCast,Int.toNat_zero,e1]
 exact ⟨_,rfl,trivial,by omega,by omega,.inr ⟨trivial,hsz,c,hc,hH⟩⟩
theorem wrapI {x:Int} (h1 : -9223372036854775808≤x) (h2:x≤9223372036854775807):IntKind.i64.wrap x=x:=by
 have e1:IntKind.i64.wrap x=if x%18446744073709551616≥9223372036854775808 then x%18446744073709551616-18446744073709551616 else x%18446744073709551616:=by
  simp [IntKind.wrap,IntKind.bits,IntKind.signed]
 rw [e1]; split<;>omega
theorem FU {x:Int} (n:Nat) (h:x=n) (hb:n≤140737488355328):IntKind.i64.wrap x=n:=by
 subst h
 have e1:IntKind.i64.wrap (n:Int)=if (n:Int)%18446744073709551616≥9223372036854775808 then (n:Int)%18446744073709551616-18446744073709551616 else (n:Int)%18446744073709551616:=by
  simp [IntKind.wrap,IntKind.bits,IntKind.signed]
 rw [e1]; split<;>omega
theorem gH {α:Type} {l ys:List α} {i:Nat}:(ovl l i ys).length=l.length:=by simp [ovl]
theorem gG {α:Type} {l ys:List α} {i:Nat} (h:i+ys.length≤l.length):ovl l i ys=l.take i++ys++l.drop (i+ys.length):=by
 apply List.ext_getElem?
 intro k
 simp only [ovl,List.getElem?_mapIdx,List.append_assoc,List.getElem?_append,List.getElem?_drop,List.length_take,Nat.min_eq_left (show i≤l.length by omega),List.getElem?_take]
 by_cases h1:k<i
 ·simp only [h1,if_true,if_neg (show ¬i≤k by omega)]
  cases l[k]? <;> rfl
 ·simp only [h1,if_false,if_pos (show i≤k by omega)]
  by_cases h2:k-i<ys.length
  ·simp only [h2,if_true]
   have:k<l.length:=by omega
   simp [this,h2]
  ·simp only [h2,if_false]
   rw [show i+ys.length+(k-i-ys.length)=k by omega,List.getElem?_eq_none (show ys.length≤k-i by omega)]
   cases l[k]? <;> rfl
theorem ovl_two {α:Type} {A X Y Z:List α} {i:Nat} (h0:A.length=i+Y.length+Z.length) (h1:A.take i=X):ovl (ovl A (i+Y.length) Z) i Y=X++Y++Z:=by
 have hx:X.length=i:=by rw [←h1]; simp; omega
 have hd:A.drop (i+Y.length+Z.length)=[]:=List.drop_eq_nil_of_le (by omega)
 have e1:ovl A (i+Y.length) Z=A.take (i+Y.length)++Z:=by rw [gG (by omega),hd,List.append_nil]
 have hl:(A.take (i+Y.length)).length=i+Y.length:=by simp; omega
 have e2:(A.take (i+Y.length)++Z).take i=X:=by rw [List.take_append_of_le_length (by omega),List.take_take,Nat.min_eq_left (by omega),h1]
 have e3:(A.take (i+Y.length)++Z).drop (i+Y.length)=Z:=List.drop_left' hl
 rw [e1,gG (by rw [List.length_append,hl]; omega),e2,e3]
theorem EJ {α:Type} {A X Y Z:List α} {i:Nat} (h0:A.length=i+Y.length+Z.length) (h1:A.take i=X):ovl (ovl A i Y) (i+Y.length) Z=X++Y++Z:=by
 have hx:X.length=i:=by rw [←h1]; simp; omega
 have e1:ovl A i Y=X++Y++A.drop (i+Y.length):=by rw [gG (by omega),h1]
 have hd:(X++Y++A.drop (i+Y.length)).drop (i+Y.length+Z.length)=[]:=List.drop_eq_nil_of_le (by simp; omega)
 rw [e1,gG (by simp; omega),hd,List.append_nil,List.take_left' (by simp; omega)]
theorem EH {α:Type} {A:List (Option α)} {a0 a2:List α} {i:Nat} (h0:A.length=a0.length+a2.length) (h1:A.take i=(a0.take i).map some) (hi:i≤a0.length):
  ovl (ovl A (i+a2.length) ((a0.drop i).map some)) i (a2.map some)=(a0.take i++a2++a0.drop i).map some:=by
 have:=ovl_two (A:=A) (Y:=a2.map some) (Z:=(a0.drop i).map some) (by simp; omega) h1
 rw [List.length_map] at this
 rw [this]; simp
theorem ovl_ins {α:Type} {R a0 a2:List α} {i:Nat} (h0:R.length=a0.length+a2.length) (h1:R.take i=a0.take i) (hi:i≤a0.length):
  ovl (ovl R i (a2.take (R.drop i).length)) (i+a2.length) ((a0.drop i).take ((ovl R i (a2.take (R.drop i).length)).drop (i+a2.length)).length)=a0.take i++a2++a0.drop i:=by
 have e0:a2.take (R.drop i).length=a2:=List.take_of_length_le (by rw [List.length_drop]; omega)
 have e2:(a0.drop i).take ((ovl R i a2).drop (i+a2.length)).length=a0.drop i:=List.take_of_length_le (by rw [List.length_drop,List.length_drop,gH]; omega)
 rw [e0,e2]
 exact EJ (by rw [List.length_drop]; omega) h1
theorem gF {es ys:List (List V)} {at_:Nat} (h:es.length≤at_):Fi 0 es at_ ys=es:=by
 apply List.ext_getElem
 ·simp [Fi]
 ·intro k h1 h2
  simp only [Fi,List.getElem_mapIdx]
  rw [if_neg (by omega)]
theorem iM {x:Ck} {t off sz:Nat} {es:List (List V)} {zero:List V} (hx:S.val x = .own t off sz es) (k:K ((S.map (gW t sz off (List.replicate es.length zero))).put d .undef)):Di C ⟨d,.clear sz zero x,none⟩ S K:=by
 refine ⟨Do hx trivial,?_⟩
 rw [hx]
 exact ⟨rfl,k⟩
theorem past1 {α:Type} {e:α→List V} {R:List α} {t sz at_:Nat} {ys:List (List V)} (h:R.length≤at_):some (V.own t 0 sz (Fi 0 (R.map e) at_ ys))=some (.own t 0 sz (R.map e)):=by
 rw [gF (by simpa using h)]
theorem Bd {p:DP} (h:WD C p [] (WL C T Q .normal) S):WL C (.c (.draw p)::T) Q .normal S:=h
theorem drawJ {p:DP} (R:St→Prop) (hJ:∀S,R S→WL C T Q .normal S) (h:(∀S S1,Fg S S1→R S1→WL C (.w::T) Q .normal S)→WD C p [] (WL C (.w::T) Q .normal) S):
  WL C (.c (.draw p) :: .w::T) Q .normal S:=h fun _ S1 h1 h2=>⟨S1,h1,hJ S1 h2⟩
section
variable {X:List Cd}
theorem Hc (h:K S):WD C .fin X K S:=h
theorem Ak {p:DP} (h1:Dn i S) (h2:Di C i S (fun S'=>Fb C X S'∧WD C p X K S')):WD C (.take i p) X K S:=.inl ⟨h1,h2⟩
theorem Cf {p:DP} (h2:Di C i S (fun S'=>Fb C (i::X) S'∧WD C p (i::X) K S')):WD C (.take i p) X K S:=.inr h2
theorem Aq:WD C .stop X K S:=trivial
theorem Az {held:List Cd} {r rest:DP} (h1:Di C i S (fun S'=>∃S1,Fg S' S1∧∃X',Ii C X' held S1∧Fb C X' S1∧WD C r X' K S1)) (h2:WD C rest X K S):WD C (.alt held i r rest) X K S:=⟨h1,h2⟩
theorem iP {held:List Cd} {r:DP} (S1:St) (hf:Fg S S1) (h:∃X',Ii C X' held S1∧Fb C X' S1∧WD C r X' K S1):∃S1,Fg S S1∧∃X',Ii C X' held S1∧Fb C X' S1∧WD C r X' K S1:=⟨S1,hf,h⟩
theorem same_ {d:Nat} {v:V} (hl:look S.env d=some v) (hc:S.cp=[]):Xb (S.put (some d) v) S:=by
 constructor
 ·intro t
  show look ((d,v)::S.env) t=_
  simp only [look]
  split
  ·rename_i e; subst e; exact hl.symm
  ·rfl
 ·intro k
  show look (Li d (fun _=>none) S.cp) k=look S.cp k
  rw [hc]; rfl
theorem cY (hc:S.cp=[]) (x:Ck):S.capOf x=none:=by
 cases x with
 | t n=>show look S.cp n=none; rw [hc]; rfl
 | c v=>rfl
theorem kZ (hc:S.cp=[]) {rd:Ck→V} (o:PU):Ot S rd o=none:=by
 cases o<;>try rfl
 case mv x=>exact cY hc x
 case slice x lo hi sz=>
  simp only [Ot,Iz]
  rw [show Lt S.cp x=none from cY hc x]
theorem Bs {o:PU} {d:Nat} {v:V} (h:Dd S (.p o) v) (hl:look S.env d=some v) (hc:S.cp=[]:=by rfl):Di C ⟨some d,.p o,none⟩ S (fun S'=>Xb S' S):=
 c_ h (by rw [aX (g:=fun _=>none) (kZ hc o)]; exact same_ hl hc)
theorem Bw {o:PU} {d:Nat} {v:V} {gs:Nat} {want g:Bool} (hg:Nc (S.val (.t gs)) want=some g) (h:g=true→Dd S (.p o) v) (hl:look S.env d=some (.may g v)) (hc:S.cp=[]:=by rfl):Di C ⟨some d,.p o,some (gs,want)⟩ S (fun S'=>Xb S' S):=Bv hg h (same_ hl hc)
end
end
end Go.Ev
