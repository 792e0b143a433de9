/- Steps of the small machine, second part: slices, rows that grow, calls, ends, drawn orders. -/
import Derived.Test.YtfpbbpkdjmldkaaGreatQvL
set_option linter.all false
namespace Go.Ev
def Lp {α:Type} (l:List α) (lo hi:Int):Option (List α):=if 0≤lo∧lo≤hi∧hi≤l.length then some ((l.take hi.toNat).drop lo.toNat) else none
theorem eQ {α:Type} {l y:List α} {lo hi:Int} (h:Lp l lo hi=some y):0≤lo∧lo≤hi∧hi≤l.length∧y=(l.take hi.toNat).drop lo.toNat:=by
 unfold Lp at h
 split at h
 ·rename_i hc
  exact ⟨hc.1,hc.2.1,hc.2.2,(Option.some.inj h).symm⟩
 ·cases h
def ovl {α:Type} (l:List α) (at_:Nat) (ys:List α):List α:=l.mapIdx fun i e=>if at_≤i then (ys[i-at_]?).getD e else e
theorem Fb {α:Type} {e:α→List V} {l ys:List α} {off i:Nat}:Gk off (l.map e) (off+i) (ys.map e)=(ovl l i ys).map e:=by
 unfold Gk ovl
 apply List.ext_getElem?
 intro k
 simp only [List.getElem?_mapIdx,List.getElem?_map]
 cases hk:l[k]? with
 | none=>rfl
 | some z=>
  simp only [Option.map_some]
  by_cases h:i≤k
  ·have e1:off+k-(off+i)=k-i:=by omega
   rw [if_pos (by omega),if_pos h,e1]
   cases ys[k-i]? <;> rfl
  ·rw [if_neg (by omega),if_neg h]
theorem row_eq {α:Type} {e:α→List V} {l y:List α} {t off sz:Nat} (h:y.length=l.length):
  (if off=off∧sz=sz∧(l.map e).length=(y.map e).length then V.own t off sz (y.map e) else .undef) = .own t off sz (y.map e):=if_pos ⟨rfl,rfl,by simp [h]⟩
section
variable {C:Ba} {Q:Ex→St→Prop} {S:St} {T:List Ic} {l:List Bj} {d:Option Nat} {K:St→Prop} {i:Bj}
theorem Dj {x:Cu} {v:V} (h:S.val x=v) (hm:Bc true v):Bc true (S.val x):=by rw [h]; exact hm
theorem Hi {α:Type} {e:α→List V} {l0 y:List α} {x:Cu} {lo hi:Option Cu} {a b:Option Int} {vx:V} {sz:Nat} (hx:S.val x=vx) (hx':An vx = .lst sz (l0.map e)) (hm:Bc true vx)
  (hm2:Dg (nm S) (lo.toList++hi.toList)) (ha:Gz (lo.map fun x=>An (S.val x))=some a) (hb:Gz (hi.map fun x=>An (S.val x))=some b)
  (hy:Lp l0 (a.getD 0) (b.getD l0.length)=some y):Dm S (.p (.slice x lo hi sz)) (.lst sz (y.map e)):=by
 obtain ⟨h1,h2,h3,rfl⟩:=eQ hy
 refine ⟨⟨Dj hx hm,hm2⟩,?_⟩
 simp only [pu,hx,hx',ha,hb,List.length_map,←List.map_take,←List.map_drop]
 exact ⟨_,rfl,trivial,h1,h2,h3⟩
theorem Dk {α:Type} {e:α→List V} {l0 y:List α} {x:Cu} {lo hi:Option Cu} {a b:Option Int} {vx:V} {t off sz:Nat} (hx:S.val x=vx) (hx':An vx = .own t off sz (l0.map e)) (hm:Bc true vx)
  (hm2:Dg (nm S) (lo.toList++hi.toList)) (ha:Gz (lo.map fun x=>An (S.val x))=some a) (hb:Gz (hi.map fun x=>An (S.val x))=some b)
  (hy:Lp l0 (a.getD 0) (b.getD l0.length)=some y):Dm S (.p (.slice x lo hi sz)) (.own t (off+(a.getD 0).toNat) sz (y.map e)):=by
 obtain ⟨h1,h2,h3,rfl⟩:=eQ hy
 refine ⟨⟨Dj hx hm,hm2⟩,?_⟩
 have h0:(b.getD l0.length).toNat-l0.length=0:=by omega
 simp only [pu,hx,hx',ha,hb,List.length_map,h0,eN,List.replicate_zero,List.append_nil,List.map_take,List.map_drop]
 exact ⟨_,rfl,trivial,h1,h2,.inl h3⟩
theorem aP {s y:List UInt8} {x:Cu} {lo hi:Option Cu} {a b:Option Int} {vx:V} (hx:S.val x=vx) (hx':An vx = .str s) (hm:Bc true vx)
  (hm2:Dg (nm S) (lo.toList++hi.toList)) (ha:Gz (lo.map fun x=>An (S.val x))=some a) (hb:Gz (hi.map fun x=>An (S.val x))=some b)
  (hy:Lp s (a.getD 0) (b.getD s.length)=some y):Dm S (.p (.sliceStr x lo hi)) (.str y):=by
 obtain ⟨h1,h2,h3,rfl⟩:=eQ hy
 refine ⟨⟨Dj hx hm,hm2⟩,?_⟩
 simp only [pu,hx,hx',ha,hb]
 exact ⟨_,rfl,h1,h2,h3⟩
theorem cidxS {s:List UInt8} {x i:Cu} {vx vi:V} {k:IntKind} {n:Int} {y:UInt8} (hx:S.val x=vx) (hx':An vx = .str s) (hmx:Bc true vx)
  (hi:S.val i=vi) (hi':An vi = .int k n) (hmi:Bc true vi) (hy:El s n=some y):Dm S (.p (.idxStr x i)) (.int .u8 (y.toNat:Int)):=by
 obtain ⟨h0,h1,h2⟩:=Rb hy
 refine ⟨⟨Dj hx hmx,Dj hi hmi,trivial⟩,0≤n∧n<s.length,?_,h0,h1⟩
 have:s.getD n.toNat 0=y:=by simp [List.getD,h2]
 simp only [pu,hx,hi,hx',hi',this]
theorem eV:∀l:List UInt8,fX (l.map Gh)=l
 | []=>rfl
 | b::r=>by
  simp only [List.map_cons,Gh,fX]
  rw [eV r]
  simp
theorem tH {x:Cu} {vx:V} {s:List UInt8} (hx:S.val x=vx) (hx':An vx = .lst 1 (s.map Gh)) (hm:Bc true vx):Dm S (.p (.toStr x)) (.str s):=by
 refine ⟨⟨Dj hx hm,trivial⟩,?_⟩
 simp only [pu,hx,hx',eV]
 exact ⟨_,rfl,trivial,rfl⟩
theorem AkG {x:Cu} {vx:V} {s:List UInt8} {t off:Nat} (hx:S.val x=vx) (hx':An vx = .own t off 1 (s.map Gh)) (hm:Bc true vx):Dm S (.p (.toStr x)) (.str s):=by
 refine ⟨⟨Dj hx hm,trivial⟩,?_⟩
 simp only [pu,hx,hx',eV]
 exact ⟨_,rfl,trivial,rfl⟩
theorem mC {α:Type} {e:α→List V} {l0:List α} {x:Cu} {vx:V} {t off sz:Nat} (hx:S.val x=vx) (hx':An vx = .own t off sz (l0.map e)) (hm:Bc true vx) (hz:sz≠0:=by decide):Dm S (.p (.len x)) (.int .i64 (l0.length:Int)):=by
 refine ⟨⟨Dj hx hm,trivial⟩,(sz≠0),?_,hz⟩
 simp only [pu,hx,hx',List.length_map]
theorem cidxO {α:Type} {e:α→List V} {l0:List α} {x i:Cu} {vx vi:V} {t off sz:Nat} {k:IntKind} {n:Int} {y:α} (hx:S.val x=vx) (hx':An vx = .own t off sz (l0.map e)) (hmx:Bc true vx)
  (hi:S.val i=vi) (hi':An vi = .int k n) (hmi:Bc true vi) (hy:El l0 n=some y):Dm S (.p (.idxA x i sz)) (.optr t sz (off+n.toNat) 0):=by
 obtain ⟨h0,h1,h2⟩:=Rb hy
 refine ⟨⟨Dj hx hmx,Dj hi hmi,trivial⟩,sz=sz∧0≤n∧n<(l0.map e).length,?_,rfl,h0,by simpa using h1⟩
 simp only [pu,hx,hi,hx',hi']
theorem Ut {α:Type} {e:α→List V} {l0:List α} {x:Cu} {vx:V} {t off sz j k n i:Nat} {ag:Bool} {y:α} {v:V} (hx:S.val x=vx) (hx':An vx = .optr t sz j k) (hm:Bc true vx) (hf:S.find t=some (off,l0.map e)) (hj:j=off+i)
  (hy:l0[i]? = some y) (hv:Jw ag n ((e y).drop k)=some v) (hn:k+n≤sz) (hsz:(e y).length=sz):Dm S (.p (.load x n ag)) v:=by
 subst hj
 have hlt:=(List.getElem?_eq_some_iff.1 hy).1
 have hg:(l0.map e).getD (off+i-off) []=e y:=by
  rw [Nat.add_sub_cancel_left]
  simp [List.getD,hy]
 refine ⟨⟨Dj hx hm,trivial⟩,off≤off+i∧off+i<off+(l0.map e).length∧k+n≤sz∧((l0.map e).getD (off+i-off) []).length=sz,?_,Nat.le_add_right _ _,by simp; omega,hn,by rw [hg]; exact hsz⟩
 simp only [pu,hx,hx',hf]
 rw [hg,hv]
theorem c_ {o:PU} {v:V} (h:Dm S (.p o) v) (k:K (S.putC d v (Kj (fun x=>An (S.val x)) o))):Dx C ⟨d,.p o,none⟩ S K:=by
 obtain ⟨h1,ψ,h2,h3⟩:=h
 exact p_ h1 h2 h3 k
theorem Fp {α:Type} {e:α→List V} {l0 l1:List α} {x y:Cu} {t sz by_:Nat} {vy:V} (hx:S.val x = .own t 0 sz (l0.map e)) (hy:S.val y=vy) (hm:Bc true vy) (hs:Ug (An vy)=some (sz,l1.map e))
  (ht:t<Di) (hn:(l0.length+l1.length)*by_≤140737488355328) (k:K ((S.drop t).putC d (.own t 0 sz ((l0++l1).map e)) (Ki x (l0.length+l1.length)))):Dx C ⟨d,.app sz by_ x y,none⟩ S K:=by
 refine ⟨Dj hx trivial,Dj hy hm,?_⟩
 rw [hx,hy]
 dsimp only [An]
 dsimp only [An] at hs
 rw [hs]
 refine ⟨ht,rfl,rfl,rfl,by simpa using hn,?_⟩
 rw [←List.map_append,List.length_map,List.length_map]
 exact k
theorem appz_ {α:Type} {e:α→List V} {l0:List α} {x y:Cu} {t sz by_:Nat} {ki:IntKind} {l:Int} {zero:List V} (z:α) (hx:S.val x = .own t 0 sz (l0.map e)) (hy:S.val y = .int ki l) (hz:e z=zero)
  (ht:t<Di) (h0:0≤l) (hn:((l0.length:Int)+l)*by_≤140737488355328) (k:K ((S.drop t).putC d (.own t 0 sz ((l0++List.replicate l.toNat z).map e)) (Ki x (l0.length+l.toNat)))):Dx C ⟨d,.appz sz by_ zero x y,none⟩ S K:=by
 refine ⟨Dj hx trivial,Dj hy trivial,?_⟩
 rw [hx,hy]
 dsimp only [An]
 refine ⟨ht,rfl,rfl,h0,by simpa using hn,?_⟩
 rw [List.map_append,List.map_replicate,hz] at k
 rw [List.length_map]
 exact .inl k
theorem pR {α:Type} {e:α→List V} {l0:List α} {x y:Cu} {t sz by_ d':Nat} {ki:IntKind} {l c:Int} {zero:List V} (z:α) (hx:S.val x = .own t 0 sz (l0.map e)) (hy:S.val y = .int ki l) (hz:e z=zero)
  (ht:t<Di) (h0:0≤l) (hn:((l0.length:Int)+l)*by_≤140737488355328) (hc:S.capOf x=some c) (hc1:Es≤c) (hc2:c-Es<l0.length+l)
  (k:K ((S.drop (64*d')).put (some d') (.own (64*d') 0 sz ((l0++List.replicate l.toNat z).map e)))):Dx C ⟨some d',.appz sz by_ zero x y,none⟩ S K:=by
 refine ⟨Dj hx trivial,Dj hy trivial,?_⟩
 rw [hx,hy]
 dsimp only [An]
 refine ⟨ht,rfl,rfl,h0,by simpa using hn,?_⟩
 rw [List.map_append,List.map_replicate,hz] at k
 rw [List.length_map]
 exact .inr ⟨d',c,rfl,hc,hc1,hc2,k⟩
theorem cap_ {α:Type} {e:α→List V} {l0:List α} {t off sz n:Nat} (hx:S.val (.t n) = .own t off sz (l0.map e))
  (k:∀c:Nat,l0.length≤c→(off=0→c≤9223372036854775807)→(∀c0,S.capOf (.t n)=some c0→Es≤c0→(c:Int)=c0-Es)→K (St.put { S with cp:=Mv n (fun _=>some (Es+c)) S.cp } d (.int .i64 c))) (hz:sz≠0:=by decide):Dx C ⟨d,.cap (.t n),none⟩ S K:=by
 refine ⟨Dj hx trivial,?_⟩
 rw [hx]
 dsimp only [An]
 rw [List.length_map]
 exact ⟨hz,k⟩
theorem covl {x y:Cu} {t off sz t' off' sz':Nat} {es es':List (List V)} (hx:S.val x = .own t off sz es) (hy:S.val y = .own t' off' sz' es') (h:t≠t') (h1:es≠[]) (h2:es'≠[]) (hz:sz≠0:=by decide) (hz':sz'≠0:=by decide):Dm S (.p (.ovl x y)) (.bool false):=by
 refine ⟨⟨Dj hx trivial,Dj hy trivial,trivial⟩,(t≠t'∧(es≠[]∧es'≠[])∧sz≠0∧sz'≠0),?_,h,⟨h1,h2⟩,hz,hz'⟩
 simp only [pu,hx,hy,An]
theorem cxbyte {s:List UInt8} {x i:Cu} {vx vi:V} {n:Int} (hx:S.val x=vx) (hx':An vx = .str s) (hmx:Bc true vx)
  (hi:S.val i=vi) (hi':An vi = .int .u8 n) (hmi:Bc true vi):Dm S (.p (.xbyte x i)) (.int .i64 (bX s n)):=by
 refine ⟨⟨Dj hx hmx,Dj hi hmi,trivial⟩,True,?_,trivial⟩
 simp only [pu,hx,hi,hx',hi']
theorem cscmp {s:List UInt8} {x i:Cu} {vx vi:V} {n:List UInt8} (hx:S.val x=vx) (hx':An vx = .str s) (hmx:Bc true vx)
  (hi:S.val i=vi) (hi':An vi = .str n) (hmi:Bc true vi):Dm S (.p (.scmp x i)) (.int .i64 (jD s n)):=by
 refine ⟨⟨Dj hx hmx,Dj hi hmi,trivial⟩,True,?_,trivial⟩
 simp only [pu,hx,hi,hx',hi']
theorem make_ {α:Type} {e:α→List V} {x y:Cu} {d sz by_:Nat} {k1 k2:IntKind} {a c:Int} {zero:List V} (z:α) (hx:S.val x = .int k1 a) (hy:S.val y = .int k2 c) (h0:0≤a) (hac:a=c) (hn:c*by_≤140737488355328)
  (hz:e z=zero) (k:K ((S.drop (64*d)).put (some d) (.own (64*d) 0 sz ((List.replicate a.toNat z).map e)))):Dx C ⟨some d,.make sz by_ zero x y,none⟩ S K:=by
 refine ⟨Dj hx trivial,Dj hy trivial,?_⟩
 rw [hx,hy]
 refine ⟨h0,hac,hn,?_⟩
 rw [List.map_replicate,hz] at k
 exact k
theorem copy_ {α:Type} {e:α→List V} {l0 l1:List α} {x y:Cu} {t off sz:Nat} {vy:V} (hx:S.val x = .own t off sz (l0.map e)) (hy:S.val y=vy) (hm:Bc true vy) (hs:Ug (An vy)=some (sz,l1.map e))
  (k:K ((S.map (lH t sz off ((l1.take l0.length).map e))).put d (.int .i64 (min l1.length l0.length:Nat)))):Dx C ⟨d,.copy sz x y,none⟩ S K:=by
 refine ⟨Dj hx trivial,Dj hy hm,?_⟩
 rw [hx,hy]
 dsimp only [An]
 dsimp only [An] at hs
 rw [hs]
 refine ⟨rfl,rfl,?_⟩
 rw [List.map_take,] at k
 simpa using k
theorem clear_ {α:Type} {e:α→List V} {l0:List α} {z:α} {x:Cu} {t off sz:Nat} {zero:List V} (hx:S.val x = .own t off sz (l0.map e)) (hz:e z=zero)
  (k:K ((S.map (lH t sz off ((List.replicate l0.length z).map e))).put d .undef)):Dx C ⟨d,.clear sz zero x,none⟩ S K:=by
 refine ⟨Dj hx trivial,?_⟩
 rw [hx]
 refine ⟨rfl,?_⟩
 rw [List.map_replicate,hz] at k
 simpa using k
theorem HL {α:Type} {e:α→List V} {l0:List α} {x lo hi mx:Cu} {t off sz:Nat} {k1 k2 k3:IntKind} {a b c:Int} (hx:S.val x = .own t off sz (l0.map e)) (h1:S.val lo = .int k1 a) (h2:S.val hi = .int k2 b) (h3:S.val mx = .int k3 c)
  (hc:0≤a∧a≤b∧b≤c∧c≤(l0.length:Int)) (k:K (S.put d .undef)) (hz:sz≠0:=by decide):Dx C ⟨d,.chk3 x lo hi mx,none⟩ S K:=by
 obtain ⟨s0,rfl⟩:=Nat.exists_eq_succ_of_ne_zero hz
 refine ⟨⟨Dj hx trivial,Dj h1 trivial,Dj h2 trivial,Dj h3 trivial⟩,?_⟩
 rw [hx,h1,h2,h3]
 exact ⟨hc.1,hc.2.1,hc.2.2.1,by simpa using hc.2.2.2,k⟩
theorem dH {α:Type} {e:α→List V} {l0:List α} {x:Cu} {sz:Nat} {ne:Bool} (hx:S.val x = .lst sz (l0.map e)) (k:∀b:Bool,(b=true→l0=[])→K (S.put d (.bool (if ne then !b else b)))) (hz:sz≠0:=by decide):
  Dx C ⟨d,.isnil x ne,none⟩ S K:=by
 obtain ⟨s0,rfl⟩:=Nat.exists_eq_succ_of_ne_zero hz
 refine ⟨Dj hx trivial,?_⟩
 rw [hx]
 exact fun b hb=>k b fun h=>by simpa using hb h
theorem MG {x:Cu} {s:List UInt8} (hx:S.val x = .str s) (k:K (S.put d (.lst 1 (s.map Gh)))):Dx C ⟨d,.toBytes x,none⟩ S K:=by
 refine ⟨Dj hx trivial,?_⟩
 rw [hx]
 exact k
theorem Ky {sz len d:Nat} {zero:List V} {parts:List (Nat×Cu)} (hm:Dg (fun p=>nm S p.2) parts)
  (h:Dg (fun p=>p.1<len∧p.2.cells.length=sz∧p.2.cells.all (fun c => !Lc c)=true) (parts.map fun p=>(p.1,An (S.val p.2))))
  (k:K (((S.freezes (Ku (parts.map fun p=>(p.1,An (S.val p.2))))).drop (64*d)).put (some d)
    (.own (64*d) 0 sz (Ma sz (List.replicate len zero) ((parts.map fun p=>(p.1,An (S.val p.2))).map fun p=>(p.1,p.2.cells.map Ga)))))):
  Dx C ⟨some d,.mkS sz zero len parts,none⟩ S K:=⟨hm,h,k⟩
theorem MN {f:Nat} {args:List V} (fz:Bool) {gv:List V} {r:V} (h:C f ⟨gv,[]⟩ ⟨r,[],[]⟩) (h0:Qa (fun v => !Cq v) args=true) (hg:args.map (mapW (S.liftC [] [] [] fz))=gv)
  (h3:fz=false→r.flat.all Jv=true) (k:K (((if fz then S.freezes (Ii (Qu args)) else S).drops (Pz (d.getD 0) (Ii r.flat))).put d (Hd (Hv (d.getD 0) 0 [] []) r))):oS C f args d S K:=by
 have e0:∀l:List Nat,fW [] l=l:=fun l=>by
  induction l with
  | nil=>rfl
  | cons x r ih=>simp [fW,ih]
 refine ⟨h0,[],[],[],fz,⟨r,[],[]⟩,⟨rfl,rfl,rfl,rfl⟩,⟨rfl,rfl,rfl⟩,fun hz=>?_,?_,?_⟩
 ·simp [Gs.flat,h3 hz]
 ·subst hg; exact h
 ·simpa [St.after,St.frzTags,St.given,e0,Gs.newR,Gs.newB,Uf,St.rows,St.boxes,St.drops] using k
theorem Cm {f:Nat} {as:List Cu} (fz:Bool) {gv:List V} {r:V} (h:C f ⟨gv,[]⟩ ⟨r,[],[]⟩) (hm:Dg (nm S) as) (h0:Qa (fun v => !Cq v) (as.map fun x=>An (S.val x))=true)
  (hg:(as.map fun x=>An (S.val x)).map (mapW (S.liftC [] [] [] fz))=gv) (h3:fz=false→r.flat.all Jv=true)
  (k:K (((if fz then S.freezes (Ii (Qu (as.map fun x=>An (S.val x)))) else S).drops (Pz (d.getD 0) (Ii r.flat))).put d (Hd (Hv (d.getD 0) 0 [] []) r))):
  Dx C ⟨d,.call f as,none⟩ S K:=⟨hm,MN fz h h0 hg h3 k⟩
theorem Gg {f:Nat} {x:Cu} {as:List Cu} {caps:List V} (hx:S.val x = .clo f caps) (fz:Bool) {gv:List V} {r:V} (h:C f ⟨gv,[]⟩ ⟨r,[],[]⟩) (hm:Dg (nm S) as)
  (h0:Qa (fun v => !Cq v) ((as.map fun x=>An (S.val x))++caps)=true) (hg:((as.map fun x=>An (S.val x))++caps).map (mapW (S.liftC [] [] [] fz))=gv) (h3:fz=false→r.flat.all Jv=true)
  (k:K (((if fz then S.freezes (Ii (Qu ((as.map fun x=>An (S.val x))++caps))) else S).drops (Pz (d.getD 0) (Ii r.flat))).put d (Hd (Hv (d.getD 0) 0 [] []) r))):
  Dx C ⟨d,.callv x as,none⟩ S K:=by
 refine ⟨Dj hx trivial,hm,?_⟩
 rw [hx]
 exact MN fz h h0 hg h3 k
theorem wcall1 {f:Nat} {args:List V} (LB LR LM:List Nat) (fz:Bool) {g:Tr} {t:Gs} (h:C f g t) (h0:Qa (fun v => !Cq v) args=true) (hg:S.give args LB LR LM fz=g)
  (h1:(Fh LB&&Fh (LR++LM)&&Re Di LM&&LB.all (fun T=>(look S.bx T).isSome))=true)
  (h2:(Re 65 [t.bx.length-LB.length,LM.length]&&Lt (t.newB (d.getD 0) LB.length) LB&&Lt (t.newR (d.getD 0)) LR)=true) (h3:fz=false→t.flat=true)
  (k:K ((S.after args (d.getD 0) fz LB LR LM t).put d (Hd (Hv (d.getD 0) (t.bx.length-LB.length) LB LR) t.r))):oS C f args d S K:=by
 simp only [Bool.and_eq_true] at h1 h2
 refine ⟨h0,LB,LR,LM,fz,t,⟨h1.1.1.1,h1.1.1.2,h1.1.2,h1.2⟩,⟨h2.1.1,h2.1.2,h2.2⟩,h3,?_,k⟩
 subst hg; exact h
theorem Up {f:Nat} {as:List Cu} (LB LR LM:List Nat) (fz:Bool) {g:Tr} {t:Gs} (h:C f g t) (hm:Dg (nm S) as) (h0:Qa (fun v => !Cq v) (as.map fun x=>An (S.val x))=true)
  (hg:S.give (as.map fun x=>An (S.val x)) LB LR LM fz=g)
  (h1:(Fh LB&&Fh (LR++LM)&&Re Di LM&&LB.all (fun T=>(look S.bx T).isSome))=true)
  (h2:(Re 65 [t.bx.length-LB.length,LM.length]&&Lt (t.newB (d.getD 0) LB.length) LB&&Lt (t.newR (d.getD 0)) LR)=true) (h3:fz=false→t.flat=true)
  (k:K ((S.after (as.map fun x=>An (S.val x)) (d.getD 0) fz LB LR LM t).put d (Hd (Hv (d.getD 0) (t.bx.length-LB.length) LB LR) t.r))):Dx C ⟨d,.call f as,none⟩ S K:=
 ⟨hm,wcall1 LB LR LM fz h h0 hg h1 h2 h3 k⟩
theorem En {f:Nat} {as:List Cu} {gs:Nat} {want g:Bool} (hgv:Pb (S.val (.t gs)) want=some g) (fz:Bool) {gv:List V} {r:V} (h:g=true→C f ⟨gv,[]⟩ ⟨r,[],[]⟩)
  (hm:Dg (fun x=>Bc g (S.val x)) as) (h0:g=true→Qa (fun v => !Cq v) (as.map fun x=>An (S.val x))=true)
  (hg:g=true→(as.map fun x=>An (S.val x)).map (mapW (S.liftC [] [] [] fz))=gv) (h3:fz=false→r.flat.all Jv=true) (h4:fz=true→Ii (Qu (as.map fun x=>An (S.val x)))=[])
  (k:K (S.put d (.may g (Hd Uu r)))):Dx C ⟨d,.call f as,some (gs,want)⟩ S K:=by
 unfold Dx
 dsimp only
 rw [hgv]
 exact .inl ⟨hm,h0,fz,r,fun e=>by have:=hg e; subst this; exact h e,h3,h4,k⟩
theorem tD {f:Nat} {x:Cu} {as:List Cu} {caps:List V} {vx:V} {gs:Nat} {want g:Bool} (hgv:Pb (S.val (.t gs)) want=some g) (hx:S.val x=vx) (hx':An vx = .clo f caps) (hmx:Bc g vx) (fz:Bool) {gv:List V} {r:V}
  (h:g=true→C f ⟨gv,[]⟩ ⟨r,[],[]⟩)
  (hm:Dg (fun x=>Bc g (S.val x)) as) (h0:g=true→Qa (fun v => !Cq v) ((as.map fun x=>An (S.val x))++caps)=true)
  (hg:g=true→((as.map fun x=>An (S.val x))++caps).map (mapW (S.liftC [] [] [] fz))=gv) (h3:fz=false→r.flat.all Jv=true) (h4:fz=true→Ii (Qu ((as.map fun x=>An (S.val x))++caps))=[])
  (k:K (S.put d (.may g (Hd Uu r)))):Dx C ⟨d,.callv x as,some (gs,want)⟩ S K:=by
 unfold Dx
 dsimp only
 rw [hgv]
 refine .inl ⟨by rw [hx]; exact hmx,hm,?_⟩
 rw [hx,hx']
 exact ⟨h0,fz,r,fun e=>by have:=hg e; subst this; exact h e,h3,h4,k⟩
theorem cb8 {o:PU} {x:Int} (h:Dm S (.p o) (.int .u8 (IntKind.u8.wrap x))):Dm S (.p o) (.int .u8 ((b8 x).toNat:Int)):=by
 unfold b8
 rw [vM]
 exact h
theorem fl2 {α:Type} {e:α→List V} {xs:List α} (h:∀x,(e x).all eO=true):((xs.map e).all fun x=>x.all eO)=true:=by
 simp only [List.all_map,List.all_eq_true,Function.comp]
 intro x _
 exact List.all_eq_true.1 (h x)
theorem xP {α:Type} {e:α→List V} {xs:List α} {n:Nat} (h:∀x,(e x).length=n):∀y∈xs.map e,y.length=n:=by
 intro y hy
 obtain ⟨x,_,rfl⟩:=List.mem_map.1 hy
 exact h x
theorem fl1 {α:Type} {e:α→List V} {xs:List α} {t off sz:Nat} (h:∀x,(e x).all eO=true):Jv (.own t off sz (xs.map e))=true:=by
 simp only [Jv,List.all_map,List.all_eq_true,Function.comp]
 intro x _
 exact List.all_eq_true.1 (h x)
theorem Fe {res:List iU} {nb:Nat} {t:Gs} {v:V} {css:List (List V)} (h1:LU S res=some v) (h2:Pc S (Zz nb++Gf v.flat)=some css)
  (h3:Re 65 [(Jq (v.flat++css.flatten)).length,(Gf v.flat).length]=true) (h4:Hd (Xi (Jq (v.flat++css.flatten)) (Gf v.flat)) v=t.r)
  (h5:Rf (Xi (Jq (v.flat++css.flatten)) (Gf v.flat)) css=t.bx) (h6:Xj S 0 t.rw):FQ res nb t .ret S:=by
 refine ⟨S,Fg.refl S,?_⟩
 unfold sT
 rw [h1]
 show eU S v nb t
 unfold eU
 dsimp only
 rw [h2]
 exact ⟨h3,h4,h5,h6⟩
theorem retf_ {res:List iU} {nb:Nat} {t:Gs} {S1:St} (hf:Fg S S1) (h:FQ res nb t .ret S1):FQ res nb t .ret S:=by
 obtain ⟨S2,h1,h2⟩:=h
 exact ⟨S2,hf.trans h1,h2⟩
theorem fn_ {fn:De} {args:List V} {bx:List (List V)} {t:Gs} (h0:args.length≤fn.nt) (h:WL C [.c fn.body] (FQ fn.res bx.length t) .normal ⟨Qn args 0,Qo bx Di,[]⟩):pB C fn ⟨args,bx⟩ t:=⟨h0,.inl h⟩
theorem fnc_ {fn:De} {args:List V} {bx:List (List V)} {t:Gs} (h0:args.length≤fn.nt) (h:∀f:Nat→Nat,(∀(k t off sz:Nat) (es:List (List V)),args[k]? = some (.own t off sz es)→sz≠0→es.length≤f k∧(off=0→f k≤9223372036854775807)) →
  WL C [.c fn.body] (FQ fn.res bx.length t) .normal ⟨Qn args 0,Qo bx Di,Qk f args 0⟩):pB C fn ⟨args,bx⟩ t:=⟨h0,.inr h⟩
theorem yE {α:Type} (l:List α) (a b:Nat) (h:a≤b) (h2:b≤l.length):Lp l (a:Int) ((some (b:Int)).getD l.length)=some ((l.take b).drop a):=by
 unfold Lp
 simp only [Option.getD_some]
 rw [if_pos ⟨by omega,by omega,by omega⟩]
 simp
theorem Pp {α:Type} (l:List α) (a:Nat) (h:a≤l.length):Lp l ((some (a:Int)).getD 0) ((none:Option Int).getD l.length)=some (l.drop a):=by
 unfold Lp
 simp only [Option.getD_some,Option.getD_none]
 rw [if_pos ⟨by omega,by omega,by omega⟩]
 simp
theorem eE {d:Option Nat} {v:V} {f g:List (Nat×Int)→Option Int} (h:f S.cp=g S.cp):S.putC d v f=S.putC d v g:=by
 cases d with
 | none=>rfl
 | some d=>
  have:Mv d f S.cp=Mv d g S.cp:=by
   cases hl:S.cp with
   | nil=>rw [hl] at h; simp only [Mv,h]
   | cons p r=>rw [hl] at h; simp only [Mv,h]
  simp only [St.putC,this]
theorem zK {α:Type} {e:α→List V} {l0 l1:List α} {x y:Cu} {t sz by_:Nat} {vy:V} {c:Int} (hx:S.val x = .own t 0 sz (l0.map e)) (hy:S.val y=vy) (hm:Bc true vy) (hs:Ug (An vy)=some (sz,l1.map e))
  (ht:t<Di) (hn:(l0.length+l1.length)*by_≤140737488355328) (hc:S.capOf x=some c) (hle:((l0.length+l1.length:Nat):Int)≤Pe c)
  (k:K ((S.drop t).putC d (.own t 0 sz ((l0++l1).map e)) fun _=>some c)):Dx C ⟨d,.app sz by_ x y,none⟩ S K:=by
 refine Fp hx hy hm hs ht hn ?_
 rw [eE (g:=fun _=>some c)]
 ·exact k
 ·show Ki x _ S.cp=_
  unfold Ki
  rw [show Nm S.cp x=some c from hc]
  dsimp only
  rw [if_pos hle]
theorem Zd {α:Type} {e:α→List V} {R:List α} {x lo hi:Cu} {t sz L H:Nat} {k1 k2:IntKind} {c:Int} (hx:S.val x = .own t 0 sz (R.map e)) (hlo:S.val lo = .int k1 (L:Int)) (hhi:S.val hi = .int k2 (H:Int))
  (hR:R.length=L) (hLH:L≤H) (hsz:0<sz) (hc:S.capOf x=some c) (hH:(H:Int)≤Pe c):Dm S (.p (.slice x (some lo) (some hi) sz)) (.own t L sz (eN sz (H-L))):=by
 have ha:Gz ((some lo).map fun x=>An (S.val x))=some (some (L:Int)):=by simp only [Option.map_some,hlo]; rfl
 have hb:Gz ((some hi).map fun x=>An (S.val x))=some (some (H:Int)):=by simp only [Option.map_some,hhi]; rfl
 refine ⟨⟨Dj hx trivial,Dj hlo trivial,Dj hhi trivial,trivial⟩,?_⟩
 have e1:((R.map e++eN sz (H-L)).take H).drop L=eN sz (H-L):=by
  rw [List.take_of_length_le (by simp [eN]; omega)]
  exact List.drop_left' (by simpa using hR)
 have hx':An (S.val x) = .own t 0 sz (R.map e):=by rw [hx]; rfl
 simp only [pu,hx',ha,hb,Option.getD_some,List.length_map,Int.toNat_natCast,hR,e1,Nat.zero_add]
 exact ⟨_,rfl,trivial,by omega,by omega,.inr ⟨trivial,hsz,c,hc,hH⟩⟩
def eo {α:Type} (e:α→List V) (k:Nat):Option α→List V
 | none=>List.replicate k .undef
 | some x=>e x
theorem Se {α:Type} {e:α→List V} {k:Nat} (l:List α):l.map e=(l.map some).map (eo e k):=by
 rw [List.map_map]; rfl
theorem kZ {α:Type} {e:α→List V} {l0:List α} {x hi:Cu} {t sz H:Nat} {k2:IntKind} {c:Int} (hx:S.val x = .own t 0 sz (l0.map e)) (hhi:S.val hi = .int k2 (H:Int))
  (hLH:l0.length≤H) (hsz:0<sz) (hc:S.capOf x=some c) (hH:(H:Int)≤Pe c):Dm S (.p (.slice x none (some hi) sz)) (.own t 0 sz ((l0.map some++List.replicate (H-l0.length) none).map (eo e sz))):=by
 have hb:Gz ((some hi).map fun x=>An (S.val x))=some (some (H:Int)):=by simp only [Option.map_some,hhi]; rfl
 have ha:Gz ((none:Option Cu).map fun x=>An (S.val x))=some none:=rfl
 refine ⟨⟨Dj hx trivial,Dj hhi trivial,trivial⟩,?_⟩
 have e1:((l0.map e++eN sz (H-l0.length)).take H).drop 0=(l0.map some++List.replicate (H-l0.length) none).map (eo e sz):=by
  rw [List.drop_zero,List.take_of_length_le (by simp [eN]; omega),List.map_append,List.map_replicate,←Se]
  rfl
 have hx':An (S.val x) = .own t 0 sz (l0.map e):=by rw [hx]; rfl
 simp only [pu,hx',ha,hb,Option.getD_some,Option.getD_none,List.length_map,Int.toNat_natCast,Int.toNat_zero,e1]
 exact ⟨_,rfl,trivial,by omega,by omega,.inr ⟨trivial,hsz,c,hc,hH⟩⟩
theorem wrapI {x:Int} (h1 : -9223372036854775808≤x) (h2:x≤9223372036854775807):IntKind.i64.wrap x=x:=by
 have e1:IntKind.i64.wrap x=if x%18446744073709551616≥9223372036854775808 then x%18446744073709551616-18446744073709551616 else x%18446744073709551616:=by
  simp [IntKind.wrap,IntKind.bits,IntKind.signed]
 rw [e1]; split<;>omega
theorem iN {x:Int} (n:Nat) (h:x=n) (hb:n≤140737488355328):IntKind.i64.wrap x=n:=by
 subst h
 have e1:IntKind.i64.wrap (n:Int)=if (n:Int)%18446744073709551616≥9223372036854775808 then (n:Int)%18446744073709551616-18446744073709551616 else (n:Int)%18446744073709551616:=by
  simp [IntKind.wrap,IntKind.bits,IntKind.signed]
 rw [e1]; split<;>omega
theorem Ng {α:Type} {l ys:List α} {i:Nat}:(ovl l i ys).length=l.length:=by simp [ovl]
theorem kQ {α:Type} {l ys:List α} {i:Nat} (h:i+ys.length≤l.length):ovl l i ys=l.take i++ys++l.drop (i+ys.length):=by
 apply List.ext_getElem?
 intro k
 simp only [ovl,List.getElem?_mapIdx,List.append_assoc,List.getElem?_append,List.getElem?_drop,List.length_take,Nat.min_eq_left (show i≤l.length by omega),List.getElem?_take]
 by_cases h1:k<i
 ·simp only [h1,if_true,if_neg (show ¬i≤k by omega)]
  cases l[k]? <;> rfl
 ·simp only [h1,if_false,if_pos (show i≤k by omega)]
  by_cases h2:k-i<ys.length
  ·simp only [h2,if_true]
   have:k<l.length:=by omega
   simp [this,h2]
  ·simp only [h2,if_false]
   rw [show i+ys.length+(k-i-ys.length)=k by omega,List.getElem?_eq_none (show ys.length≤k-i by omega)]
   cases l[k]? <;> rfl
theorem ovl_two {α:Type} {A X Y Z:List α} {i:Nat} (h0:A.length=i+Y.length+Z.length) (h1:A.take i=X):ovl (ovl A (i+Y.length) Z) i Y=X++Y++Z:=by
 have hx:X.length=i:=by rw [←h1]; simp; omega
 have hd:A.drop (i+Y.length+Z.length)=[]:=List.drop_eq_nil_of_le (by omega)
 have e1:ovl A (i+Y.length) Z=A.take (i+Y.length)++Z:=by rw [kQ (by omega),hd,List.append_nil]
 have hl:(A.take (i+Y.length)).length=i+Y.length:=by simp; omega
 have e2:(A.take (i+Y.length)++Z).take i=X:=by rw [List.take_append_of_le_length (by omega),List.take_take,Nat.min_eq_left (by omega),h1]
 have e3:(A.take (i+Y.length)++Z).drop (i+Y.length)=Z:=List.drop_left' hl
 rw [e1,kQ (by rw [List.length_append,hl]; omega),e2,e3]
theorem LC {α:Type} {A X Y Z:List α} {i:Nat} (h0:A.length=i+Y.length+Z.length) (h1:A.take i=X):ovl (ovl A i Y) (i+Y.length) Z=X++Y++Z:=by
 have hx:X.length=i:=by rw [←h1]; simp; omega
 have e1:ovl A i Y=X++Y++A.drop (i+Y.length):=by rw [kQ (by omega),h1]
 have hd:(X++Y++A.drop (i+Y.length)).drop (i+Y.length+Z.length)=[]:=List.drop_eq_nil_of_le (by simp; omega)
 rw [e1,kQ (by simp; omega),hd,List.append_nil,List.take_left' (by simp; omega)]
theorem nQ {α:Type} {A:List (Option α)} {a0 a2:List α} {i:Nat} (h0:A.length=a0.length+a2.length) (h1:A.take i=(a0.take i).map some) (hi:i≤a0.length):
  ovl (ovl A (i+a2.length) ((a0.drop i).map some)) i (a2.map some)=(a0.take i++a2++a0.drop i).map some:=by
 have:=ovl_two (A:=A) (Y:=a2.map some) (Z:=(a0.drop i).map some) (by simp; omega) h1
 rw [List.length_map] at this
 rw [this]; simp
theorem vC {α:Type} {R a0 a2:List α} {i:Nat} (h0:R.length=a0.length+a2.length) (h1:R.take i=a0.take i) (hi:i≤a0.length):
  ovl (ovl R i (a2.take (R.drop i).length)) (i+a2.length) ((a0.drop i).take ((ovl R i (a2.take (R.drop i).length)).drop (i+a2.length)).length)=a0.take i++a2++a0.drop i:=by
 have e0:a2.take (R.drop i).length=a2:=List.take_of_length_le (by rw [List.length_drop]; omega)
 have e2:(a0.drop i).take ((ovl R i a2).drop (i+a2.length)).length=a0.drop i:=List.take_of_length_le (by rw [List.length_drop,List.length_drop,Ng]; omega)
 rw [e0,e2]
 exact LC (by rw [List.length_drop]; omega) h1
theorem kP {es ys:List (List V)} {at_:Nat} (h:es.length≤at_):Gk 0 es at_ ys=es:=by
 apply List.ext_getElem
 ·simp [Gk]
 ·intro k h1 h2
  simp only [Gk,List.getElem_mapIdx]
  rw [if_neg (by omega)]
theorem cC {x:Cu} {t off sz:Nat} {es:List (List V)} {zero:List V} (hx:S.val x = .own t off sz es) (k:K ((S.map (lH t sz off (List.replicate es.length zero))).put d .undef)):Dx C ⟨d,.clear sz zero x,none⟩ S K:=by
 refine ⟨Dj hx trivial,?_⟩
 rw [hx]
 exact ⟨rfl,k⟩
theorem LF {α:Type} {e:α→List V} {R:List α} {t sz at_:Nat} {ys:List (List V)} (h:R.length≤at_):some (V.own t 0 sz (Gk 0 (R.map e) at_ ys))=some (.own t 0 sz (R.map e)):=by
 rw [kP (by simpa using h)]
theorem Bm {p:DP} (h:WD C p [] (WL C T Q .normal) S):WL C (.c (.draw p)::T) Q .normal S:=h
theorem HU {p:DP} (R:St→Prop) (hJ:∀S,R S→WL C T Q .normal S) (h:(∀S S1,Fg S S1→R S1→WL C (.w::T) Q .normal S)→WD C p [] (WL C (.w::T) Q .normal) S):
  WL C (.c (.draw p) :: .w::T) Q .normal S:=h fun _ S1 h1 h2=>⟨S1,h1,hJ S1 h2⟩
section
variable {X:List Bj}
theorem Jz (h:K S):WD C .fin X K S:=h
theorem Au {p:DP} (h1:Ef i S) (h2:Dx C i S (fun S'=>Fz C X S'∧WD C p X K S')):WD C (.take i p) X K S:=.inl ⟨h1,h2⟩
theorem cL {p:DP} (h2:Dx C i S (fun S'=>Fz C (i::X) S'∧WD C p (i::X) K S')):WD C (.take i p) X K S:=.inr h2
theorem Az:WD C .stop X K S:=trivial
theorem Cb {held:List Bj} {r rest:DP} (h1:Dx C i S (fun S'=>∃S1,Fg S' S1∧∃X',Jl C X' held S1∧Fz C X' S1∧WD C r X' K S1)) (h2:WD C rest X K S):WD C (.alt held i r rest) X K S:=⟨h1,h2⟩
theorem dkw {held:List Bj} {r:DP} (S1:St) (hf:Fg S S1) (h:∃X',Jl C X' held S1∧Fz C X' S1∧WD C r X' K S1):∃S1,Fg S S1∧∃X',Jl C X' held S1∧Fz C X' S1∧WD C r X' K S1:=⟨S1,hf,h⟩
theorem same_ {d:Nat} {v:V} (hl:look S.env d=some v) (hc:S.cp=[]):aE (S.put (some d) v) S:=by
 constructor
 ·intro t
  show look ((d,v)::S.env) t=_
  simp only [look]
  split
  ·rename_i e; subst e; exact hl.symm
  ·rfl
 ·intro k
  show look (Mv d (fun _=>none) S.cp) k=look S.cp k
  rw [hc]; rfl
theorem gK (hc:S.cp=[]) (x:Cu):S.capOf x=none:=by
 cases x with
 | t n=>show look S.cp n=none; rw [hc]; rfl
 | c v=>rfl
theorem pV (hc:S.cp=[]) {rd:Cu→V} (o:PU):Qj S rd o=none:=by
 cases o<;>try rfl
 case mv x=>exact gK hc x
 case slice x lo hi sz=>
  simp only [Qj,Kj]
  rw [show Nm S.cp x=none from gK hc x]
theorem Bl {o:PU} {d:Nat} {v:V} (h:Dm S (.p o) v) (hl:look S.env d=some v) (hc:S.cp=[]:=by rfl):Dx C ⟨some d,.p o,none⟩ S (fun S'=>aE S' S):=
 c_ h (by rw [eE (g:=fun _=>none) (pV hc o)]; exact same_ hl hc)
theorem Hy {o:PU} {d:Nat} {v:V} {gs:Nat} {want g:Bool} (hg:Pb (S.val (.t gs)) want=some g) (h:g=true→Dm S (.p o) v) (hl:look S.env d=some (.may g v)) (hc:S.cp=[]:=by rfl):Dx C ⟨some d,.p o,some (gs,want)⟩ S (fun S'=>aE S' S):=Ep hg h (same_ hl hc)
end
end
end Go.Ev
