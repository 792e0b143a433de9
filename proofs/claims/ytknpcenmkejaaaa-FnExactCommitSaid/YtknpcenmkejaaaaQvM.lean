/- Steps of the small machine, second part: slices, rows that grow, calls, ends, drawn orders. -/
import Derived.Test.YtknpcenmkejaaaaQvL
set_option linter.all false
namespace Go.Ev
def Jr {α:Type} (l:List α) (lo hi:Int):Option (List α):=if 0≤lo∧lo≤hi∧hi≤l.length then some ((l.take hi.toNat).drop lo.toNat) else none
theorem dX {α:Type} {l y:List α} {lo hi:Int} (h:Jr l lo hi=some y):0≤lo∧lo≤hi∧hi≤l.length∧y=(l.take hi.toNat).drop lo.toNat:=by
 unfold Jr at h
 split at h
 ·rename_i hc
  exact ⟨hc.1,hc.2.1,hc.2.2,(Option.some.inj h).symm⟩
 ·cases h
def ovl {α:Type} (l:List α) (at_:Nat) (ys:List α):List α:=l.mapIdx fun i e=>if at_≤i then (ys[i-at_]?).getD e else e
theorem Em {α:Type} {e:α→List V} {l ys:List α} {off i:Nat}:Ds off (l.map e) (off+i) (ys.map e)=(ovl l i ys).map e:=by
 unfold Ds ovl
 apply List.ext_getElem?
 intro k
 simp only [List.getElem?_mapIdx,List.getElem?_map]
 cases hk:l[k]? with
 | none=>rfl
 | some z=>
  simp only [Option.map_some]
  by_cases h:i≤k
  ·have e1:off+k-(off+i)=k-i:=by omega
   rw [if_pos (by omega),if_pos h,e1]
   cases ys[k-i]? <;> rfl
  ·rw [if_neg (by omega),if_neg h]
theorem Xx {α:Type} {e:α→List V} {l y:List α} {t off sz:Nat} (h:y.length=l.length):
  (if off=off∧sz=sz∧(l.map e).length=(y.map e).length then V.own t off sz (y.map e) else .undef) = .own t off sz (y.map e):=if_pos ⟨rfl,rfl,by simp [h]⟩
section
variable {C:Az} {Q:Ex→St→Prop} {S:St} {T:List Gf} {l:List Bg} {d:Option Nat} {K:St→Prop} {i:Bg}
theorem Bv {x:Bj} {v:V} (h:S.val x=v) (hm:As true v):As true (S.val x):=by rw [h]; exact hm
theorem Ha {α:Type} {e:α→List V} {l0 y:List α} {x:Bj} {lo hi:Option Bj} {a b:Option Int} {vx:V} {sz:Nat} (hx:S.val x=vx) (hx':Ai vx = .lst sz (l0.map e)) (hm:As true vx)
  (hm2:Bq (nm S) (lo.toList++hi.toList)) (ha:Ff (lo.map fun x=>Ai (S.val x))=some a) (hb:Ff (hi.map fun x=>Ai (S.val x))=some b)
  (hy:Jr l0 (a.getD 0) (b.getD l0.length)=some y):Cc S (.p (.slice x lo hi sz)) (.lst sz (y.map e)):=by
 obtain ⟨h1,h2,h3,rfl⟩:=dX hy
 refine ⟨⟨Bv hx hm,hm2⟩,?_⟩
 simp only [pu,hx,hx',ha,hb,List.length_map,←List.map_take,←List.map_drop]
 exact ⟨_,rfl,trivial,h1,h2,h3⟩
theorem Dk {α:Type} {e:α→List V} {l0 y:List α} {x:Bj} {lo hi:Option Bj} {a b:Option Int} {vx:V} {t off sz:Nat} (hx:S.val x=vx) (hx':Ai vx = .own t off sz (l0.map e)) (hm:As true vx)
  (hm2:Bq (nm S) (lo.toList++hi.toList)) (ha:Ff (lo.map fun x=>Ai (S.val x))=some a) (hb:Ff (hi.map fun x=>Ai (S.val x))=some b)
  (hy:Jr l0 (a.getD 0) (b.getD l0.length)=some y):Cc S (.p (.slice x lo hi sz)) (.own t (off+(a.getD 0).toNat) sz (y.map e)):=by
 obtain ⟨h1,h2,h3,rfl⟩:=dX hy
 refine ⟨⟨Bv hx hm,hm2⟩,?_⟩
 have h0:(b.getD l0.length).toNat-l0.length=0:=by omega
 simp only [pu,hx,hx',ha,hb,List.length_map,h0,Xw,List.replicate_zero,List.append_nil,List.map_take,List.map_drop]
 exact ⟨_,rfl,trivial,h1,h2,.inl h3⟩
theorem Yc:∀l:List UInt8,Yr (l.map By)=l
 | []=>rfl
 | b::r=>by
  simp only [List.map_cons,By,Yr]
  rw [Yc r]
  simp
theorem Ux {x:Bj} {vx:V} {s:List UInt8} (hx:S.val x=vx) (hx':Ai vx = .lst 1 (s.map By)) (hm:As true vx):Cc S (.p (.toStr x)) (.str s):=by
 refine ⟨⟨Bv hx hm,trivial⟩,?_⟩
 simp only [pu,hx,hx',Yc]
 exact ⟨_,rfl,trivial,rfl⟩
theorem VT {x:Bj} {vx:V} {s:List UInt8} {t off:Nat} (hx:S.val x=vx) (hx':Ai vx = .own t off 1 (s.map By)) (hm:As true vx):Cc S (.p (.toStr x)) (.str s):=by
 refine ⟨⟨Bv hx hm,trivial⟩,?_⟩
 simp only [pu,hx,hx',Yc]
 exact ⟨_,rfl,trivial,rfl⟩
theorem Jb {α:Type} {e:α→List V} {l0:List α} {x:Bj} {vx:V} {t off sz:Nat} (hx:S.val x=vx) (hx':Ai vx = .own t off sz (l0.map e)) (hm:As true vx) (hz:sz≠0:=by decide):Cc S (.p (.len x)) (.int .i64 (l0.length:Int)):=by
 refine ⟨⟨Bv hx hm,trivial⟩,(sz≠0),?_,hz⟩
 simp only [pu,hx,hx',List.length_map]
theorem Tq {α:Type} {e:α→List V} {l0:List α} {x i:Bj} {vx vi:V} {t off sz:Nat} {k:IntKind} {n:Int} {y:α} (hx:S.val x=vx) (hx':Ai vx = .own t off sz (l0.map e)) (hmx:As true vx)
  (hi:S.val i=vi) (hi':Ai vi = .int k n) (hmi:As true vi) (hy:Ec l0 n=some y):Cc S (.p (.idxA x i sz)) (.optr t sz (off+n.toNat) 0):=by
 obtain ⟨h0,h1,h2⟩:=Rn hy
 refine ⟨⟨Bv hx hmx,Bv hi hmi,trivial⟩,sz=sz∧0≤n∧n<(l0.map e).length,?_,rfl,h0,by simpa using h1⟩
 simp only [pu,hx,hi,hx',hi']
theorem Gz {α:Type} {e:α→List V} {l0:List α} {x:Bj} {vx:V} {t off sz j k n i:Nat} {ag:Bool} {y:α} {v:V} (hx:S.val x=vx) (hx':Ai vx = .optr t sz j k) (hm:As true vx) (hf:S.find t=some (off,l0.map e)) (hj:j=off+i)
  (hy:l0[i]? = some y) (hv:Ih ag n ((e y).drop k)=some v) (hn:k+n≤sz) (hsz:(e y).length=sz) (hdp:Bh t=false:=by rfl):Cc S (.p (.load x n ag)) v:=by
 subst hj
 have hlt:=(List.getElem?_eq_some_iff.1 hy).1
 have hg:(l0.map e).getD (off+i-off) []=e y:=by
  rw [Nat.add_sub_cancel_left]
  simp [List.getD,hy]
 refine ⟨⟨Bv hx hm,trivial⟩,off≤off+i∧off+i<off+(l0.map e).length∧k+n≤sz∧((l0.map e).getD (off+i-off) []).length=sz,?_,Nat.le_add_right _ _,by simp; omega,hn,by rw [hg]; exact hsz⟩
 simp only [pu,hx,hx',hf,dvs,hdp,cond_false]
 rw [hg,hv]
theorem c_ {o:PU} {v:V} (h:Cc S (.p o) v) (k:K (S.putC d v (Hq (fun x=>Ai (S.val x)) o))):Cg C ⟨d,.p o,none⟩ S K:=by
 obtain ⟨h1,ψ,h2,h3⟩:=h
 exact p_ h1 h2 h3 k
theorem Fx {α:Type} {e:α→List V} {l0 l1:List α} {x y:Bj} {t sz by_:Nat} {vy:V} (hx:S.val x = .own t 0 sz (l0.map e)) (hy:S.val y=vy) (hm:As true vy) (hs:Jn (Ai vy)=some (sz,l1.map e))
  (ht:t<Bd) (hn:(l0.length+l1.length)*by_≤140737488355328) (k:K ((S.drop t).putC d (.own t 0 sz ((l0++l1).map e)) (Ef x (l0.length+l1.length)))) (hdp:Bh t=false:=by rfl):Cg C ⟨d,.app sz by_ x y,none⟩ S K:=by
 refine ⟨Bv hx trivial,Bv hy hm,?_⟩
 rw [hx,hy]
 dsimp only [Ai]
 dsimp only [Ai] at hs
 rw [hs]
 refine ⟨ht,rfl,rfl,rfl,by simpa using hn,hdp,?_⟩
 rw [←List.map_append,List.length_map,List.length_map]
 exact k
theorem nJ {α:Type} {e:α→List V} {l0:List α} {x y:Bj} {t sz by_:Nat} {ki:IntKind} {l:Int} {zero:List V} (z:α) (hx:S.val x = .own t 0 sz (l0.map e)) (hy:S.val y = .int ki l) (hz:e z=zero)
  (ht:t<Bd) (h0:0≤l) (hn:((l0.length:Int)+l)*by_≤140737488355328) (k:K ((S.drop t).putC d (.own t 0 sz ((l0++List.replicate l.toNat z).map e)) (Ef x (l0.length+l.toNat)))) (hdp:Bh t=false:=by rfl):Cg C ⟨d,.appz sz by_ zero x y,none⟩ S K:=by
 refine ⟨Bv hx trivial,Bv hy trivial,?_⟩
 rw [hx,hy]
 dsimp only [Ai]
 refine ⟨ht,rfl,rfl,h0,by simpa using hn,hdp,?_⟩
 rw [List.map_append,List.map_replicate,hz] at k
 rw [List.length_map]
 exact .inl k
theorem appzx_ {α:Type} {e:α→List V} {l0:List α} {x y:Bj} {t sz by_ d':Nat} {ki:IntKind} {l c:Int} {zero:List V} (z:α) (hx:S.val x = .own t 0 sz (l0.map e)) (hy:S.val y = .int ki l) (hz:e z=zero)
  (ht:t<Bd) (h0:0≤l) (hn:((l0.length:Int)+l)*by_≤140737488355328) (hc:S.capOf x=some c) (hc1:Ei≤c) (hc2:c-Ei<l0.length+l)
  (k:K ((S.drop (64*d')).put (some d') (.own (64*d') 0 sz ((l0++List.replicate l.toNat z).map e)))) (hdp:Bh t=false:=by rfl):Cg C ⟨some d',.appz sz by_ zero x y,none⟩ S K:=by
 refine ⟨Bv hx trivial,Bv hy trivial,?_⟩
 rw [hx,hy]
 dsimp only [Ai]
 refine ⟨ht,rfl,rfl,h0,by simpa using hn,hdp,?_⟩
 rw [List.map_append,List.map_replicate,hz] at k
 rw [List.length_map]
 exact .inr ⟨d',c,rfl,hc,hc1,hc2,k⟩
theorem cap_ {α:Type} {e:α→List V} {l0:List α} {t off sz n:Nat} (hx:S.val (.t n) = .own t off sz (l0.map e))
  (k:∀c:Nat,l0.length≤c→(off=0→c≤9223372036854775807)→(∀c0,S.capOf (.t n)=some c0→Ei≤c0→(c:Int)=c0-Ei)→K (St.put { S with cp:=Jw n (fun _=>some (Ei+c)) S.cp } d (.int .i64 c))) (hz:sz≠0:=by decide):Cg C ⟨d,.cap (.t n),none⟩ S K:=by
 refine ⟨Bv hx trivial,?_⟩
 rw [hx]
 dsimp only [Ai]
 rw [List.length_map]
 exact ⟨hz,k⟩
theorem covl {x y:Bj} {t off sz t' off' sz':Nat} {es es':List (List V)} (hx:S.val x = .own t off sz es) (hy:S.val y = .own t' off' sz' es') (h:t≠t') (h1:es≠[]) (h2:es'≠[]) (hz:sz≠0:=by decide) (hz':sz'≠0:=by decide):Cc S (.p (.ovl x y)) (.bool false):=by
 refine ⟨⟨Bv hx trivial,Bv hy trivial,trivial⟩,(t≠t'∧(es≠[]∧es'≠[])∧sz≠0∧sz'≠0),?_,h,⟨h1,h2⟩,hz,hz'⟩
 simp only [pu,hx,hy,Ai]
theorem cscmp {s:List UInt8} {x i:Bj} {vx vi:V} {n:List UInt8} (hx:S.val x=vx) (hx':Ai vx = .str s) (hmx:As true vx)
  (hi:S.val i=vi) (hi':Ai vi = .str n) (hmi:As true vi):Cc S (.p (.scmp x i)) (.int .i64 (Yj s n)):=by
 refine ⟨⟨Bv hx hmx,Bv hi hmi,trivial⟩,True,?_,trivial⟩
 simp only [pu,hx,hi,hx',hi']
theorem tE {α:Type} {e:α→List V} {x y:Bj} {d sz by_:Nat} {k1 k2:IntKind} {a c:Int} {zero:List V} (z:α) (hx:S.val x = .int k1 a) (hy:S.val y = .int k2 c) (h0:0≤a) (hac:a=c) (hn:c*by_≤140737488355328)
  (hz:e z=zero) (k:K ((S.drop (64*d)).put (some d) (.own (64*d) 0 sz ((List.replicate a.toNat z).map e)))):Cg C ⟨some d,.make sz by_ zero x y,none⟩ S K:=by
 refine ⟨Bv hx trivial,Bv hy trivial,?_⟩
 rw [hx,hy]
 refine ⟨h0,hac,hn,?_⟩
 rw [List.map_replicate,hz] at k
 exact .inl k
theorem copy_ {α:Type} {e:α→List V} {l0 l1:List α} {x y:Bj} {t off sz:Nat} {vy:V} (hx:S.val x = .own t off sz (l0.map e)) (hy:S.val y=vy) (hm:As true vy) (hs:Jn (Ai vy)=some (sz,l1.map e))
  (k:K ((S.map (Yg t sz off ((l1.take l0.length).map e))).put d (.int .i64 (min l1.length l0.length:Nat)))) (hdp:Bh t=false:=by rfl):Cg C ⟨d,.copy sz x y,none⟩ S K:=by
 refine ⟨Bv hx trivial,Bv hy hm,?_⟩
 rw [hx,hy]
 dsimp only [Ai]
 dsimp only [Ai] at hs
 rw [hs]
 refine ⟨rfl,rfl,hdp,?_⟩
 rw [List.map_take,] at k
 simpa using k
theorem clear_ {α:Type} {e:α→List V} {l0:List α} {z:α} {x:Bj} {t off sz:Nat} {zero:List V} (hx:S.val x = .own t off sz (l0.map e)) (hz:e z=zero)
  (k:K ((S.map (Yg t sz off ((List.replicate l0.length z).map e))).put d .undef)) (hdp:Bh t=false:=by rfl):Cg C ⟨d,.clear sz zero x,none⟩ S K:=by
 refine ⟨Bv hx trivial,?_⟩
 rw [hx]
 refine ⟨rfl,hdp,?_⟩
 rw [List.map_replicate,hz] at k
 simpa using k
theorem chk3O {α:Type} {e:α→List V} {l0:List α} {x lo hi mx:Bj} {t off sz:Nat} {k1 k2 k3:IntKind} {a b c:Int} (hx:S.val x = .own t off sz (l0.map e)) (h1:S.val lo = .int k1 a) (h2:S.val hi = .int k2 b) (h3:S.val mx = .int k3 c)
  (hc:0≤a∧a≤b∧b≤c∧c≤(l0.length:Int)) (k:K (S.put d .undef)) (hz:sz≠0:=by decide):Cg C ⟨d,.chk3 x lo hi mx,none⟩ S K:=by
 obtain ⟨s0,rfl⟩:=Nat.exists_eq_succ_of_ne_zero hz
 refine ⟨⟨Bv hx trivial,Bv h1 trivial,Bv h2 trivial,Bv h3 trivial⟩,?_⟩
 rw [hx,h1,h2,h3]
 exact ⟨hc.1,hc.2.1,hc.2.2.1,by simpa using hc.2.2.2,k⟩
theorem sZ {α:Type} {e:α→List V} {l0:List α} {x:Bj} {sz:Nat} {ne:Bool} (hx:S.val x = .lst sz (l0.map e)) (k:∀b:Bool,(b=true→l0=[])→K (S.put d (.bool (if ne then !b else b)))) (hz:sz≠0:=by decide):
  Cg C ⟨d,.isnil x ne,none⟩ S K:=by
 obtain ⟨s0,rfl⟩:=Nat.exists_eq_succ_of_ne_zero hz
 refine ⟨Bv hx trivial,?_⟩
 rw [hx]
 exact fun b hb=>k b fun h=>by simpa using hb h
theorem Ia {sz len d:Nat} {zero:List V} {parts:List (Nat×Bj)} (hm:Bq (fun p=>nm S p.2) parts)
  (h:Bq (fun p=>p.1<len∧p.2.cells.length=sz∧p.2.cells.all (fun c => !Hj c)=true) (parts.map fun p=>(p.1,Ai (S.val p.2))))
  (k:K (((S.freezes (Hy (parts.map fun p=>(p.1,Ai (S.val p.2))))).drop (64*d)).put (some d)
    (.own (64*d) 0 sz (Jf sz (List.replicate len zero) ((parts.map fun p=>(p.1,Ai (S.val p.2))).map fun p=>(p.1,p.2.cells.map Cm)))))):
  Cg C ⟨some d,.mkS sz zero len parts,none⟩ S K:=⟨hm,h,.inl k⟩
theorem cloadD {α:Type} {e:α→List V} {l0:List α} {x:Bj} {vx:V} {t off sz j k n i:Nat} {ag:Bool} {y:α} {v:V} (hx:S.val x=vx) (hx':Ai vx = .optr t sz j k) (hm:As true vx) (hf:S.find t=some (off,l0.map e)) (hj:j=off+i)
  (hy:l0[i]? = some y) (hv:Ih ag n (Lq t (off+i) k ((e y).drop k))=some v) (hn:k+n≤sz) (hsz:(e y).length=sz) (hdp:Bh t=true:=by rfl):Cc S (.p (.load x n ag)) v:=by
 subst hj
 have hlt:=(List.getElem?_eq_some_iff.1 hy).1
 have hg:(l0.map e).getD (off+i-off) []=e y:=by
  rw [Nat.add_sub_cancel_left]
  simp [List.getD,hy]
 refine ⟨⟨Bv hx hm,trivial⟩,off≤off+i∧off+i<off+(l0.map e).length∧k+n≤sz∧((l0.map e).getD (off+i-off) []).length=sz,?_,Nat.le_add_right _ _,by simp; omega,hn,by rw [hg]; exact hsz⟩
 simp only [pu,hx,hx',hf,dvs,hdp,cond_true]
 rw [hg,hv]
theorem stoD_ {α:Type} {e:α→List V} {l0:List α} {x v:Bj} {n t sz j k off i:Nat} {u:V} {y y':α} (hx:S.val x = .optr t sz j k) (hv:S.val v=u) (hm:As true u) (hu:Bc (Ai u)=false) (hl:(Ai u).cells.length=n)
  (hf:S.find t=some (off,l0.map e)) (hj:j=off+i) (hy:l0[i]? = some y) (hn:k+n≤sz) (hsz:(e y).length=sz) (hp:(Ai u).cells.all (fun c=>scal c || (decide (t<Bd)&&Uo c))=true) (ht:Bu (Ai u).tags=true)
  (hy':Bx (e y) k ((Ai u).cells.map Cm)=e y')
  (k':K (((S.drops (Ai u).tags).map (Uq t sz (off+i) [e y'])).put d .undef)) (hdp:Bh t=true:=by rfl):Cg C ⟨d,.store x v n,none⟩ S K:=by
 subst hj
 have hlt:=(List.getElem?_eq_some_iff.1 hy).1
 have hg:(l0.map e).getD (off+i-off) []=e y:=by
  rw [Nat.add_sub_cancel_left]
  simp [List.getD,hy]
 refine ⟨by rw [hx]; trivial,by rw [hv]; exact hm,?_⟩
 rw [hv,hx]
 refine ⟨hu,hl,?_⟩
 dsimp only [Ai]
 rw [hf]
 dsimp only
 rw [hg]
 refine ⟨Nat.le_add_right _ _,by simp; omega,hn,hsz,.inr ⟨hdp,hp,ht,?_⟩⟩
 dsimp only [Ai] at hy'
 rw [hy']
 exact k'
theorem jS {c:V} {b:Bool} (h:scal c=true:=by rfl):(scal c || b)=true:=by rw [h]; rfl
theorem tW {α:Type} {e:α→List V} {xs:List α} {t t' sz:Nat} (h:∀x,(e x).all scal=true) (h1:decide (t<Bd)=true:=by rfl) (h2:(decide (t'<Bd) && !Bh t')=true:=by rfl):
  (scal (.own t' 0 (sz+1) (xs.map e)) || (decide (t<Bd)&&Uo (.own t' 0 (sz+1) (xs.map e))))=true:=by
 have h3:(xs.map e).all (fun e=>e.all scal)=true:=by
  simp only [List.all_map,List.all_eq_true,Function.comp]
  intro x _
  exact List.all_eq_true.1 (h x)
 rw [h1]
 show (false || (true&&((decide (t'<Bd) && !Bh t')&&(xs.map e).all fun e=>e.all scal)))=true
 rw [h2,h3]; rfl
theorem jP {α:Type} {e:α→List V} {xs:List α} {t' sz:Nat} (h:∀x,(e x).all scal=true) (h2:(decide (t'<Bd) && !Bh t')=true:=by rfl):
  (scal (.own t' 0 (sz+1) (xs.map e)) || Uo (.own t' 0 (sz+1) (xs.map e)))=true:=tW (t:=0) h rfl h2
theorem mkD_ {sz dd:Nat} {zero:List V} {x:Bj} {u:V} (hv:S.val x=u) (hm:As true u) (hl:(Ai u).cells.length=sz) (hp1:(Ai u).cells.all (fun c => !Hj c)=true) (hp:(Ai u).cells.all (fun c=>scal c || Uo c)=true) (ht:Bu (Ai u).tags=true)
  (k:K ((((S.drop (64*dd+32)).put (some dd) (.own (64*dd+32) 0 sz [List.replicate sz .undef])).drops (Ai u).tags).map (Uq (64*dd+32) sz 0 [(Ai u).cells.map Cm]))):Cg C ⟨some dd,.mkS sz zero 1 [(0,x)],none⟩ S K:=by
 subst hv
 exact ⟨⟨hm,trivial⟩,⟨⟨Nat.zero_lt_one,hl,hp1⟩,trivial⟩,.inr ⟨x,rfl,rfl,hp,ht,k⟩⟩
theorem ZW {α:Type} {e:α→List V} {l0 l1:List α} {x y:Bj} {t t2 sz by_:Nat} (hx:S.val x = .own t 0 sz (l0.map e)) (hy:S.val y = .own t2 0 sz (l1.map e))
  (ht:t<Bd) (ht2:t2<Bd) (hne:t2≠t) (hn:(l0.length+l1.length)*by_≤140737488355328) (k:K (((S.drop t).drop t2).putC d (.own t 0 sz ((l0++l1).map e)) (Ef x (l0.length+l1.length)))) (hd:Bh t=true:=by rfl) (hd2:Bh t2=true:=by rfl):Cg C ⟨d,.app sz by_ x y,none⟩ S K:=by
 refine ⟨Bv hx trivial,Bv hy trivial,?_⟩
 rw [hx,hy]
 dsimp only [Ai]
 have hs:Jn (.own t2 0 sz (l1.map e))=none:=by simp [Jn,hd2]
 rw [hs]
 refine ⟨ht,rfl,rfl,ht2,rfl,rfl,hne,by simpa using hn,hd,hd2,?_⟩
 rw [←List.map_append,List.length_map,List.length_map]
 exact k
theorem makeD_ {α:Type} {e:α→List V} {x y:Bj} {d sz by_:Nat} {k1 k2:IntKind} {a c:Int} {zero:List V} (z:α) (hx:S.val x = .int k1 a) (hy:S.val y = .int k2 c) (h0:0≤a) (hac:a=c) (hn:c*by_≤140737488355328)
  (hz:e z=zero) (k:K ((S.drop (64*d+32)).put (some d) (.own (64*d+32) 0 sz ((List.replicate a.toNat z).map e)))) (hth:zero.all thin=true:=by rfl):Cg C ⟨some d,.make sz by_ zero x y,none⟩ S K:=by
 refine ⟨Bv hx trivial,Bv hy trivial,?_⟩
 rw [hx,hy]
 refine ⟨h0,hac,hn,?_⟩
 rw [List.map_replicate,hz] at k
 exact .inr ⟨hth,k⟩
theorem uR {β:Type} {e0:β→List V} {L0:List β} {off i c:Nat} {y y':β} {x:V} (hy:L0[i]? = some y) (hy':(e0 y).set c x=e0 y'):dW off (off+i) c x (L0.map e0)=(L0.set i y').map e0:=by
 unfold dW
 apply List.ext_getElem?
 intro k
 rw [List.getElem?_mapIdx,List.getElem?_map,List.getElem?_map,List.getElem?_set]
 cases hk:L0[k]? with
 | none=>
  have:=List.getElem?_eq_none_iff.1 hk
  by_cases h1:i=k
  ·rw [if_pos h1,if_neg (by omega)]; rfl
  ·rw [if_neg h1]; rfl
 | some z=>
  have hlt:=(List.getElem?_eq_some_iff.1 hk).1
  simp only [Option.map_some]
  by_cases h1:i=k
  ·subst h1
   rw [hk] at hy
   cases hy
   rw [if_pos rfl,if_pos rfl,if_pos hlt,Option.map_some,hy']
  ·rw [if_neg h1,if_neg (by omega),Option.map_some]
theorem ZB {β:Type} {e0:β→List V} {L0:List β} {t sz off i c:Nat} {y y':β} {x:V} (hy:L0[i]? = some y) (hy':(e0 y).set c x=e0 y'):V.own t off sz (dW off (off+i) c x (L0.map e0)) = .own t off sz ((L0.set i y').map e0):=by rw [uR hy hy']
theorem callN_ {α β:Type} {e0:β→List V} {L0:List β} {e:α→List V} {xs xs':List α} {f:Nat} {as:List Bj} {T s0 j c sz off i:Nat} {y:β} {us:List V} {r:V} (H:C f ⟨us,[]⟩ ⟨r,[],[(0,sz,xs'.map e)]⟩) (hm:Bq (nm S) as)
  (hh:jC T j c sz (xs.map e) (as.map fun x=>Ai (S.val x)) us) (hf:S.find T=some (off,L0.map e0)) (hj:j=off+i) (hy:L0[i]? = some y) (hs0:(e0 y).length=s0) (hc:(e0 y)[c]? = some (.lst sz (xs.map e)))
  (hl:xs'.length=xs.length) (he:∀x,(Nat.beq (e x).length sz&&(e x).all scal)=true)
  (k:K ((S.map (bZ T s0 (off+i) c (.lst sz (xs'.map e)))).put d r)) (hsz:sz≠0:=by decide) (hr:scal r=true:=by rfl) (hr2:Bc r=false:=by rfl) (hd:Bh T=true:=by rfl):Cg C ⟨d,.call f as,none⟩ S K:=by
 subst hj
 refine ⟨hm,.inr ⟨T,s0,off+i,c,sz,xs.map e,xs'.map e,us,r,hh,hsz,by simpa using hl,?_,hr,hr2,hd,⟨off,L0.map e0,hf,Nat.le_add_right _ _,?_,?_⟩,H,k⟩⟩
 ·simp only [List.all_map,List.all_eq_true,Function.comp]
  intro x _
  exact he x
 ·rw [Nat.add_sub_cancel_left]
  simp [List.getD,hy,hs0]
 ·rw [Nat.add_sub_cancel_left]
  simp [List.getD,hy,hc]
theorem uY {f:Nat} {args:List V} (fz:Bool) {gv:List V} {r:V} (h:C f ⟨gv,[]⟩ ⟨r,[],[]⟩) (h0:Mb (fun v => !Bc v) args=true) (hg:args.map (mapW (S.liftC [] [] [] fz))=gv)
  (h3:fz=false→r.flat.all Fw=true) (k:K (((if fz then S.freezes (Bs (Mt args)) else S).drops (Lz (d.getD 0) (Bs r.flat))).put d (Ez (Fv (d.getD 0) 0 [] []) r))):eG C f args d S K:=by
 have e0:∀l:List Nat,Yp [] l=l:=fun l=>by
  induction l with
  | nil=>rfl
  | cons x r ih=>simp [Yp,ih]
 refine ⟨h0,[],[],[],fz,⟨r,[],[]⟩,⟨rfl,rfl,rfl,rfl⟩,⟨rfl,rfl,rfl⟩,fun hz=>?_,?_,?_⟩
 ·simp [Ep.flat,h3 hz]
 ·subst hg; exact h
 ·simpa [St.after,St.frzTags,St.given,e0,Ep.newR,Ep.newB,Pf,St.rows,St.boxes,St.drops] using k
theorem Bb {f:Nat} {as:List Bj} (fz:Bool) {gv:List V} {r:V} (h:C f ⟨gv,[]⟩ ⟨r,[],[]⟩) (hm:Bq (nm S) as) (h0:Mb (fun v => !Bc v) (as.map fun x=>Ai (S.val x))=true)
  (hg:(as.map fun x=>Ai (S.val x)).map (mapW (S.liftC [] [] [] fz))=gv) (h3:fz=false→r.flat.all Fw=true)
  (k:K (((if fz then S.freezes (Bs (Mt (as.map fun x=>Ai (S.val x)))) else S).drops (Lz (d.getD 0) (Bs r.flat))).put d (Ez (Fv (d.getD 0) 0 [] []) r))):
  Cg C ⟨d,.call f as,none⟩ S K:=⟨hm,.inl (uY fz h h0 hg h3 k)⟩
theorem Ql {f:Nat} {x:Bj} {as:List Bj} {caps:List V} (hx:S.val x = .clo f caps) (fz:Bool) {gv:List V} {r:V} (h:C f ⟨gv,[]⟩ ⟨r,[],[]⟩) (hm:Bq (nm S) as)
  (h0:Mb (fun v => !Bc v) ((as.map fun x=>Ai (S.val x))++caps)=true) (hg:((as.map fun x=>Ai (S.val x))++caps).map (mapW (S.liftC [] [] [] fz))=gv) (h3:fz=false→r.flat.all Fw=true)
  (k:K (((if fz then S.freezes (Bs (Mt ((as.map fun x=>Ai (S.val x))++caps))) else S).drops (Lz (d.getD 0) (Bs r.flat))).put d (Ez (Fv (d.getD 0) 0 [] []) r))):
  Cg C ⟨d,.callv x as,none⟩ S K:=by
 refine ⟨Bv hx trivial,hm,?_⟩
 rw [hx]
 exact uY fz h h0 hg h3 k
theorem wcall1 {f:Nat} {args:List V} (LB LR LM:List Nat) (fz:Bool) {g:Ow} {t:Ep} (h:C f g t) (h0:Mb (fun v => !Bc v) args=true) (hg:S.give args LB LR LM fz=g)
  (h1:(Bu LB&&Bu (LR++LM)&&Na Bd LM&&LB.all (fun T=>(look S.bx T).isSome))=true)
  (h2:(Na 33 [t.bx.length-LB.length,LM.length,LR.length]&&Iy (t.newB (d.getD 0) LB.length) LB&&Iy (t.newR (d.getD 0)) LR)=true) (h3:fz=false→t.flat=true)
  (k:K ((S.after args (d.getD 0) fz LB LR LM t).put d (Ez (Fv (d.getD 0) (t.bx.length-LB.length) LB LR) t.r))):eG C f args d S K:=by
 simp only [Bool.and_eq_true] at h1 h2
 refine ⟨h0,LB,LR,LM,fz,t,⟨h1.1.1.1,h1.1.1.2,h1.1.2,h1.2⟩,⟨h2.1.1,h2.1.2,h2.2⟩,h3,?_,k⟩
 subst hg; exact h
theorem Po {f:Nat} {as:List Bj} (LB LR LM:List Nat) (fz:Bool) {g:Ow} {t:Ep} (h:C f g t) (hm:Bq (nm S) as) (h0:Mb (fun v => !Bc v) (as.map fun x=>Ai (S.val x))=true)
  (hg:S.give (as.map fun x=>Ai (S.val x)) LB LR LM fz=g)
  (h1:(Bu LB&&Bu (LR++LM)&&Na Bd LM&&LB.all (fun T=>(look S.bx T).isSome))=true)
  (h2:(Na 33 [t.bx.length-LB.length,LM.length,LR.length]&&Iy (t.newB (d.getD 0) LB.length) LB&&Iy (t.newR (d.getD 0)) LR)=true) (h3:fz=false→t.flat=true)
  (k:K ((S.after (as.map fun x=>Ai (S.val x)) (d.getD 0) fz LB LR LM t).put d (Ez (Fv (d.getD 0) (t.bx.length-LB.length) LB LR) t.r))):Cg C ⟨d,.call f as,none⟩ S K:=
 ⟨hm,.inl (wcall1 LB LR LM fz h h0 hg h1 h2 h3 k)⟩
theorem Lb {f:Nat} {as:List Bj} {gs:Nat} {want g:Bool} (hgv:Lk (S.val (.t gs)) want=some g) (fz:Bool) {gv:List V} {r:V} (h:g=true→C f ⟨gv,[]⟩ ⟨r,[],[]⟩)
  (hm:Bq (fun x=>As g (S.val x)) as) (h0:g=true→Mb (fun v => !Bc v) (as.map fun x=>Ai (S.val x))=true)
  (hg:g=true→(as.map fun x=>Ai (S.val x)).map (mapW (S.liftC [] [] [] fz))=gv) (h3:fz=false→r.flat.all Fw=true) (h4:fz=true→Bs (Mt (as.map fun x=>Ai (S.val x)))=[])
  (k:K (S.put d (.may g (Ez Lc r)))):Cg C ⟨d,.call f as,some (gs,want)⟩ S K:=by
 unfold Cg
 dsimp only
 rw [hgv]
 exact .inl ⟨hm,h0,fz,r,fun e=>by have:=hg e; subst this; exact h e,h3,h4,k⟩
theorem VO {f:Nat} {x:Bj} {as:List Bj} {caps:List V} {vx:V} {gs:Nat} {want g:Bool} (hgv:Lk (S.val (.t gs)) want=some g) (hx:S.val x=vx) (hx':Ai vx = .clo f caps) (hmx:As g vx) (fz:Bool) {gv:List V} {r:V}
  (h:g=true→C f ⟨gv,[]⟩ ⟨r,[],[]⟩)
  (hm:Bq (fun x=>As g (S.val x)) as) (h0:g=true→Mb (fun v => !Bc v) ((as.map fun x=>Ai (S.val x))++caps)=true)
  (hg:g=true→((as.map fun x=>Ai (S.val x))++caps).map (mapW (S.liftC [] [] [] fz))=gv) (h3:fz=false→r.flat.all Fw=true) (h4:fz=true→Bs (Mt ((as.map fun x=>Ai (S.val x))++caps))=[])
  (k:K (S.put d (.may g (Ez Lc r)))):Cg C ⟨d,.callv x as,some (gs,want)⟩ S K:=by
 unfold Cg
 dsimp only
 rw [hgv]
 refine .inl ⟨by rw [hx]; exact hmx,hm,?_⟩
 rw [hx,hx']
 exact ⟨h0,fz,r,fun e=>by have:=hg e; subst this; exact h e,h3,h4,k⟩
theorem iG {o:PU} {x:Int} (h:Cc S (.p o) (.int .u8 (IntKind.u8.wrap x))):Cc S (.p o) (.int .u8 ((b8 x).toNat:Int)):=by
 unfold b8
 rw [kB]
 exact h
theorem fl2 {α:Type} {e:α→List V} {xs:List α} (h:∀x,(e x).all scal=true):((xs.map e).all fun x=>x.all scal)=true:=by
 simp only [List.all_map,List.all_eq_true,Function.comp]
 intro x _
 exact List.all_eq_true.1 (h x)
theorem dN {α:Type} {e:α→List V} {xs:List α} {n:Nat} (h:∀x,(e x).length=n):∀y∈xs.map e,y.length=n:=by
 intro y hy
 obtain ⟨x,_,rfl⟩:=List.mem_map.1 hy
 exact h x
theorem Wj {es:List (List V)} {t off sz:Nat} (h:Bh t=true):Fw (.own t off sz es)=true:=by simp [Fw,h]
theorem Qo {α:Type} {e:α→List V} {xs:List α} {t off sz:Nat} (h:∀x,(e x).all scal=true):Fw (.own t off sz (xs.map e))=true:=by
 simp only [Fw,Bool.or_eq_true]
 refine .inr ?_
 simp only [List.all_map,List.all_eq_true,Function.comp]
 intro x _
 exact List.all_eq_true.1 (h x)
theorem Bp {res:List aM} {nb:Nat} {t:Ep} {v:V} {css:List (List V)} (h1:uK S res=some v) (h2:Ll S (Uf nb++Ee v.flat)=some css)
  (h3:Na 33 [(Hf (v.flat++css.flatten)).length,(Ee v.flat).length]=true) (h4:Ez (Ry (Hf (v.flat++css.flatten)) (Ee v.flat)) v=t.r)
  (h5:Nb (Ry (Hf (v.flat++css.flatten)) (Ee v.flat)) css=t.bx) (h6:Rz S 0 t.rw):FQ res nb t .ret S:=by
 refine ⟨S,Fg.refl S,?_⟩
 unfold gZ
 rw [h1]
 show Yb S v nb t
 unfold Yb
 dsimp only
 rw [h2]
 exact ⟨h3,h4,h5,h6⟩
theorem retf_ {res:List aM} {nb:Nat} {t:Ep} {S1:St} (hf:Fg S S1) (h:FQ res nb t .ret S1):FQ res nb t .ret S:=by
 obtain ⟨S2,h1,h2⟩:=h
 exact ⟨S2,hf.trans h1,h2⟩
theorem fn_ {fn:Dl} {args:List V} {bx:List (List V)} {t:Ep} (h0:args.length≤fn.nt) (h:WL C [.c fn.body] (FQ fn.res bx.length t) .normal ⟨Pb args 0,Pc bx Bd,[]⟩):kG C fn ⟨args,bx⟩ t:=⟨h0,.inl h⟩
theorem slcN {α:Type} (l:List α) (a b:Nat) (h:a≤b) (h2:b≤l.length):Jr l (a:Int) ((some (b:Int)).getD l.length)=some ((l.take b).drop a):=by
 unfold Jr
 simp only [Option.getD_some]
 rw [if_pos ⟨by omega,by omega,by omega⟩]
 simp
theorem bS {α:Type} (l:List α) (a:Nat) (h:a≤l.length):Jr l ((some (a:Int)).getD 0) ((none:Option Int).getD l.length)=some (l.drop a):=by
 unfold Jr
 simp only [Option.getD_some,Option.getD_none]
 rw [if_pos ⟨by omega,by omega,by omega⟩]
 simp
theorem Xp {d:Option Nat} {v:V} {f g:List (Nat×Int)→Option Int} (h:f S.cp=g S.cp):S.putC d v f=S.putC d v g:=by
 cases d with
 | none=>rfl
 | some d=>
  have:Jw d f S.cp=Jw d g S.cp:=by
   cases hl:S.cp with
   | nil=>rw [hl] at h; simp only [Jw,h]
   | cons p r=>rw [hl] at h; simp only [Jw,h]
  simp only [St.putC,this]
theorem appc_ {α:Type} {e:α→List V} {l0 l1:List α} {x y:Bj} {t sz by_:Nat} {vy:V} {c:Int} (hx:S.val x = .own t 0 sz (l0.map e)) (hy:S.val y=vy) (hm:As true vy) (hs:Jn (Ai vy)=some (sz,l1.map e))
  (ht:t<Bd) (hn:(l0.length+l1.length)*by_≤140737488355328) (hc:S.capOf x=some c) (hle:((l0.length+l1.length:Nat):Int)≤Jq c)
  (k:K ((S.drop t).putC d (.own t 0 sz ((l0++l1).map e)) fun _=>some c)) (hdp:Bh t=false:=by rfl):Cg C ⟨d,.app sz by_ x y,none⟩ S K:=by
 refine Fx hx hy hm hs ht hn ?_ hdp
 rw [Xp (g:=fun _=>some c)]
 ·exact k
 ·show Ef x _ S.cp=_
  unfold Ef
  rw [show Kh S.cp x=some c from hc]
  dsimp only
  rw [if_pos hle]
theorem mH {α:Type} {e:α→List V} {R:List α} {x lo hi:Bj} {t sz L H:Nat} {k1 k2:IntKind} {c:Int} (hx:S.val x = .own t 0 sz (R.map e)) (hlo:S.val lo = .int k1 (L:Int)) (hhi:S.val hi = .int k2 (H:Int))
  (hR:R.length=L) (hLH:L≤H) (hsz:0<sz) (hc:S.capOf x=some c) (hH:(H:Int)≤Jq c):Cc S (.p (.slice x (some lo) (some hi) sz)) (.own t L sz (Xw sz (H-L))):=by
 have ha:Ff ((some lo).map fun x=>Ai (S.val x))=some (some (L:Int)):=by simp only [Option.map_some,hlo]; rfl
 have hb:Ff ((some hi).map fun x=>Ai (S.val x))=some (some (H:Int)):=by simp only [Option.map_some,hhi]; rfl
 refine ⟨⟨Bv hx trivial,Bv hlo trivial,Bv hhi trivial,trivial⟩,?_⟩
 have e1:((R.map e++Xw sz (H-L)).take H).drop L=Xw sz (H-L):=by
  rw [List.take_of_length_le (by simp [Xw]; omega)]
  exact List.drop_left' (by simpa using hR)
 have hx':Ai (S.val x) = .own t 0 sz (R.map e):=by rw [hx]; rfl
 simp only [pu,hx',ha,hb,Option.getD_some,List.length_map,Int.toNat_natCast,hR,e1,Nat.zero_add]
 exact ⟨_,rfl,trivial,by omega,by omega,.inr ⟨trivial,hsz,c,hc,hH⟩⟩
def eo {α:Type} (e:α→List V) (k:Nat):Option α→List V
 | none=>List.replicate k .undef
 | some x=>e x
theorem aW {α:Type} {e:α→List V} {k:Nat} (l:List α):l.map e=(l.map some).map (eo e k):=by
 rw [List.map_map]; rfl
theorem ZC {α:Type} {e:α→List V} {l0:List α} {x hi:Bj} {t sz H:Nat} {k2:IntKind} {c:Int} (hx:S.val x = .own t 0 sz (l0.map e)) (hhi:S.val hi = .int k2 (H:Int))
  (hLH:l0.length≤H) (hsz:0<sz) (hc:S.capOf x=some c) (hH:(H:Int)≤Jq c):Cc S (.p (.slice x none (some hi) sz)) (.own t 0 sz ((l0.map some++List.replicate (H-l0.length) none).map (eo e sz))):=by
 have hb:Ff ((some hi).map fun x=>Ai (S.val x))=some (some (H:Int)):=by simp only [Option.map_some,hhi]; rfl
 have ha:Ff ((none:Option Bj).map fun x=>Ai (S.val x))=some none:=rfl
 refine ⟨⟨Bv hx trivial,Bv hhi trivial,trivial⟩,?_⟩
 have e1:((l0.map e++Xw sz (H-l0.length)).take H).drop 0=(l0.map some++List.replicate (H-l0.length) none).map (eo e sz):=by
  rw [List.drop_zero,List.take_of_length_le (by simp [Xw]; omega),List.map_append,List.map_replicate,←aW]
  rfl
 have hx':Ai (S.val x) = .own t 0 sz (l0.map e):=by rw [hx]; rfl
 simp only [pu,hx',ha,hb,Option.getD_some,Option.getD_none,List.length_map,Int.toNat_natCast,Int.toNat_zero,e1]
 exact ⟨_,rfl,trivial,by omega,by omega,.inr ⟨trivial,hsz,c,hc,hH⟩⟩
theorem vH {x:Int} (n:Nat) (h:x=n) (hb:n≤140737488355328):IntKind.i64.wrap x=n:=by
 subst h
 have e1:IntKind.i64.wrap (n:Int)=if (n:Int)%18446744073709551616≥9223372036854775808 then (n:Int)%18446744073709551616-18446744073709551616 else (n:Int)%18446744073709551616:=by
  simp [IntKind.wrap,IntKind.bits,IntKind.signed]
 rw [e1]; split<;>omega
theorem Vk {α:Type} {l ys:List α} {i:Nat}:(ovl l i ys).length=l.length:=by simp [ovl]
theorem bN {α:Type} {l ys:List α} {i:Nat} (h:i+ys.length≤l.length):ovl l i ys=l.take i++ys++l.drop (i+ys.length):=by
 apply List.ext_getElem?
 intro k
 simp only [ovl,List.getElem?_mapIdx,List.append_assoc,List.getElem?_append,List.getElem?_drop,List.length_take,Nat.min_eq_left (show i≤l.length by omega),List.getElem?_take]
 by_cases h1:k<i
 ·simp only [h1,if_true,if_neg (show ¬i≤k by omega)]
  cases l[k]? <;> rfl
 ·simp only [h1,if_false,if_pos (show i≤k by omega)]
  by_cases h2:k-i<ys.length
  ·simp only [h2,if_true]
   have:k<l.length:=by omega
   simp [this,h2]
  ·simp only [h2,if_false]
   rw [show i+ys.length+(k-i-ys.length)=k by omega,List.getElem?_eq_none (show ys.length≤k-i by omega)]
   cases l[k]? <;> rfl
theorem YW {α:Type} {A X Y Z:List α} {i:Nat} (h0:A.length=i+Y.length+Z.length) (h1:A.take i=X):ovl (ovl A (i+Y.length) Z) i Y=X++Y++Z:=by
 have hx:X.length=i:=by rw [←h1]; simp; omega
 have hd:A.drop (i+Y.length+Z.length)=[]:=List.drop_eq_nil_of_le (by omega)
 have e1:ovl A (i+Y.length) Z=A.take (i+Y.length)++Z:=by rw [bN (by omega),hd,List.append_nil]
 have hl:(A.take (i+Y.length)).length=i+Y.length:=by simp; omega
 have e2:(A.take (i+Y.length)++Z).take i=X:=by rw [List.take_append_of_le_length (by omega),List.take_take,Nat.min_eq_left (by omega),h1]
 have e3:(A.take (i+Y.length)++Z).drop (i+Y.length)=Z:=List.drop_left' hl
 rw [e1,bN (by rw [List.length_append,hl]; omega),e2,e3]
theorem tU {α:Type} {A X Y Z:List α} {i:Nat} (h0:A.length=i+Y.length+Z.length) (h1:A.take i=X):ovl (ovl A i Y) (i+Y.length) Z=X++Y++Z:=by
 have hx:X.length=i:=by rw [←h1]; simp; omega
 have e1:ovl A i Y=X++Y++A.drop (i+Y.length):=by rw [bN (by omega),h1]
 have hd:(X++Y++A.drop (i+Y.length)).drop (i+Y.length+Z.length)=[]:=List.drop_eq_nil_of_le (by simp; omega)
 rw [e1,bN (by simp; omega),hd,List.append_nil,List.take_left' (by simp; omega)]
theorem tS {α:Type} {A:List (Option α)} {a0 a2:List α} {i:Nat} (h0:A.length=a0.length+a2.length) (h1:A.take i=(a0.take i).map some) (hi:i≤a0.length):
  ovl (ovl A (i+a2.length) ((a0.drop i).map some)) i (a2.map some)=(a0.take i++a2++a0.drop i).map some:=by
 have:=YW (A:=A) (Y:=a2.map some) (Z:=(a0.drop i).map some) (by simp; omega) h1
 rw [List.length_map] at this
 rw [this]; simp
theorem YV {α:Type} {R a0 a2:List α} {i:Nat} (h0:R.length=a0.length+a2.length) (h1:R.take i=a0.take i) (hi:i≤a0.length):
  ovl (ovl R i (a2.take (R.drop i).length)) (i+a2.length) ((a0.drop i).take ((ovl R i (a2.take (R.drop i).length)).drop (i+a2.length)).length)=a0.take i++a2++a0.drop i:=by
 have e0:a2.take (R.drop i).length=a2:=List.take_of_length_le (by rw [List.length_drop]; omega)
 have e2:(a0.drop i).take ((ovl R i a2).drop (i+a2.length)).length=a0.drop i:=List.take_of_length_le (by rw [List.length_drop,List.length_drop,Vk]; omega)
 rw [e0,e2]
 exact tU (by rw [List.length_drop]; omega) h1
theorem bM {es ys:List (List V)} {at_:Nat} (h:es.length≤at_):Ds 0 es at_ ys=es:=by
 apply List.ext_getElem
 ·simp [Ds]
 ·intro k h1 h2
  simp only [Ds,List.getElem_mapIdx]
  rw [if_neg (by omega)]
theorem rO {x:Bj} {t off sz:Nat} {es:List (List V)} {zero:List V} (hx:S.val x = .own t off sz es) (k:K ((S.map (Yg t sz off (List.replicate es.length zero))).put d .undef)) (hdp:Bh t=false:=by rfl):Cg C ⟨d,.clear sz zero x,none⟩ S K:=by
 refine ⟨Bv hx trivial,?_⟩
 rw [hx]
 exact ⟨rfl,hdp,k⟩
theorem past1 {α:Type} {e:α→List V} {R:List α} {t sz at_:Nat} {ys:List (List V)} (h:R.length≤at_):some (V.own t 0 sz (Ds 0 (R.map e) at_ ys))=some (.own t 0 sz (R.map e)):=by
 rw [bM (by simpa using h)]
theorem Dj {p:DP} (h:WD C p [] (WL C T Q .normal) S):WL C (.c (.draw p)::T) Q .normal S:=h
theorem drawJ {p:DP} (R:St→Prop) (hJ:∀S,R S→WL C T Q .normal S) (h:(∀S S1,Fg S S1→R S1→WL C (.w::T) Q .normal S)→WD C p [] (WL C (.w::T) Q .normal) S):
  WL C (.c (.draw p) :: .w::T) Q .normal S:=h fun _ S1 h1 h2=>⟨S1,h1,hJ S1 h2⟩
section
variable {X:List Bg}
theorem Jo (h:K S):WD C .fin X K S:=h
theorem Ao {p:DP} (h1:Ct i S) (h2:Cg C i S (fun S'=>Dq C X S'∧WD C p X K S')):WD C (.take i p) X K S:=.inl ⟨h1,h2⟩
theorem fA {p:DP} (h2:Cg C i S (fun S'=>Dq C (i::X) S'∧WD C p (i::X) K S')):WD C (.take i p) X K S:=.inr h2
theorem Ca:WD C .stop X K S:=trivial
theorem Do {held:List Bg} {r rest:DP} (h1:Cg C i S (fun S'=>∃S1,Fg S' S1∧∃X',Fy C X' held S1∧Dq C X' S1∧WD C r X' K S1)) (h2:WD C rest X K S):WD C (.alt held i r rest) X K S:=⟨h1,h2⟩
theorem iK {held:List Bg} {r:DP} (h:∃X',Fy C X' held S∧Dq C X' S∧WD C r X' K S):∃S1,Fg S S1∧∃X',Fy C X' held S1∧Dq C X' S1∧WD C r X' K S1:=⟨S,Fg.refl S,h⟩
theorem VW {held:List Bg} {r:DP} (S1:St) (hf:Fg S S1) (h:∃X',Fy C X' held S1∧Dq C X' S1∧WD C r X' K S1):∃S1,Fg S S1∧∃X',Fy C X' held S1∧Dq C X' S1∧WD C r X' K S1:=⟨S1,hf,h⟩
theorem same_ {d:Nat} {v:V} (hl:look S.env d=some v) (hc:S.cp=[]):Vq (S.put (some d) v) S:=by
 constructor
 ·intro t
  show look ((d,v)::S.env) t=_
  simp only [look]
  split
  ·rename_i e; subst e; exact hl.symm
  ·rfl
 ·intro k
  show look (Jw d (fun _=>none) S.cp) k=look S.cp k
  rw [hc]; rfl
theorem Zd (hc:S.cp=[]) (x:Bj):S.capOf x=none:=by
 cases x with
 | t n=>show look S.cp n=none; rw [hc]; rfl
 | c v=>rfl
theorem eT (hc:S.cp=[]) {rd:Bj→V} (o:PU):Mm S rd o=none:=by
 cases o<;>try rfl
 case mv x=>exact Zd hc x
 case slice x lo hi sz=>
  simp only [Mm,Hq]
  rw [show Kh S.cp x=none from Zd hc x]
theorem Cq {o:PU} {d:Nat} {v:V} (h:Cc S (.p o) v) (hl:look S.env d=some v) (hc:S.cp=[]:=by rfl):Cg C ⟨some d,.p o,none⟩ S (fun S'=>Vq S' S):=
 c_ h (by rw [Xp (g:=fun _=>none) (eT hc o)]; exact same_ hl hc)
theorem Gg {o:PU} {d:Nat} {v:V} {gs:Nat} {want g:Bool} (hg:Lk (S.val (.t gs)) want=some g) (h:g=true→Cc S (.p o) v) (hl:look S.env d=some (.may g v)) (hc:S.cp=[]:=by rfl):Cg C ⟨some d,.p o,some (gs,want)⟩ S (fun S'=>Vq S' S):=Cx hg h (same_ hl hc)
end
end
end Go.Ev
