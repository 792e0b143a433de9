/- Steps of the small machine, second part: slices, rows that grow, calls, ends, drawn orders. -/
import Derived.Test.YtikhmmocfceliaaGreatQvL
set_option linter.all false
namespace Go.Ev
def cW {α:Type} (l:List α) (lo hi:Int):Option (List α):=if 0≤lo∧lo≤hi∧hi≤l.length then some ((l.take hi.toNat).drop lo.toNat) else none
theorem kF {α:Type} {l y:List α} {lo hi:Int} (h:cW l lo hi=some y):0≤lo∧lo≤hi∧hi≤l.length∧y=(l.take hi.toNat).drop lo.toNat:=by
 unfold cW at h
 split at h
 ·rename_i hc
  exact ⟨hc.1,hc.2.1,hc.2.2,(Option.some.inj h).symm⟩
 ·cases h
def ovl {α:Type} (l:List α) (at_:Nat) (ys:List α):List α:=l.mapIdx fun i e=>if at_≤i then (ys[i-at_]?).getD e else e
theorem Jv {α:Type} {e:α→List V} {l ys:List α} {off i:Nat}:Ez off (l.map e) (off+i) (ys.map e)=(ovl l i ys).map e:=by
 unfold Ez ovl
 apply List.ext_getElem?
 intro k
 simp only [List.getElem?_mapIdx,List.getElem?_map]
 cases hk:l[k]? with
 | none=>rfl
 | some z=>
  simp only [Option.map_some]
  by_cases h:i≤k
  ·have e1:off+k-(off+i)=k-i:=by omega
   rw [if_pos (by omega),if_pos h,e1]
   cases ys[k-i]? <;> rfl
  ·rw [if_neg (by omega),if_neg h]
theorem Fa {α:Type} {e:α→List V} {l y:List α} {t off sz:Nat} (h:y.length=l.length):
  (if off=off∧sz=sz∧(l.map e).length=(y.map e).length then V.own t off sz (y.map e) else .undef) = .own t off sz (y.map e):=if_pos ⟨rfl,rfl,by simp [h]⟩
section
variable {C:Bl} {Q:Ex→St→Prop} {S:St} {T:List Hs} {l:List Cf} {d:Option Nat} {K:St→Prop} {i:Cf}
theorem Ds {x:Cm} {v:V} (h:S.val x=v) (hm:Bc true v):Bc true (S.val x):=by rw [h]; exact hm
theorem Qt {α:Type} {e:α→List V} {l0 y:List α} {x:Cm} {lo hi:Option Cm} {a b:Option Int} {vx:V} {sz:Nat} (hx:S.val x=vx) (hx':Au vx = .lst sz (l0.map e)) (hm:Bc true vx)
  (hm2:Cu (nm S) (lo.toList++hi.toList)) (ha:Gs (lo.map fun x=>Au (S.val x))=some a) (hb:Gs (hi.map fun x=>Au (S.val x))=some b)
  (hy:cW l0 (a.getD 0) (b.getD l0.length)=some y):Do S (.p (.slice x lo hi sz)) (.lst sz (y.map e)):=by
 obtain ⟨h1,h2,h3,rfl⟩:=kF hy
 refine ⟨⟨Ds hx hm,hm2⟩,?_⟩
 simp only [pu,hx,hx',ha,hb,List.length_map,←List.map_take,←List.map_drop]
 exact ⟨_,rfl,trivial,h1,h2,h3⟩
theorem Fk {α:Type} {e:α→List V} {l0 y:List α} {x:Cm} {lo hi:Option Cm} {a b:Option Int} {vx:V} {t off sz:Nat} (hx:S.val x=vx) (hx':Au vx = .own t off sz (l0.map e)) (hm:Bc true vx)
  (hm2:Cu (nm S) (lo.toList++hi.toList)) (ha:Gs (lo.map fun x=>Au (S.val x))=some a) (hb:Gs (hi.map fun x=>Au (S.val x))=some b)
  (hy:cW l0 (a.getD 0) (b.getD l0.length)=some y):Do S (.p (.slice x lo hi sz)) (.own t (off+(a.getD 0).toNat) sz (y.map e)):=by
 obtain ⟨h1,h2,h3,rfl⟩:=kF hy
 refine ⟨⟨Ds hx hm,hm2⟩,?_⟩
 have h0:(b.getD l0.length).toNat-l0.length=0:=by omega
 simp only [pu,hx,hx',ha,hb,List.length_map,h0,bW,List.replicate_zero,List.append_nil,List.map_take,List.map_drop]
 exact ⟨_,rfl,trivial,h1,h2,.inl h3⟩
theorem cidxS {s:List UInt8} {x i:Cm} {vx vi:V} {k:IntKind} {n:Int} {y:UInt8} (hx:S.val x=vx) (hx':Au vx = .str s) (hmx:Bc true vx)
  (hi:S.val i=vi) (hi':Au vi = .int k n) (hmi:Bc true vi) (hy:Cr s n=some y):Do S (.p (.idxStr x i)) (.int .u8 (y.toNat:Int)):=by
 obtain ⟨h0,h1,h2⟩:=Pu hy
 refine ⟨⟨Ds hx hmx,Ds hi hmi,trivial⟩,0≤n∧n<s.length,?_,h0,h1⟩
 have:s.getD n.toNat 0=y:=by simp [List.getD,h2]
 simp only [pu,hx,hi,hx',hi',this]
theorem CO {α:Type} {e:α→List V} {l0:List α} {x:Cm} {vx:V} {t off sz:Nat} (hx:S.val x=vx) (hx':Au vx = .own t off sz (l0.map e)) (hm:Bc true vx) (hz:sz≠0:=by decide):Do S (.p (.len x)) (.int .i64 (l0.length:Int)):=by
 refine ⟨⟨Ds hx hm,trivial⟩,(sz≠0),?_,hz⟩
 simp only [pu,hx,hx',List.length_map]
theorem Fb {α:Type} {e:α→List V} {l0:List α} {x i:Cm} {vx vi:V} {t off sz:Nat} {k:IntKind} {n:Int} {y:α} (hx:S.val x=vx) (hx':Au vx = .own t off sz (l0.map e)) (hmx:Bc true vx)
  (hi:S.val i=vi) (hi':Au vi = .int k n) (hmi:Bc true vi) (hy:Cr l0 n=some y):Do S (.p (.idxA x i sz)) (.optr t sz (off+n.toNat) 0):=by
 obtain ⟨h0,h1,h2⟩:=Pu hy
 refine ⟨⟨Ds hx hmx,Ds hi hmi,trivial⟩,sz=sz∧0≤n∧n<(l0.map e).length,?_,rfl,h0,by simpa using h1⟩
 simp only [pu,hx,hi,hx',hi']
theorem Bo {α:Type} {e:α→List V} {l0:List α} {x:Cm} {vx:V} {t off sz j k n i:Nat} {ag:Bool} {y:α} {v:V} (hx:S.val x=vx) (hx':Au vx = .optr t sz j k) (hm:Bc true vx) (hf:S.find t=some (off,l0.map e)) (hj:j=off+i)
  (hy:l0[i]? = some y) (hv:Hy ag n ((e y).drop k)=some v) (hn:k+n≤sz) (hsz:(e y).length=sz) (hdp:Cn t=false:=by rfl):Do S (.p (.load x n ag)) v:=by
 subst hj
 have hlt:=(List.getElem?_eq_some_iff.1 hy).1
 have hg:(l0.map e).getD (off+i-off) []=e y:=by
  rw [Nat.add_sub_cancel_left]
  simp [List.getD,hy]
 refine ⟨⟨Ds hx hm,trivial⟩,off≤off+i∧off+i<off+(l0.map e).length∧k+n≤sz∧((l0.map e).getD (off+i-off) []).length=sz,?_,Nat.le_add_right _ _,by simp; omega,hn,by rw [hg]; exact hsz⟩
 simp only [pu,hx,hx',hf,dvs,hdp,cond_false]
 rw [hg,hv]
theorem c_ {o:PU} {v:V} (h:Do S (.p o) v) (k:K (S.putC d v (Jm (fun x=>Au (S.val x)) o))):Dt C ⟨d,.p o,none⟩ S K:=by
 obtain ⟨h1,ψ,h2,h3⟩:=h
 exact p_ h1 h2 h3 k
theorem Lb {α:Type} {e:α→List V} {l0 l1:List α} {x y:Cm} {t sz by_:Nat} {vy:V} (hx:S.val x = .own t 0 sz (l0.map e)) (hy:S.val y=vy) (hm:Bc true vy) (hs:Ng (Au vy)=some (sz,l1.map e))
  (ht:t<Ch) (hn:(l0.length+l1.length)*by_≤140737488355328) (k:K ((S.drop t).putC d (.own t 0 sz ((l0++l1).map e)) (Kg x (l0.length+l1.length)))) (hdp:Cn t=false:=by rfl):Dt C ⟨d,.app sz by_ x y,none⟩ S K:=by
 refine ⟨Ds hx trivial,Ds hy hm,?_⟩
 rw [hx,hy]
 dsimp only [Au]
 dsimp only [Au] at hs
 rw [hs]
 refine ⟨ht,rfl,rfl,rfl,by simpa using hn,hdp,?_⟩
 rw [←List.map_append,List.length_map,List.length_map]
 exact k
theorem appzx_ {α:Type} {e:α→List V} {l0:List α} {x y:Cm} {t sz by_ d':Nat} {ki:IntKind} {l c:Int} {zero:List V} (z:α) (hx:S.val x = .own t 0 sz (l0.map e)) (hy:S.val y = .int ki l) (hz:e z=zero)
  (ht:t<Ch) (h0:0≤l) (hn:((l0.length:Int)+l)*by_≤140737488355328) (hc:S.capOf x=some c) (hc1:Fm≤c) (hc2:c-Fm<l0.length+l)
  (k:K ((S.drop (64*d')).put (some d') (.own (64*d') 0 sz ((l0++List.replicate l.toNat z).map e)))) (hdp:Cn t=false:=by rfl):Dt C ⟨some d',.appz sz by_ zero x y,none⟩ S K:=by
 refine ⟨Ds hx trivial,Ds hy trivial,?_⟩
 rw [hx,hy]
 dsimp only [Au]
 refine ⟨ht,rfl,rfl,h0,by simpa using hn,hdp,?_⟩
 rw [List.map_append,List.map_replicate,hz] at k
 rw [List.length_map]
 exact .inr ⟨d',c,rfl,hc,hc1,hc2,k⟩
theorem cap_ {α:Type} {e:α→List V} {l0:List α} {t off sz n:Nat} (hx:S.val (.t n) = .own t off sz (l0.map e))
  (k:∀c:Nat,l0.length≤c→(off=0→c≤9223372036854775807)→(∀c0,S.capOf (.t n)=some c0→Fm≤c0→(c:Int)=c0-Fm)→K (St.put { S with cp:=Ma n (fun _=>some (Fm+c)) S.cp } d (.int .i64 c))) (hz:sz≠0:=by decide):Dt C ⟨d,.cap (.t n),none⟩ S K:=by
 refine ⟨Ds hx trivial,?_⟩
 rw [hx]
 dsimp only [Au]
 rw [List.length_map]
 exact ⟨hz,k⟩
theorem covl {x y:Cm} {t off sz t' off' sz':Nat} {es es':List (List V)} (hx:S.val x = .own t off sz es) (hy:S.val y = .own t' off' sz' es') (h:t≠t') (h1:es≠[]) (h2:es'≠[]) (hz:sz≠0:=by decide) (hz':sz'≠0:=by decide):Do S (.p (.ovl x y)) (.bool false):=by
 refine ⟨⟨Ds hx trivial,Ds hy trivial,trivial⟩,(t≠t'∧(es≠[]∧es'≠[])∧sz≠0∧sz'≠0),?_,h,⟨h1,h2⟩,hz,hz'⟩
 simp only [pu,hx,hy,Au]
theorem make_ {α:Type} {e:α→List V} {x y:Cm} {d sz by_:Nat} {k1 k2:IntKind} {a c:Int} {zero:List V} (z:α) (hx:S.val x = .int k1 a) (hy:S.val y = .int k2 c) (h0:0≤a) (hac:a=c) (hn:c*by_≤140737488355328)
  (hz:e z=zero) (k:K ((S.drop (64*d)).put (some d) (.own (64*d) 0 sz ((List.replicate a.toNat z).map e)))):Dt C ⟨some d,.make sz by_ zero x y,none⟩ S K:=by
 refine ⟨Ds hx trivial,Ds hy trivial,?_⟩
 rw [hx,hy]
 refine ⟨h0,hac,hn,?_⟩
 rw [List.map_replicate,hz] at k
 exact .inl k
theorem copy_ {α:Type} {e:α→List V} {l0 l1:List α} {x y:Cm} {t off sz:Nat} {vy:V} (hx:S.val x = .own t off sz (l0.map e)) (hy:S.val y=vy) (hm:Bc true vy) (hs:Ng (Au vy)=some (sz,l1.map e))
  (k:K ((S.map (cJ t sz off ((l1.take l0.length).map e))).put d (.int .i64 (min l1.length l0.length:Nat)))) (hdp:Cn t=false:=by rfl):Dt C ⟨d,.copy sz x y,none⟩ S K:=by
 refine ⟨Ds hx trivial,Ds hy hm,?_⟩
 rw [hx,hy]
 dsimp only [Au]
 dsimp only [Au] at hs
 rw [hs]
 refine ⟨rfl,rfl,hdp,?_⟩
 rw [List.map_take,] at k
 simpa using k
theorem clear_ {α:Type} {e:α→List V} {l0:List α} {z:α} {x:Cm} {t off sz:Nat} {zero:List V} (hx:S.val x = .own t off sz (l0.map e)) (hz:e z=zero)
  (k:K ((S.map (cJ t sz off ((List.replicate l0.length z).map e))).put d .undef)) (hdp:Cn t=false:=by rfl):Dt C ⟨d,.clear sz zero x,none⟩ S K:=by
 refine ⟨Ds hx trivial,?_⟩
 rw [hx]
 refine ⟨rfl,hdp,?_⟩
 rw [List.map_replicate,hz] at k
 simpa using k
theorem chk3O {α:Type} {e:α→List V} {l0:List α} {x lo hi mx:Cm} {t off sz:Nat} {k1 k2 k3:IntKind} {a b c:Int} (hx:S.val x = .own t off sz (l0.map e)) (h1:S.val lo = .int k1 a) (h2:S.val hi = .int k2 b) (h3:S.val mx = .int k3 c)
  (hc:0≤a∧a≤b∧b≤c∧c≤(l0.length:Int)) (k:K (S.put d .undef)) (hz:sz≠0:=by decide):Dt C ⟨d,.chk3 x lo hi mx,none⟩ S K:=by
 obtain ⟨s0,rfl⟩:=Nat.exists_eq_succ_of_ne_zero hz
 refine ⟨⟨Ds hx trivial,Ds h1 trivial,Ds h2 trivial,Ds h3 trivial⟩,?_⟩
 rw [hx,h1,h2,h3]
 exact ⟨hc.1,hc.2.1,hc.2.2.1,by simpa using hc.2.2.2,k⟩
theorem mX {α:Type} {e:α→List V} {l0:List α} {x:Cm} {sz:Nat} {ne:Bool} (hx:S.val x = .lst sz (l0.map e)) (k:∀b:Bool,(b=true→l0=[])→K (S.put d (.bool (if ne then !b else b)))) (hz:sz≠0:=by decide):
  Dt C ⟨d,.isnil x ne,none⟩ S K:=by
 obtain ⟨s0,rfl⟩:=Nat.exists_eq_succ_of_ne_zero hz
 refine ⟨Ds hx trivial,?_⟩
 rw [hx]
 exact fun b hb=>k b fun h=>by simpa using hb h
theorem gH {sz len d:Nat} {zero:List V} {parts:List (Nat×Cm)} (hm:Cu (fun p=>nm S p.2) parts)
  (h:Cu (fun p=>p.1<len∧p.2.cells.length=sz∧p.2.cells.all (fun c => !Ke c)=true) (parts.map fun p=>(p.1,Au (S.val p.2))))
  (k:K (((S.freezes (Jw (parts.map fun p=>(p.1,Au (S.val p.2))))).drop (64*d)).put (some d)
    (.own (64*d) 0 sz (Lh sz (List.replicate len zero) ((parts.map fun p=>(p.1,Au (S.val p.2))).map fun p=>(p.1,p.2.cells.map Eg)))))):
  Dt C ⟨some d,.mkS sz zero len parts,none⟩ S K:=⟨hm,h,.inl k⟩
theorem cloadD {α:Type} {e:α→List V} {l0:List α} {x:Cm} {vx:V} {t off sz j k n i:Nat} {ag:Bool} {y:α} {v:V} (hx:S.val x=vx) (hx':Au vx = .optr t sz j k) (hm:Bc true vx) (hf:S.find t=some (off,l0.map e)) (hj:j=off+i)
  (hy:l0[i]? = some y) (hv:Hy ag n (Ob t (off+i) k ((e y).drop k))=some v) (hn:k+n≤sz) (hsz:(e y).length=sz) (hdp:Cn t=true:=by rfl):Do S (.p (.load x n ag)) v:=by
 subst hj
 have hlt:=(List.getElem?_eq_some_iff.1 hy).1
 have hg:(l0.map e).getD (off+i-off) []=e y:=by
  rw [Nat.add_sub_cancel_left]
  simp [List.getD,hy]
 refine ⟨⟨Ds hx hm,trivial⟩,off≤off+i∧off+i<off+(l0.map e).length∧k+n≤sz∧((l0.map e).getD (off+i-off) []).length=sz,?_,Nat.le_add_right _ _,by simp; omega,hn,by rw [hg]; exact hsz⟩
 simp only [pu,hx,hx',hf,dvs,hdp,cond_true]
 rw [hg,hv]
theorem bY {α:Type} {e:α→List V} {l0:List α} {x v:Cm} {n t sz j k off i:Nat} {u:V} {y y':α} (hx:S.val x = .optr t sz j k) (hv:S.val v=u) (hm:Bc true u) (hu:Bz (Au u)=false) (hl:(Au u).cells.length=n)
  (hf:S.find t=some (off,l0.map e)) (hj:j=off+i) (hy:l0[i]? = some y) (hn:k+n≤sz) (hsz:(e y).length=sz) (hp:(Au u).cells.all (fun c=>scal c || (decide (t<Ch)&&jW c))=true) (ht:Di (Au u).tags=true)
  (hy':Dj (e y) k ((Au u).cells.map Eg)=e y')
  (k':K (((S.drops (Au u).tags).map (iA t sz (off+i) [e y'])).put d .undef)) (hdp:Cn t=true:=by rfl):Dt C ⟨d,.store x v n,none⟩ S K:=by
 subst hj
 have hlt:=(List.getElem?_eq_some_iff.1 hy).1
 have hg:(l0.map e).getD (off+i-off) []=e y:=by
  rw [Nat.add_sub_cancel_left]
  simp [List.getD,hy]
 refine ⟨by rw [hx]; trivial,by rw [hv]; exact hm,?_⟩
 rw [hv,hx]
 refine ⟨hu,hl,?_⟩
 dsimp only [Au]
 rw [hf]
 dsimp only
 rw [hg]
 refine ⟨Nat.le_add_right _ _,by simp; omega,hn,hsz,.inr ⟨hdp,hp,ht,?_⟩⟩
 dsimp only [Au] at hy'
 rw [hy']
 exact k'
theorem Ov {c:V} {b:Bool} (h:scal c=true:=by rfl):(scal c || b)=true:=by rw [h]; rfl
theorem own_ok {α:Type} {e:α→List V} {xs:List α} {t t' sz:Nat} (h:∀x,(e x).all scal=true) (h1:decide (t<Ch)=true:=by rfl) (h2:(decide (t'<Ch) && !Cn t')=true:=by rfl):
  (scal (.own t' 0 (sz+1) (xs.map e)) || (decide (t<Ch)&&jW (.own t' 0 (sz+1) (xs.map e))))=true:=by
 have h3:(xs.map e).all (fun e=>e.all scal)=true:=by
  simp only [List.all_map,List.all_eq_true,Function.comp]
  intro x _
  exact List.all_eq_true.1 (h x)
 rw [h1]
 show (false || (true&&((decide (t'<Ch) && !Cn t')&&(xs.map e).all fun e=>e.all scal)))=true
 rw [h2,h3]; rfl
theorem makeD_ {α:Type} {e:α→List V} {x y:Cm} {d sz by_:Nat} {k1 k2:IntKind} {a c:Int} {zero:List V} (z:α) (hx:S.val x = .int k1 a) (hy:S.val y = .int k2 c) (h0:0≤a) (hac:a=c) (hn:c*by_≤140737488355328)
  (hz:e z=zero) (k:K ((S.drop (64*d+32)).put (some d) (.own (64*d+32) 0 sz ((List.replicate a.toNat z).map e)))) (hth:zero.all thin=true:=by rfl):Dt C ⟨some d,.make sz by_ zero x y,none⟩ S K:=by
 refine ⟨Ds hx trivial,Ds hy trivial,?_⟩
 rw [hx,hy]
 refine ⟨h0,hac,hn,?_⟩
 rw [List.map_replicate,hz] at k
 exact .inr ⟨hth,k⟩
theorem FZ {β:Type} {e0:β→List V} {L0:List β} {off i c:Nat} {y y':β} {x:V} (hy:L0[i]? = some y) (hy':(e0 y).set c x=e0 y'):kE off (off+i) c x (L0.map e0)=(L0.set i y').map e0:=by
 unfold kE
 apply List.ext_getElem?
 intro k
 rw [List.getElem?_mapIdx,List.getElem?_map,List.getElem?_map,List.getElem?_set]
 cases hk:L0[k]? with
 | none=>
  have:=List.getElem?_eq_none_iff.1 hk
  by_cases h1:i=k
  ·rw [if_pos h1,if_neg (by omega)]; rfl
  ·rw [if_neg h1]; rfl
 | some z=>
  have hlt:=(List.getElem?_eq_some_iff.1 hk).1
  simp only [Option.map_some]
  by_cases h1:i=k
  ·subst h1
   rw [hk] at hy
   cases hy
   rw [if_pos rfl,if_pos rfl,if_pos hlt,Option.map_some,hy']
  ·rw [if_neg h1,if_neg (by omega),Option.map_some]
theorem setN_eq {β:Type} {e0:β→List V} {L0:List β} {t sz off i c:Nat} {y y':β} {x:V} (hy:L0[i]? = some y) (hy':(e0 y).set c x=e0 y'):V.own t off sz (kE off (off+i) c x (L0.map e0)) = .own t off sz ((L0.set i y').map e0):=by rw [FZ hy hy']
theorem callN_ {α β:Type} {e0:β→List V} {L0:List β} {e:α→List V} {xs xs':List α} {f:Nat} {as:List Cm} {T s0 j c sz off i:Nat} {y:β} {us:List V} {r:V} (H:C f ⟨us,[]⟩ ⟨r,[],[(0,sz,xs'.map e)]⟩) (hm:Cu (nm S) as)
  (hh:pI T j c sz (xs.map e) (as.map fun x=>Au (S.val x)) us) (hf:S.find T=some (off,L0.map e0)) (hj:j=off+i) (hy:L0[i]? = some y) (hs0:(e0 y).length=s0) (hc:(e0 y)[c]? = some (.lst sz (xs.map e)))
  (hl:xs'.length=xs.length) (he:∀x,(Nat.beq (e x).length sz&&(e x).all scal)=true)
  (k:K ((S.map (iB T s0 (off+i) c (.lst sz (xs'.map e)))).put d r)) (hsz:sz≠0:=by decide) (hr:scal r=true:=by rfl) (hr2:Bz r=false:=by rfl) (hd:Cn T=true:=by rfl):Dt C ⟨d,.call f as,none⟩ S K:=by
 subst hj
 refine ⟨hm,.inr ⟨T,s0,off+i,c,sz,xs.map e,xs'.map e,us,r,hh,hsz,by simpa using hl,?_,hr,hr2,hd,⟨off,L0.map e0,hf,Nat.le_add_right _ _,?_,?_⟩,H,k⟩⟩
 ·simp only [List.all_map,List.all_eq_true,Function.comp]
  intro x _
  exact he x
 ·rw [Nat.add_sub_cancel_left]
  simp [List.getD,hy,hs0]
 ·rw [Nat.add_sub_cancel_left]
  simp [List.getD,hy,hc]
theorem GO {f:Nat} {args:List V} (fz:Bool) {gv:List V} {r:V} (h:C f ⟨gv,[]⟩ ⟨r,[],[]⟩) (h0:Ox (fun v => !Bz v) args=true) (hg:args.map (mapW (S.liftC [] [] [] fz))=gv)
  (h3:fz=false→r.flat.all Hn=true) (k:K (((if fz then S.freezes (Dg (Pn args)) else S).drops (Oo (d.getD 0) (Dg r.flat))).put d (Gh (Hl (d.getD 0) 0 [] []) r))):kU C f args d S K:=by
 have e0:∀l:List Nat,cV [] l=l:=fun l=>by
  induction l with
  | nil=>rfl
  | cons x r ih=>simp [cV,ih]
 refine ⟨h0,[],[],[],fz,⟨r,[],[]⟩,⟨rfl,rfl,rfl,rfl⟩,⟨rfl,rfl,rfl⟩,fun hz=>?_,?_,?_⟩
 ·simp [Fu.flat,h3 hz]
 ·subst hg; exact h
 ·simpa [St.after,St.frzTags,St.given,e0,Fu.newR,Fu.newB,Se,St.rows,St.boxes,St.drops] using k
theorem Cq {f:Nat} {as:List Cm} (fz:Bool) {gv:List V} {r:V} (h:C f ⟨gv,[]⟩ ⟨r,[],[]⟩) (hm:Cu (nm S) as) (h0:Ox (fun v => !Bz v) (as.map fun x=>Au (S.val x))=true)
  (hg:(as.map fun x=>Au (S.val x)).map (mapW (S.liftC [] [] [] fz))=gv) (h3:fz=false→r.flat.all Hn=true)
  (k:K (((if fz then S.freezes (Dg (Pn (as.map fun x=>Au (S.val x)))) else S).drops (Oo (d.getD 0) (Dg r.flat))).put d (Gh (Hl (d.getD 0) 0 [] []) r))):
  Dt C ⟨d,.call f as,none⟩ S K:=⟨hm,.inl (GO fz h h0 hg h3 k)⟩
theorem He {f:Nat} {x:Cm} {as:List Cm} {caps:List V} (hx:S.val x = .clo f caps) (fz:Bool) {gv:List V} {r:V} (h:C f ⟨gv,[]⟩ ⟨r,[],[]⟩) (hm:Cu (nm S) as)
  (h0:Ox (fun v => !Bz v) ((as.map fun x=>Au (S.val x))++caps)=true) (hg:((as.map fun x=>Au (S.val x))++caps).map (mapW (S.liftC [] [] [] fz))=gv) (h3:fz=false→r.flat.all Hn=true)
  (k:K (((if fz then S.freezes (Dg (Pn ((as.map fun x=>Au (S.val x))++caps))) else S).drops (Oo (d.getD 0) (Dg r.flat))).put d (Gh (Hl (d.getD 0) 0 [] []) r))):
  Dt C ⟨d,.callv x as,none⟩ S K:=by
 refine ⟨Ds hx trivial,hm,?_⟩
 rw [hx]
 exact GO fz h h0 hg h3 k
theorem wcall1 {f:Nat} {args:List V} (LB LR LM:List Nat) (fz:Bool) {g:Gq} {t:Fu} (h:C f g t) (h0:Ox (fun v => !Bz v) args=true) (hg:S.give args LB LR LM fz=g)
  (h1:(Di LB&&Di (LR++LM)&&Px Ch LM&&LB.all (fun T=>(look S.bx T).isSome))=true)
  (h2:(Px 33 [t.bx.length-LB.length,LM.length,LR.length]&&Kz (t.newB (d.getD 0) LB.length) LB&&Kz (t.newR (d.getD 0)) LR)=true) (h3:fz=false→t.flat=true)
  (k:K ((S.after args (d.getD 0) fz LB LR LM t).put d (Gh (Hl (d.getD 0) (t.bx.length-LB.length) LB LR) t.r))):kU C f args d S K:=by
 simp only [Bool.and_eq_true] at h1 h2
 refine ⟨h0,LB,LR,LM,fz,t,⟨h1.1.1.1,h1.1.1.2,h1.1.2,h1.2⟩,⟨h2.1.1,h2.1.2,h2.2⟩,h3,?_,k⟩
 subst hg; exact h
theorem Ef {f:Nat} {as:List Cm} (LB LR LM:List Nat) (fz:Bool) {g:Gq} {t:Fu} (h:C f g t) (hm:Cu (nm S) as) (h0:Ox (fun v => !Bz v) (as.map fun x=>Au (S.val x))=true)
  (hg:S.give (as.map fun x=>Au (S.val x)) LB LR LM fz=g)
  (h1:(Di LB&&Di (LR++LM)&&Px Ch LM&&LB.all (fun T=>(look S.bx T).isSome))=true)
  (h2:(Px 33 [t.bx.length-LB.length,LM.length,LR.length]&&Kz (t.newB (d.getD 0) LB.length) LB&&Kz (t.newR (d.getD 0)) LR)=true) (h3:fz=false→t.flat=true)
  (k:K ((S.after (as.map fun x=>Au (S.val x)) (d.getD 0) fz LB LR LM t).put d (Gh (Hl (d.getD 0) (t.bx.length-LB.length) LB LR) t.r))):Dt C ⟨d,.call f as,none⟩ S K:=
 ⟨hm,.inl (wcall1 LB LR LM fz h h0 hg h1 h2 h3 k)⟩
theorem Mh {f:Nat} {as:List Cm} {gs:Nat} {want g:Bool} (hgv:Nt (S.val (.t gs)) want=some g) (fz:Bool) {gv:List V} {r:V} (h:g=true→C f ⟨gv,[]⟩ ⟨r,[],[]⟩)
  (hm:Cu (fun x=>Bc g (S.val x)) as) (h0:g=true→Ox (fun v => !Bz v) (as.map fun x=>Au (S.val x))=true)
  (hg:g=true→(as.map fun x=>Au (S.val x)).map (mapW (S.liftC [] [] [] fz))=gv) (h3:fz=false→r.flat.all Hn=true) (h4:fz=true→Dg (Pn (as.map fun x=>Au (S.val x)))=[])
  (k:K (S.put d (.may g (Gh Nm r)))):Dt C ⟨d,.call f as,some (gs,want)⟩ S K:=by
 unfold Dt
 dsimp only
 rw [hgv]
 exact .inl ⟨hm,h0,fz,r,fun e=>by have:=hg e; subst this; exact h e,h3,h4,k⟩
theorem Iu {f:Nat} {x:Cm} {as:List Cm} {caps:List V} {vx:V} {gs:Nat} {want g:Bool} (hgv:Nt (S.val (.t gs)) want=some g) (hx:S.val x=vx) (hx':Au vx = .clo f caps) (hmx:Bc g vx) (fz:Bool) {gv:List V} {r:V}
  (h:g=true→C f ⟨gv,[]⟩ ⟨r,[],[]⟩)
  (hm:Cu (fun x=>Bc g (S.val x)) as) (h0:g=true→Ox (fun v => !Bz v) ((as.map fun x=>Au (S.val x))++caps)=true)
  (hg:g=true→((as.map fun x=>Au (S.val x))++caps).map (mapW (S.liftC [] [] [] fz))=gv) (h3:fz=false→r.flat.all Hn=true) (h4:fz=true→Dg (Pn ((as.map fun x=>Au (S.val x))++caps))=[])
  (k:K (S.put d (.may g (Gh Nm r)))):Dt C ⟨d,.callv x as,some (gs,want)⟩ S K:=by
 unfold Dt
 dsimp only
 rw [hgv]
 refine .inl ⟨by rw [hx]; exact hmx,hm,?_⟩
 rw [hx,hx']
 exact ⟨h0,fz,r,fun e=>by have:=hg e; subst this; exact h e,h3,h4,k⟩
theorem cb8 {o:PU} {x:Int} (h:Do S (.p o) (.int .u8 (IntKind.u8.wrap x))):Do S (.p o) (.int .u8 ((b8 x).toNat:Int)):=by
 unfold b8
 rw [qJ]
 exact h
theorem cH {α:Type} {e:α→List V} {xs:List α} (h:∀x,(e x).all scal=true):((xs.map e).all fun x=>x.all scal)=true:=by
 simp only [List.all_map,List.all_eq_true,Function.comp]
 intro x _
 exact List.all_eq_true.1 (h x)
theorem Jc {α:Type} {e:α→List V} {xs:List α} {n:Nat} (h:∀x,(e x).length=n):∀y∈xs.map e,y.length=n:=by
 intro y hy
 obtain ⟨x,_,rfl⟩:=List.mem_map.1 hy
 exact h x
theorem fl1d {es:List (List V)} {t off sz:Nat} (h:Cn t=true):Hn (.own t off sz es)=true:=by simp [Hn,h]
theorem oV {α:Type} {e:α→List V} {xs:List α} {t off sz:Nat} (h:∀x,(e x).all scal=true):Hn (.own t off sz (xs.map e))=true:=by
 simp only [Hn,Bool.or_eq_true]
 refine .inr ?_
 simp only [List.all_map,List.all_eq_true,Function.comp]
 intro x _
 exact List.all_eq_true.1 (h x)
theorem Dk {res:List dC} {nb:Nat} {t:Fu} {v:V} {css:List (List V)} (h1:FS S res=some v) (h2:Nv S (Xl nb++Fn v.flat)=some css)
  (h3:Px 33 [(Je (v.flat++css.flatten)).length,(Fn v.flat).length]=true) (h4:Gh (Vj (Je (v.flat++css.flatten)) (Fn v.flat)) v=t.r)
  (h5:Py (Vj (Je (v.flat++css.flatten)) (Fn v.flat)) css=t.bx) (h6:Vk S 0 t.rw):FQ res nb t .ret S:=by
 refine ⟨S,Fg.refl S,?_⟩
 unfold oG
 rw [h1]
 show cA S v nb t
 unfold cA
 dsimp only
 rw [h2]
 exact ⟨h3,h4,h5,h6⟩
theorem bU {res:List dC} {nb:Nat} {t:Fu} {S1:St} (hf:Fg S S1) (h:FQ res nb t .ret S1):FQ res nb t .ret S:=by
 obtain ⟨S2,h1,h2⟩:=h
 exact ⟨S2,hf.trans h1,h2⟩
theorem bV {res:List dC} {nb:Nat} {t:Fu} (h:FQ res nb t .ret S):FQ res nb t .normal S:=h
theorem fn_ {fn:Dv} {args:List V} {bx:List (List V)} {t:Fu} (h0:args.length≤fn.nt) (h:WL C [.c fn.body] (FQ fn.res bx.length t) .normal ⟨Rv args 0,Rw bx Ch,[]⟩):kZ C fn ⟨args,bx⟩ t:=⟨h0,.inl h⟩
theorem slcN {α:Type} (l:List α) (a b:Nat) (h:a≤b) (h2:b≤l.length):cW l (a:Int) ((some (b:Int)).getD l.length)=some ((l.take b).drop a):=by
 unfold cW
 simp only [Option.getD_some]
 rw [if_pos ⟨by omega,by omega,by omega⟩]
 simp
theorem cX {α:Type} (l:List α) (a:Nat) (h:a≤l.length):cW l ((some (a:Int)).getD 0) ((none:Option Int).getD l.length)=some (l.drop a):=by
 unfold cW
 simp only [Option.getD_some,Option.getD_none]
 rw [if_pos ⟨by omega,by omega,by omega⟩]
 simp
theorem bN {d:Option Nat} {v:V} {f g:List (Nat×Int)→Option Int} (h:f S.cp=g S.cp):S.putC d v f=S.putC d v g:=by
 cases d with
 | none=>rfl
 | some d=>
  have:Ma d f S.cp=Ma d g S.cp:=by
   cases hl:S.cp with
   | nil=>rw [hl] at h; simp only [Ma,h]
   | cons p r=>rw [hl] at h; simp only [Ma,h]
  simp only [St.putC,this]
theorem appc_ {α:Type} {e:α→List V} {l0 l1:List α} {x y:Cm} {t sz by_:Nat} {vy:V} {c:Int} (hx:S.val x = .own t 0 sz (l0.map e)) (hy:S.val y=vy) (hm:Bc true vy) (hs:Ng (Au vy)=some (sz,l1.map e))
  (ht:t<Ch) (hn:(l0.length+l1.length)*by_≤140737488355328) (hc:S.capOf x=some c) (hle:((l0.length+l1.length:Nat):Int)≤Ny c)
  (k:K ((S.drop t).putC d (.own t 0 sz ((l0++l1).map e)) fun _=>some c)) (hdp:Cn t=false:=by rfl):Dt C ⟨d,.app sz by_ x y,none⟩ S K:=by
 refine Lb hx hy hm hs ht hn ?_ hdp
 rw [bN (g:=fun _=>some c)]
 ·exact k
 ·show Kg x _ S.cp=_
  unfold Kg
  rw [show Mi S.cp x=some c from hc]
  dsimp only
  rw [if_pos hle]
theorem eK {α:Type} {e:α→List V} {R:List α} {x lo hi:Cm} {t sz L H:Nat} {k1 k2:IntKind} {c:Int} (hx:S.val x = .own t 0 sz (R.map e)) (hlo:S.val lo = .int k1 (L:Int)) (hhi:S.val hi = .int k2 (H:Int))
  (hR:R.length=L) (hLH:L≤H) (hsz:0<sz) (hc:S.capOf x=some c) (hH:(H:Int)≤Ny c):Do S (.p (.slice x (some lo) (some hi) sz)) (.own t L sz (bW sz (H-L))):=by
 have ha:Gs ((some lo).map fun x=>Au (S.val x))=some (some (L:Int)):=by simp only [Option.map_some,hlo]; rfl
 have hb:Gs ((some hi).map fun x=>Au (S.val x))=some (some (H:Int)):=by simp only [Option.map_some,hhi]; rfl
 refine ⟨⟨Ds hx trivial,Ds hlo trivial,Ds hhi trivial,trivial⟩,?_⟩
 have e1:((R.map e++bW sz (H-L)).take H).drop L=bW sz (H-L):=by
  rw [List.take_of_length_le (by simp [bW]; omega)]
  exact List.drop_left' (by simpa using hR)
 have hx':Au (S.val x) = .own t 0 sz (R.map e):=by rw [hx]; rfl
 simp only [pu,hx',ha,hb,Option.getD_some,List.length_map,Int.toNat_natCast,hR,e1,Nat.zero_add]
 exact ⟨_,rfl,trivial,by omega,by omega,.inr ⟨trivial,hsz,c,hc,hH⟩⟩
def eo {α:Type} (e:α→List V) (k:Nat):Option α→List V
 | none=>List.replicate k .undef
 | some x=>e x
theorem fH {α:Type} {e:α→List V} {k:Nat} (l:List α):l.map e=(l.map some).map (eo e k):=by
 rw [List.map_map]; rfl
theorem sliceUp {α:Type} {e:α→List V} {l0:List α} {x hi:Cm} {t sz H:Nat} {k2:IntKind} {c:Int} (hx:S.val x = .own t 0 sz (l0.map e)) (hhi:S.val hi = .int k2 (H:Int))
  (hLH:l0.length≤H) (hsz:0<sz) (hc:S.capOf x=some c) (hH:(H:Int)≤Ny c):Do S (.p (.slice x none (some hi) sz)) (.own t 0 sz ((l0.map some++List.replicate (H-l0.length) none).map (eo e sz))):=by
 have hb:Gs ((some hi).map fun x=>Au (S.val x))=some (some (H:Int)):=by simp only [Option.map_some,hhi]; rfl
 have ha:Gs ((none:Option Cm).map fun x=>Au (S.val x))=some none:=rfl
 refine ⟨⟨Ds hx trivial,Ds hhi trivial,trivial⟩,?_⟩
 have e1:((l0.map e++bW sz (H-l0.length)).take H).drop 0=(l0.map some++List.replicate (H-l0.length) none).map (eo e sz):=by
  rw [List.drop_zero,List.take_of_length_le (by simp [bW]; omega),List.map_append,List.map_replicate,←fH]
  rfl
 have hx':Au (S.val x) = .own t 0 sz (l0.map e):=by rw [hx]; rfl
 simp only [pu,hx',ha,hb,Option.getD_some,Option.getD_none,List.length_map,Int.toNat_natCast,Int.toNat_zero,e1]
 exact ⟨_,rfl,trivial,by omega,by omega,.inr ⟨trivial,hsz,c,hc,hH⟩⟩
theorem GV {x:Int} (n:Nat) (h:x=n) (hb:n≤140737488355328):IntKind.i64.wrap x=n:=by
 subst h
 have e1:IntKind.i64.wrap (n:Int)=if (n:Int)%18446744073709551616≥9223372036854775808 then (n:Int)%18446744073709551616-18446744073709551616 else (n:Int)%18446744073709551616:=by
  simp [IntKind.wrap,IntKind.bits,IntKind.signed]
 rw [e1]; split<;>omega
theorem gO {α:Type} {l ys:List α} {i:Nat}:(ovl l i ys).length=l.length:=by simp [ovl]
theorem gN {α:Type} {l ys:List α} {i:Nat} (h:i+ys.length≤l.length):ovl l i ys=l.take i++ys++l.drop (i+ys.length):=by
 apply List.ext_getElem?
 intro k
 simp only [ovl,List.getElem?_mapIdx,List.append_assoc,List.getElem?_append,List.getElem?_drop,List.length_take,Nat.min_eq_left (show i≤l.length by omega),List.getElem?_take]
 by_cases h1:k<i
 ·simp only [h1,if_true,if_neg (show ¬i≤k by omega)]
  cases l[k]? <;> rfl
 ·simp only [h1,if_false,if_pos (show i≤k by omega)]
  by_cases h2:k-i<ys.length
  ·simp only [h2,if_true]
   have:k<l.length:=by omega
   simp [this,h2]
  ·simp only [h2,if_false]
   rw [show i+ys.length+(k-i-ys.length)=k by omega,List.getElem?_eq_none (show ys.length≤k-i by omega)]
   cases l[k]? <;> rfl
theorem ovl_two {α:Type} {A X Y Z:List α} {i:Nat} (h0:A.length=i+Y.length+Z.length) (h1:A.take i=X):ovl (ovl A (i+Y.length) Z) i Y=X++Y++Z:=by
 have hx:X.length=i:=by rw [←h1]; simp; omega
 have hd:A.drop (i+Y.length+Z.length)=[]:=List.drop_eq_nil_of_le (by omega)
 have e1:ovl A (i+Y.length) Z=A.take (i+Y.length)++Z:=by rw [gN (by omega),hd,List.append_nil]
 have hl:(A.take (i+Y.length)).length=i+Y.length:=by simp; omega
 have e2:(A.take (i+Y.length)++Z).take i=X:=by rw [List.take_append_of_le_length (by omega),List.take_take,Nat.min_eq_left (by omega),h1]
 have e3:(A.take (i+Y.length)++Z).drop (i+Y.length)=Z:=List.drop_left' hl
 rw [e1,gN (by rw [List.length_append,hl]; omega),e2,e3]
theorem FG {α:Type} {A X Y Z:List α} {i:Nat} (h0:A.length=i+Y.length+Z.length) (h1:A.take i=X):ovl (ovl A i Y) (i+Y.length) Z=X++Y++Z:=by
 have hx:X.length=i:=by rw [←h1]; simp; omega
 have e1:ovl A i Y=X++Y++A.drop (i+Y.length):=by rw [gN (by omega),h1]
 have hd:(X++Y++A.drop (i+Y.length)).drop (i+Y.length+Z.length)=[]:=List.drop_eq_nil_of_le (by simp; omega)
 rw [e1,gN (by simp; omega),hd,List.append_nil,List.take_left' (by simp; omega)]
theorem FE {α:Type} {A:List (Option α)} {a0 a2:List α} {i:Nat} (h0:A.length=a0.length+a2.length) (h1:A.take i=(a0.take i).map some) (hi:i≤a0.length):
  ovl (ovl A (i+a2.length) ((a0.drop i).map some)) i (a2.map some)=(a0.take i++a2++a0.drop i).map some:=by
 have:=ovl_two (A:=A) (Y:=a2.map some) (Z:=(a0.drop i).map some) (by simp; omega) h1
 rw [List.length_map] at this
 rw [this]; simp
theorem ovl_ins {α:Type} {R a0 a2:List α} {i:Nat} (h0:R.length=a0.length+a2.length) (h1:R.take i=a0.take i) (hi:i≤a0.length):
  ovl (ovl R i (a2.take (R.drop i).length)) (i+a2.length) ((a0.drop i).take ((ovl R i (a2.take (R.drop i).length)).drop (i+a2.length)).length)=a0.take i++a2++a0.drop i:=by
 have e0:a2.take (R.drop i).length=a2:=List.take_of_length_le (by rw [List.length_drop]; omega)
 have e2:(a0.drop i).take ((ovl R i a2).drop (i+a2.length)).length=a0.drop i:=List.take_of_length_le (by rw [List.length_drop,List.length_drop,gO]; omega)
 rw [e0,e2]
 exact FG (by rw [List.length_drop]; omega) h1
theorem gM {es ys:List (List V)} {at_:Nat} (h:es.length≤at_):Ez 0 es at_ ys=es:=by
 apply List.ext_getElem
 ·simp [Ez]
 ·intro k h1 h2
  simp only [Ez,List.getElem_mapIdx]
  rw [if_neg (by omega)]
theorem iS {x:Cm} {t off sz:Nat} {es:List (List V)} {zero:List V} (hx:S.val x = .own t off sz es) (k:K ((S.map (cJ t sz off (List.replicate es.length zero))).put d .undef)) (hdp:Cn t=false:=by rfl):Dt C ⟨d,.clear sz zero x,none⟩ S K:=by
 refine ⟨Ds hx trivial,?_⟩
 rw [hx]
 exact ⟨rfl,hdp,k⟩
theorem past1 {α:Type} {e:α→List V} {R:List α} {t sz at_:Nat} {ys:List (List V)} (h:R.length≤at_):some (V.own t 0 sz (Ez 0 (R.map e) at_ ys))=some (.own t 0 sz (R.map e)):=by
 rw [gM (by simpa using h)]
theorem Bq {p:DP} (h:WD C p [] (WL C T Q .normal) S):WL C (.c (.draw p)::T) Q .normal S:=h
theorem drawJ {p:DP} (R:St→Prop) (hJ:∀S,R S→WL C T Q .normal S) (h:(∀S S1,Fg S S1→R S1→WL C (.w::T) Q .normal S)→WD C p [] (WL C (.w::T) Q .normal) S):
  WL C (.c (.draw p) :: .w::T) Q .normal S:=h fun _ S1 h1 h2=>⟨S1,h1,hJ S1 h2⟩
section
variable {X:List Cf}
theorem Gf (h:K S):WD C .fin X K S:=h
theorem Al {p:DP} (h1:Dx i S) (h2:Dt C i S (fun S'=>Fj C X S'∧WD C p X K S')):WD C (.take i p) X K S:=.inl ⟨h1,h2⟩
theorem Ci {p:DP} (h2:Dt C i S (fun S'=>Fj C (i::X) S'∧WD C p (i::X) K S')):WD C (.take i p) X K S:=.inr h2
theorem Bg:WD C .stop X K S:=trivial
theorem Ck {held:List Cf} {r rest:DP} (h1:Dt C i S (fun S'=>∃S1,Fg S' S1∧∃X',Iz C X' held S1∧Fj C X' S1∧WD C r X' K S1)) (h2:WD C rest X K S):WD C (.alt held i r rest) X K S:=⟨h1,h2⟩
theorem fG {held:List Cf} {r:DP} (S1:St) (hf:Fg S S1) (h:∃X',Iz C X' held S1∧Fj C X' S1∧WD C r X' K S1):∃S1,Fg S S1∧∃X',Iz C X' held S1∧Fj C X' S1∧WD C r X' K S1:=⟨S1,hf,h⟩
theorem same_ {d:Nat} {v:V} (hl:look S.env d=some v) (hc:S.cp=[]):Xq (S.put (some d) v) S:=by
 constructor
 ·intro t
  show look ((d,v)::S.env) t=_
  simp only [look]
  split
  ·rename_i e; subst e; exact hl.symm
  ·rfl
 ·intro k
  show look (Ma d (fun _=>none) S.cp) k=look S.cp k
  rw [hc]; rfl
theorem dK (hc:S.cp=[]) (x:Cm):S.capOf x=none:=by
 cases x with
 | t n=>show look S.cp n=none; rw [hc]; rfl
 | c v=>rfl
theorem lL (hc:S.cp=[]) {rd:Cm→V} (o:PU):Ph S rd o=none:=by
 cases o<;>try rfl
 case mv x=>exact dK hc x
 case slice x lo hi sz=>
  simp only [Ph,Jm]
  rw [show Mi S.cp x=none from dK hc x]
theorem Bf {o:PU} {d:Nat} {v:V} (h:Do S (.p o) v) (hl:look S.env d=some v) (hc:S.cp=[]:=by rfl):Dt C ⟨some d,.p o,none⟩ S (fun S'=>Xq S' S):=
 c_ h (by rw [bN (g:=fun _=>none) (lL hc o)]; exact same_ hl hc)
theorem Bx {o:PU} {d:Nat} {v:V} {gs:Nat} {want g:Bool} (hg:Nt (S.val (.t gs)) want=some g) (h:g=true→Do S (.p o) v) (hl:look S.env d=some (.may g v)) (hc:S.cp=[]:=by rfl):Dt C ⟨some d,.p o,some (gs,want)⟩ S (fun S'=>Xq S' S):=Cw hg h (same_ hl hc)
end
end
end Go.Ev
