/- Steps of the small machine, second part: slices, rows that grow, calls, ends, drawn orders. -/
import Derived.Test.YtdmclbbhhcpjfaaQvL
set_option linter.all false
namespace Go.Ev
def Uk {α:Type} (l:List α) (lo hi:Int):Option (List α):=if 0≤lo∧lo≤hi∧hi≤l.length then some ((l.take hi.toNat).drop lo.toNat) else none
theorem Zi {α:Type} {l y:List α} {lo hi:Int} (h:Uk l lo hi=some y):0≤lo∧lo≤hi∧hi≤l.length∧y=(l.take hi.toNat).drop lo.toNat:=by
 unfold Uk at h
 split at h
 ·rename_i hc
  exact ⟨hc.1,hc.2.1,hc.2.2,(Option.some.inj h).symm⟩
 ·cases h
def ovl {α:Type} (l:List α) (at_:Nat) (ys:List α):List α:=l.mapIdx fun i e=>if at_≤i then (ys[i-at_]?).getD e else e
theorem Ik {α:Type} {e:α→List V} {l ys:List α} {off i:Nat}:Dd off (l.map e) (off+i) (ys.map e)=(ovl l i ys).map e:=by
 unfold Dd ovl
 apply List.ext_getElem?
 intro k
 simp only [List.getElem?_mapIdx,List.getElem?_map]
 cases hk:l[k]? with
 | none=>rfl
 | some z=>
  simp only [Option.map_some]
  by_cases h:i≤k
  ·have e1:off+k-(off+i)=k-i:=by omega
   rw [if_pos (by omega),if_pos h,e1]
   cases ys[k-i]? <;> rfl
  ·rw [if_neg (by omega),if_neg h]
theorem Uj {α:Type} {e:α→List V} {l y:List α} {t off sz:Nat} (h:y.length=l.length):
  (if off=off∧sz=sz∧(l.map e).length=(y.map e).length then V.own t off sz (y.map e) else .undef) = .own t off sz (y.map e):=if_pos ⟨rfl,rfl,by simp [h]⟩
section
variable {C:Ar} {Q:Ex→St→Prop} {S:St} {T:List Ep} {l:List Az} {d:Option Nat} {K:St→Prop} {i:Az}
theorem Co {x:Aq} {v:V} (h:S.val x=v) (hm:Ag true v):Ag true (S.val x):=by rw [h]; exact hm
theorem Lv {α:Type} {e:α→List V} {l0 y:List α} {x:Aq} {lo hi:Option Aq} {a b:Option Int} {vx:V} {sz:Nat} (hx:S.val x=vx) (hx':Ac vx = .lst sz (l0.map e)) (hm:Ag true vx)
  (hm2:Au (nm S) (lo.toList++hi.toList)) (ha:Fi (lo.map fun x=>Ac (S.val x))=some a) (hb:Fi (hi.map fun x=>Ac (S.val x))=some b)
  (hy:Uk l0 (a.getD 0) (b.getD l0.length)=some y):Ca S (.p (.slice x lo hi sz)) (.lst sz (y.map e)):=by
 obtain ⟨h1,h2,h3,rfl⟩:=Zi hy
 refine ⟨⟨Co hx hm,hm2⟩,?_⟩
 simp only [pu,hx,hx',ha,hb,List.length_map,←List.map_take,←List.map_drop]
 exact ⟨_,rfl,trivial,h1,h2,h3⟩
theorem Jl {α:Type} {e:α→List V} {l0 y:List α} {x:Aq} {lo hi:Option Aq} {a b:Option Int} {vx:V} {t off sz:Nat} (hx:S.val x=vx) (hx':Ac vx = .own t off sz (l0.map e)) (hm:Ag true vx)
  (hm2:Au (nm S) (lo.toList++hi.toList)) (ha:Fi (lo.map fun x=>Ac (S.val x))=some a) (hb:Fi (hi.map fun x=>Ac (S.val x))=some b)
  (hy:Uk l0 (a.getD 0) (b.getD l0.length)=some y):Ca S (.p (.slice x lo hi sz)) (.own t (off+(a.getD 0).toNat) sz (y.map e)):=by
 obtain ⟨h1,h2,h3,rfl⟩:=Zi hy
 refine ⟨⟨Co hx hm,hm2⟩,?_⟩
 have h0:(b.getD l0.length).toNat-l0.length=0:=by omega
 simp only [pu,hx,hx',ha,hb,List.length_map,h0,mL,List.replicate_zero,List.append_nil,List.map_take,List.map_drop]
 exact ⟨_,rfl,trivial,h1,h2,.inl h3⟩
theorem MB {α:Type} {e:α→List V} {l0:List α} {x:Aq} {vx:V} {t off sz:Nat} (hx:S.val x=vx) (hx':Ac vx = .own t off sz (l0.map e)) (hm:Ag true vx) (hz:sz≠0:=by decide):Ca S (.p (.len x)) (.int .i64 (l0.length:Int)):=by
 refine ⟨⟨Co hx hm,trivial⟩,(sz≠0),?_,hz⟩
 simp only [pu,hx,hx',List.length_map]
theorem LZ {α:Type} {e:α→List V} {l0:List α} {x i:Aq} {vx vi:V} {t off sz:Nat} {k:IntKind} {n:Int} {y:α} (hx:S.val x=vx) (hx':Ac vx = .own t off sz (l0.map e)) (hmx:Ag true vx)
  (hi:S.val i=vi) (hi':Ac vi = .int k n) (hmi:Ag true vi) (hy:Gb l0 n=some y):Ca S (.p (.idxA x i sz)) (.optr t sz (off+n.toNat) 0):=by
 obtain ⟨h0,h1,h2⟩:=Pc hy
 refine ⟨⟨Co hx hmx,Co hi hmi,trivial⟩,sz=sz∧0≤n∧n<(l0.map e).length,?_,rfl,h0,by simpa using h1⟩
 simp only [pu,hx,hi,hx',hi']
theorem HX {α:Type} {e:α→List V} {l0:List α} {x:Aq} {vx:V} {t off sz j k n i:Nat} {ag:Bool} {y:α} {v:V} (hx:S.val x=vx) (hx':Ac vx = .optr t sz j k) (hm:Ag true vx) (hf:S.find t=some (off,l0.map e)) (hj:j=off+i)
  (hy:l0[i]? = some y) (hv:Gs ag n ((e y).drop k)=some v) (hn:k+n≤sz) (hsz:(e y).length=sz) (hdp:Ao t=false:=by rfl):Ca S (.p (.load x n ag)) v:=by
 subst hj
 have hlt:=(List.getElem?_eq_some_iff.1 hy).1
 have hg:(l0.map e).getD (off+i-off) []=e y:=by
  rw [Nat.add_sub_cancel_left]
  simp [List.getD,hy]
 refine ⟨⟨Co hx hm,trivial⟩,off≤off+i∧off+i<off+(l0.map e).length∧k+n≤sz∧((l0.map e).getD (off+i-off) []).length=sz,?_,Nat.le_add_right _ _,by simp; omega,hn,by rw [hg]; exact hsz⟩
 simp only [pu,hx,hx',hf,FI,hdp,cond_false]
 rw [hg,hv]
theorem c_ {o:PU} {v:V} (h:Ca S (.p o) v) (k:K (S.putC d v (Ga (fun x=>Ac (S.val x)) o))):Bt C ⟨d,.p o,none⟩ S K:=by
 obtain ⟨h1,ψ,h2,h3⟩:=h
 exact p_ h1 h2 h3 k
theorem Mt {α:Type} {e:α→List V} {l0 l1:List α} {x y:Aq} {t sz by_:Nat} {vy:V} (hx:S.val x = .own t 0 sz (l0.map e)) (hy:S.val y=vy) (hm:Ag true vy) (hs:Il (Ac vy)=some (sz,l1.map e))
  (ht:t<Am) (hn:(l0.length+l1.length)*by_≤140737488355328) (k:K ((S.drop t).putC d (.own t 0 sz ((l0++l1).map e)) (Do x (l0.length+l1.length)))) (hdp:Ao t=false:=by rfl):Bt C ⟨d,.app sz by_ x y,none⟩ S K:=by
 refine ⟨Co hx trivial,Co hy hm,?_⟩
 rw [hx,hy]
 dsimp only [Ac]
 dsimp only [Ac] at hs
 rw [hs]
 refine ⟨ht,rfl,rfl,rfl,by simpa using hn,hdp,?_⟩
 rw [←List.map_append,List.length_map,List.length_map]
 exact k
theorem gN {α:Type} {e:α→List V} {l0:List α} {x y:Aq} {t sz by_:Nat} {ki:IntKind} {l:Int} {zero:List V} (z:α) (hx:S.val x = .own t 0 sz (l0.map e)) (hy:S.val y = .int ki l) (hz:e z=zero)
  (ht:t<Am) (h0:0≤l) (hn:((l0.length:Int)+l)*by_≤140737488355328) (k:K ((S.drop t).putC d (.own t 0 sz ((l0++List.replicate l.toNat z).map e)) (Do x (l0.length+l.toNat)))) (hdp:Ao t=false:=by rfl):Bt C ⟨d,.appz sz by_ zero x y,none⟩ S K:=by
 refine ⟨Co hx trivial,Co hy trivial,?_⟩
 rw [hx,hy]
 dsimp only [Ac]
 refine ⟨ht,rfl,rfl,h0,by simpa using hn,hdp,?_⟩
 rw [List.map_append,List.map_replicate,hz] at k
 rw [List.length_map]
 exact .inl k
theorem cap_ {α:Type} {e:α→List V} {l0:List α} {t off sz n:Nat} (hx:S.val (.t n) = .own t off sz (l0.map e))
  (k:∀c:Nat,l0.length≤c→(off=0→c≤9223372036854775807)→(∀c0,S.capOf (.t n)=some c0→Fb≤c0→(c:Int)=c0-Fb)→K (St.put { S with cp:=Ib n (fun _=>some (Fb+c)) S.cp } d (.int .i64 c))) (hz:sz≠0:=by decide):Bt C ⟨d,.cap (.t n),none⟩ S K:=by
 refine ⟨Co hx trivial,?_⟩
 rw [hx]
 dsimp only [Ac]
 rw [List.length_map]
 exact ⟨hz,k⟩
theorem FL {α:Type} {e:α→List V} {x y:Aq} {d sz by_:Nat} {k1 k2:IntKind} {a c:Int} {zero:List V} (z:α) (hx:S.val x = .int k1 a) (hy:S.val y = .int k2 c) (h0:0≤a) (hac:a=c) (hn:c*by_≤140737488355328)
  (hz:e z=zero) (k:K ((S.drop (64*d)).put (some d) (.own (64*d) 0 sz ((List.replicate a.toNat z).map e)))):Bt C ⟨some d,.make sz by_ zero x y,none⟩ S K:=by
 refine ⟨Co hx trivial,Co hy trivial,?_⟩
 rw [hx,hy]
 refine ⟨h0,hac,hn,?_⟩
 rw [List.map_replicate,hz] at k
 exact .inl k
theorem copy_ {α:Type} {e:α→List V} {l0 l1:List α} {x y:Aq} {t off sz:Nat} {vy:V} (hx:S.val x = .own t off sz (l0.map e)) (hy:S.val y=vy) (hm:Ag true vy) (hs:Il (Ac vy)=some (sz,l1.map e))
  (k:K ((S.map (Vd t sz off ((l1.take l0.length).map e))).put d (.int .i64 (min l1.length l0.length:Nat)))) (hdp:Ao t=false:=by rfl):Bt C ⟨d,.copy sz x y,none⟩ S K:=by
 refine ⟨Co hx trivial,Co hy hm,?_⟩
 rw [hx,hy]
 dsimp only [Ac]
 dsimp only [Ac] at hs
 rw [hs]
 refine ⟨rfl,rfl,hdp,?_⟩
 rw [List.map_take,] at k
 simpa using k
theorem clear_ {α:Type} {e:α→List V} {l0:List α} {z:α} {x:Aq} {t off sz:Nat} {zero:List V} (hx:S.val x = .own t off sz (l0.map e)) (hz:e z=zero)
  (k:K ((S.map (Vd t sz off ((List.replicate l0.length z).map e))).put d .undef)) (hdp:Ao t=false:=by rfl):Bt C ⟨d,.clear sz zero x,none⟩ S K:=by
 refine ⟨Co hx trivial,?_⟩
 rw [hx]
 refine ⟨rfl,hdp,?_⟩
 rw [List.map_replicate,hz] at k
 simpa using k
theorem IM {α:Type} {e:α→List V} {l0:List α} {x:Aq} {sz:Nat} {ne:Bool} (hx:S.val x = .lst sz (l0.map e)) (k:∀b:Bool,(b=true→l0=[])→K (S.put d (.bool (if ne then !b else b)))) (hz:sz≠0:=by decide):
  Bt C ⟨d,.isnil x ne,none⟩ S K:=by
 obtain ⟨s0,rfl⟩:=Nat.exists_eq_succ_of_ne_zero hz
 refine ⟨Co hx trivial,?_⟩
 rw [hx]
 exact fun b hb=>k b fun h=>by simpa using hb h
theorem Xi {sz len d:Nat} {zero:List V} {parts:List (Nat×Aq)} (hm:Au (fun p=>nm S p.2) parts)
  (h:Au (fun p=>p.1<len∧p.2.cells.length=sz∧p.2.cells.all (fun c => !Fs c)=true) (parts.map fun p=>(p.1,Ac (S.val p.2))))
  (k:K (((S.freezes (Gj (parts.map fun p=>(p.1,Ac (S.val p.2))))).drop (64*d)).put (some d)
    (.own (64*d) 0 sz (Hp sz (List.replicate len zero) ((parts.map fun p=>(p.1,Ac (S.val p.2))).map fun p=>(p.1,p.2.cells.map Bm)))))):
  Bt C ⟨some d,.mkS sz zero len parts,none⟩ S K:=⟨hm,h,.inl k⟩
theorem HW {α:Type} {e:α→List V} {l0:List α} {x:Aq} {vx:V} {t off sz j k n i:Nat} {ag:Bool} {y:α} {v:V} (hx:S.val x=vx) (hx':Ac vx = .optr t sz j k) (hm:Ag true vx) (hf:S.find t=some (off,l0.map e)) (hj:j=off+i)
  (hy:l0[i]? = some y) (hv:Gs ag n (Ju t (off+i) k ((e y).drop k))=some v) (hn:k+n≤sz) (hsz:(e y).length=sz) (hdp:Ao t=true:=by rfl):Ca S (.p (.load x n ag)) v:=by
 subst hj
 have hlt:=(List.getElem?_eq_some_iff.1 hy).1
 have hg:(l0.map e).getD (off+i-off) []=e y:=by
  rw [Nat.add_sub_cancel_left]
  simp [List.getD,hy]
 refine ⟨⟨Co hx hm,trivial⟩,off≤off+i∧off+i<off+(l0.map e).length∧k+n≤sz∧((l0.map e).getD (off+i-off) []).length=sz,?_,Nat.le_add_right _ _,by simp; omega,hn,by rw [hg]; exact hsz⟩
 simp only [pu,hx,hx',hf,FI,hdp,cond_true]
 rw [hg,hv]
theorem FU {α:Type} {e:α→List V} {l0:List α} {x v:Aq} {n t sz j k off i:Nat} {u:V} {y y':α} (hx:S.val x = .optr t sz j k) (hv:S.val v=u) (hm:Ag true u) (hu:Al (Ac u)=false) (hl:(Ac u).cells.length=n)
  (hf:S.find t=some (off,l0.map e)) (hj:j=off+i) (hy:l0[i]? = some y) (hn:k+n≤sz) (hsz:(e y).length=sz) (hp:(Ac u).cells.all (fun c=>scal c || (decide (t<Am)&&Rv c))=true) (ht:Ay (Ac u).tags=true)
  (hy':Ba (e y) k ((Ac u).cells.map Bm)=e y')
  (k':K (((S.drops (Ac u).tags).map (Rx t sz (off+i) [e y'])).put d .undef)) (hdp:Ao t=true:=by rfl):Bt C ⟨d,.store x v n,none⟩ S K:=by
 subst hj
 have hlt:=(List.getElem?_eq_some_iff.1 hy).1
 have hg:(l0.map e).getD (off+i-off) []=e y:=by
  rw [Nat.add_sub_cancel_left]
  simp [List.getD,hy]
 refine ⟨by rw [hx]; trivial,by rw [hv]; exact hm,?_⟩
 rw [hv,hx]
 refine ⟨hu,hl,?_⟩
 dsimp only [Ac]
 rw [hf]
 dsimp only
 rw [hg]
 refine ⟨Nat.le_add_right _ _,by simp; omega,hn,hsz,.inr ⟨hdp,hp,ht,?_⟩⟩
 dsimp only [Ac] at hy'
 rw [hy']
 exact k'
theorem dB {c:V} {b:Bool} (h:scal c=true:=by rfl):(scal c || b)=true:=by rw [h]; rfl
theorem lW {α:Type} {e:α→List V} {xs:List α} {t t' sz:Nat} (h:∀x,(e x).all scal=true) (h1:decide (t<Am)=true:=by rfl) (h2:(decide (t'<Am) && !Ao t')=true:=by rfl):
  (scal (.own t' 0 (sz+1) (xs.map e)) || (decide (t<Am)&&Rv (.own t' 0 (sz+1) (xs.map e))))=true:=by
 have h3:(xs.map e).all (fun e=>e.all scal)=true:=by
  simp only [List.all_map,List.all_eq_true,Function.comp]
  intro x _
  exact List.all_eq_true.1 (h x)
 rw [h1]
 show (false || (true&&((decide (t'<Am) && !Ao t')&&(xs.map e).all fun e=>e.all scal)))=true
 rw [h2,h3]; rfl
theorem cX {α:Type} {e:α→List V} {xs:List α} {t' sz:Nat} (h:∀x,(e x).all scal=true) (h2:(decide (t'<Am) && !Ao t')=true:=by rfl):
  (scal (.own t' 0 (sz+1) (xs.map e)) || Rv (.own t' 0 (sz+1) (xs.map e)))=true:=lW (t:=0) h rfl h2
theorem ML {sz dd:Nat} {zero:List V} {x:Aq} {u:V} (hv:S.val x=u) (hm:Ag true u) (hl:(Ac u).cells.length=sz) (hp1:(Ac u).cells.all (fun c => !Fs c)=true) (hp:(Ac u).cells.all (fun c=>scal c || Rv c)=true) (ht:Ay (Ac u).tags=true)
  (k:K ((((S.drop (64*dd+32)).put (some dd) (.own (64*dd+32) 0 sz [List.replicate sz .undef])).drops (Ac u).tags).map (Rx (64*dd+32) sz 0 [(Ac u).cells.map Bm]))):Bt C ⟨some dd,.mkS sz zero 1 [(0,x)],none⟩ S K:=by
 subst hv
 exact ⟨⟨hm,trivial⟩,⟨⟨Nat.zero_lt_one,hl,hp1⟩,trivial⟩,.inr ⟨x,rfl,rfl,hp,ht,k⟩⟩
theorem FF {α:Type} {e:α→List V} {l0 l1:List α} {x y:Aq} {t t2 sz by_:Nat} (hx:S.val x = .own t 0 sz (l0.map e)) (hy:S.val y = .own t2 0 sz (l1.map e))
  (ht:t<Am) (ht2:t2<Am) (hne:t2≠t) (hn:(l0.length+l1.length)*by_≤140737488355328) (k:K (((S.drop t).drop t2).putC d (.own t 0 sz ((l0++l1).map e)) (Do x (l0.length+l1.length)))) (hd:Ao t=true:=by rfl) (hd2:Ao t2=true:=by rfl):Bt C ⟨d,.app sz by_ x y,none⟩ S K:=by
 refine ⟨Co hx trivial,Co hy trivial,?_⟩
 rw [hx,hy]
 dsimp only [Ac]
 have hs:Il (.own t2 0 sz (l1.map e))=none:=by simp [Il,hd2]
 rw [hs]
 refine ⟨ht,rfl,rfl,ht2,rfl,rfl,hne,by simpa using hn,hd,hd2,?_⟩
 rw [←List.map_append,List.length_map,List.length_map]
 exact k
theorem IP {α:Type} {e:α→List V} {x y:Aq} {d sz by_:Nat} {k1 k2:IntKind} {a c:Int} {zero:List V} (z:α) (hx:S.val x = .int k1 a) (hy:S.val y = .int k2 c) (h0:0≤a) (hac:a=c) (hn:c*by_≤140737488355328)
  (hz:e z=zero) (k:K ((S.drop (64*d+32)).put (some d) (.own (64*d+32) 0 sz ((List.replicate a.toNat z).map e)))) (hth:zero.all IV=true:=by rfl):Bt C ⟨some d,.make sz by_ zero x y,none⟩ S K:=by
 refine ⟨Co hx trivial,Co hy trivial,?_⟩
 rw [hx,hy]
 refine ⟨h0,hac,hn,?_⟩
 rw [List.map_replicate,hz] at k
 exact .inr ⟨hth,k⟩
theorem mR {β:Type} {e0:β→List V} {L0:List β} {off i c:Nat} {y y':β} {x:V} (hy:L0[i]? = some y) (hy':(e0 y).set c x=e0 y'):Zh off (off+i) c x (L0.map e0)=(L0.set i y').map e0:=by
 unfold Zh
 apply List.ext_getElem?
 intro k
 rw [List.getElem?_mapIdx,List.getElem?_map,List.getElem?_map,List.getElem?_set]
 cases hk:L0[k]? with
 | none=>
  have:=List.getElem?_eq_none_iff.1 hk
  by_cases h1:i=k
  ·rw [if_pos h1,if_neg (by omega)]; rfl
  ·rw [if_neg h1]; rfl
 | some z=>
  have hlt:=(List.getElem?_eq_some_iff.1 hk).1
  simp only [Option.map_some]
  by_cases h1:i=k
  ·subst h1
   rw [hk] at hy
   cases hy
   rw [if_pos rfl,if_pos rfl,if_pos hlt,Option.map_some,hy']
  ·rw [if_neg h1,if_neg (by omega),Option.map_some]
theorem EL {β:Type} {e0:β→List V} {L0:List β} {t sz off i c:Nat} {y y':β} {x:V} (hy:L0[i]? = some y) (hy':(e0 y).set c x=e0 y'):V.own t off sz (Zh off (off+i) c x (L0.map e0)) = .own t off sz ((L0.set i y').map e0):=by rw [mR hy hy']
theorem HU {α β:Type} {e0:β→List V} {L0:List β} {e:α→List V} {xs xs':List α} {f:Nat} {as:List Aq} {T s0 j c sz off i:Nat} {y:β} {us:List V} {r:V} (H:C f ⟨us,[]⟩ ⟨r,[],[(0,sz,xs'.map e)]⟩) (hm:Au (nm S) as)
  (hh:cJ T j c sz (xs.map e) (as.map fun x=>Ac (S.val x)) us) (hf:S.find T=some (off,L0.map e0)) (hj:j=off+i) (hy:L0[i]? = some y) (hs0:(e0 y).length=s0) (hc:(e0 y)[c]? = some (.lst sz (xs.map e)))
  (hl:xs'.length=xs.length) (he:∀x,(Nat.beq (e x).length sz&&(e x).all scal)=true)
  (k:K ((S.map (Xu T s0 (off+i) c (.lst sz (xs'.map e)))).put d r)) (hsz:sz≠0:=by decide) (hr:scal r=true:=by rfl) (hr2:Al r=false:=by rfl) (hd:Ao T=true:=by rfl):Bt C ⟨d,.call f as,none⟩ S K:=by
 subst hj
 refine ⟨hm,.inr ⟨T,s0,off+i,c,sz,xs.map e,xs'.map e,us,r,hh,hsz,by simpa using hl,?_,hr,hr2,hd,⟨off,L0.map e0,hf,Nat.le_add_right _ _,?_,?_⟩,H,k⟩⟩
 ·simp only [List.all_map,List.all_eq_true,Function.comp]
  intro x _
  exact he x
 ·rw [Nat.add_sub_cancel_left]
  simp [List.getD,hy,hs0]
 ·rw [Nat.add_sub_cancel_left]
  simp [List.getD,hy,hc]
theorem nB {f:Nat} {args:List V} (fz:Bool) {gv:List V} {r:V} (h:C f ⟨gv,[]⟩ ⟨r,[],[]⟩) (h0:Km (fun v => !Al v) args=true) (hg:args.map (mapW (S.liftC [] [] [] fz))=gv)
  (h3:fz=false→r.flat.all Ek=true) (k:K (((if fz then S.freezes (Aw (Na args)) else S).drops (Kd (d.getD 0) (Aw r.flat))).put d (Dn (Ed (d.getD 0) 0 [] []) r))):Zq C f args d S K:=by
 have e0:∀l:List Nat,Vb [] l=l:=fun l=>by
  induction l with
  | nil=>rfl
  | cons x r ih=>simp [Vb,ih]
 refine ⟨h0,[],[],[],fz,⟨r,[],[]⟩,⟨rfl,rfl,rfl,rfl⟩,⟨rfl,rfl,rfl⟩,fun hz=>?_,?_,?_⟩
 ·simp [Cz.flat,h3 hz]
 ·subst hg; exact h
 ·simpa [St.after,St.frzTags,St.given,e0,Cz.newR,Cz.newB,Nd,St.rows,St.boxes,St.drops] using k
theorem Jh {f:Nat} {as:List Aq} (fz:Bool) {gv:List V} {r:V} (h:C f ⟨gv,[]⟩ ⟨r,[],[]⟩) (hm:Au (nm S) as) (h0:Km (fun v => !Al v) (as.map fun x=>Ac (S.val x))=true)
  (hg:(as.map fun x=>Ac (S.val x)).map (mapW (S.liftC [] [] [] fz))=gv) (h3:fz=false→r.flat.all Ek=true)
  (k:K (((if fz then S.freezes (Aw (Na (as.map fun x=>Ac (S.val x)))) else S).drops (Kd (d.getD 0) (Aw r.flat))).put d (Dn (Ed (d.getD 0) 0 [] []) r))):
  Bt C ⟨d,.call f as,none⟩ S K:=⟨hm,.inl (nB fz h h0 hg h3 k)⟩
theorem bV {f:Nat} {x:Aq} {as:List Aq} {caps:List V} (hx:S.val x = .clo f caps) (fz:Bool) {gv:List V} {r:V} (h:C f ⟨gv,[]⟩ ⟨r,[],[]⟩) (hm:Au (nm S) as)
  (h0:Km (fun v => !Al v) ((as.map fun x=>Ac (S.val x))++caps)=true) (hg:((as.map fun x=>Ac (S.val x))++caps).map (mapW (S.liftC [] [] [] fz))=gv) (h3:fz=false→r.flat.all Ek=true)
  (k:K (((if fz then S.freezes (Aw (Na ((as.map fun x=>Ac (S.val x))++caps))) else S).drops (Kd (d.getD 0) (Aw r.flat))).put d (Dn (Ed (d.getD 0) 0 [] []) r))):
  Bt C ⟨d,.callv x as,none⟩ S K:=by
 refine ⟨Co hx trivial,hm,?_⟩
 rw [hx]
 exact nB fz h h0 hg h3 k
theorem IZ {f:Nat} {args:List V} (LB LR LM:List Nat) (fz:Bool) {g:Mr} {t:Cz} (h:C f g t) (h0:Km (fun v => !Al v) args=true) (hg:S.give args LB LR LM fz=g)
  (h1:(Ay LB&&Ay (LR++LM)&&Ld Am LM&&LB.all (fun T=>(look S.bx T).isSome))=true)
  (h2:(Ld 33 [t.bx.length-LB.length,LM.length,LR.length]&&Hi (t.newB (d.getD 0) LB.length) LB&&Hi (t.newR (d.getD 0)) LR)=true) (h3:fz=false→t.flat=true)
  (k:K ((S.after args (d.getD 0) fz LB LR LM t).put d (Dn (Ed (d.getD 0) (t.bx.length-LB.length) LB LR) t.r))):Zq C f args d S K:=by
 simp only [Bool.and_eq_true] at h1 h2
 refine ⟨h0,LB,LR,LM,fz,t,⟨h1.1.1.1,h1.1.1.2,h1.1.2,h1.2⟩,⟨h2.1.1,h2.1.2,h2.2⟩,h3,?_,k⟩
 subst hg; exact h
theorem jU {f:Nat} {as:List Aq} (LB LR LM:List Nat) (fz:Bool) {g:Mr} {t:Cz} (h:C f g t) (hm:Au (nm S) as) (h0:Km (fun v => !Al v) (as.map fun x=>Ac (S.val x))=true)
  (hg:S.give (as.map fun x=>Ac (S.val x)) LB LR LM fz=g)
  (h1:(Ay LB&&Ay (LR++LM)&&Ld Am LM&&LB.all (fun T=>(look S.bx T).isSome))=true)
  (h2:(Ld 33 [t.bx.length-LB.length,LM.length,LR.length]&&Hi (t.newB (d.getD 0) LB.length) LB&&Hi (t.newR (d.getD 0)) LR)=true) (h3:fz=false→t.flat=true)
  (k:K ((S.after (as.map fun x=>Ac (S.val x)) (d.getD 0) fz LB LR LM t).put d (Dn (Ed (d.getD 0) (t.bx.length-LB.length) LB LR) t.r))):Bt C ⟨d,.call f as,none⟩ S K:=
 ⟨hm,.inl (IZ LB LR LM fz h h0 hg h1 h2 h3 k)⟩
theorem Sp {f:Nat} {as:List Aq} {gs:Nat} {want g:Bool} (hgv:La (S.val (.t gs)) want=some g) (fz:Bool) {gv:List V} {r:V} (h:g=true→C f ⟨gv,[]⟩ ⟨r,[],[]⟩)
  (hm:Au (fun x=>Ag g (S.val x)) as) (h0:g=true→Km (fun v => !Al v) (as.map fun x=>Ac (S.val x))=true)
  (hg:g=true→(as.map fun x=>Ac (S.val x)).map (mapW (S.liftC [] [] [] fz))=gv) (h3:fz=false→r.flat.all Ek=true) (h4:fz=true→Aw (Na (as.map fun x=>Ac (S.val x)))=[])
  (k:K (S.put d (.may g (Dn Kq r)))):Bt C ⟨d,.call f as,some (gs,want)⟩ S K:=by
 unfold Bt
 dsimp only
 rw [hgv]
 exact .inl ⟨hm,h0,fz,r,fun e=>by have:=hg e; subst this; exact h e,h3,h4,k⟩
theorem CH {o:PU} {x:Int} (h:Ca S (.p o) (.int .u8 (IntKind.u8.wrap x))):Ca S (.p o) (.int .u8 ((b8 x).toNat:Int)):=by
 unfold b8
 rw [dJ]
 exact h
theorem QD {α:Type} {e:α→List V} {xs:List α} (h:∀x,(e x).all scal=true):((xs.map e).all fun x=>x.all scal)=true:=by
 simp only [List.all_map,List.all_eq_true,Function.comp]
 intro x _
 exact List.all_eq_true.1 (h x)
theorem ED {α:Type} {e:α→List V} {xs:List α} {n:Nat} (h:∀x,(e x).length=n):∀y∈xs.map e,y.length=n:=by
 intro y hy
 obtain ⟨x,_,rfl⟩:=List.mem_map.1 hy
 exact h x
theorem Tc {es:List (List V)} {t off sz:Nat} (h:Ao t=true):Ek (.own t off sz es)=true:=by simp [Ek,h]
theorem QM {α:Type} {e:α→List V} {xs:List α} {t off sz:Nat} (h:∀x,(e x).all scal=true):Ek (.own t off sz (xs.map e))=true:=by
 simp only [Ek,Bool.or_eq_true]
 refine .inr ?_
 simp only [List.all_map,List.all_eq_true,Function.comp]
 intro x _
 exact List.all_eq_true.1 (h x)
theorem Lp {res:List Wr} {nb:Nat} {t:Cz} {v:V} {css:List (List V)} (h1:mK S res=some v) (h2:Jp S (Rn nb++Ct v.flat)=some css)
  (h3:Ld 33 [(Fn (v.flat++css.flatten)).length,(Ct v.flat).length]=true) (h4:Dn (Pm (Fn (v.flat++css.flatten)) (Ct v.flat)) v=t.r)
  (h5:Lf (Pm (Fn (v.flat++css.flatten)) (Ct v.flat)) css=t.bx) (h6:Pn S 0 t.rw):FQ res nb t .ret S:=by
 refine ⟨S,Fg.refl S,?_⟩
 unfold bN
 rw [h1]
 show Uo S v nb t
 unfold Uo
 dsimp only
 rw [h2]
 exact ⟨h3,h4,h5,h6⟩
theorem MQ {res:List Wr} {nb:Nat} {t:Cz} {S1:St} (hf:Fg S S1) (h:FQ res nb t .ret S1):FQ res nb t .ret S:=by
 obtain ⟨S2,h1,h2⟩:=h
 exact ⟨S2,hf.trans h1,h2⟩
theorem QN {fn:Dx} {args:List V} {bx:List (List V)} {t:Cz} (h0:args.length≤fn.nt) (h:WL C [.c fn.body] (FQ fn.res bx.length t) .normal ⟨My args 0,Mz bx Am,[]⟩):dO C fn ⟨args,bx⟩ t:=⟨h0,.inl h⟩
theorem aU {d:Option Nat} {v:V} {f g:List (Nat×Int)→Option Int} (h:f S.cp=g S.cp):S.putC d v f=S.putC d v g:=by
 cases d with
 | none=>rfl
 | some d=>
  have:Ib d f S.cp=Ib d g S.cp:=by
   cases hl:S.cp with
   | nil=>rw [hl] at h; simp only [Ib,h]
   | cons p r=>rw [hl] at h; simp only [Ib,h]
  simp only [St.putC,this]
theorem EG {α:Type} {l ys:List α} {i:Nat}:(ovl l i ys).length=l.length:=by simp [ovl]
theorem Dt {p:DP} (h:WD C p [] (WL C T Q .normal) S):WL C (.c (.draw p)::T) Q .normal S:=h
theorem ME {p:DP} (R:St→Prop) (hJ:∀S,R S→WL C T Q .normal S) (h:(∀S S1,Fg S S1→R S1→WL C (.w::T) Q .normal S)→WD C p [] (WL C (.w::T) Q .normal) S):
  WL C (.c (.draw p) :: .w::T) Q .normal S:=h fun _ S1 h1 h2=>⟨S1,h1,hJ S1 h2⟩
section
variable {X:List Az}
theorem Yk (h:K S):WD C .fin X K S:=h
theorem An {p:DP} (h1:Br i S) (h2:Bt C i S (fun S'=>Da C X S'∧WD C p X K S')):WD C (.take i p) X K S:=.inl ⟨h1,h2⟩
theorem HY {p:DP} (h2:Bt C i S (fun S'=>Da C (i::X) S'∧WD C p (i::X) K S')):WD C (.take i p) X K S:=.inr h2
theorem Cp:WD C .stop X K S:=trivial
theorem Fu {held:List Az} {r rest:DP} (h1:Bt C i S (fun S'=>∃S1,Fg S' S1∧∃X',Gl C X' held S1∧Da C X' S1∧WD C r X' K S1)) (h2:WD C rest X K S):WD C (.alt held i r rest) X K S:=⟨h1,h2⟩
theorem FT {d:Nat} {v:V} (hl:look S.env d=some v) (hc:S.cp=[]):Sk (S.put (some d) v) S:=by
 constructor
 ·intro t
  show look ((d,v)::S.env) t=_
  simp only [look]
  split
  ·rename_i e; subst e; exact hl.symm
  ·rfl
 ·intro k
  show look (Ib d (fun _=>none) S.cp) k=look S.cp k
  rw [hc]; rfl
theorem Vo (hc:S.cp=[]) (x:Aq):S.capOf x=none:=by
 cases x with
 | t n=>show look S.cp n=none; rw [hc]; rfl
 | c v=>rfl
theorem Zz (hc:S.cp=[]) {rd:Aq→V} (o:PU):Kp S rd o=none:=by
 cases o<;>try rfl
 case mv x=>exact Vo hc x
 case slice x lo hi sz=>
  simp only [Kp,Ga]
  rw [show Ji S.cp x=none from Vo hc x]
theorem Ee {o:PU} {d:Nat} {v:V} (h:Ca S (.p o) v) (hl:look S.env d=some v) (hc:S.cp=[]:=by rfl):Bt C ⟨some d,.p o,none⟩ S (fun S'=>Sk S' S):=
 c_ h (by rw [aU (g:=fun _=>none) (Zz hc o)]; exact FT hl hc)
theorem Sm {o:PU} {d:Nat} {v:V} {gs:Nat} {want g:Bool} (hg:La (S.val (.t gs)) want=some g) (h:g=true→Ca S (.p o) v) (hl:look S.env d=some (.may g v)) (hc:S.cp=[]:=by rfl):Bt C ⟨some d,.p o,some (gs,want)⟩ S (fun S'=>Sk S' S):=Ei hg h (FT hl hc)
end
end
end Go.Ev
