/- Steps of the small machine, second part: slices, rows that grow, calls, ends, drawn orders. -/
import Derived.Test.YtdmclbbhhcpjfaaQvL
set_option linter.all false
namespace Go.Ev
def eD {α:Type} (l:List α) (lo hi:Int):Option (List α):=if 0≤lo∧lo≤hi∧hi≤l.length then some ((l.take hi.toNat).drop lo.toNat) else none
theorem lX {α:Type} {l y:List α} {lo hi:Int} (h:eD l lo hi=some y):0≤lo∧lo≤hi∧hi≤l.length∧y=(l.take hi.toNat).drop lo.toNat:=by
 unfold eD at h
 split at h
 ·rename_i hc
  exact ⟨hc.1,hc.2.1,hc.2.2,(Option.some.inj h).symm⟩
 ·cases h
def ovl {α:Type} (l:List α) (at_:Nat) (ys:List α):List α:=l.mapIdx fun i e=>if at_≤i then (ys[i-at_]?).getD e else e
theorem Ib {α:Type} {e:α→List V} {l ys:List α} {off i:Nat}:Dg off (l.map e) (off+i) (ys.map e)=(ovl l i ys).map e:=by
 unfold Dg ovl
 apply List.ext_getElem?
 intro k
 simp only [List.getElem?_mapIdx,List.getElem?_map]
 cases hk:l[k]? with
 | none=>rfl
 | some z=>
  simp only [Option.map_some]
  by_cases h:i≤k
  ·have e1:off+k-(off+i)=k-i:=by omega
   rw [if_pos (by omega),if_pos h,e1]
   cases ys[k-i]? <;> rfl
  ·rw [if_neg (by omega),if_neg h]
theorem Qp {α:Type} {e:α→List V} {l y:List α} {t off sz:Nat} (h:y.length=l.length):
  (if off=off∧sz=sz∧(l.map e).length=(y.map e).length then V.own t off sz (y.map e) else .undef) = .own t off sz (y.map e):=if_pos ⟨rfl,rfl,by simp [h]⟩
section
variable {C:Av} {Q:Ex→St→Prop} {S:St} {T:List Es} {l:List Bg} {d:Option Nat} {K:St→Prop} {i:Bg}
theorem Dp {x:As} {v:V} (h:S.val x=v) (hm:Ag true v):Ag true (S.val x):=by rw [h]; exact hm
theorem Jd {α:Type} {e:α→List V} {l0 y:List α} {x:As} {lo hi:Option As} {a b:Option Int} {vx:V} {t off sz:Nat} (hx:S.val x=vx) (hx':Ad vx = .own t off sz (l0.map e)) (hm:Ag true vx)
  (hm2:Ax (nm S) (lo.toList++hi.toList)) (ha:Gd (lo.map fun x=>Ad (S.val x))=some a) (hb:Gd (hi.map fun x=>Ad (S.val x))=some b)
  (hy:eD l0 (a.getD 0) (b.getD l0.length)=some y):Cp S (.p (.slice x lo hi sz)) (.own t (off+(a.getD 0).toNat) sz (y.map e)):=by
 obtain ⟨h1,h2,h3,rfl⟩:=lX hy
 refine ⟨⟨Dp hx hm,hm2⟩,?_⟩
 have h0:(b.getD l0.length).toNat-l0.length=0:=by omega
 simp only [pu,hx,hx',ha,hb,List.length_map,h0,lO,List.replicate_zero,List.append_nil,List.map_take,List.map_drop]
 exact ⟨_,rfl,trivial,h1,h2,.inl h3⟩
theorem KT {α:Type} {e:α→List V} {l0:List α} {x:As} {vx:V} {t off sz:Nat} (hx:S.val x=vx) (hx':Ad vx = .own t off sz (l0.map e)) (hm:Ag true vx) (hz:sz≠0:=by decide):Cp S (.p (.len x)) (.int .i64 (l0.length:Int)):=by
 refine ⟨⟨Dp hx hm,trivial⟩,(sz≠0),?_,hz⟩
 simp only [pu,hx,hx',List.length_map]
theorem c_ {o:PU} {v:V} (h:Cp S (.p o) v) (k:K (S.putC d v (Fy (fun x=>Ad (S.val x)) o))):Bw C ⟨d,.p o,none⟩ S K:=by
 obtain ⟨h1,ψ,h2,h3⟩:=h
 exact p_ h1 h2 h3 k
theorem Ms {α:Type} {e:α→List V} {l0 l1:List α} {x y:As} {t sz by_:Nat} {vy:V} (hx:S.val x = .own t 0 sz (l0.map e)) (hy:S.val y=vy) (hm:Ag true vy) (hs:Ic (Ad vy)=some (sz,l1.map e))
  (ht:t<Am) (hn:(l0.length+l1.length)*by_≤140737488355328) (k:K ((S.drop t).putC d (.own t 0 sz ((l0++l1).map e)) (Dr x (l0.length+l1.length)))) (hdp:Aq t=false:=by rfl):Bw C ⟨d,.app sz by_ x y,none⟩ S K:=by
 refine ⟨Dp hx trivial,Dp hy hm,?_⟩
 rw [hx,hy]
 dsimp only [Ad]
 dsimp only [Ad] at hs
 rw [hs]
 refine ⟨ht,rfl,rfl,rfl,by simpa using hn,hdp,?_⟩
 rw [←List.map_append,List.length_map,List.length_map]
 exact k
theorem fJ {α:Type} {e:α→List V} {l0:List α} {x y:As} {t sz by_:Nat} {ki:IntKind} {l:Int} {zero:List V} (z:α) (hx:S.val x = .own t 0 sz (l0.map e)) (hy:S.val y = .int ki l) (hz:e z=zero)
  (ht:t<Am) (h0:0≤l) (hn:((l0.length:Int)+l)*by_≤140737488355328) (k:K ((S.drop t).putC d (.own t 0 sz ((l0++List.replicate l.toNat z).map e)) (Dr x (l0.length+l.toNat)))) (hdp:Aq t=false:=by rfl):Bw C ⟨d,.appz sz by_ zero x y,none⟩ S K:=by
 refine ⟨Dp hx trivial,Dp hy trivial,?_⟩
 rw [hx,hy]
 dsimp only [Ad]
 refine ⟨ht,rfl,rfl,h0,by simpa using hn,hdp,?_⟩
 rw [List.map_append,List.map_replicate,hz] at k
 rw [List.length_map]
 exact .inl k
theorem cap_ {α:Type} {e:α→List V} {l0:List α} {t off sz n:Nat} (hx:S.val (.t n) = .own t off sz (l0.map e))
  (k:∀c:Nat,l0.length≤c→(off=0→c≤9223372036854775807)→(∀c0,S.capOf (.t n)=some c0→Fd≤c0→(c:Int)=c0-Fd)→K (St.put { S with cp:=Hy n (fun _=>some (Fd+c)) S.cp } d (.int .i64 c))) (hz:sz≠0:=by decide):Bw C ⟨d,.cap (.t n),none⟩ S K:=by
 refine ⟨Dp hx trivial,?_⟩
 rw [hx]
 dsimp only [Ad]
 rw [List.length_map]
 exact ⟨hz,k⟩
theorem EB {α:Type} {e:α→List V} {x y:As} {d sz by_:Nat} {k1 k2:IntKind} {a c:Int} {zero:List V} (z:α) (hx:S.val x = .int k1 a) (hy:S.val y = .int k2 c) (h0:0≤a) (hac:a=c) (hn:c*by_≤140737488355328)
  (hz:e z=zero) (k:K ((S.drop (64*d)).put (some d) (.own (64*d) 0 sz ((List.replicate a.toNat z).map e)))):Bw C ⟨some d,.make sz by_ zero x y,none⟩ S K:=by
 refine ⟨Dp hx trivial,Dp hy trivial,?_⟩
 rw [hx,hy]
 refine ⟨h0,hac,hn,?_⟩
 rw [List.map_replicate,hz] at k
 exact .inl k
theorem copy_ {α:Type} {e:α→List V} {l0 l1:List α} {x y:As} {t off sz:Nat} {vy:V} (hx:S.val x = .own t off sz (l0.map e)) (hy:S.val y=vy) (hm:Ag true vy) (hs:Ic (Ad vy)=some (sz,l1.map e))
  (k:K ((S.map (Ux t sz off ((l1.take l0.length).map e))).put d (.int .i64 (min l1.length l0.length:Nat)))) (hdp:Aq t=false:=by rfl):Bw C ⟨d,.copy sz x y,none⟩ S K:=by
 refine ⟨Dp hx trivial,Dp hy hm,?_⟩
 rw [hx,hy]
 dsimp only [Ad]
 dsimp only [Ad] at hs
 rw [hs]
 refine ⟨rfl,rfl,hdp,?_⟩
 rw [List.map_take,] at k
 simpa using k
theorem clear_ {α:Type} {e:α→List V} {l0:List α} {z:α} {x:As} {t off sz:Nat} {zero:List V} (hx:S.val x = .own t off sz (l0.map e)) (hz:e z=zero)
  (k:K ((S.map (Ux t sz off ((List.replicate l0.length z).map e))).put d .undef)) (hdp:Aq t=false:=by rfl):Bw C ⟨d,.clear sz zero x,none⟩ S K:=by
 refine ⟨Dp hx trivial,?_⟩
 rw [hx]
 refine ⟨rfl,hdp,?_⟩
 rw [List.map_replicate,hz] at k
 simpa using k
theorem HP {α:Type} {e:α→List V} {l0:List α} {x:As} {sz:Nat} {ne:Bool} (hx:S.val x = .lst sz (l0.map e)) (k:∀b:Bool,(b=true→l0=[])→K (S.put d (.bool (if ne then !b else b)))) (hz:sz≠0:=by decide):
  Bw C ⟨d,.isnil x ne,none⟩ S K:=by
 obtain ⟨s0,rfl⟩:=Nat.exists_eq_succ_of_ne_zero hz
 refine ⟨Dp hx trivial,?_⟩
 rw [hx]
 exact fun b hb=>k b fun h=>by simpa using hb h
theorem Yl {sz len d:Nat} {zero:List V} {parts:List (Nat×As)} (hm:Ax (fun p=>nm S p.2) parts)
  (h:Ax (fun p=>p.1<len∧p.2.cells.length=sz∧p.2.cells.all (fun c => !Ft c)=true) (parts.map fun p=>(p.1,Ad (S.val p.2))))
  (k:K (((S.freezes (Gj (parts.map fun p=>(p.1,Ad (S.val p.2))))).drop (64*d)).put (some d)
    (.own (64*d) 0 sz (Hl sz (List.replicate len zero) ((parts.map fun p=>(p.1,Ad (S.val p.2))).map fun p=>(p.1,p.2.cells.map Bm)))))):
  Bw C ⟨some d,.mkS sz zero len parts,none⟩ S K:=⟨hm,h,.inl k⟩
theorem Zo {α:Type} {e:α→List V} {l0:List α} {x:As} {vx:V} {t off sz j k n i:Nat} {ag:Bool} {y:α} {v:V} (hx:S.val x=vx) (hx':Ad vx = .optr t sz j k) (hm:Ag true vx) (hf:S.find t=some (off,l0.map e)) (hj:j=off+i)
  (hy:l0[i]? = some y) (hv:Jx ag n (Jo t (off+i) k ((e y).drop k))=some v) (hn:k+n≤sz) (hsz:(e y).length=sz) (hdp:Aq t=true:=by rfl):Cp S (.p (.load x n ag)) v:=by
 subst hj
 have hlt:=(List.getElem?_eq_some_iff.1 hy).1
 have hg:(l0.map e).getD (off+i-off) []=e y:=by
  rw [Nat.add_sub_cancel_left]
  simp [List.getD,hy]
 refine ⟨⟨Dp hx hm,trivial⟩,off≤off+i∧off+i<off+(l0.map e).length∧k+n≤sz∧((l0.map e).getD (off+i-off) []).length=sz,?_,Nat.le_add_right _ _,by simp; omega,hn,by rw [hg]; exact hsz⟩
 simp only [pu,hx,hx',hf,HD,hdp,cond_true]
 rw [hg,hv]
theorem cJ {α:Type} {e:α→List V} {l0:List α} {x v:As} {n t sz j k off i:Nat} {u:V} {y y':α} (hx:S.val x = .optr t sz j k) (hv:S.val v=u) (hm:Ag true u) (hu:An (Ad u)=false) (hl:(Ad u).cells.length=n)
  (hf:S.find t=some (off,l0.map e)) (hj:j=off+i) (hy:l0[i]? = some y) (hn:k+n≤sz) (hsz:(e y).length=sz) (hp:(Ad u).cells.all (fun c=>scal c || (decide (t<Am)&&Ro c))=true) (ht:Ba (Ad u).tags=true)
  (hy':Bd (e y) k ((Ad u).cells.map Bm)=e y')
  (k':K (((S.drops (Ad u).tags).map (Rq t sz (off+i) [e y'])).put d .undef)) (hdp:Aq t=true:=by rfl):Bw C ⟨d,.store x v n,none⟩ S K:=by
 subst hj
 have hlt:=(List.getElem?_eq_some_iff.1 hy).1
 have hg:(l0.map e).getD (off+i-off) []=e y:=by
  rw [Nat.add_sub_cancel_left]
  simp [List.getD,hy]
 refine ⟨by rw [hx]; trivial,by rw [hv]; exact hm,?_⟩
 rw [hv,hx]
 refine ⟨hu,hl,?_⟩
 dsimp only [Ad]
 rw [hf]
 dsimp only
 rw [hg]
 refine ⟨Nat.le_add_right _ _,by simp; omega,hn,hsz,.inr ⟨hdp,hp,ht,?_⟩⟩
 dsimp only [Ad] at hy'
 rw [hy']
 exact k'
theorem Ui {c:V} {b:Bool} (h:scal c=true:=by rfl):(scal c || b)=true:=by rw [h]; rfl
theorem aA {α:Type} {e:α→List V} {xs:List α} {t t' sz:Nat} (h:∀x,(e x).all scal=true) (h1:decide (t<Am)=true:=by rfl) (h2:(decide (t'<Am) && !Aq t')=true:=by rfl):
  (scal (.own t' 0 (sz+1) (xs.map e)) || (decide (t<Am)&&Ro (.own t' 0 (sz+1) (xs.map e))))=true:=by
 have h3:(xs.map e).all (fun e=>e.all scal)=true:=by
  simp only [List.all_map,List.all_eq_true,Function.comp]
  intro x _
  exact List.all_eq_true.1 (h x)
 rw [h1]
 show (false || (true&&((decide (t'<Am) && !Aq t')&&(xs.map e).all fun e=>e.all scal)))=true
 rw [h2,h3]; rfl
theorem cC {α:Type} {e:α→List V} {xs:List α} {t' sz:Nat} (h:∀x,(e x).all scal=true) (h2:(decide (t'<Am) && !Aq t')=true:=by rfl):
  (scal (.own t' 0 (sz+1) (xs.map e)) || Ro (.own t' 0 (sz+1) (xs.map e)))=true:=aA (t:=0) h rfl h2
theorem LC {sz dd:Nat} {zero:List V} {x:As} {u:V} (hv:S.val x=u) (hm:Ag true u) (hl:(Ad u).cells.length=sz) (hp1:(Ad u).cells.all (fun c => !Ft c)=true) (hp:(Ad u).cells.all (fun c=>scal c || Ro c)=true) (ht:Ba (Ad u).tags=true)
  (k:K ((((S.drop (64*dd+32)).put (some dd) (.own (64*dd+32) 0 sz [List.replicate sz .undef])).drops (Ad u).tags).map (Rq (64*dd+32) sz 0 [(Ad u).cells.map Bm]))):Bw C ⟨some dd,.mkS sz zero 1 [(0,x)],none⟩ S K:=by
 subst hv
 exact ⟨⟨hm,trivial⟩,⟨⟨Nat.zero_lt_one,hl,hp1⟩,trivial⟩,.inr ⟨x,rfl,rfl,hp,ht,k⟩⟩
theorem DW {α:Type} {e:α→List V} {l0 l1:List α} {x y:As} {t t2 sz by_:Nat} (hx:S.val x = .own t 0 sz (l0.map e)) (hy:S.val y = .own t2 0 sz (l1.map e))
  (ht:t<Am) (ht2:t2<Am) (hne:t2≠t) (hn:(l0.length+l1.length)*by_≤140737488355328) (k:K (((S.drop t).drop t2).putC d (.own t 0 sz ((l0++l1).map e)) (Dr x (l0.length+l1.length)))) (hd:Aq t=true:=by rfl) (hd2:Aq t2=true:=by rfl):Bw C ⟨d,.app sz by_ x y,none⟩ S K:=by
 refine ⟨Dp hx trivial,Dp hy trivial,?_⟩
 rw [hx,hy]
 dsimp only [Ad]
 have hs:Ic (.own t2 0 sz (l1.map e))=none:=by simp [Ic,hd2]
 rw [hs]
 refine ⟨ht,rfl,rfl,ht2,rfl,rfl,hne,by simpa using hn,hd,hd2,?_⟩
 rw [←List.map_append,List.length_map,List.length_map]
 exact k
theorem HR {α:Type} {e:α→List V} {x y:As} {d sz by_:Nat} {k1 k2:IntKind} {a c:Int} {zero:List V} (z:α) (hx:S.val x = .int k1 a) (hy:S.val y = .int k2 c) (h0:0≤a) (hac:a=c) (hn:c*by_≤140737488355328)
  (hz:e z=zero) (k:K ((S.drop (64*d+32)).put (some d) (.own (64*d+32) 0 sz ((List.replicate a.toNat z).map e)))) (hth:zero.all HX=true:=by rfl):Bw C ⟨some d,.make sz by_ zero x y,none⟩ S K:=by
 refine ⟨Dp hx trivial,Dp hy trivial,?_⟩
 rw [hx,hy]
 refine ⟨h0,hac,hn,?_⟩
 rw [List.map_replicate,hz] at k
 exact .inr ⟨hth,k⟩
theorem lW {β:Type} {e0:β→List V} {L0:List β} {off i c:Nat} {y y':β} {x:V} (hy:L0[i]? = some y) (hy':(e0 y).set c x=e0 y'):Ys off (off+i) c x (L0.map e0)=(L0.set i y').map e0:=by
 unfold Ys
 apply List.ext_getElem?
 intro k
 rw [List.getElem?_mapIdx,List.getElem?_map,List.getElem?_map,List.getElem?_set]
 cases hk:L0[k]? with
 | none=>
  have:=List.getElem?_eq_none_iff.1 hk
  by_cases h1:i=k
  ·rw [if_pos h1,if_neg (by omega)]; rfl
  ·rw [if_neg h1]; rfl
 | some z=>
  have hlt:=(List.getElem?_eq_some_iff.1 hk).1
  simp only [Option.map_some]
  by_cases h1:i=k
  ·subst h1
   rw [hk] at hy
   cases hy
   rw [if_pos rfl,if_pos rfl,if_pos hlt,Option.map_some,hy']
  ·rw [if_neg h1,if_neg (by omega),Option.map_some]
theorem Wy {β:Type} {e0:β→List V} {L0:List β} {t sz off i c:Nat} {y y':β} {x:V} (hy:L0[i]? = some y) (hy':(e0 y).set c x=e0 y'):V.own t off sz (Ys off (off+i) c x (L0.map e0)) = .own t off sz ((L0.set i y').map e0):=by rw [lW hy hy']
theorem Zk {α β:Type} {e0:β→List V} {L0:List β} {e:α→List V} {xs xs':List α} {f:Nat} {as:List As} {T s0 j c sz off i:Nat} {y:β} {us:List V} {r:V} (H:C f ⟨us,[]⟩ ⟨r,[],[(0,sz,xs'.map e)]⟩) (hm:Ax (nm S) as)
  (hh:bM T j c sz (xs.map e) (as.map fun x=>Ad (S.val x)) us) (hf:S.find T=some (off,L0.map e0)) (hj:j=off+i) (hy:L0[i]? = some y) (hs0:(e0 y).length=s0) (hc:(e0 y)[c]? = some (.lst sz (xs.map e)))
  (hl:xs'.length=xs.length) (he:∀x,(Nat.beq (e x).length sz&&(e x).all scal)=true)
  (k:K ((S.map (Xf T s0 (off+i) c (.lst sz (xs'.map e)))).put d r)) (hsz:sz≠0:=by decide) (hr:scal r=true:=by rfl) (hr2:An r=false:=by rfl) (hd:Aq T=true:=by rfl):Bw C ⟨d,.call f as,none⟩ S K:=by
 subst hj
 refine ⟨hm,.inr ⟨T,s0,off+i,c,sz,xs.map e,xs'.map e,us,r,hh,hsz,by simpa using hl,?_,hr,hr2,hd,⟨off,L0.map e0,hf,Nat.le_add_right _ _,?_,?_⟩,H,k⟩⟩
 ·simp only [List.all_map,List.all_eq_true,Function.comp]
  intro x _
  exact he x
 ·rw [Nat.add_sub_cancel_left]
  simp [List.getD,hy,hs0]
 ·rw [Nat.add_sub_cancel_left]
  simp [List.getD,hy,hc]
theorem IA {f:Nat} {args:List V} (fz:Bool) {gv:List V} {r:V} (h:C f ⟨gv,[]⟩ ⟨r,[],[]⟩) (h0:Mp (fun v => !An v) args=true) (hg:args.map (mapW (S.liftC [] [] [] fz))=gv)
  (h3:fz=false→r.flat.all Ez=true) (k:K (((if fz then S.freezes (Bc (Nv args)) else S).drops (La (d.getD 0) (Bc r.flat))).put d (Dv (El (d.getD 0) 0 [] []) r))):Za C f args d S K:=by
 have e0:∀l:List Nat,Uw [] l=l:=fun l=>by
  induction l with
  | nil=>rfl
  | cons x r ih=>simp [Uw,ih]
 refine ⟨h0,[],[],[],fz,⟨r,[],[]⟩,⟨rfl,rfl,rfl,rfl⟩,⟨rfl,rfl,rfl⟩,fun hz=>?_,?_,?_⟩
 ·simp [De.flat,h3 hz]
 ·subst hg; exact h
 ·simpa [St.after,St.frzTags,St.given,e0,De.newR,De.newB,Mm,St.rows,St.boxes,St.drops] using k
theorem Kh {f:Nat} {as:List As} (fz:Bool) {gv:List V} {r:V} (h:C f ⟨gv,[]⟩ ⟨r,[],[]⟩) (hm:Ax (nm S) as) (h0:Mp (fun v => !An v) (as.map fun x=>Ad (S.val x))=true)
  (hg:(as.map fun x=>Ad (S.val x)).map (mapW (S.liftC [] [] [] fz))=gv) (h3:fz=false→r.flat.all Ez=true)
  (k:K (((if fz then S.freezes (Bc (Nv (as.map fun x=>Ad (S.val x)))) else S).drops (La (d.getD 0) (Bc r.flat))).put d (Dv (El (d.getD 0) 0 [] []) r))):
  Bw C ⟨d,.call f as,none⟩ S K:=⟨hm,.inl (IA fz h h0 hg h3 k)⟩
theorem IB {f:Nat} {args:List V} (LB LR LM:List Nat) (fz:Bool) {g:Md} {t:De} (h:C f g t) (h0:Mp (fun v => !An v) args=true) (hg:S.give args LB LR LM fz=g)
  (h1:(Ba LB&&Ba (LR++LM)&&Ku Am LM&&LB.all (fun T=>(look S.bx T).isSome))=true)
  (h2:(Ku 33 [t.bx.length-LB.length,LM.length,LR.length]&&Hg (t.newB (d.getD 0) LB.length) LB&&Hg (t.newR (d.getD 0)) LR)=true) (h3:fz=false→t.flat=true)
  (k:K ((S.after args (d.getD 0) fz LB LR LM t).put d (Dv (El (d.getD 0) (t.bx.length-LB.length) LB LR) t.r))):Za C f args d S K:=by
 simp only [Bool.and_eq_true] at h1 h2
 refine ⟨h0,LB,LR,LM,fz,t,⟨h1.1.1.1,h1.1.1.2,h1.1.2,h1.2⟩,⟨h2.1.1,h2.1.2,h2.2⟩,h3,?_,k⟩
 subst hg; exact h
theorem jB {f:Nat} {as:List As} (LB LR LM:List Nat) (fz:Bool) {g:Md} {t:De} (h:C f g t) (hm:Ax (nm S) as) (h0:Mp (fun v => !An v) (as.map fun x=>Ad (S.val x))=true)
  (hg:S.give (as.map fun x=>Ad (S.val x)) LB LR LM fz=g)
  (h1:(Ba LB&&Ba (LR++LM)&&Ku Am LM&&LB.all (fun T=>(look S.bx T).isSome))=true)
  (h2:(Ku 33 [t.bx.length-LB.length,LM.length,LR.length]&&Hg (t.newB (d.getD 0) LB.length) LB&&Hg (t.newR (d.getD 0)) LR)=true) (h3:fz=false→t.flat=true)
  (k:K ((S.after (as.map fun x=>Ad (S.val x)) (d.getD 0) fz LB LR LM t).put d (Dv (El (d.getD 0) (t.bx.length-LB.length) LB LR) t.r))):Bw C ⟨d,.call f as,none⟩ S K:=
 ⟨hm,.inl (IB LB LR LM fz h h0 hg h1 h2 h3 k)⟩
theorem Wm {f:Nat} {as:List As} {gs:Nat} {want g:Bool} (hgv:Mg (S.val (.t gs)) want=some g) (fz:Bool) {gv:List V} {r:V} (h:g=true→C f ⟨gv,[]⟩ ⟨r,[],[]⟩)
  (hm:Ax (fun x=>Ag g (S.val x)) as) (h0:g=true→Mp (fun v => !An v) (as.map fun x=>Ad (S.val x))=true)
  (hg:g=true→(as.map fun x=>Ad (S.val x)).map (mapW (S.liftC [] [] [] fz))=gv) (h3:fz=false→r.flat.all Ez=true) (h4:fz=true→Bc (Nv (as.map fun x=>Ad (S.val x)))=[])
  (k:K (S.put d (.may g (Dv Kj r)))):Bw C ⟨d,.call f as,some (gs,want)⟩ S K:=by
 unfold Bw
 dsimp only
 rw [hgv]
 exact .inl ⟨hm,h0,fz,r,fun e=>by have:=hg e; subst this; exact h e,h3,h4,k⟩
theorem OO {o:PU} {x:Int} (h:Cp S (.p o) (.int .u8 (IntKind.u8.wrap x))):Cp S (.p o) (.int .u8 ((b8 x).toNat:Int)):=by
 unfold b8
 rw [DD]
 exact h
theorem OP {α:Type} {e:α→List V} {xs:List α} (h:∀x,(e x).all scal=true):((xs.map e).all fun x=>x.all scal)=true:=by
 simp only [List.all_map,List.all_eq_true,Function.comp]
 intro x _
 exact List.all_eq_true.1 (h x)
theorem Zz {α:Type} {e:α→List V} {xs:List α} {n:Nat} (h:∀x,(e x).length=n):∀y∈xs.map e,y.length=n:=by
 intro y hy
 obtain ⟨x,_,rfl⟩:=List.mem_map.1 hy
 exact h x
theorem Sx {es:List (List V)} {t off sz:Nat} (h:Aq t=true):Ez (.own t off sz es)=true:=by simp [Ez,h]
theorem OY {α:Type} {e:α→List V} {xs:List α} {t off sz:Nat} (h:∀x,(e x).all scal=true):Ez (.own t off sz (xs.map e))=true:=by
 simp only [Ez,Bool.or_eq_true]
 refine .inr ?_
 simp only [List.all_map,List.all_eq_true,Function.comp]
 intro x _
 exact List.all_eq_true.1 (h x)
theorem Iv {res:List Wg} {nb:Nat} {t:De} {v:V} {css:List (List V)} (h1:lN S res=some v) (h2:Ji S (Rf nb++Cx v.flat)=some css)
  (h3:Ku 33 [(Fo (v.flat++css.flatten)).length,(Cx v.flat).length]=true) (h4:Dv (Pe (Fo (v.flat++css.flatten)) (Cx v.flat)) v=t.r)
  (h5:Kv (Pe (Fo (v.flat++css.flatten)) (Cx v.flat)) css=t.bx) (h6:Pg S 0 t.rw):FQ res nb t .ret S:=by
 refine ⟨S,Fg.refl S,?_⟩
 unfold aX
 rw [h1]
 show Ul S v nb t
 unfold Ul
 dsimp only
 rw [h2]
 exact ⟨h3,h4,h5,h6⟩
theorem LE {res:List Wg} {nb:Nat} {t:De} {S1:St} (hf:Fg S S1) (h:FQ res nb t .ret S1):FQ res nb t .ret S:=by
 obtain ⟨S2,h1,h2⟩:=h
 exact ⟨S2,hf.trans h1,h2⟩
theorem OZ {fn:Er} {args:List V} {bx:List (List V)} {t:De} (h0:args.length≤fn.nt) (h:WL C [.c fn.body] (FQ fn.res bx.length t) .normal ⟨Mi args 0,Mj bx Am,[]⟩):cP C fn ⟨args,bx⟩ t:=⟨h0,.inl h⟩
theorem aC {d:Option Nat} {v:V} {f g:List (Nat×Int)→Option Int} (h:f S.cp=g S.cp):S.putC d v f=S.putC d v g:=by
 cases d with
 | none=>rfl
 | some d=>
  have:Hy d f S.cp=Hy d g S.cp:=by
   cases hl:S.cp with
   | nil=>rw [hl] at h; simp only [Hy,h]
   | cons p r=>rw [hl] at h; simp only [Hy,h]
  simp only [St.putC,this]
theorem CU {α:Type} {l ys:List α} {i:Nat}:(ovl l i ys).length=l.length:=by simp [ovl]
theorem Cr {p:DP} (h:WD C p [] (WL C T Q .normal) S):WL C (.c (.draw p)::T) Q .normal S:=h
theorem DX {p:DP} (R:St→Prop) (hJ:∀S,R S→WL C T Q .normal S) (h:(∀S S1,Fg S S1→R S1→WL C (.w::T) Q .normal S)→WD C p [] (WL C (.w::T) Q .normal) S):
  WL C (.c (.draw p) :: .w::T) Q .normal S:=h fun _ S1 h1 h2=>⟨S1,h1,hJ S1 h2⟩
section
variable {X:List Bg}
theorem dC (h:K S):WD C .fin X K S:=h
theorem Ck {p:DP} (h1:Bs i S) (h2:Bw C i S (fun S'=>Dq C X S'∧WD C p X K S')):WD C (.take i p) X K S:=.inl ⟨h1,h2⟩
theorem Cd:WD C .stop X K S:=trivial
theorem Do {held:List Bg} {r rest:DP} (h1:Bw C i S (fun S'=>∃S1,Fg S' S1∧∃X',Gl C X' held S1∧Dq C X' S1∧WD C r X' K S1)) (h2:WD C rest X K S):WD C (.alt held i r rest) X K S:=⟨h1,h2⟩
theorem LH {d:Nat} {v:V} (hl:look S.env d=some v) (hc:S.cp=[]):Uq (S.put (some d) v) S:=by
 constructor
 ·intro t
  show look ((d,v)::S.env) t=_
  simp only [look]
  split
  ·rename_i e; subst e; exact hl.symm
  ·rfl
 ·intro k
  show look (Hy d (fun _=>none) S.cp) k=look S.cp k
  rw [hc]; rfl
theorem Vi (hc:S.cp=[]) (x:As):S.capOf x=none:=by
 cases x with
 | t n=>show look S.cp n=none; rw [hc]; rfl
 | c v=>rfl
theorem Zl (hc:S.cp=[]) {rd:As→V} (o:PU):Ki S rd o=none:=by
 cases o<;>try rfl
 case mv x=>exact Vi hc x
 case slice x lo hi sz=>
  simp only [Ki,Fy]
  rw [show Jb S.cp x=none from Vi hc x]
theorem Az {o:PU} {d:Nat} {v:V} (h:Cp S (.p o) v) (hl:look S.env d=some v) (hc:S.cp=[]:=by rfl):Bw C ⟨some d,.p o,none⟩ S (fun S'=>Uq S' S):=
 c_ h (by rw [aC (g:=fun _=>none) (Zl hc o)]; exact LH hl hc)
end
end
end Go.Ev
