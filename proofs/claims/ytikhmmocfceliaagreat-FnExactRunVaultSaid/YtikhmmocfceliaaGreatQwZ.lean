/- The plain part of the proof: what the functions compute answers as the law says. -/
import Derived.Test.YtikhmmocfceliaaGreatQwZa
set_option linter.all false
section
set_option maxHeartbeats 1000000
namespace Go.Ev
theorem nC {l:List Int} {M:Int} (h:De l 1 M) {x:Int} {c:Bool} {p:Nat} (hp:Ms l x p) (y:Int):y∈Ld l x c p↔if c=true then (y∈l∨y=x) else (y∈l∧y≠x):=by
 have hm:=tP h hp
 have hs:∀y,y∈l↔y∈l.take p∨y∈l.drop p:=fun y=>by rw [←List.mem_append,List.take_append_drop]
 unfold Ld
 cases c with
 | true=>
  simp only [if_true]
  split
  ·rename_i ha
   constructor
   ·intro hy; exact .inl hy
   ·rintro (hy | rfl)
    ·exact hy
    ·exact hm.1 ha
  ·rw [List.mem_append,List.mem_append,List.mem_singleton,hs y]
   constructor
   ·rintro ((h | h) | h)
    ·exact .inl (.inl h)
    ·exact .inr h
    ·exact .inl (.inr h)
   ·rintro ((h | h) | h)
    ·exact .inl (.inl h)
    ·exact .inr h
    ·exact .inl (.inr h)
 | false=>
  simp only [Bool.false_eq_true,if_false]
  split
  ·rename_i ha
   have hx:l[p]? = some x:=by simpa [Io] using ha
   obtain ⟨hlt,he⟩:=List.getElem?_eq_some_iff.1 hx
   rw [List.mem_append]
   constructor
   ·rintro (hy | hy)
    ·have:=Zr hp hy
     exact ⟨List.mem_of_mem_take hy,by omega⟩
    ·obtain ⟨j,hj,rfl⟩:=List.getElem_of_mem hy
     simp only [List.length_drop] at hj
     rw [List.getElem_drop]
     have:=h.lt (show p+1+j<l.length by omega) (show p<p+1+j by omega)
     exact ⟨List.getElem_mem _,by omega⟩
   ·rintro ⟨hy,hne⟩
    rcases (hs y).1 hy with hy | hy
    ·exact .inl hy
    ·rw [List.drop_eq_getElem_cons hlt] at hy
     rcases List.mem_cons.1 hy with hy | hy
     ·exact absurd (hy.trans he) hne
     ·exact .inr hy
  ·rename_i ha
   constructor
   ·intro hy; exact ⟨hy,fun e=>ha (hm.2 (e ▸ hy))⟩
   ·exact fun h=>h.1
noncomputable def Bw (l:List Int) (x:Int) (c:Bool) (f:Int):List Int×Int:=(g89 l x c f).getD ([],0)
theorem Mu {l:List Int} {M:Int} (h:De l 1 M) (hl:l.length≤1048575) (x:Int) (c:Bool) (f:Int) (hx:c=true→1≤x∧x≤M):
  g89 l x c f=some (Bw l x c f)∧g86 l x c f=some (Bw l x c f)∧De (Bw l x c f).1 1 M ∧
   ((Bw l x c f).2=13∧(Bw l x c f).1=l∧f=1∨f≠1∧(Bw l x c f).2=Mj f∧∀y,y∈(Bw l x c f).1↔if c=true then (y∈l∨y=x) else (y∈l∧y≠x)):=by
 obtain ⟨p,hp⟩:=cut_ex h x
 have e1:=g89_eq h hl x c f hp
 have e2:=g86_eq hl x c f hp
 have e:Bw l x c f=if (f==1)=true then (l,13) else (Ld l x c p,Mj f):=by unfold Bw; rw [e1]; rfl
 rw [e]
 refine ⟨e1,e2,?_,?_⟩
 ·split
  ·exact h
  ·exact cM h c hx hp
 ·by_cases hf:f=1
  ·rw [if_pos (by simp [hf])]
   exact .inl ⟨rfl,rfl,hf⟩
  ·rw [if_neg (by simpa using hf)]
   exact .inr ⟨hf,rfl,fun y=>nC h hp y⟩
def Bh (a:Ai) (k:Nat):Int:=a.Bi[k]?.getD 0
theorem fJ (a:Ai) (k:Nat):mA a (k:Int)=some (Bh a k):=by
 unfold mA Bh
 by_cases h:k<a.Bi.length
 ·rw [if_pos (decide_eq_true (by omega)),Cc h,List.getElem?_eq_getElem h]; rfl
 ·rw [if_neg (by simp; omega),List.getElem?_eq_none (by omega)]; rfl
theorem bQ {v:Ap} {a:Ai} {k:Nat} (hk:k≤1048576) {M:Int} (h:De v.Aj 1 M) (hl:v.Aj.length≤1048575) (x:Int) (c:Bool) (hx:c=true→1≤x∧x≤M):
  fW (Dd.mk v a (k:Int)) x c=some ((Bw v.Aj x c (Bh a k)).2,Dd.mk (Ap.mk v.Ac v.Ad (Bw v.Aj x c (Bh a k)).1 v.Am) a ((k+1:Nat):Int)):=by
 have e:=(Mu h hl x c (Bh a k) hx).1
 have hj:Uq (Dd.mk v a (k:Int)) x c (Bh a k)=some ((Bw v.Aj x c (Bh a k)).2,Dd.mk (Ap.mk v.Ac v.Ad (Bw v.Aj x c (Bh a k)).1 v.Am) a ((k+1:Nat):Int)):=by
  simp only [Uq,e,Option.bind_some,w1 (show k<4611686018427387904 by omega)]
 unfold fW
 by_cases hlt:k<a.Bi.length
 ·rw [if_pos (decide_eq_true (by simp only; omega))]
  simp only [Cc hlt,Option.bind_some]
  have:Bh a k=a.Bi[k]:=by unfold Bh; rw [List.getElem?_eq_getElem hlt]; rfl
  rw [←this]
  exact hj
 ·rw [if_neg (by simp; omega)]
  have:Bh a k=0:=by unfold Bh; rw [List.getElem?_eq_none (by omega)]; rfl
  rw [←this]
  exact hj
def Hr (i:Ag):Ag:=Ag.mk i.Br true
def Ji (v:Ap):Ap:=Ap.mk v.Ac (v.Ad.map Hr) v.Aj true
theorem GK (l:List Ag) (k:Nat) (hk:k<l.length):((l.take k).map Hr++l.drop k).set k (Hr l[k])=(l.take (k+1)).map Hr++l.drop (k+1):=by
 rw [List.set_append,if_neg (by simp; omega),List.take_succ_eq_append_getElem hk,List.map_append,List.append_assoc]
 congr 1
 rw [List.drop_eq_getElem_cons hk]
 have:k-((l.take k).map Hr).length=0:=by simp; omega
 rw [this]
 rfl
theorem GJ (l:List Ag) (k:Nat) (hk:k<l.length):((l.take k).map Hr++l.drop k)[k]? = some l[k]:=by
 rw [List.getElem?_append_right (by simp; omega)]
 have:k-((l.take k).map Hr).length=0:=by simp; omega
 rw [this,List.getElem?_drop,Nat.add_zero,List.getElem?_eq_getElem hk]
theorem hZ (l:List Ag) (k:Nat):((l.take k).map Hr++l.drop k).length=l.length:=by simp; omega
theorem Qk (v:Ap) (h1:v.Ac.Af.length≤1048576) (h2:v.Ad.length≤1048576) (h3:v.Aj.length≤1048576):fM v=some (Ji v):=by
 have e:Zz v=some v:=by
  simp only [Zz,Kj v.Ac h1,Option.bind_some]
  rw [if_pos (by simp; omega),if_pos (by simp; omega)]
  rfl
 have h:=Ec (step:=Qy) (fun k=>((k:Int),(v.Ad.take k).map Hr++v.Ad.drop k)) v.Ad.length (v.Ad.map Hr) (fun k hk=>by
  simp only [Qy,hZ]
  rw [if_pos (decide_eq_true (by omega)),Cc (by rw [hZ]; exact hk)]
  simp only [Option.bind_some,Int.toNat_natCast,GJ _ _ hk,w1 (show k<4611686018427387904 by omega)]
  rw [←GK _ _ hk]
  rfl) (by
  simp only [Qy,hZ]
  rw [if_neg (by simp),List.take_length,List.drop_length,List.append_nil])
 have h':By Qy (0,v.Ad)=some (v.Ad.map Hr):=h
 simp only [fM,e,Option.bind_some,h']
 rfl
theorem Qj (v:Ap) (h2:v.Ad.length≤1048576):fV v=some (Ji v,Ak.mk 15 0):=by
 have h:=Ec (step:=Ri v) (fun k=>((k:Int),(v.Ad.take k).map Hr++v.Ad.drop k)) v.Ad.length (v.Ad.map Hr) (fun k hk=>by
  simp only [Ri]
  rw [if_pos (decide_eq_true (by omega)),Cc (by rw [hZ]; exact hk)]
  simp only [Option.bind_some,Int.toNat_natCast,GJ _ _ hk,w1 (show k<4611686018427387904 by omega)]
  rw [←GK _ _ hk]
  rfl) (by
  simp only [Ri]
  rw [if_neg (by simp),List.take_length,List.drop_length,List.append_nil])
 have h':By (Ri v) (0,v.Ad)=some (v.Ad.map Hr):=h
 simp only [fV,Option.bind_some,h']
 rfl
def Gg (L:List Aa) (x code:Int):List Aa:=if code=0 then L.filter (fun y=>y.id != x) else L
def Hm (L:List Ag) (x code:Int):List Ag:=if code=0 then L.filter (fun y=>y.Br != x) else L
theorem CZ {t:As} (h:Ie t) {k:Nat} (hk:k<t.Af.length):t.Af.take k++t.Af.drop (k+1)=t.Af.filter (fun y=>y.id != t.Af[k].id):=by
 have hd:=List.drop_eq_getElem_cons hk
 have hlt1:∀j,∀hj:j<k,(t.Af[j]'(by omega)).id<t.Af[k].id:=fun j hj=>h.lt hk hj
 have hlt2:∀j,∀hj:k+1+j<t.Af.length,t.Af[k].id<t.Af[k+1+j].id:=fun j hj=>h.lt hj (by omega)
 generalize t.Af[k]=x at hd hlt1 hlt2
 have e:t.Af.filter (fun y=>y.id != x.id)=(t.Af.take k++x::t.Af.drop (k+1)).filter (fun y=>y.id != x.id):=by rw [←hd,List.take_append_drop]
 rw [e,List.filter_append,List.filter_cons,if_neg (by simp)]
 congr 1
 ·symm
  rw [List.filter_eq_self]
  intro y hy
  obtain ⟨j,hj,rfl⟩:=List.getElem_of_mem hy
  simp only [List.length_take] at hj
  rw [List.getElem_take]
  have:=hlt1 j (by omega)
  simp; omega
 ·symm
  rw [List.filter_eq_self]
  intro y hy
  obtain ⟨j,hj,rfl⟩:=List.getElem_of_mem hy
  simp only [List.length_drop] at hj
  rw [List.getElem_drop]
  have:=hlt2 j (by omega)
  simp; omega
theorem rF {t:As} (h:Ie t) {k:Nat} (hk:k<t.Af.length):g92 t t.Af[k].id=some (k:Int)∧g77 t t.Af[k].id=some ((k:Int),true):=by
 have hl:=h.2.2.1
 obtain ⟨n,h1,h2⟩:=Wj t t.Af[k].id (by omega)
 have hn:n=(k:Int):=by
  rcases h2 with ⟨_,h3⟩ | ⟨j,hj,rfl,h4⟩
  ·exact absurd rfl (h3 _ (List.getElem_mem hk))
  ·rcases Nat.lt_trichotomy j k with hjk | rfl | hjk
   ·have:=h.lt hk hjk; omega
   ·rfl
   ·have:=h.lt hj hjk; omega
 obtain ⟨i,b,h3,h4,h5⟩:=mS t h _ n h2
 subst hn
 cases b with
 | false=>have:=h5 rfl; omega
 | true=>
  obtain ⟨rfl,_⟩:=h4 rfl
  exact ⟨h1,h3⟩
theorem qZ {t:As} (h:Fz t) {x:Aa} (hx:x∈t.Af) (hq:x.Cl=true):
  g76 t x.id=some (As.mk t.clock t.next (t.Af.filter fun y=>y.id != x.id),0)∧(∃i,g77 t x.id=some (i,true)∧g78 t i=some (As.mk t.clock t.next (t.Af.filter fun y=>y.id != x.id))) ∧
   Fz (As.mk t.clock t.next (t.Af.filter fun y=>y.id != x.id)):=by
 obtain ⟨k,hk,rfl⟩:=List.getElem_of_mem hx
 have hl:=h.1.2.2.1
 obtain ⟨f1,f2⟩:=rF h.1 hk
 have s1:=GA t.Af 0 k (by omega) (by omega)
 have s2:=GA t.Af (k+1) t.Af.length (by omega) (Nat.le_refl _)
 rw [show ((0:Nat):Int)=0 from rfl] at s1
 have hw:=w1 (show k<4611686018427387904 by omega)
 rw [←CZ h.1 hk]
 refine ⟨?_,⟨(k:Int),f2,?_⟩,rem_tab h hk⟩
 ·simp only [g76,f1,Option.bind_some]
  rw [if_neg (by simp),Cc hk]
  simp only [Option.bind_some]
  rw [if_neg (by simp [hq])]
  simp only [hw,s1,s2,Option.bind_some]
  rw [if_pos (by simp; omega),if_pos (by simp; omega)]
  simp
 ·simp only [g78,Qx t (by omega),Option.bind_some,g115,hw]
  rw [if_pos (⟨⟨by omega,by omega,by omega⟩,by omega⟩:(0≤(k:Int)∧(k:Int)≤((k+1:Nat):Int)∧((k+1:Nat):Int)≤(t.Af.length:Int))∧t.Af.length≤4398046511104)]
  simp only [Option.bind_some,Int.toNat_natCast]
theorem nW (l:List Ag) (x:Int) (hl:l.length≤1048576):g146 l x=some (l.filter fun y=>y.Br != x):=by
 have h:=Ec (step:=Rc l x) (fun k=>((l.take k).filter (fun y=>y.Br != x),(k:Int))) l.length (l.filter fun y=>y.Br != x) (fun k hk=>by
  simp only [Rc]
  rw [if_pos (decide_eq_true (by omega)),Cc hk]
  have hle:((l.take k).filter (fun y=>y.Br != x)).length≤k:=Nat.le_trans (List.length_filter_le _ _) (by simp; omega)
  simp only [Option.bind_some,Ye,w1 (show k<4611686018427387904 by omega)]
  rw [List.take_succ_eq_append_getElem hk,List.filter_append,List.filter_cons]
  split
  ·rw [if_pos (by simp; omega)]
   rfl
  ·rw [List.filter_nil,List.append_nil]) (by
  simp only [Rc]
  rw [if_neg (by simp),List.take_length])
 have h':By (Rc l x) ([],0)=some (l.filter fun y=>y.Br != x):=h
 simp only [g146,h',Option.bind_some]
theorem qY (l:List Ag) (y:Ag) (hl:l.length≤1048576):DT l (fun z=>DU z y)=some (l.filter fun z=>z.Br != y.Br):=
 g473_eq l (fun z=>DU z y) (fun z=>z.Br==y.Br) (fun _ _=>rfl) (by omega)
noncomputable def Ep (a:Ai):List Aa→Nat→List Aa→List Int→Nat×List Aa×List Int×Bool
 | [],c,L,A=>(c,L,A,false)
 | x::r,c,L,A=>if x.Cl=true then
   (if a.stop=2 then (c+1,Gg L x.id (Bw A x.id false (Bh a c)).2,(Bw A x.id false (Bh a c)).1,true)
   else Ep a r (c+1) (Gg L x.id (Bw A x.id false (Bh a c)).2) (Bw A x.id false (Bh a c)).1)
  else Ep a r c L A
noncomputable def Ew (a:Ai):List Ag→Nat→List Ag→List Int→Nat×List Ag×List Int×Bool
 | [],c,L,A=>(c,L,A,false)
 | x::r,c,L,A=>if x.Jx=true then
   (if a.stop=2 then (c+1,Hm L x.Br (Bw A x.Br false (Bh a c)).2,(Bw A x.Br false (Bh a c)).1,true)
   else Ew a r (c+1) (Hm L x.Br (Bw A x.Br false (Bh a c)).2) (Bw A x.Br false (Bh a c)).1)
  else Ew a r c L A
theorem Qo {A:List Int} {t:As} (h:Ie t) (hA:De A 1 (t.next-1)):A.length≤1000000:=by
 have h1:=h.2.1
 have:=hA.len (by omega)
 omega
theorem kM (w:Ap) (a:Ai) (hw:Ie w.Ac) (hin:w.Ad.length≤1048576):∀m i c (L:List Aa) (A:List Int),i+m=w.Ac.Af.length→c≤i→Fz (As.mk w.Ac.clock w.Ac.next L)→(∀x∈w.Ac.Af.drop i,x∈L)→De A 1 (w.Ac.next-1)→(a.stop=2→c=0) →
  let R:=Ep a (w.Ac.Af.drop i) c L A
  let t:=As.mk w.Ac.clock w.Ac.next R.2.1
  By (Mc w a w) ((c:Int),(i:Int),w.Ac.clock,w.Ac.next,L,A)=some (if R.2.2.2=true then .inr (Ji (Ap.mk t w.Ad R.2.2.1 w.Am)) else .inl ((R.1:Int),w.Ac.clock,w.Ac.next,R.2.1,R.2.2.1)) ∧
  By (Km a w.Ac.Af) ((i:Int),w.Ac.clock,w.Ac.next,L,w.Ad,A,w.Am,a.kind,a.id,a.ttl,a.Db,a.clock,a.Bi,a.stop,(c:Int))=some (if R.2.2.2=true then .inr (Ji (Ap.mk t w.Ad R.2.2.1 w.Am),Ak.mk 15 0) else .inl (w.Ac.clock,w.Ac.next,R.2.1,w.Ad,R.2.2.1,w.Am,a.kind,a.id,a.ttl,a.Db,a.clock,a.Bi,a.stop,(R.1:Int))) ∧
  Fz t∧De R.2.2.1 1 (w.Ac.next-1)∧R.1≤w.Ac.Af.length∧(R.2.2.2=false→a.stop=2→R.1=0):=by
 have h40:=hw.2.2.1
 intro m
 induction m with
 | zero=>
  intro i c L A him hc hT hL hA hs
  have e:w.Ac.Af.drop i=[]:=List.drop_eq_nil_of_le (by omega)
  rw [e]
  refine ⟨Dm ?_,Dm ?_,hT,hA,by simp only [Ep]; omega,fun _ h=>hs h⟩
  ·simp only [Mc,Ep]
   rw [if_neg (by simp; omega)]
   rfl
  ·simp only [Km,Ep]
   rw [if_neg (by simp; omega)]
   rfl
 | succ m ih=>
  intro i c L A him hc hT hL hA hs
  have hlt:i<w.Ac.Af.length:=by omega
  rw [List.drop_eq_getElem_cons hlt]
  have hx:w.Ac.Af[i]∈L:=hL _ (by rw [List.drop_eq_getElem_cons hlt]; exact List.mem_cons_self)
  have hL1:∀x∈w.Ac.Af.drop (i+1),x∈L:=fun x hx=>hL x (by rw [List.drop_eq_getElem_cons hlt]; exact List.mem_cons_of_mem _ hx)
  by_cases hq:w.Ac.Af[i].Cl=true
  ·obtain ⟨c1,c2,c3,c4⟩:=Mu hA (by have:=Qo hw hA; omega) w.Ac.Af[i].id false (Bh a c) (fun h=>by cases h)
   obtain ⟨d1,⟨j,d2,d3⟩,d4⟩:=qZ hT hx hq
   simp only at d1 d2 d3 d4
   have r1:=bQ (v:=Ap.mk (As.mk w.Ac.clock w.Ac.next L) w.Ad A w.Am) (a:=a) (k:=c) (by omega) hA (by have:=Qo hw hA; simp only; omega) w.Ac.Af[i].id false (fun h=>by cases h)
   simp only at r1
   have hT':Fz (As.mk w.Ac.clock w.Ac.next (Gg L w.Ac.Af[i].id (Bw A w.Ac.Af[i].id false (Bh a c)).2)):=by
    unfold Gg; split
    ·exact d4
    ·exact hT
   have hlen:(Gg L w.Ac.Af[i].id (Bw A w.Ac.Af[i].id false (Bh a c)).2).length≤40:=hT'.1.2.2.1
   have hL2:∀x∈w.Ac.Af.drop (i+1),x∈Gg L w.Ac.Af[i].id (Bw A w.Ac.Af[i].id false (Bh a c)).2:=fun x hx=>by
    unfold Gg; split
    ·rw [List.mem_filter]
     refine ⟨hL1 x hx,?_⟩
     obtain ⟨j,hj,rfl⟩:=List.getElem_of_mem hx
     simp only [List.length_drop] at hj
     rw [List.getElem_drop]
     have:=hw.lt (show i+1+j<w.Ac.Af.length by omega) (show i<i+1+j by omega)
     simp; omega
    ·exact hL1 x hx
   have hA':=Qo hw c3
   have spec1:∀K,Mc w a w ((c:Int),(i:Int),w.Ac.clock,w.Ac.next,L,A)=K↔Qz a w (c:Int) (i:Int) (Bw A w.Ac.Af[i].id false (Bh a c)) w.Ac.clock w.Ac.next (Gg L w.Ac.Af[i].id (Bw A w.Ac.Af[i].id false (Bh a c)).2)=K:=fun K=>by
    simp only [Mc]
    rw [if_pos (decide_eq_true (by omega)),Cc hlt]
    simp only [Option.bind_some]
    rw [if_neg (by simp [hq]),fJ]
    simp only [Option.bind_some,c2]
    unfold Gg
    by_cases h0:(Bw A w.Ac.Af[i].id false (Bh a c)).2=0
    ·rw [if_pos (by simp [h0]),if_pos h0,d1]
     rfl
    ·rw [if_neg (by simpa using h0),if_neg h0]
   have impl1:∀K,Km a w.Ac.Af ((i:Int),w.Ac.clock,w.Ac.next,L,w.Ad,A,w.Am,a.kind,a.id,a.ttl,a.Db,a.clock,a.Bi,a.stop,(c:Int))=K↔Rg a (i:Int) ((Bw A w.Ac.Af[i].id false (Bh a c)).2,Dd.mk (Ap.mk (As.mk w.Ac.clock w.Ac.next L) w.Ad (Bw A w.Ac.Af[i].id false (Bh a c)).1 w.Am) a ((c+1:Nat):Int)) w.Ac.clock w.Ac.next (Gg L w.Ac.Af[i].id (Bw A w.Ac.Af[i].id false (Bh a c)).2)=K:=fun K=>by
    simp only [Km]
    rw [if_pos (decide_eq_true (by omega)),Cc hlt]
    simp only [Option.bind_some,Int.toNat_natCast,List.getElem?_eq_getElem hlt]
    rw [if_neg (by simp [hq])]
    rw [show fW (Dd.mk (Ap.mk (As.mk w.Ac.clock w.Ac.next L) w.Ad A w.Am) (Ai.mk a.kind a.id a.ttl a.Db a.clock a.Bi a.stop) (c:Int)) w.Ac.Af[i].id false=_ from r1]
    simp only [Option.bind_some,d2]
    unfold Gg
    by_cases h0:(Bw A w.Ac.Af[i].id false (Bh a c)).2=0
    ·rw [if_pos (by simp [h0]),if_pos h0,d3]
     rfl
    ·rw [if_neg (by simpa using h0),if_neg h0]
   by_cases hst:a.stop=2
   ·have hc0:=hs hst
    subst hc0
    have eR:Ep a (w.Ac.Af[i]::w.Ac.Af.drop (i+1)) 0 L A=(1,Gg L w.Ac.Af[i].id (Bw A w.Ac.Af[i].id false (Bh a 0)).2,(Bw A w.Ac.Af[i].id false (Bh a 0)).1,true):=by simp only [Ep,hq,if_true]; rw [if_pos hst]
    dsimp only
    rw [eR]
    refine ⟨Dm ?_,Dm ?_,hT',c3,by simp only; omega,fun h=>by cases h⟩
    ·rw [spec1]
     simp only [Qz]
     rw [if_pos (by simp [hst]),Qk (Ap.mk (As.mk w.Ac.clock w.Ac.next (Gg L w.Ac.Af[i].id (Bw A w.Ac.Af[i].id false (Bh a 0)).2)) w.Ad (Bw A w.Ac.Af[i].id false (Bh a 0)).1 w.Am) (by simp only; omega) hin (by simp only; omega)]
     rfl
    ·rw [impl1]
     simp only [Rg,mQ,Option.bind_some]
     rw [if_pos (by simp [hst]),Qj (Ap.mk (As.mk w.Ac.clock w.Ac.next (Gg L w.Ac.Af[i].id (Bw A w.Ac.Af[i].id false (Bh a 0)).2)) w.Ad (Bw A w.Ac.Af[i].id false (Bh a 0)).1 w.Am) hin]
     rfl
   ·have eR:Ep a (w.Ac.Af[i]::w.Ac.Af.drop (i+1)) c L A=Ep a (w.Ac.Af.drop (i+1)) (c+1) (Gg L w.Ac.Af[i].id (Bw A w.Ac.Af[i].id false (Bh a c)).2) (Bw A w.Ac.Af[i].id false (Bh a c)).1:=by simp only [Ep,hq,if_true]; rw [if_neg hst]
    dsimp only
    rw [eR]
    obtain ⟨i1,i2,i3⟩:=ih (i+1) (c+1) _ (Bw A w.Ac.Af[i].id false (Bh a c)).1 (by omega) (by omega) hT' hL2 c3 (fun h=>absurd h hst)
    refine ⟨?_,?_,i3⟩
    ·rw [Dp (s':=(((c+1:Nat):Int),((i+1:Nat):Int),w.Ac.clock,w.Ac.next,Gg L w.Ac.Af[i].id (Bw A w.Ac.Af[i].id false (Bh a c)).2,(Bw A w.Ac.Af[i].id false (Bh a c)).1)) ?_]
     ·exact i1
     ·rw [spec1]
      simp only [Qz,Tu]
      rw [if_neg (by simpa using hst),w1 (show c<4611686018427387904 by omega),w1 (show i<4611686018427387904 by omega)]
    ·rw [Dp (s':=(((i+1:Nat):Int),w.Ac.clock,w.Ac.next,Gg L w.Ac.Af[i].id (Bw A w.Ac.Af[i].id false (Bh a c)).2,w.Ad,(Bw A w.Ac.Af[i].id false (Bh a c)).1,w.Am,a.kind,a.id,a.ttl,a.Db,a.clock,a.Bi,a.stop,((c+1:Nat):Int))) ?_]
     ·exact i2
     ·rw [impl1]
      have es:(a.stop==2)=false:=by simpa using hst
      simp only [Rg,Uo,mQ,Option.bind_some,es,cond_false]
      rw [if_neg (by simp),w1 (show i<4611686018427387904 by omega)]
  ·have hq':w.Ac.Af[i].Cl=false:=by simpa using hq
   have eR:Ep a (w.Ac.Af[i]::w.Ac.Af.drop (i+1)) c L A=Ep a (w.Ac.Af.drop (i+1)) c L A:=by simp only [Ep,hq',Bool.false_eq_true,if_false]
   dsimp only
   rw [eR]
   obtain ⟨i1,i2,i3⟩:=ih (i+1) c L A (by omega) (by omega) hT hL1 hA hs
   refine ⟨?_,?_,i3⟩
   ·rw [Dp (s':=((c:Int),((i+1:Nat):Int),w.Ac.clock,w.Ac.next,L,A)) ?_]
    ·exact i1
    ·simp only [Mc]
     rw [if_pos (decide_eq_true (by omega)),Cc hlt]
     simp only [Option.bind_some,Tu]
     rw [if_pos (by simp [hq']),w1 (show i<4611686018427387904 by omega)]
   ·rw [Dp (s':=(((i+1:Nat):Int),w.Ac.clock,w.Ac.next,L,w.Ad,A,w.Am,a.kind,a.id,a.ttl,a.Db,a.clock,a.Bi,a.stop,(c:Int))) ?_]
    ·exact i2
    ·simp only [Km]
     rw [if_pos (decide_eq_true (by omega)),Cc hlt]
     simp only [Option.bind_some,Int.toNat_natCast,List.getElem?_eq_getElem hlt,Uo]
     rw [if_pos (by simp [hq']),w1 (show i<4611686018427387904 by omega)]
theorem kK (w:Ap) (a:Ai) (t:As) (hw:Ie t) (hin:w.Ad.length≤1000) (ht:t.next=w.Ac.next):∀m i c (L:List Ag) (A:List Int),i+m=w.Ad.length→c≤40+i→L.length≤1000→De A 1 (w.Ac.next-1)→(a.stop=2→c=0) →
  let R:=Ew a (w.Ad.drop i) c L A
  By (Jp w a w t.clock t.next t.Af) ((c:Int),(i:Int),L,A)=some (if R.2.2.2=true then .inr (Ji (Ap.mk t R.2.1 R.2.2.1 w.Am)) else .inl (R.2.1,R.2.2.1)) ∧
  By (Iw a w.Ad) ((i:Int),t.clock,t.next,t.Af,L,A,w.Am,a.kind,a.id,a.ttl,a.Db,a.clock,a.Bi,a.stop,(c:Int))=some (if R.2.2.2=true then .inr (Ji (Ap.mk t R.2.1 R.2.2.1 w.Am),Ak.mk 15 0) else .inl (t.clock,t.next,t.Af,R.2.1,R.2.2.1,w.Am,a.kind,a.id,a.ttl,a.Db,a.clock,a.Bi,a.stop,(R.1:Int))) ∧
  De R.2.2.1 1 (w.Ac.next-1):=by
 have h40:=hw.2.2.1
 intro m
 induction m with
 | zero=>
  intro i c L A him hc hLl hA hs
  have e:w.Ad.drop i=[]:=List.drop_eq_nil_of_le (by omega)
  rw [e]
  refine ⟨Dm ?_,Dm ?_,hA⟩
  ·simp only [Jp,Ew]
   rw [if_neg (by simp; omega)]
   rfl
  ·simp only [Iw,Ew]
   rw [if_neg (by simp; omega)]
   rfl
 | succ m ih=>
  intro i c L A him hc hLl hA hs
  have hlt:i<w.Ad.length:=by omega
  rw [List.drop_eq_getElem_cons hlt]
  by_cases hq:w.Ad[i].Jx=true
  ·have hA0:=Qo hw (ht ▸ hA)
   obtain ⟨c1,c2,c3,c4⟩:=Mu hA (by omega) w.Ad[i].Br false (Bh a c) (fun h=>by cases h)
   have hA':=Qo hw (ht ▸ c3)
   have r1:=bQ (v:=Ap.mk t L A w.Am) (a:=a) (k:=c) (by omega) hA (by simp only; omega) w.Ad[i].Br false (fun h=>by cases h)
   simp only at r1
   have hlen:(Hm L w.Ad[i].Br (Bw A w.Ad[i].Br false (Bh a c)).2).length≤1000:=by
    unfold Hm; split
    ·exact Nat.le_trans (List.length_filter_le _ _) hLl
    ·exact hLl
   have spec1:∀K,Jp w a w t.clock t.next t.Af ((c:Int),(i:Int),L,A)=K↔Ra a w t.clock t.next t.Af (c:Int) (i:Int) (Bw A w.Ad[i].Br false (Bh a c)) (Hm L w.Ad[i].Br (Bw A w.Ad[i].Br false (Bh a c)).2)=K:=fun K=>by
    simp only [Jp]
    rw [if_pos (decide_eq_true (by omega)),Cc hlt]
    simp only [Option.bind_some]
    rw [if_neg (by simp [hq]),fJ]
    simp only [Option.bind_some,c2]
    unfold Hm
    by_cases h0:(Bw A w.Ad[i].Br false (Bh a c)).2=0
    ·rw [if_pos (by simp [h0]),if_pos h0,nW _ _ (by omega)]
     rfl
    ·rw [if_neg (by simpa using h0),if_neg h0]
   have impl1:∀K,Iw a w.Ad ((i:Int),t.clock,t.next,t.Af,L,A,w.Am,a.kind,a.id,a.ttl,a.Db,a.clock,a.Bi,a.stop,(c:Int))=K↔Rh a (i:Int) ((Bw A w.Ad[i].Br false (Bh a c)).2,Dd.mk (Ap.mk t L (Bw A w.Ad[i].Br false (Bh a c)).1 w.Am) a ((c+1:Nat):Int)) (Hm L w.Ad[i].Br (Bw A w.Ad[i].Br false (Bh a c)).2)=K:=fun K=>by
    simp only [Iw]
    rw [if_pos (decide_eq_true (by omega)),Cc hlt]
    simp only [Option.bind_some,Int.toNat_natCast,List.getElem?_eq_getElem hlt]
    rw [if_neg (by simp [hq])]
    rw [show fW (Dd.mk (Ap.mk (As.mk t.clock t.next t.Af) L A w.Am) (Ai.mk a.kind a.id a.ttl a.Db a.clock a.Bi a.stop) (c:Int)) w.Ad[i].Br false=_ from r1]
    simp only [Option.bind_some]
    unfold Hm
    by_cases h0:(Bw A w.Ad[i].Br false (Bh a c)).2=0
    ·rw [if_pos (by simp [h0]),if_pos h0,qY _ _ (by omega)]
     rfl
    ·rw [if_neg (by simpa using h0),if_neg h0]
   by_cases hst:a.stop=2
   ·have hc0:=hs hst
    subst hc0
    have eR:Ew a (w.Ad[i]::w.Ad.drop (i+1)) 0 L A=(1,Hm L w.Ad[i].Br (Bw A w.Ad[i].Br false (Bh a 0)).2,(Bw A w.Ad[i].Br false (Bh a 0)).1,true):=by simp only [Ew,hq,if_true]; rw [if_pos hst]
    dsimp only
    rw [eR]
    refine ⟨Dm ?_,Dm ?_,c3⟩
    ·rw [spec1]
     simp only [Ra]
     rw [if_pos (by simp [hst]),Qk (Ap.mk t (Hm L w.Ad[i].Br (Bw A w.Ad[i].Br false (Bh a 0)).2) (Bw A w.Ad[i].Br false (Bh a 0)).1 w.Am) (by simp only; omega) (by simp only; omega) (by simp only; omega)]
     rfl
    ·rw [impl1]
     simp only [Rh,mQ,Option.bind_some]
     rw [if_pos (by simp [hst]),Qj (Ap.mk t (Hm L w.Ad[i].Br (Bw A w.Ad[i].Br false (Bh a 0)).2) (Bw A w.Ad[i].Br false (Bh a 0)).1 w.Am) (by simp only; omega)]
     rfl
   ·have eR:Ew a (w.Ad[i]::w.Ad.drop (i+1)) c L A=Ew a (w.Ad.drop (i+1)) (c+1) (Hm L w.Ad[i].Br (Bw A w.Ad[i].Br false (Bh a c)).2) (Bw A w.Ad[i].Br false (Bh a c)).1:=by simp only [Ew,hq,if_true]; rw [if_neg hst]
    dsimp only
    rw [eR]
    obtain ⟨i1,i2,i3⟩:=ih (i+1) (c+1) _ (Bw A w.Ad[i].Br false (Bh a c)).1 (by omega) (by omega) hlen c3 (fun h=>absurd h hst)
    refine ⟨?_,?_,i3⟩
    ·rw [Dp (s':=(((c+1:Nat):Int),((i+1:Nat):Int),Hm L w.Ad[i].Br (Bw A w.Ad[i].Br false (Bh a c)).2,(Bw A w.Ad[i].Br false (Bh a c)).1)) ?_]
     ·exact i1
     ·rw [spec1]
      simp only [Ra,Tv]
      rw [if_neg (by simpa using hst),w1 (show c<4611686018427387904 by omega),w1 (show i<4611686018427387904 by omega)]
    ·rw [Dp (s':=(((i+1:Nat):Int),t.clock,t.next,t.Af,Hm L w.Ad[i].Br (Bw A w.Ad[i].Br false (Bh a c)).2,(Bw A w.Ad[i].Br false (Bh a c)).1,w.Am,a.kind,a.id,a.ttl,a.Db,a.clock,a.Bi,a.stop,((c+1:Nat):Int))) ?_]
     ·exact i2
     ·rw [impl1]
      have es:(a.stop==2)=false:=by simpa using hst
      simp only [Rh,Up,mQ,Option.bind_some,es,cond_false]
      rw [if_neg (by simp),w1 (show i<4611686018427387904 by omega)]
  ·have hq':w.Ad[i].Jx=false:=by simpa using hq
   have eR:Ew a (w.Ad[i]::w.Ad.drop (i+1)) c L A=Ew a (w.Ad.drop (i+1)) c L A:=by simp only [Ew,hq',Bool.false_eq_true,if_false]
   dsimp only
   rw [eR]
   obtain ⟨i1,i2,i3⟩:=ih (i+1) c L A (by omega) (by omega) hLl hA hs
   refine ⟨?_,?_,i3⟩
   ·rw [Dp (s':=((c:Int),((i+1:Nat):Int),L,A)) ?_]
    ·exact i1
    ·simp only [Jp]
     rw [if_pos (decide_eq_true (by omega)),Cc hlt]
     simp only [Option.bind_some,Tv]
     rw [if_pos (by simp [hq']),w1 (show i<4611686018427387904 by omega)]
   ·rw [Dp (s':=(((i+1:Nat):Int),t.clock,t.next,t.Af,L,A,w.Am,a.kind,a.id,a.ttl,a.Db,a.clock,a.Bi,a.stop,(c:Int))) ?_]
    ·exact i2
    ·simp only [Iw]
     rw [if_pos (decide_eq_true (by omega)),Cc hlt]
     simp only [Option.bind_some,Int.toNat_natCast,List.getElem?_eq_getElem hlt,Up]
     rw [if_pos (by simp [hq']),w1 (show i<4611686018427387904 by omega)]
end Go.Ev
end
section
set_option maxHeartbeats 1000000
namespace Go.Ev
structure Eo (v:Ap):Prop where
 tab:Ie v.Ac
 i40:v.Ad.length≤40
 acc:De v.Aj 1 (v.Ac.next-1)
 its:De (v.Ad.map Ag.Br) 1 (v.Ac.next-1)
 off:∀i∈v.Ad,∀y∈v.Ac.Af,y.id≠i.Br
 nam:∀x∈v.Aj,(∃y∈v.Ac.Af,y.id=x)∨∃i∈v.Ad,i.Br=x
theorem Eo.a {v:Ap} (h:Eo v):v.Aj.length≤1000000:=Qo h.tab h.acc
theorem Eo.t {v:Ap} (h:Eo v):v.Ac.Af.length≤40:=h.tab.2.2.1
structure Inv (v:Ap):Prop where
 right:Eo v
 tab:Fz v.Ac
 und:∀i∈v.Ad,i.Jx=true
theorem Ro {v:Ap} (h:Eo v):Eo (Ji v):=by
 have e:(Ji v).Ad.map Ag.Br=v.Ad.map Ag.Br:=by simp [Ji,Hr]
 refine ⟨h.tab,by simp [Ji,h.i40],h.acc,by rw [e]; exact h.its,fun i hi y hy=>?_,fun x hx=>?_⟩
 ·obtain ⟨j,hj,rfl⟩:=List.mem_map.1 hi
  exact h.off j hj y hy
 ·rcases h.nam x hx with h1 | ⟨i,hi,e⟩
  ·exact .inl h1
  ·exact .inr ⟨Hr i,List.mem_map_of_mem hi,e⟩
theorem Vi {v:Ap} (h:Eo v) (hT:Fz v.Ac):Inv (Ji v):=⟨Ro h,hT,fun i hi=>by
 obtain ⟨j,_,rfl⟩:=List.mem_map.1 hi; rfl⟩
theorem Rp {v:Ap} {t:As} (h:Eo v) (hT:Ie t) (hn:t.next=v.Ac.next) (hi:t.Af.map Aa.id=v.Ac.Af.map Aa.id) (s:Bool):Eo (Ap.mk t v.Ad v.Aj s):=by
 have hm:∀x,(∃y∈t.Af,y.id=x)↔∃y∈v.Ac.Af,y.id=x:=fun x=>by
  rw [←List.mem_map,←List.mem_map,hi]
 refine ⟨hT,h.i40,by simp only [hn]; exact h.acc,by simp only [hn]; exact h.its,fun i hi' y hy e=>?_,fun x hx=>?_⟩
 ·obtain ⟨z,hz,ez⟩:=(hm i.Br).1 ⟨y,hy,e⟩
  exact h.off i hi' z hz ez
 ·rcases h.nam x hx with h1 | h1
  ·exact .inl ((hm x).2 h1)
  ·exact .inr h1
def Ze (v:Ap) (a:Ai) (r:Ap×Ak):Prop:=
 ((r.2.code_≠0∧r.2.code_≠15∧r.2.code_≠13)→r.1=v)∧(r.1.Ac.Af.length≤1048576∧r.1.Ad.length≤1048576∧r.1.Aj.length≤1048576) ∧
  ((∀i∈v.Ad,i.Jx=true)→Zd a→Inv r.1)
theorem Rn {v:Ap} (h:Eo v) (hT:Fz v.Ac) (a:Ai) (c n:Int):Ze v a (v,Ak.mk c n):=
 ⟨fun _=>rfl,⟨by have:=h.t; simp only; omega,by have:=h.i40; simp only; omega,by have:=h.a; simp only; omega⟩,fun hu _=>⟨h,hT,hu⟩⟩
theorem Jn {v:Ap} (h1:v.Ac.Af.length≤1048576) (h2:v.Ad.length≤1048576) (h3:v.Aj.length≤1048576):Zz v=some v:=by
 simp only [Zz,Kj v.Ac h1,Option.bind_some]
 rw [if_pos (by simp; omega),if_pos (by simp; omega)]
 rfl
theorem own_eq {v:Ap} (h1:v.Ac.Af.length≤1048576) (h2:v.Ad.length≤1048576) (h3:v.Aj.length≤1048576):g463 v=some v:=by
 have e:lW v.Aj=some v.Aj:=by unfold lW; rw [if_pos (by simp; omega)]
 simp only [g463,Qx v.Ac h1,pE v.Ad h2,e,Option.bind_some]
theorem mU {t:As} (h:Ie t) (x y:Int):∃r s,g70 t x y=some r∧g71 t x y=some s∧s.2=r.2∧((r.1=t∧r.2.2≠0) ∨
  (s=r∧r.2.2=0∧r.2.1=t.next∧t.next+1≤1000000∧t.Af.length≤39∧∃l:Aa,l.id=t.next∧r.1=As.mk t.clock (t.next+1) (t.Af++[l]))):=by
 have hl:=h.2.2.1
 have hn:=h.2.1
 simp only [g70,g71]
 split
 ·exact ⟨_,_,rfl,rfl,rfl,.inl ⟨rfl,by simp⟩⟩
 ·split
  ·exact ⟨_,_,rfl,rfl,rfl,.inl ⟨rfl,by simp⟩⟩
  ·simp only [Cd]
   split
   ·exact ⟨_,_,rfl,rfl,rfl,.inl ⟨rfl,by simp⟩⟩
   ·rename_i hf
    have hf1:t.Af.length≠40:=fun e0=>hf (by rw [e0]; rfl)
    have hf2:t.next≠1000000:=fun e0=>hf (by rw [e0]; cases ((t.Af.length:Int)==40)<;>rfl)
    obtain ⟨p,e1,e2⟩:=mR t.clock x
    obtain ⟨q,e3,e4⟩:=mR t.clock y
    rw [Kj t (by omega),Qx t (by omega)]
    simp only [e1,e2,e3,e4,Option.bind_some]
    rw [if_pos (by simp; omega)]
    exact ⟨_,_,rfl,rfl,rfl,.inr ⟨rfl,rfl,rfl,by omega,by omega,_,rfl,by rw [wr ⟨by omega,by omega⟩]⟩⟩
theorem DY {v:Ap} (h:Eo v) (hn:v.Ac.next+1≤1000000) (hi:v.Ad.length≠40) (A:List Int) (hA:De A 1 v.Ac.next) (hs:∀x∈A,x∈v.Aj∨x=v.Ac.next) (b s:Bool):
  Eo (Ap.mk (As.mk v.Ac.clock (v.Ac.next+1) v.Ac.Af) (v.Ad++[Ag.mk v.Ac.next b]) A s):=by
 have h40:=h.i40
 have hn1:=h.tab.2.1
 have hT:Ie (As.mk v.Ac.clock (v.Ac.next+1) v.Ac.Af):=by
  refine ⟨h.tab.1,by simp only; omega,h.tab.2.2.1,fun k x hx=>?_⟩
  obtain ⟨a1,a2,a3,a4,a5⟩:=h.tab.2.2.2 k x hx
  exact ⟨by simp only; omega,a2,a3,a4,a5⟩
 refine ⟨hT,by simp; omega,by simp only; rw [show v.Ac.next+1-1=v.Ac.next by omega]; exact hA,?_,fun i hi' y hy=>?_,fun x hx=>?_⟩
 ·simp only [List.map_append,List.map_cons,List.map_nil]
  refine Yw (fun x hx=>?_) ?_
  ·rcases List.mem_append.1 hx with hx | hx
   ·have:=h.its.mem hx; omega
   ·simp only [List.mem_singleton] at hx; omega
  ·rw [List.pairwise_append]
   refine ⟨gP h.its,List.pairwise_singleton _ _,fun x hx y hy=>?_⟩
   have:=h.its.mem hx
   simp only [List.mem_singleton] at hy
   omega
 ·simp only at hi' hy
  rcases List.mem_append.1 hi' with hi' | hi'
  ·exact h.off i hi' y hy
  ·simp only [List.mem_singleton] at hi'; subst hi'
   obtain ⟨k,hk,rfl⟩:=List.getElem_of_mem hy
   have:=(h.tab.at hk).1
   simp only; omega
 ·rcases hs x hx with hx | rfl
  ·rcases h.nam x hx with h1 | ⟨i,hi,e⟩
   ·exact .inl h1
   ·exact .inr ⟨i,List.mem_append_left _ hi,e⟩
  ·exact .inr ⟨Ag.mk v.Ac.next b,by simp,rfl⟩
theorem mY {v:Ap} {a:Ai} (hr:Eo v) (hT:Fz v.Ac) (hk:a.kind=1):∃r,rK v a=some r∧g465 v a=some r∧Ze v a r:=by
 obtain ⟨r1,u1,e1,e2,e3,hc⟩:=mU hr.tab a.ttl a.Db
 have h40:=hr.t
 have hi40:=hr.i40
 have ha:=hr.a
 have hn1:=hr.tab.2.1
 have tabf:Zd a→Fz r1.1:=fun hf=>by
  obtain ⟨r',e',t'⟩:=rU hT _ _ (hf.1 hk)
  rw [e1] at e'; cases e'; exact t'
 simp only [rK,g465,e1,e2,e3,Option.bind_some]
 have ref:∀c,c≠0→∃r,Jo v a r1 c=some r∧Kl v a u1 c=some r∧Ze v a r:=fun c h0=>⟨(v,Ak.mk c 0),by simp [Jo,h0],by simp [Kl,h0,cN],Rn hr hT a c 0⟩
 rcases hc with ⟨_,n0⟩ | ⟨hur,c0,cid,cn,cl,l,lid,lt⟩
 ·have:(bif (r1.2.2==0) then ((v.Ad.length:Int)==40) else false)=false:=by simp [n0]
  rw [this]
  simp only [Bool.false_eq_true,if_false]
  exact ref _ n0
 ·subst hur
  by_cases hf:v.Ad.length=40
  ·have:(bif (u1.2.2==0) then ((v.Ad.length:Int)==40) else false)=true:=by simp [c0,hf]
   rw [this]
   simp only [if_true]
   exact ref 9 (by decide)
  ·have:(bif (u1.2.2==0) then ((v.Ad.length:Int)==40) else false)=false:=by simp [c0]; omega
   rw [this]
   simp only [Bool.false_eq_true,if_false]
   obtain ⟨rt,rid,rc⟩:=u1
   simp only at c0 cid lt tabf
   subst c0 cid
   have hw:IntKind.i64.wrap (v.Ac.next+1)=v.Ac.next+1:=wr ⟨by omega,by omega⟩
   have hrn:rt.next=v.Ac.next+1:=by rw [lt]
   have hA:De v.Aj 1 v.Ac.next:=hr.acc.mono (by omega)
   obtain ⟨c1,c2,c3,c4⟩:=Mu hA (by omega) v.Ac.next true (Bh a 0) (fun _=>⟨by omega,by omega⟩)
   have hA2:(Bw v.Aj v.Ac.next true (Bh a 0)).1.length≤1000000:=by
    have:=c3.len (by omega); omega
   have f0:mA a 0=some (Bh a 0):=fJ a 0
   have hsub:∀x∈(Bw v.Aj v.Ac.next true (Bh a 0)).1,x∈v.Aj∨x=v.Ac.next:=fun x hx=>by
    rcases c4 with ⟨_,e,_⟩ | ⟨_,_,hm⟩
    ·rw [e] at hx; exact .inl hx
    ·simpa using (hm x).1 hx
   have r1:fW (Dd.mk (Ap.mk (As.mk v.Ac.clock (v.Ac.next+1) v.Ac.Af) (v.Ad++[Ag.mk v.Ac.next false]) v.Aj v.Am) a 0) v.Ac.next true=some ((Bw v.Aj v.Ac.next true (Bh a 0)).2,Dd.mk (Ap.mk (As.mk v.Ac.clock (v.Ac.next+1) v.Ac.Af) (v.Ad++[Ag.mk v.Ac.next false]) (Bw v.Aj v.Ac.next true (Bh a 0)).1 v.Am) a 1):=
    bQ (v:=Ap.mk (As.mk v.Ac.clock (v.Ac.next+1) v.Ac.Af) (v.Ad++[Ag.mk v.Ac.next false]) v.Aj v.Am) (a:=a) (k:=0) (by omega) hA (by simp only; omega) v.Ac.next true (fun _=>⟨by omega,by omega⟩)
   have hlen:(v.Ad++[Ag.mk v.Ac.next false]).length=v.Ad.length+1:=by simp
   have hwl:IntKind.i64.wrap (((v.Ad++[Ag.mk v.Ac.next false]).length:Int)-1)=(v.Ad.length:Int):=by rw [hlen,wr ⟨by omega,by omega⟩]; omega
   have hT1:Fz (As.mk v.Ac.clock (v.Ac.next+1) v.Ac.Af):=EW hT cn
   have cap:(v.Ad.length+([Ag.mk v.Ac.next false]:List Ag).length)*16≤140737488355328:=by simp; omega
   have ecp:=Jn (v:=v) (by omega) (by omega) (by omega)
   by_cases s1:a.stop=1
   ·have q1:=Qk (Ap.mk (As.mk v.Ac.clock (v.Ac.next+1) v.Ac.Af) (v.Ad++[Ag.mk v.Ac.next false]) v.Aj v.Am) (by simp only; omega) (by simp; omega) (by simp only; omega)
    have q2:=Qj (Ap.mk (As.mk v.Ac.clock (v.Ac.next+1) v.Ac.Af) (v.Ad++[Ag.mk v.Ac.next false]) v.Aj v.Am) (by simp; omega)
    refine ⟨(Ji (Ap.mk (As.mk v.Ac.clock (v.Ac.next+1) v.Ac.Af) (v.Ad++[Ag.mk v.Ac.next false]) v.Aj v.Am),Ak.mk 15 0),?_,?_,fun h=>absurd rfl h.2.1,⟨by simp [Ji]; omega,by simp [Ji]; omega,by simp [Ji]; omega⟩,fun _ _=>Vi (DY hr cn hf v.Aj hA (fun x hx=>.inl hx) false v.Am) hT1⟩
    ·simp only [Jo,ecp,Option.bind_some,hrn,s1]
     rw [if_neg (by simp),if_pos cap,if_pos (by simp),q1]
     rfl
    ·simp only [Kl,hw,s1]
     rw [if_neg (by simp),if_pos cap,if_pos (by simp),q2]
     rfl
   ·have s1':¬(a.stop==1)=true:=by simpa using s1
    by_cases s2:a.stop=2
    ·have s2':(a.stop==2)=true:=by simpa using s2
     have q1:=Qk (Ap.mk (As.mk v.Ac.clock (v.Ac.next+1) v.Ac.Af) (v.Ad++[Ag.mk v.Ac.next false]) (Bw v.Aj v.Ac.next true (Bh a 0)).1 v.Am) (by simp only; omega) (by simp; omega) (by simp only; omega)
     have q2:=Qj (Ap.mk (As.mk v.Ac.clock (v.Ac.next+1) v.Ac.Af) (v.Ad++[Ag.mk v.Ac.next false]) (Bw v.Aj v.Ac.next true (Bh a 0)).1 v.Am) (by simp; omega)
     refine ⟨(Ji (Ap.mk (As.mk v.Ac.clock (v.Ac.next+1) v.Ac.Af) (v.Ad++[Ag.mk v.Ac.next false]) (Bw v.Aj v.Ac.next true (Bh a 0)).1 v.Am),Ak.mk 15 0),?_,?_,fun h=>absurd rfl h.2.1,⟨by simp [Ji]; omega,by simp [Ji]; omega,by simp [Ji]; omega⟩,fun _ _=>Vi (DY hr cn hf _ c3 hsub false v.Am) hT1⟩
     ·simp only [Jo,ecp,Option.bind_some,hrn,f0,c2]
      rw [if_neg (by simp),if_pos cap,if_neg s1',if_pos s2',q1]
      rfl
     ·simp only [Kl,hw,r1,Option.bind_some]
      rw [if_neg (by simp),if_pos cap,if_neg s1',if_pos s2',q2]
      rfl
    ·have s2':¬(a.stop==2)=true:=by simpa using s2
     by_cases h0:(Bw v.Aj v.Ac.next true (Bh a 0)).2=0
     ·have h0':¬((Bw v.Aj v.Ac.next true (Bh a 0)).2 != 0)=true:=by simp [h0]
      have hs:=slcK (v.Ad++[Ag.mk v.Ac.next false]) 0 v.Ad.length (by omega) (by omega)
      rw [show ((0:Nat):Int)=0 from rfl] at hs
      have et:List.drop 0 (List.take v.Ad.length (v.Ad++[Ag.mk v.Ac.next false]))=v.Ad:=by simp
      rw [et] at hs
      refine ⟨(Ap.mk rt v.Ad (Bw v.Aj v.Ac.next true (Bh a 0)).1 v.Am,Ak.mk 0 v.Ac.next),?_,?_,fun h=>absurd rfl h.1,⟨by simp only [lt]; simp; omega,by simp only; omega,by simp only; omega⟩,fun hu hfit=>⟨?_,tabf hfit,hu⟩⟩
      ·simp only [Jo,ecp,Option.bind_some,hrn,f0,c2,hwl]
       rw [if_neg (by simp),if_pos cap,if_neg s1',if_neg s2',if_neg h0',hs]
       rfl
      ·simp only [Kl,hw,r1,Option.bind_some,hwl]
       rw [if_neg (by simp),if_pos cap,if_neg s1',if_neg s2',if_neg h0',hs]
       rfl
      ·refine ⟨(tabf hfit).1,hi40,by simp only [hrn]; rw [show v.Ac.next+1-1=v.Ac.next by omega]; exact c3,by simp only [hrn]; exact hr.its.mono (by omega),fun i hi y hy=>?_,fun x hx=>?_⟩
       ·simp only [lt] at hy
        rcases List.mem_append.1 hy with hy | hy
        ·exact hr.off i hi y hy
        ·simp only [List.mem_singleton] at hy; subst hy
         have:=hr.its.mem (List.mem_map_of_mem hi)
         omega
       ·simp only [lt]
        rcases hsub x hx with hx | rfl
        ·rcases hr.nam x hx with ⟨y,hy,e⟩ | h1
         ·exact .inl ⟨y,List.mem_append_left _ hy,e⟩
         ·exact .inr h1
        ·exact .inl ⟨l,by simp,lid⟩
     ·have h0':((Bw v.Aj v.Ac.next true (Bh a 0)).2 != 0)=true:=by simpa using h0
      have il:=Cc (show v.Ad.length<(v.Ad++[Ag.mk v.Ac.next false]).length by omega)
      have gl:=List.getElem?_eq_getElem (show v.Ad.length<(v.Ad++[Ag.mk v.Ac.next false]).length by omega)
      have el:(v.Ad++[Ag.mk v.Ac.next false])[v.Ad.length]'(by omega)=Ag.mk v.Ac.next false:=by simp
      rw [el] at il gl
      have es:(v.Ad++[Ag.mk v.Ac.next false]).set v.Ad.length (Ag.mk v.Ac.next true)=v.Ad++[Ag.mk v.Ac.next true]:=by simp [List.set_append]
      refine ⟨(Ap.mk (As.mk v.Ac.clock (v.Ac.next+1) v.Ac.Af) (v.Ad++[Ag.mk v.Ac.next true]) (Bw v.Aj v.Ac.next true (Bh a 0)).1 v.Am,Ak.mk (Bw v.Aj v.Ac.next true (Bh a 0)).2 0),?_,?_,fun h=>?_,⟨by simp only; omega,by simp; omega,by simp only; omega⟩,fun hu _=>⟨DY hr cn hf _ c3 hsub true v.Am,hT1,fun i hi=>?_⟩⟩
      ·simp only [Jo,ecp,Option.bind_some,hrn,f0,c2,hwl]
       rw [if_neg (by simp),if_pos cap,if_neg s1',if_neg s2',if_pos h0',il]
       simp only [Option.bind_some,Int.toNat_natCast,gl,es]
      ·simp only [Kl,hw,r1,Option.bind_some,hwl]
       rw [if_neg (by simp),if_pos cap,if_neg s1',if_neg s2',if_pos h0',il]
       simp only [Option.bind_some,Int.toNat_natCast,gl,es,cN]
      ·exfalso
       simp only at h
       rcases c4 with ⟨e,_,_⟩ | ⟨_,e,_⟩
       ·exact h.2.2 e
       ·rw [e] at h
        unfold Mj at h
        split at h
        ·exact h.2.1 rfl
        ·exact h.1 rfl
      ·simp only at hi
       rcases List.mem_append.1 hi with hi | hi
       ·exact hu i hi
       ·simp only [List.mem_singleton] at hi; subst hi; rfl
theorem pP {t:As} {k:Nat} (hk:k<t.Af.length) (v:Aa) (h:v.id=t.Af[k].id):(t.Af.set k v).map Aa.id=t.Af.map Aa.id:=by
 apply List.ext_getElem
 ·simp
 ·intro j h1 h2
  simp only [List.getElem_map,List.getElem_set]
  split
  ·rename_i e; subst e; exact h
  ·rfl
theorem kB {t:As} (h:Ie t) (x:Int):∃r s,g74 t x=some r∧g75 t x=some s∧s.2=r.2∧(r.2=0→s=r)∧r.1.next=t.next∧r.1.Af.map Aa.id=t.Af.map Aa.id:=by
 have hl:=h.2.2.1
 obtain ⟨n,h1,h2⟩:=Wj t x (by omega)
 obtain ⟨i,b,h3,h4,h5⟩:=mS t h x n h2
 simp only [g74,g75,h1,h3,Option.bind_some]
 cases b with
 | false=>
  have:=h5 rfl; subst this
  exact ⟨_,_,rfl,rfl,rfl,(fun h=>by simp at h),rfl,rfl⟩
 | true=>
  obtain ⟨rfl,hn⟩:=h4 rfl
  rcases h2 with ⟨rfl,_⟩ | ⟨k,hk,rfl,_⟩
  ·omega
  ·rw [if_neg (by simp),if_neg (by simp),Kj t (by omega),Qx t (by omega)]
   simp only [Option.bind_some,Cc hk,Int.toNat_natCast,List.getElem?_eq_getElem hk]
   exact ⟨_,_,rfl,rfl,rfl,fun _=>rfl,rfl,pP hk _ rfl⟩
theorem nI {t:As} (h:Ie t) (x c:Int):∃r s,g79 t x c=some r∧g80 t x c=some s∧s.2=r.2∧(r.2=0→s=r)∧r.1.next=t.next∧r.1.Af.map Aa.id=t.Af.map Aa.id:=by
 have hl:=h.2.2.1
 obtain ⟨n,h1,h2⟩:=Wj t x (by omega)
 obtain ⟨i,b,h3,h4,h5⟩:=mS t h x n h2
 simp only [g79,g80,h1,h3,Option.bind_some]
 by_cases hb:c<1
 ·simp only [decide_eq_true hb,if_true]
  exact ⟨_,_,rfl,rfl,rfl,(fun h=>by simp at h),rfl,rfl⟩
 ·simp only [decide_eq_false hb,if_neg (show ¬(false=true) by decide)]
  cases b with
  | false=>
   have:=h5 rfl; subst this
   exact ⟨_,_,rfl,rfl,rfl,(fun h=>by simp at h),rfl,rfl⟩
  | true=>
   obtain ⟨rfl,hn⟩:=h4 rfl
   rcases h2 with ⟨rfl,_⟩ | ⟨k,hk,rfl,_⟩
   ·omega
   ·rw [if_neg (by simp),if_neg (by simp),Cc hk]
    simp only [Option.bind_some]
    by_cases hq:t.Af[k].Cl=true
    ·rw [if_pos hq,if_pos hq]
     exact ⟨_,_,rfl,rfl,rfl,(fun h=>by simp at h),rfl,rfl⟩
    ·rw [if_neg hq,if_neg hq,Kj t (by omega),Qx t (by omega)]
     obtain ⟨x,e3,e4⟩:=mR t.clock c
     simp only [Option.bind_some,Cc hk,Int.toNat_natCast,List.getElem?_eq_getElem hk,e3,e4,Cd]
     have:(if x<t.Af[k].cap then x else t.Af[k].cap)=(if t.Af[k].cap<x then t.Af[k].cap else x):=by
      split<;>split<;>omega
     rw [this]
     exact ⟨_,_,rfl,rfl,rfl,fun _=>rfl,rfl,pP hk _ rfl⟩
theorem eO {v:Ap} (hr:Eo v) (hT:Fz v.Ac) (a:Ai) (r u:As×Int) (hu2:u.2=r.2) (hur:r.2=0→u=r) (hn:r.1.next=v.Ac.next) (hi:r.1.Af.map Aa.id=v.Ac.Af.map Aa.id) (hf:Zd a→Fz r.1):
  ∃x,Gn v r.2 r.1.clock r.1.next r.1.Af v.Ad v.Aj v.Am=some x∧DS v u.1 u.2=some x∧Ze v a x:=by
 simp only [Gn,DS,cN,Option.bind_some,hu2]
 by_cases h0:r.2=0
 ·rw [if_neg (by simp [h0]),if_neg (by simp [h0])]
  rw [hur h0]
  have hl:r.1.Af.length=v.Ac.Af.length:=by simpa using congrArg List.length hi
  have:=hr.t
  have:=hr.i40
  have:=hr.a
  exact ⟨_,rfl,rfl,fun h=>absurd rfl h.1,⟨by simp only; omega,by simp only; omega,by simp only; omega⟩,fun hu hfit=>⟨Rp hr (hf hfit).1 hn hi _,hf hfit,hu⟩⟩
 ·rw [if_pos (by simpa using h0),if_pos (by simpa using h0)]
  exact ⟨_,rfl,rfl,Rn hr hT a _ _⟩
theorem kN (a:Ai) {M:Int} (hM:M≤1000000) (hM0:0≤M):∀(r:List Aa) (c:Nat) (L:List Aa) (A:List Int),De A 1 M →
  (∀y∈(Ep a r c L A).2.1,y∈L)∧∀y∈(Ep a r c L A).2.2.1,y∈A∧((∃z∈L,z.id=y)→∃z∈(Ep a r c L A).2.1,z.id=y):=by
 intro r
 induction r with
 | nil=>intro c L A hA; exact ⟨fun y hy=>hy,fun y hy=>⟨hy,fun h=>h⟩⟩
 | cons x r ih=>
  intro c L A hA
  by_cases hq:x.Cl=true
  ·have hlen:A.length≤1000000:=by have:=hA.len hM0; omega
   obtain ⟨c1,c2,c3,c4⟩:=Mu hA (by omega) x.id false (Bh a c) (fun h=>by cases h)
   have hL:∀y∈Gg L x.id (Bw A x.id false (Bh a c)).2,y∈L:=fun y hy=>by
    unfold Gg at hy
    split at hy
    ·exact (List.mem_filter.1 hy).1
    ·exact hy
   have hN:∀y∈(Bw A x.id false (Bh a c)).1,y∈A∧((∃z∈L,z.id=y)→∃z∈Gg L x.id (Bw A x.id false (Bh a c)).2,z.id=y):=fun y hy=>by
    rcases c4 with ⟨e1,e2,_⟩ | ⟨_,e1,hm⟩
    ·rw [e2] at hy
     refine ⟨hy,fun h=>?_⟩
     unfold Gg
     rw [if_neg (by rw [e1]; decide)]
     exact h
    ·have hy':y∈A∧y≠x.id:=by simpa using (hm y).1 hy
     refine ⟨hy'.1,fun ⟨z,hz,e⟩=>⟨z,?_,e⟩⟩
     unfold Gg
     split
     ·rw [List.mem_filter]
      exact ⟨hz,by simp; rw [e]; exact hy'.2⟩
     ·exact hz
   by_cases hs:a.stop=2
   ·have eR:Ep a (x::r) c L A=(c+1,Gg L x.id (Bw A x.id false (Bh a c)).2,(Bw A x.id false (Bh a c)).1,true):=by simp only [Ep,hq,if_true]; rw [if_pos hs]
    rw [eR]
    exact ⟨hL,hN⟩
   ·have eR:Ep a (x::r) c L A=Ep a r (c+1) (Gg L x.id (Bw A x.id false (Bh a c)).2) (Bw A x.id false (Bh a c)).1:=by simp only [Ep,hq,if_true]; rw [if_neg hs]
    rw [eR]
    obtain ⟨i1,i2⟩:=ih (c+1) (Gg L x.id (Bw A x.id false (Bh a c)).2) _ c3
    exact ⟨fun y hy=>hL y (i1 y hy),fun y hy=>⟨(hN y (i2 y hy).1).1,fun h=>(i2 y hy).2 ((hN y (i2 y hy).1).2 h)⟩⟩
  ·have eR:Ep a (x::r) c L A=Ep a r c L A:=by simp only [Ep,hq,if_false]; rfl
   rw [eR]
   exact ih c L A hA
theorem kL (a:Ai) {M:Int} (hM:M≤1000000) (hM0:0≤M):∀(r:List Ag) (c:Nat) (L:List Ag) (A:List Int),De A 1 M →
  (Ew a r c L A).2.1.Sublist L∧∀y∈(Ew a r c L A).2.2.1,y∈A∧((∃z∈L,z.Br=y)→∃z∈(Ew a r c L A).2.1,z.Br=y):=by
 intro r
 induction r with
 | nil=>intro c L A hA; exact ⟨List.Sublist.refl _,fun y hy=>⟨hy,fun h=>h⟩⟩
 | cons x r ih=>
  intro c L A hA
  by_cases hq:x.Jx=true
  ·have hlen:A.length≤1000000:=by have:=hA.len hM0; omega
   obtain ⟨c1,c2,c3,c4⟩:=Mu hA (by omega) x.Br false (Bh a c) (fun h=>by cases h)
   have hL:(Hm L x.Br (Bw A x.Br false (Bh a c)).2).Sublist L:=by
    unfold Hm
    split
    ·exact List.filter_sublist
    ·exact List.Sublist.refl _
   have hN:∀y∈(Bw A x.Br false (Bh a c)).1,y∈A∧((∃z∈L,z.Br=y)→∃z∈Hm L x.Br (Bw A x.Br false (Bh a c)).2,z.Br=y):=fun y hy=>by
    rcases c4 with ⟨e1,e2,_⟩ | ⟨_,e1,hm⟩
    ·rw [e2] at hy
     refine ⟨hy,fun h=>?_⟩
     unfold Hm
     rw [if_neg (by rw [e1]; decide)]
     exact h
    ·have hy':y∈A∧y≠x.Br:=by simpa using (hm y).1 hy
     refine ⟨hy'.1,fun ⟨z,hz,e⟩=>⟨z,?_,e⟩⟩
     unfold Hm
     split
     ·rw [List.mem_filter]
      exact ⟨hz,by simp; rw [e]; exact hy'.2⟩
     ·exact hz
   by_cases hs:a.stop=2
   ·have eR:Ew a (x::r) c L A=(c+1,Hm L x.Br (Bw A x.Br false (Bh a c)).2,(Bw A x.Br false (Bh a c)).1,true):=by simp only [Ew,hq,if_true]; rw [if_pos hs]
    rw [eR]
    exact ⟨hL,hN⟩
   ·have eR:Ew a (x::r) c L A=Ew a r (c+1) (Hm L x.Br (Bw A x.Br false (Bh a c)).2) (Bw A x.Br false (Bh a c)).1:=by simp only [Ew,hq,if_true]; rw [if_neg hs]
    rw [eR]
    obtain ⟨i1,i2⟩:=ih (c+1) (Hm L x.Br (Bw A x.Br false (Bh a c)).2) _ c3
    exact ⟨i1.trans hL,fun y hy=>⟨(hN y (i2 y hy).1).1,fun h=>(i2 y hy).2 ((hN y (i2 y hy).1).2 h)⟩⟩
  ·have eR:Ew a (x::r) c L A=Ew a r c L A:=by simp only [Ew,hq,if_false]; rfl
   rw [eR]
   exact ih c L A hA
noncomputable def Ct (w:Ap) (a:Ai):Nat×List Aa×List Int×Bool:=Ep a w.Ac.Af 0 w.Ac.Af w.Aj
noncomputable def Em (w:Ap) (a:Ai):Nat×List Ag×List Int×Bool:=Ew a w.Ad (Ct w a).1 w.Ad (Ct w a).2.2.1
noncomputable def Lt (w:Ap) (a:Ai):As:=As.mk w.Ac.clock w.Ac.next (Ct w a).2.1
noncomputable def Ft (w:Ap) (a:Ai):Ap×Bool:=
 if (Ct w a).2.2.2=true then (Ji (Ap.mk (Lt w a) w.Ad (Ct w a).2.2.1 w.Am),true)
 else if (Em w a).2.2.2=true then (Ji (Ap.mk (Lt w a) (Em w a).2.1 (Em w a).2.2.1 w.Am),true)
 else (Ap.mk (Lt w a) (Em w a).2.1 (Em w a).2.2.1 w.Am,false)
theorem Tg {w:Ap} (a:Ai) (hr:Eo w) (hT:Fz w.Ac):
  lX w a=some (Ft w a).1 ∧
  ((By (Km a w.Ac.Af) (0,w.Ac.clock,w.Ac.next,w.Ac.Af,w.Ad,w.Aj,w.Am,a.kind,a.id,a.ttl,a.Db,a.clock,a.Bi,a.stop,0)).bind fun r182=>(match r182 with
   | .inl (p108,p109,p110,p111,p112,p113,p114,p115,p116,p117,p118,p119,p120,p121)=>(mP p111).bind fun r184=>
    (By (Iw a r184) (0,p108,p109,p110,p111,p112,p113,p114,p115,p116,p117,p118,p119,p120,p121)).bind fun r344=>(match r344 with
    | .inl (p278,p279,p280,p281,p282,p283,p284,p285,p286,p287,p288,p289,p290,p291)=>some ((Ap.mk (As.mk p278 p279 p280) p281 p282 p283),(Ak.mk 0 0))
    | .inr q=>some q)
   | .inr q=>some q))=some ((Ft w a).1,Ak.mk (if (Ft w a).2=true then 15 else 0) 0) ∧
  Eo (Ft w a).1∧Fz (Ft w a).1.Ac∧((∀i∈w.Ad,i.Jx=true)→∀i∈(Ft w a).1.Ad,i.Jx=true)∧((Ft w a).2=true→(Ft w a).1.Am=true)∧((Ft w a).2=false→(Ft w a).1.Am=w.Am):=by
 have h40:=hr.t
 have hi40:=hr.i40
 have hn1:=hr.tab.2.1
 obtain ⟨l1,l2,l3,l4,l5,l6⟩:=kM w a hr.tab (by omega) w.Ac.Af.length 0 0 w.Ac.Af w.Aj (by omega) (Nat.le_refl _) hT (fun x hx=>by simpa using hx) hr.acc (fun _=>rfl)
 simp only [List.drop_zero] at l1 l2 l3 l4 l5 l6
 change By (Mc w a w) (0,0,w.Ac.clock,w.Ac.next,w.Ac.Af,w.Aj)=some (if (Ct w a).2.2.2=true then .inr (Ji (Ap.mk (Lt w a) w.Ad (Ct w a).2.2.1 w.Am)) else .inl (((Ct w a).1:Int),w.Ac.clock,w.Ac.next,(Ct w a).2.1,(Ct w a).2.2.1)) at l1
 change By (Km a w.Ac.Af) (0,w.Ac.clock,w.Ac.next,w.Ac.Af,w.Ad,w.Aj,w.Am,a.kind,a.id,a.ttl,a.Db,a.clock,a.Bi,a.stop,0)=some (if (Ct w a).2.2.2=true then .inr (Ji (Ap.mk (Lt w a) w.Ad (Ct w a).2.2.1 w.Am),Ak.mk 15 0) else .inl (w.Ac.clock,w.Ac.next,(Ct w a).2.1,w.Ad,(Ct w a).2.2.1,w.Am,a.kind,a.id,a.ttl,a.Db,a.clock,a.Bi,a.stop,((Ct w a).1:Int))) at l2
 change Fz (Lt w a) at l3
 change De (Ct w a).2.2.1 1 (w.Ac.next-1) at l4
 change (Ct w a).1≤w.Ac.Af.length at l5
 change (Ct w a).2.2.2=false→a.stop=2→(Ct w a).1=0 at l6
 obtain ⟨p1,p2⟩:=kN a (M:=w.Ac.next-1) (by omega) (by omega) w.Ac.Af 0 w.Ac.Af w.Aj hr.acc
 change ∀y∈(Ct w a).2.1,y∈w.Ac.Af at p1
 change ∀y∈(Ct w a).2.2.1,y∈w.Aj∧((∃z∈w.Ac.Af,z.id=y)→∃z∈(Ct w a).2.1,z.id=y) at p2
 have rA:∀s,Eo (Ap.mk (Lt w a) w.Ad (Ct w a).2.2.1 s):=fun s=>⟨l3.1,hr.i40,l4,hr.its,fun i hi y hy=>hr.off i hi y (p1 y hy),fun x hx=>by
  rcases hr.nam x (p2 x hx).1 with h1 | h1
  ·exact .inl ((p2 x hx).2 h1)
  ·exact .inr h1⟩
 by_cases hb:(Ct w a).2.2.2=true
 ·have e:Ft w a=(Ji (Ap.mk (Lt w a) w.Ad (Ct w a).2.2.1 w.Am),true):=by unfold Ft; rw [if_pos hb]
  rw [if_pos hb] at l1 l2
  rw [e]
  refine ⟨?_,?_,Ro (rA _),l3,fun _=>(Vi (rA w.Am) l3).und,fun _=>rfl,fun h=>by cases h⟩
  ·simp only [lX,Jn (v:=w) (by omega) (by omega) (by have:=hr.a; omega),Option.bind_some,l1]
  ·simp only [l2,Option.bind_some]
   rfl
 ·rw [if_neg hb] at l1 l2
  have hb':(Ct w a).2.2.2=false:=by simpa using hb
  obtain ⟨m1,m2,m3⟩:=kK w a (Lt w a) l3.1 (by omega) rfl w.Ad.length 0 (Ct w a).1 w.Ad (Ct w a).2.2.1 (by omega) (by omega) (by omega) l4 (l6 hb')
  simp only [List.drop_zero] at m1 m2 m3
  change By (Jp w a w (Lt w a).clock (Lt w a).next (Lt w a).Af) (((Ct w a).1:Int),0,w.Ad,(Ct w a).2.2.1)=some (if (Em w a).2.2.2=true then .inr (Ji (Ap.mk (Lt w a) (Em w a).2.1 (Em w a).2.2.1 w.Am)) else .inl ((Em w a).2.1,(Em w a).2.2.1)) at m1
  change By (Iw a w.Ad) (0,(Lt w a).clock,(Lt w a).next,(Lt w a).Af,w.Ad,(Ct w a).2.2.1,w.Am,a.kind,a.id,a.ttl,a.Db,a.clock,a.Bi,a.stop,((Ct w a).1:Int))=some (if (Em w a).2.2.2=true then .inr (Ji (Ap.mk (Lt w a) (Em w a).2.1 (Em w a).2.2.1 w.Am),Ak.mk 15 0) else .inl ((Lt w a).clock,(Lt w a).next,(Lt w a).Af,(Em w a).2.1,(Em w a).2.2.1,w.Am,a.kind,a.id,a.ttl,a.Db,a.clock,a.Bi,a.stop,((Em w a).1:Int))) at m2
  change De (Em w a).2.2.1 1 (w.Ac.next-1) at m3
  obtain ⟨q1,q2⟩:=kL a (M:=w.Ac.next-1) (by omega) (by omega) w.Ad (Ct w a).1 w.Ad (Ct w a).2.2.1 l4
  change (Em w a).2.1.Sublist w.Ad at q1
  change ∀y∈(Em w a).2.2.1,y∈(Ct w a).2.2.1∧((∃z∈w.Ad,z.Br=y)→∃z∈(Em w a).2.1,z.Br=y) at q2
  have rB:∀s,Eo (Ap.mk (Lt w a) (Em w a).2.1 (Em w a).2.2.1 s):=fun s=>⟨l3.1,Nat.le_trans q1.length_le hr.i40,m3,Yw (fun x hx=>hr.its.mem ((q1.map _).mem hx)) ((gP hr.its).sublist (q1.map _)),fun i hi y hy=>hr.off i (q1.mem hi) y (p1 y hy),fun x hx=>by
   have h1:=q2 x hx
   have h2:=p2 x h1.1
   rcases hr.nam x h2.1 with h3 | h3
   ·exact .inl (h2.2 h3)
   ·exact .inr (h1.2 h3)⟩
  have ec:mP w.Ad=some w.Ad:=pE _ (by omega)
  by_cases hd:(Em w a).2.2.2=true
  ·have e:Ft w a=(Ji (Ap.mk (Lt w a) (Em w a).2.1 (Em w a).2.2.1 w.Am),true):=by unfold Ft; rw [if_neg hb,if_pos hd]
   rw [if_pos hd] at m1 m2
   rw [e]
   refine ⟨?_,?_,Ro (rB _),l3,fun _=>(Vi (rB w.Am) l3).und,fun _=>rfl,fun h=>by cases h⟩
   ·simp only [lX,Jn (v:=w) (by omega) (by omega) (by have:=hr.a; omega),Option.bind_some,l1]
    rw [show By (Jp w a w w.Ac.clock w.Ac.next (Ct w a).2.1) (((Ct w a).1:Int),0,w.Ad,(Ct w a).2.2.1)=_ from m1]
    rfl
   ·simp only [l2,Option.bind_some,ec]
    rw [show By (Iw a w.Ad) (0,w.Ac.clock,w.Ac.next,(Ct w a).2.1,w.Ad,(Ct w a).2.2.1,w.Am,a.kind,a.id,a.ttl,a.Db,a.clock,a.Bi,a.stop,((Ct w a).1:Int))=_ from m2]
    rfl
  ·have e:Ft w a=(Ap.mk (Lt w a) (Em w a).2.1 (Em w a).2.2.1 w.Am,false):=by unfold Ft; rw [if_neg hb,if_neg hd]
   rw [if_neg hd] at m1 m2
   rw [e]
   refine ⟨?_,?_,rB _,l3,fun hu i hi=>hu i (q1.mem hi),(fun h=>by cases h),fun _=>rfl⟩
   ·simp only [lX,Jn (v:=w) (by omega) (by omega) (by have:=hr.a; omega),Option.bind_some,l1]
    rw [show By (Jp w a w w.Ac.clock w.Ac.next (Ct w a).2.1) (((Ct w a).1:Int),0,w.Ad,(Ct w a).2.2.1)=_ from m1]
    rfl
   ·simp only [l2,Option.bind_some,ec]
    rw [show By (Iw a w.Ad) (0,w.Ac.clock,w.Ac.next,(Ct w a).2.1,w.Ad,(Ct w a).2.2.1,w.Am,a.kind,a.id,a.ttl,a.Db,a.clock,a.Bi,a.stop,((Ct w a).1:Int))=_ from m2]
    rfl
def Xo (t:As) (c:Int):As:=As.mk (Dc t c) t.next (t.Af.map (Hw (Dc t c)))
theorem cB (t:As) (c:Int):(Xo t c).Af.map Aa.id=t.Af.map Aa.id:=by
 simp only [Xo,List.map_map]
 apply List.map_congr_left
 intro x _
 simp only [Function.comp,Hw]
 split<;>rfl
def Ow (v:Ap) (a:Ai):Ap:=Ap.mk (Xo v.Ac a.clock) v.Ad v.Aj v.Am
noncomputable def eN (v:Ap) (a:Ai):Ap×Ak:=
 if a.stop=1 then (Ji (Ow v a),Ak.mk 15 0) else ((Ft (Ow v a) a).1,Ak.mk (if (Ft (Ow v a) a).2=true then 15 else 0) 0)
theorem sS {v:Ap} (a:Ai) (hr:Eo v) (hT:Fz v.Ac) (hc:a.clock≤9223372036854775807):g467 v a=some (eN v a):=by
 have h40:=hr.t
 have hi40:=hr.i40
 obtain ⟨s,e1,_⟩:=g82_eq v.Ac a.clock (by omega)
 have hT2:Fz (Xo v.Ac a.clock):=cC hT a.clock hc
 have hr2:Eo (Ow v a):=Rp hr hT2.1 rfl (cB _ _) _
 have hl2:(Xo v.Ac a.clock).Af.length≤40:=hT2.1.2.2.1
 simp only [g467,e1,Option.bind_some]
 unfold eN
 by_cases h1:a.stop=1
 ·rw [if_pos (by simp [h1]),if_pos h1]
  rw [show fV (Ap.mk (As.mk (Dc v.Ac a.clock) v.Ac.next (v.Ac.Af.map (Hw (Dc v.Ac a.clock)))) v.Ad v.Aj v.Am)=_ from Qj (Ow v a) (by simp only [Ow]; omega)]
  rfl
 ·rw [if_neg (by simpa using h1),if_neg h1]
  rw [show g66 (v.Ac.Af.map (Hw (Dc v.Ac a.clock)))=_ from DV (Xo v.Ac a.clock).Af (by omega)]
  exact (Tg a hr2 hT2).2.1
theorem sT {v:Ap} (a:Ai) (hr:Eo v) (hT:Fz v.Ac) (hc:a.clock≤9223372036854775807):Ze v a (eN v a):=by
 have hT2:Fz (Xo v.Ac a.clock):=cC hT a.clock hc
 have hr2:Eo (Ow v a):=Rp hr hT2.1 rfl (cB _ _) _
 have lens:∀w:Ap,Eo w→w.Ac.Af.length≤1048576∧w.Ad.length≤1048576∧w.Aj.length≤1048576:=fun w h=>⟨by have:=h.t; omega,by have:=h.i40; omega,by have:=h.a; omega⟩
 unfold eN
 split
 ·exact ⟨fun h=>absurd rfl h.2.1,lens _ (Ro hr2),fun _ _=>Vi hr2 hT2⟩
 ·obtain ⟨_,_,s3,s4,s5,_⟩:=Tg a hr2 hT2
  refine ⟨fun h=>?_,lens _ s3,fun hu _=>⟨s3,s4,s5 hu⟩⟩
  exfalso
  simp only at h
  split at h
  ·exact h.2.1 rfl
  ·exact h.1 rfl
theorem Uw (k:Int):g56 k 1 6=some (decide (1≤k∧k≤6))∧g63 k 1 6=some (decide (1≤k∧k≤6)):=by
 simp only [g56,g63]
 by_cases h1:1≤k<;>by_cases h2:k≤6<;>simp [h1,h2]
theorem nO {v:Ap} (hr:Eo v) (hT:Fz v.Ac) (a:Ai) (hc':a.clock≤9223372036854775807∨a.kind≠4):∃r,Xt v a=some r∧rS v a=some r∧Ze v a r:=by
 have h40:=hr.t
 have hi40:=hr.i40
 have ha:=hr.a
 have lens:v.Ac.Af.length≤1048576∧v.Ad.length≤1048576∧v.Aj.length≤1048576:=⟨by omega,by omega,by omega⟩
 simp only [Xt,rS,own_eq lens.1 lens.2.1 lens.2.2,Jn lens.1 lens.2.1 lens.2.2,Uw,cN,Option.bind_some]
 by_cases hk:1≤a.kind∧a.kind≤6
 ·rw [decide_eq_true hk]
  simp only [Bool.not_true,Bool.false_eq_true,if_false]
  by_cases hs:v.Am=true∧a.kind≠6
  ·have e:(bif v.Am then (a.kind != 6) else false)=true:=by simp [hs.1,hs.2]
   rw [e]
   exact ⟨_,rfl,rfl,Rn hr hT a _ _⟩
  ·have e:(bif v.Am then (a.kind != 6) else false)=false:=by
    cases hv:v.Am
    ·rfl
    ·simp only [cond_true]
     rw [bne_eq_false_iff_eq]
     exact Classical.byContradiction fun h=>hs ⟨hv,h⟩
   rw [e]
   simp only [Bool.false_eq_true,if_false]
   have fin:∀s:Bool,Ze v a (Ap.mk v.Ac v.Ad v.Aj s,Ak.mk 0 0):=fun s=>⟨fun h=>absurd rfl h.1,lens,fun hu _=>⟨⟨hr.tab,hr.i40,hr.acc,hr.its,hr.off,hr.nam⟩,hT,hu⟩⟩
   by_cases k1:a.kind=1
   ·obtain ⟨r,x1,x2,x3⟩:=mY (a:=a) hr hT k1
    simp only [show (a.kind==1)=true by simp [k1],if_true]
    rw [x1,x2]
    exact ⟨_,rfl,rfl,x3⟩
   ·simp only [show (a.kind==1)=false by simpa using k1,Bool.false_eq_true,if_false]
    by_cases k2:a.kind=2
    ·obtain ⟨r,u,x1,x2,x5,x6,x3,x4⟩:=nI hr.tab a.id a.ttl
     simp only [show (a.kind==2)=true by simp [k2],if_true]
     rw [x1,x2]
     obtain ⟨x,y1,y2,y3⟩:=eO hr hT a r u x5 x6 x3 x4 (fun hf=>by
      obtain ⟨r',e',t'⟩:=nJ hT a.id a.ttl (hf.2.1 k2)
      rw [x1] at e'; cases e'; exact t')
     simp only [Option.bind_some,y1,y2]
     exact ⟨_,rfl,rfl,y3⟩
    ·simp only [show (a.kind==2)=false by simpa using k2,Bool.false_eq_true,if_false]
     by_cases k3:a.kind=3
     ·obtain ⟨r,u,x1,x2,x5,x6,x3,x4⟩:=kB hr.tab a.id
      simp only [show (a.kind==3)=true by simp [k3],if_true]
      rw [x1,x2]
      obtain ⟨x,y1,y2,y3⟩:=eO hr hT a r u x5 x6 x3 x4 (fun hf=>by
       obtain ⟨r',e',t'⟩:=nL hT a.id
       rw [x1] at e'; cases e'; exact t')
      simp only [Option.bind_some,y1,y2]
      exact ⟨_,rfl,rfl,y3⟩
     ·simp only [show (a.kind==3)=false by simpa using k3,Bool.false_eq_true,if_false]
      by_cases k4:a.kind=4
      ·have hc:a.clock≤9223372036854775807:=hc'.resolve_right (fun h=>h k4)
       have hv:v.Am=false:=by
        cases hv:v.Am
        ·rfl
        ·exact absurd ⟨hv,by omega⟩ hs
       simp only [show (a.kind==4)=true by simp [k4],if_true]
       rw [sS a hr hT hc]
       obtain ⟨s,e1,_⟩:=g81_eq v.Ac a.clock hr.tab (by omega)
       have hT2:Fz (Xo v.Ac a.clock):=cC hT a.clock hc
       have hr2:Eo (Ow v a):=Rp hr hT2.1 rfl (cB _ _) _
       refine ⟨eN v a,?_,rfl,sT a hr hT hc⟩
       simp only [e1,Option.bind_some]
       unfold eN
       by_cases h1:a.stop=1
       ·rw [if_pos (by simp [h1]),if_pos h1]
        rw [show fM (Ap.mk (As.mk (Dc v.Ac a.clock) v.Ac.next (v.Ac.Af.map (Hw (Dc v.Ac a.clock)))) v.Ad v.Aj v.Am)=_ from Qk (Ow v a) (by have:=hr2.t; omega) (by have:=hr2.i40; omega) (by have:=hr2.a; omega)]
        rfl
       ·rw [if_neg (by simpa using h1),if_neg h1]
        obtain ⟨s1,_,s3,s4,s5,s6,s7⟩:=Tg a hr2 hT2
        rw [show lX (Ap.mk (As.mk (Dc v.Ac a.clock) v.Ac.next (v.Ac.Af.map (Hw (Dc v.Ac a.clock)))) v.Ad v.Aj v.Am) a=_ from s1]
        simp only [Option.bind_some,hv,Bool.not_false]
        cases hb:(Ft (Ow v a) a).2
        ·rw [s7 hb,show (Ow v a).Am=false from hv]
         simp only [cond_false,Bool.false_eq_true,if_false,Gn]
         rw [if_neg (by simp)]
         have e2:(Ft (Ow v a) a).1.Am=false:=(s7 hb).trans hv
         rw [←e2]
        ·rw [s6 hb]
         simp
      ·simp only [show (a.kind==4)=false by simpa using k4,Bool.false_eq_true,if_false]
       by_cases k5:a.kind=5
       ·rw [if_pos (by simp [k5])]
        simp only [Gn]
        rw [if_neg (by simp)]
        have:(a.kind==5)=true:=by simp [k5]
        rw [this]
        exact ⟨_,rfl,rfl,fin true⟩
       ·have k6:a.kind=6:=by omega
        rw [if_neg (by simpa using k5),if_pos (by simp [k6])]
        simp only [Gn]
        rw [if_neg (by simp)]
        have:(a.kind==5)=false:=by simpa using k5
        rw [this]
        exact ⟨_,rfl,rfl,fin false⟩
 ·rw [decide_eq_false hk]
  simp only [Bool.not_false,if_true]
  exact ⟨_,rfl,rfl,Rn hr hT a _ _⟩
end Go.Ev
end
section
set_option maxHeartbeats 1000000
namespace Go.Ev
theorem inv0:Inv (Ap.mk (As.mk 0 1 []) [] [] false):=by
 have tab0:Fz (As.mk 0 1 []):=⟨⟨by simp,⟨by simp,by simp⟩,by simp,fun k x hx=>by simp at hx⟩,by simp,by simp⟩
 exact ⟨⟨tab0.1,by simp,fun k x hx=>by simp at hx,fun k x hx=>by simp at hx,by simp,by simp⟩,tab0,by simp⟩
end Go.Ev
end
section
set_option maxHeartbeats 1000000
namespace Go.Ev
theorem mW (a:Ai) (hl:a.Bi.length≤1048576):∃b,rG a=some b∧rR a=some b:=by
 have e1:∀x,g56 x 0 2=some (decide (0≤x)&&decide (x≤2)):=fun x=>by simp only [g56]; congr 1; cases h1:decide (0≤x)<;>simp_all
 have e2:∀x,g63 x 0 2=some (decide (0≤x)&&decide (x≤2)):=fun x=>by simp only [g63]; congr 1; cases h1:decide (0≤x)<;>simp_all
 have hs:(By (Tr a) 0).bind (fun r=>match r with | .inl ()=>some true | .inr q=>some q)=some (a.Bi.all fun x=>decide (0≤x)&&decide (x≤2)):=by
  rw [←sJ]
  refine tN (fun k=>(fun x:Int=>decide (0≤x)&&decide (x≤2)) (a.Bi[k]?.getD default)) (fun k hk _=>?_) ?_
  ·simp only [Tr]
   rw [if_pos (decide_eq_true (by omega)),Cc hk]
   simp only [Option.bind_some,e1,w1 (show k<4611686018427387904 by omega),List.getElem?_eq_getElem hk,Option.getD_some]
  ·simp only [Tr]
   rw [if_neg (by simp)]
 have hi:=g97_eq a.Bi (fun z=>g88 z) (fun x=>decide (0≤x)&&decide (x≤2)) (fun x _=>by simp only [g88,e2,Option.bind_some]) (by omega)
 simp only [rG,rR,g87,Option.bind_some,hi,e1,e2,hs]
 by_cases h:a.Bi.length≤4096
 ·rw [decide_eq_false (show ¬(a.Bi.length:Int)>4096 by omega),decide_eq_true (show (a.Bi.length:Int)≤4096 by omega)]
  simp only [beq_self_eq_true,if_true,Option.bind_some,cond_false,cond_true]
  cases hst:(decide (0≤a.stop)&&decide (a.stop≤2))
  ·simp
  ·simp only [Bool.not_true,Bool.false_eq_true,if_false]
   refine ⟨_,hs,?_⟩
   cases (a.Bi.all fun x=>decide (0≤x)&&decide (x≤2))<;>simp
 ·rw [decide_eq_true (show (a.Bi.length:Int)>4096 by omega),decide_eq_false (show ¬(a.Bi.length:Int)≤4096 by omega)]
  exact ⟨false,rfl,rfl⟩
theorem CT (r:Ak):g452 r r=some true:=by simp [g452]
end Go.Ev
end
section
namespace Go.Ev
def Wt {α:Type} (wd:α→Nat):List α→Nat
 | []=>0
 | x::r=>wd x+Wt wd r
def Xh {α:Type} (mk:Int→α→α) (wd:α→Nat):List α→Int→List α
 | [],_=>[]
 | x::r,a=>mk a x::Xh mk wd r (a+(wd x:Int))
@[simp] theorem markv_len {α:Type} (mk:Int→α→α) (wd:α→Nat):∀(l:List α) (a:Int),(Xh mk wd l a).length=l.length
 | [],_=>rfl
 | x::r,a=>by simp [Xh,markv_len mk wd r]
theorem qF {α:Type} {wd:α→Nat} {B:Nat}:∀ {l:List α},(∀x∈l,wd x≤B)→Wt wd l≤B*l.length
 | [],_=>by simp [Wt]
 | x::r,h=>by
  have h1:=h x (by simp)
  have h2:=qF (l:=r) (fun y hy=>h y (by simp [hy]))
  simp only [Wt,List.length_cons,Nat.mul_add,Nat.mul_one]
  omega
theorem bA {α:Type} (mk:Int→α→α) (wd:α→Nat) (P:α→Prop) (B:Int) {step:List α×Int×Int→Option ((List α×Int×Int)⊕(List α×Int))}
  (hs:∀(k:Nat) (p:List α) (c:Int) (x:α),k<p.length→p.length≤1048576→p[k]? = some x→P x→0≤c→c+(wd x:Int)≤B→step (p,c,(k:Int))=some (.inl (p.set k (mk c x),c+(wd x:Int),((k+1:Nat):Int))))
  (he:∀(p:List α) c,step (p,c,(p.length:Int))=some (.inr (p,c))):
  ∀(rest pre:List α) (c:Int),pre.length+rest.length≤1048576→(∀x∈rest,P x)→0≤c→c+(Wt wd rest:Int)≤B →
   By step (pre++rest,c,(pre.length:Int))=some (pre++Xh mk wd rest c,c+(Wt wd rest:Int))
 | [],pre,c,_,_,_,_=>by
  refine Dm ?_
  have:=he pre c
  simpa [Xh,Wt] using this
 | x::r,pre,c,hl,hP,h0,hB=>by
  simp only [Wt] at hB ⊢
  have hx:(pre++x::r)[pre.length]? = some x:=by simp
  have h1:=hs pre.length (pre++x::r) c x (by simp) (by simpa using hl) hx (hP x (by simp)) h0 (by omega)
  rw [Dp h1]
  have e:(pre++x::r).set pre.length (mk c x)=(pre++[mk c x])++r:=by
   rw [List.set_append,if_neg (by omega),Nat.sub_self]; simp
  have ih:=bA mk wd P B hs he r (pre++[mk c x]) (c+(wd x:Int)) (by simp only [List.length_append,List.length_cons,List.length_nil] at hl ⊢; omega) (fun y hy=>hP y (by simp [hy])) (by omega) (by omega)
  rw [e]
  rw [show (pre++[mk c x]).length=pre.length+1 by simp] at ih
  rw [ih]
  simp only [Xh,List.append_assoc,List.singleton_append]
  congr 2
  push_cast; omega
theorem GD {α:Type} (l:List α) (hl:l.length≤4611686018427387903) (Q:α→Prop) (n:Int) (hn:n≤1048576) {step:Int×Int→Option ((Int×Int)⊕(Int⊕Int))}
  (hs:∀(k:Nat) (c:Int) (hk:k<l.length),0≤c→c≤1048576→(step (c,(k:Int))=some (.inr (.inr (-1))))∨∃c',0≤c'∧c'≤c∧Q l[k]∧step (c,(k:Int))=some (.inl (c',((k+1:Nat):Int))))
  (he:∀c,step (c,(l.length:Int))=some (.inr (.inl c))) (h0:0≤n):
  ∃r,By step (n,0)=some r∧(r = .inr (-1)∨∃c,r = .inl c∧0≤c∧c≤n∧∀x∈l,Q x):=by
 refine jI (fun s=>∃k:Nat,s.2=(k:Int)∧k≤l.length∧0≤s.1∧s.1≤n∧∀x∈l.take k,Q x) (fun s=>l.length-s.2.toNat) _ (n,0) ⟨0,rfl,Nat.zero_le _,h0,Int.le_refl _,by simp⟩ ?_
 rintro ⟨c,kk⟩ ⟨k,rfl,hk,c0,c1,hq⟩
 dsimp only at c0 c1 ⊢
 by_cases h:k<l.length
 ·rcases hs k c h c0 (by omega) with h1 | ⟨c',d0,d1,d2,h1⟩
  ·exact .inr ⟨_,h1,.inl rfl⟩
  ·refine .inl ⟨_,h1,⟨k+1,rfl,h,d0,by dsimp only; omega,fun x hx=>?_⟩,?_⟩
   ·rw [List.take_succ_eq_append_getElem h] at hx
    rcases List.mem_append.1 hx with hx | hx
    ·exact hq x hx
    ·rw [List.mem_singleton] at hx; rw [hx]; exact d2
   ·simp only [Int.toNat_natCast]; omega
 ·obtain rfl:k=l.length:=by omega
  rw [List.take_length] at hq
  exact .inr ⟨_,he c,.inr ⟨c,rfl,c0,c1,hq⟩⟩
end Go.Ev
end
section
set_option maxHeartbeats 1000000
namespace Go.Ev
theorem nT {v:Ap} {a:Ai} (h1:v.Ac.Af.length≤1048576) (h2:v.Ad.length≤1048576) (h3:v.Aj.length≤1048576) (oa:Gy a) (hf:a.Bi.length≤1048576) (h:¬Zd a) {r:Ap×Ak} (e:Xt v a=some r):r.1=v:=by
 have o1:a.ttl≤9223372036854775807:=oa.2.2.1.2
 have o2:a.Db≤9223372036854775807:=oa.2.2.2.1.2
 have o3:a.clock≤9223372036854775807:=oa.2.2.2.2.1.2
 have hk:(a.kind=1∧¬(1≤a.ttl∧a.ttl≤a.Db))∨(a.kind=2∧a.ttl<1):=by
  by_cases k1:a.kind=1
  ·exact .inl ⟨k1,fun hc=>h ⟨fun _=>⟨hc.1,hc.2,by omega⟩,fun k=>by omega,fun k=>by omega,hf⟩⟩
  ·by_cases k2:a.kind=2
   ·exact .inr ⟨k2,Classical.byContradiction fun hc=>h ⟨fun k=>absurd k k1,fun _=>⟨by omega,by omega⟩,fun k=>by omega,hf⟩⟩
   ·exact absurd ⟨fun k=>absurd k k1,fun k=>absurd k k2,fun _=>by omega,hf⟩ h
 rcases hk with ⟨k1,hb⟩ | ⟨k2,hb⟩
 ·have hc:(bif (decide (a.ttl<1)) then true else (decide (a.Db<a.ttl)))=true:=by
   by_cases h:a.ttl<1
   ·simp [h]
   ·have:a.Db<a.ttl:=by omega
    simp [this]
  have e1:rK v a=some (v,Ak.mk 4 0):=by
   simp only [rK,g70,hc,if_true,Option.bind_some]
   simp [Jo]
  cases hs:v.Am
  ·simp [Xt,(Uw _).1,k1,e1,Jn h1 h2 h3,hs] at e
   rw [←e]
  ·simp [Xt,(Uw _).1,k1,e1,Jn h1 h2 h3,hs] at e
   rw [←e]
 ·obtain ⟨n,e2,_⟩:=Wj v.Ac a.id h1
  have e1:g79 v.Ac a.id a.ttl=some (v.Ac,4):=by
   simp only [g79,e2,Option.bind_some]
   rw [if_pos (decide_eq_true hb)]
  cases hs:v.Am
  ·simp [Xt,(Uw _).1,k2,e1,Jn h1 h2 h3,hs,Gn] at e
   rw [←e]
  ·simp [Xt,(Uw _).1,k2,e1,Jn h1 h2 h3,hs,Gn] at e
   rw [←e]
theorem kI {v:Ap} (hv:Inv v) (a:Ai) (oa:Gy a) (hf:a.Bi.length≤1048576):∃r,Xt v a=some r∧rS v a=some r∧Inv r.1:=by
 obtain ⟨r,r1,r2,r3⟩:=nO hv.right hv.tab a (.inl oa.2.2.2.2.1.2)
 have:=hv.right.t
 have:=hv.right.i40
 have:=hv.right.a
 by_cases h:Zd a
 ·exact ⟨r,r1,r2,r3.2.2 hv.und h⟩
 ·refine ⟨r,r1,r2,?_⟩
  rw [nT (by omega) (by omega) (by omega) oa hf h r1]
  exact hv
noncomputable def Me (a:Ai):Bool:=(rG a).getD false
theorem Ns (a:Ai) (hl:a.Bi.length≤1048576):rG a=some (Me a)∧rR a=some (Me a):=by
 obtain ⟨b,b1,b2⟩:=mW a hl
 unfold Me
 rw [b1,b2]
 exact ⟨rfl,rfl⟩
def VAct (a:Ai):Prop:=Gy a∧a.Bi.length≤1048576
theorem eJ (acts:List Ai) (hl:acts.length≤120) (h:∀a∈acts,VAct a) (hg:∀a∈acts,Me a=true):∀(n k:Nat) (R:List Ak) (v:Ap),k+n=acts.length→R.length=k→Inv v →
  ∃R' w,By (Pr acts) (R,(k:Int),v.Ac.clock,v.Ac.next,v.Ac.Af,v.Ad,v.Aj,v.Am)=some (.inl (R',w.Ac.clock,w.Ac.next,w.Ac.Af,w.Ad,w.Aj,w.Am)) ∧
   By (Ui acts) (R,(k:Int),v.Ac.clock,v.Ac.next,v.Ac.Af,v.Ad,v.Aj,v.Am)=some (R',w.Ac.clock,w.Ac.next,w.Ac.Af,w.Ad,w.Aj,w.Am)∧Inv w∧R'.length≤120
 | 0,k,R,v,hk,hR,hv=>by
  refine ⟨R,v,Dm ?_,Dm ?_,hv,by omega⟩
  ·simp only [Pr]; rw [if_neg (by simp; omega)]
  ·simp only [Ui]; rw [if_neg (by simp; omega)]
 | n+1,k,R,v,hk,hR,hv=>by
  have hlt:k<acts.length:=by omega
  have ha:=h _ (List.getElem_mem hlt)
  obtain ⟨r,x1,x2,x3⟩:=kI hv acts[k] ha.1 ha.2
  obtain ⟨R',w,y1,y2,y3⟩:=eJ acts hl h hg n (k+1) (R++[r.2]) r.1 (by omega) (by simp; omega) x3
  refine ⟨R',w,?_,?_,y3⟩
  ·rw [Dp,y1]
   simp only [Pr]
   rw [if_pos (decide_eq_true (by omega)),Cc hlt]
   simp only [Option.bind_some,(Ns _ ha.2).1,hg _ (List.getElem_mem hlt),Bool.not_true,Bool.false_eq_true,if_false]
   rw [show Xt (Ap.mk (As.mk v.Ac.clock v.Ac.next v.Ac.Af) v.Ad v.Aj v.Am) acts[k]=some r from x1]
   simp only [Option.bind_some]
   rw [if_pos (by simp; omega),w1 (show k<4611686018427387904 by omega)]
  ·rw [Dp,y2]
   simp only [Ui]
   rw [if_pos (decide_eq_true (by omega)),Cc hlt]
   simp only [Option.bind_some]
   rw [show rS (Ap.mk (As.mk v.Ac.clock v.Ac.next v.Ac.Af) v.Ad v.Aj v.Am) acts[k]=some r from x2]
   simp only [Option.bind_some]
   rw [if_pos (by simp; omega),w1 (show k<4611686018427387904 by omega)]
abbrev noV:Ap:=Ap.mk (As.mk 0 0 ([]:List Aa)) ([]:List Ag) ([]:List Int) false
theorem kD (acts:List Ai) (hl:acts.length≤120) (h:∀a∈acts,VAct a) (j:Nat) (hj:j<acts.length) (hb:Me acts[j]=false):∀(n k:Nat) (R:List Ak) (v:Ap),k+n=acts.length→k≤j→R.length=k→Inv v →
  By (Pr acts) (R,(k:Int),v.Ac.clock,v.Ac.next,v.Ac.Af,v.Ad,v.Aj,v.Am)=some (.inr (noV,[],1))
 | 0,k,R,v,hk,hkj,hR,hv=>by omega
 | n+1,k,R,v,hk,hkj,hR,hv=>by
  have hlt:k<acts.length:=by omega
  have ha:=h _ (List.getElem_mem hlt)
  by_cases hg:Me acts[k]=true
  ·have hne:k≠j:=by rintro rfl; rw [hg] at hb; cases hb
   obtain ⟨r,x1,x2,x3⟩:=kI hv acts[k] ha.1 ha.2
   have y1:=kD acts hl h j hj hb n (k+1) (R++[r.2]) r.1 (by omega) (by omega) (by simp; omega) x3
   rw [Dp,y1]
   simp only [Pr]
   rw [if_pos (decide_eq_true (by omega)),Cc hlt]
   simp only [Option.bind_some,(Ns _ ha.2).1,hg,Bool.not_true,Bool.false_eq_true,if_false]
   rw [show Xt (Ap.mk (As.mk v.Ac.clock v.Ac.next v.Ac.Af) v.Ad v.Aj v.Am) acts[k]=some r from x1]
   simp only [Option.bind_some]
   rw [if_pos (by simp; omega),w1 (show k<4611686018427387904 by omega)]
  ·refine Dm ?_
   have hg':Me acts[k]=false:=by simpa using hg
   simp only [Pr]
   rw [if_pos (decide_eq_true (by omega)),Cc hlt]
   simp only [Option.bind_some,(Ns _ ha.2).1,hg',Bool.not_false,if_true]
theorem sN (acts:List Ai) (h0:acts.length≤1048576) (h:∀a∈acts,VAct a):∃q:Ap×List Ak×Int,g50 acts=some q∧DQ acts=some q∧(q.1.Ac.Af.length≤1048576∧q.1.Ad.length≤1048576∧q.1.Aj.length≤1048576)∧q.2.1.length≤1048576:=by
 have zz:∀c:Int,(((noV,([]:List Ak),c):Ap×List Ak×Int).1.Ac.Af.length≤1048576∧((noV,([]:List Ak),c):Ap×List Ak×Int).1.Ad.length≤1048576∧((noV,([]:List Ak),c):Ap×List Ak×Int).1.Aj.length≤1048576)∧((noV,([]:List Ak),c):Ap×List Ak×Int).2.1.length≤1048576:=fun c=>⟨⟨by simp,by simp,by simp⟩,by simp⟩
 simp only [g50,DQ,g455,Option.bind_some]
 by_cases h1:acts.length≤4096
 rotate_left
 ·rw [decide_eq_false (show ¬(acts.length:Int)≤4096 by omega),decide_eq_true (show (acts.length:Int)>4096 by omega)]
  exact ⟨(noV,[],2),rfl,rfl,zz 2⟩
 rw [decide_eq_true (show (acts.length:Int)≤4096 by omega),decide_eq_false (show ¬(acts.length:Int)>4096 by omega)]
 simp only [Bool.not_true,Bool.false_eq_true,if_false]
 by_cases h2:acts.length≤120
 rotate_left
 ·rw [decide_eq_true (show (acts.length:Int)>120 by omega)]
  exact ⟨(noV,[],6),rfl,rfl,zz 6⟩
 rw [decide_eq_false (show ¬(acts.length:Int)>120 by omega),g456_eq acts _ Me (fun x hx=>(Ns x (h x hx).2).2) (by omega)]
 simp only [Bool.false_eq_true,if_false,Option.bind_some,g458]
 by_cases hg:∀a∈acts,Me a=true
 ·obtain ⟨R,w,e1,e2,hw,hR⟩:=eJ acts h2 h hg acts.length 0 [] (Ap.mk (As.mk 0 1 []) [] [] false) (by omega) rfl inv0
  have ec:Zz (Ap.mk (As.mk w.Ac.clock w.Ac.next w.Ac.Af) w.Ad w.Aj w.Am)=some w:=Jn (v:=w) (by have:=hw.right.t; omega) (by have:=hw.right.i40; omega) (by have:=hw.right.a; omega)
  have:=hw.right.t
  have:=hw.right.i40
  have:=hw.right.a
  have ha:acts.all Me=true:=List.all_eq_true.2 hg
  rw [ha]
  simp only [Bool.not_true,Bool.false_eq_true,if_false]
  dsimp only at e1 e2
  rw [show ((0:Nat):Int)=0 from rfl] at e1 e2
  rw [e1,e2]
  simp only [Option.bind_some,ec]
  exact ⟨_,rfl,rfl,⟨by dsimp only; omega,by dsimp only; omega,by dsimp only; omega⟩,by dsimp only; omega⟩
 ·have ha:acts.all Me=false:=by
   cases hh:acts.all Me
   ·rfl
   ·exact absurd (List.all_eq_true.1 hh) hg
  obtain ⟨j,hj,hb⟩:∃j,∃hj:j<acts.length,Me acts[j]=false:=by
   refine Classical.byContradiction fun hc=>hg fun a hm=>?_
   obtain ⟨j,hj,rfl⟩:=List.getElem_of_mem hm
   cases hb:Me acts[j]
   ·exact absurd ⟨j,hj,hb⟩ hc
   ·rfl
  have e1:=kD acts h2 h j hj hb acts.length 0 [] (Ap.mk (As.mk 0 1 []) [] [] false) (by omega) (by omega) rfl inv0
  rw [ha]
  simp only [Bool.not_false,if_true]
  dsimp only at e1
  rw [show ((0:Nat):Int)=0 from rfl] at e1
  rw [e1]
  exact ⟨(noV,[],1),rfl,rfl,zz 1⟩
theorem g91_two (l:List Int) (n:Int) (hn:0≤n∧n≤1048576) (hl:l.length≤9223372036854775807):(g91 l n=some (-1)∧n<(l.length:Int))∨(g91 l n=some (n-(l.length:Int))∧(l.length:Int)≤n):=by
 have hw:IntKind.i64.wrap (n-(l.length:Int))=n-(l.length:Int):=wr ⟨by omega,by omega⟩
 simp only [g91,hw]
 by_cases h:n-(l.length:Int)<0
 ·rw [if_pos (decide_eq_true h)]; exact .inl ⟨rfl,by omega⟩
 ·rw [if_neg (by simpa using h)]; exact .inr ⟨rfl,by omega⟩
theorem GC (l:List Ai) (o:okL Gy l) (n:Int) (hn:0≤n∧n≤1048576):∃r,g443 l n=some r∧(0≤r→l.length≤1048576∧∀x∈l,x.Bi.length≤1048576):=by
 have hl:=o.1
 have hw:IntKind.i64.wrap (n-(l.length:Int))=n-(l.length:Int):=wr ⟨by omega,by omega⟩
 simp only [g443,hw]
 by_cases h:n-(l.length:Int)<0
 ·rw [if_pos (decide_eq_true h)]
  exact ⟨-1,rfl,fun h=>by omega⟩
 ·rw [if_neg (by simpa using h)]
  obtain ⟨r,r1,r2⟩:=GD l (by omega) (fun x:Ai=>x.Bi.length≤1048576) (n-(l.length:Int)) (by omega) (step:=Uj l) (fun k c hk c0 c1=>by
   have ok:=o.2 _ (List.getElem_mem hk)
   simp only [Uj]
   rw [if_pos (decide_eq_true (by omega)),Cc hk]
   simp only [Option.bind_some,g450]
   rcases g91_two l[k].Bi c ⟨c0,by omega⟩ ok.2.2.2.2.2.1.1 with ⟨e3,_⟩ | ⟨e3,e4⟩
   ·rw [e3]; simp only [Option.bind_some]
    rw [if_pos (by decide)]; simp only [Option.bind_some]
    rw [if_pos (by decide)]
    exact .inl rfl
   ·rw [e3]; simp only [Option.bind_some]
    rw [if_neg (by simp; omega)]; simp only [Option.bind_some]
    rw [if_neg (by simp; omega),w1 (show k<4611686018427387904 by omega)]
    exact .inr ⟨_,by omega,by omega,by omega,rfl⟩) (fun c=>by
   simp only [Uj]
   rw [if_neg (by simp)]) (by omega)
  rw [r1]
  rcases r2 with rfl | ⟨c,rfl,c0,c1,hq⟩
  ·exact ⟨-1,rfl,fun h=>by omega⟩
  ·exact ⟨c,rfl,fun _=>⟨by omega,hq⟩⟩
theorem to_vact (x:Ai) (h:x.Bi.length≤1048576):g451 x=some x:=by simp only [g451,ints_to x.Bi h,Option.bind_some]
theorem GH (l:List Ai) (hl:l.length≤1048576) (hf:∀x∈l,x.Bi.length≤1048576):mO l=some l:=by
 have h:=qH l id (Ai.mk 0 0 0 0 0 ([]:List Int) 0) (step:=Uk l) (fun k hk p hp=>by
  simp only [Uk]
  rw [if_pos (decide_eq_true (by omega)),Cc hk]
  simp only [Option.bind_some]
  rw [to_vact _ (hf _ (List.getElem_mem hk))]
  simp only [Option.bind_some]
  rw [Cc (l:=p) (k:=k) (by omega)]
  simp only [Option.bind_some,Int.toNat_natCast]
  rw [List.getElem?_eq_getElem (by omega)]
  simp only [Option.bind_some,w1 (show k<4611686018427387904 by omega)]
  rfl) (fun p hp=>by
  simp only [Uk]
  rw [if_neg (by simp)])
 rw [List.map_id] at h
 unfold mO
 rw [if_pos (by omega),if_pos (by omega)]
 simp only [Int.toNat_natCast,Cd,h,Option.bind_some]
theorem iZ (l:List Ak) (hl:l.length≤1048576):rQ l l=some true:=by
 have h:=Rq l (step:=Ul l l) (fun k hk=>by
  simp only [Ul]
  rw [if_pos (decide_eq_true (by omega)),Cc hk]
  simp [w1 (show k<4611686018427387904 by omega),CT]) (by
  simp only [Ul]
  rw [if_neg (by simp)])
 unfold rQ
 rw [if_neg (by simp),h]
 rfl
theorem CU (l:List Ai) (hl:l.length≤1048576) (hf:∀x∈l,x.Bi.length≤1048576):g446 l l=some true:=by
 have hE:∀x∈l,g453 x x=some true:=fun x hx=>by simp [g453,dT x.Bi (hf x hx)]
 have h:=Rq l (step:=Um l l) (fun k hk=>by
  simp only [Um]
  rw [if_pos (decide_eq_true (by omega)),Cc hk]
  simp [w1 (show k<4611686018427387904 by omega),hE _ (List.getElem_mem hk)]) (by
  simp only [Um]
  rw [if_neg (by simp)])
 unfold g446
 rw [if_neg (by simp),h]
 rfl
theorem ints_mk (l:List Int) (a:Int) (ha:0≤a∧a≤4611686018427387904) (hl:l.length≤1048576):g37 l a=some (a+(l.length:Int),El (fun c _=>c) 1 l a):=by
 have h:=Rk (fun c _=>c) 1 l a (step:=Pq) (fun k p hp hk=>by
  simp only [Pq]
  rw [if_pos (decide_eq_true (by omega)),Cc (l:=p) (k:=k) (by omega)]
  simp only [Option.bind_some,Int.toNat_natCast]
  rw [List.getElem?_eq_getElem (by omega)]
  have e1:IntKind.i64.wrap (a+((1:Nat):Int)*(k:Int)+1)=a+((1:Nat):Int)*((k+1:Nat):Int):=by rw [wr ⟨by omega,by omega⟩]; omega
  simp only [Option.bind_some,w1 (show k<4611686018427387904 by omega),e1]) (fun p c hp=>by
  simp only [Pq]
  rw [if_neg (by simp; omega)])
 simp only [g37,h,Option.bind_some]
 simp
def gI (c:Int) (x:Ai):Ai:=Ai.mk c (c+1) (c+2) (c+3) (c+4) (El (fun c _=>c) 1 x.Bi (c+5)) (c+5+(x.Bi.length:Int))
def Lu (x:Ai):Nat:=x.Bi.length+6
theorem wn {c:Int} (h0:0≤c) (h:c≤4611686018427387904) (n:Int) (hn:0≤n∧n≤7):IntKind.i64.wrap (c+n)=c+n:=wr ⟨by omega,by omega⟩
theorem nB (l:List Ai) (a:Int) (ha:0≤a∧a≤1099511627776) (hl:l.length≤1048576) (hf:∀s∈l,s.Bi.length≤1048576):g447 l a=some (a+(Wt Lu l:Int),Xh gI Lu l a):=by
 have hB:Wt Lu l≤1048582*l.length:=qF fun x hx=>by have:=hf x hx; unfold Lu; omega
 have hB2:1048582*l.length≤1048582*1048576:=Nat.mul_le_mul_left _ hl
 have h:=bA gI Lu (fun x:Ai=>x.Bi.length≤1048576) 8796093022208 (step:=Re) (fun k p c x hk hp hx hfx h0 h1=>by
  unfold Lu at h1
  simp only [Re]
  have hset:∀(p:List Ai) (z:Ai),k<p.length→(p.set k z)[k]? = some z:=fun p z hz=>by simp [hz]
  have hi:∀(p:List Ai) (z:Ai),k<p.length→Cr (p.set k z) (k:Int)=some z:=fun p z hz=>by unfold Cr; rw [if_pos (by omega),Int.toNat_natCast]; exact hset p z hz
  have hi0:Cr p (k:Int)=some x:=by unfold Cr; rw [if_pos (by omega),Int.toNat_natCast]; exact hx
  push_cast at h1
  have e1:IntKind.i64.wrap (c+1)=c+1:=wn h0 (by omega) 1 (by omega)
  have e2:IntKind.i64.wrap (c+1+1)=c+2:=by rw [show c+1+1=c+2 by omega]; exact wn h0 (by omega) 2 (by omega)
  have e3:IntKind.i64.wrap (c+2+1)=c+3:=by rw [show c+2+1=c+3 by omega]; exact wn h0 (by omega) 3 (by omega)
  have e4:IntKind.i64.wrap (c+3+1)=c+4:=by rw [show c+3+1=c+4 by omega]; exact wn h0 (by omega) 4 (by omega)
  have e5:IntKind.i64.wrap (c+4+1)=c+5:=by rw [show c+4+1=c+5 by omega]; exact wn h0 (by omega) 5 (by omega)
  have e6:IntKind.i64.wrap (c+5+(x.Bi.length:Int)+1)=c+5+(x.Bi.length:Int)+1:=wr ⟨by omega,by omega⟩
  rw [if_pos (decide_eq_true (by omega)),hi0]
  simp only [Option.bind_some,Int.toNat_natCast,hx,List.length_set,hk,hi,hset,Cd,e1,e2,e3,e4,e5,ints_mk x.Bi (c+5) ⟨by omega,by omega⟩ hfx,marked_len,if_true,e6,w1 (show k<4611686018427387904 by omega),List.set_set]
  unfold gI Lu
  rw [show c+5+(x.Bi.length:Int)+1=c+((x.Bi.length+6:Nat):Int) by push_cast; omega]) (fun p c=>by
  simp only [Re]
  rw [if_neg (by simp)]) l [] a (by simpa using hl) hf ha.1 (by omega)
 have h':By Re (l,a,0)=some (Xh gI Lu l a,a+(Wt Lu l:Int)):=by simpa using h
 simp only [g447,h',Option.bind_some]
abbrev jN (c:Int) (_:Ak):Ak:=Ak.mk c (c+1)
theorem sC (l:List Ak) (a:Int) (ha:0≤a∧a≤1099511627776) (hl:l.length≤1048576):g448 l a=some (a+2*(l.length:Int),El jN 2 l a):=by
 have h:=Rk jN 2 l a (step:=Un) (fun k p hp hk=>by
  simp only [Un]
  rw [if_pos (decide_eq_true (by omega)),Cc (l:=p) (k:=k) (by omega)]
  have e0:IntKind.i64.wrap (a+((2:Nat):Int)*(k:Int)+1)=a+((2:Nat):Int)*(k:Int)+1:=wr ⟨by omega,by omega⟩
  have e1:IntKind.i64.wrap (a+((2:Nat):Int)*(k:Int)+1+1)=a+((2:Nat):Int)*((k+1:Nat):Int):=by rw [wr ⟨by omega,by omega⟩]; omega
  simp only [Option.bind_some,Int.toNat_natCast,e0,e1,w1 (show k<4611686018427387904 by omega),Cd]
  rw [List.getElem?_eq_getElem (by omega)]
  simp only [Option.bind_some]
  rw [Cc (by simp; omega),List.getElem?_eq_getElem (by simp; omega)]
  simp only [Option.bind_some,List.set_set,List.getElem_set_self]) (fun p c hp=>by
  simp only [Un]
  rw [if_neg (by simp; omega)])
 simp only [g448,h,Option.bind_some]
 simp
theorem rV (l:List Ak) (a:Int) (ha:0≤a∧a≤1099511627776) (hl:l.length≤1048576):DR (El jN 2 l a) a=some (a+2*(l.length:Int)):=by
 have h:=Ec (step:=Rf (El jN 2 l a)) (fun k=>(a+2*(k:Int),(k:Int))) l.length (.inl (a+2*(l.length:Int))) (fun k hk=>by
  simp only [Rf]
  rw [if_pos (decide_eq_true (by simp; omega)),Cc (by simp; omega)]
  have e0:IntKind.i64.wrap (a+2*(k:Int)+1)=a+2*(k:Int)+1:=wr ⟨by omega,by omega⟩
  have e1:IntKind.i64.wrap (a+2*(k:Int)+1+1)=a+2*((k+1:Nat):Int):=by rw [wr ⟨by omega,by omega⟩]; omega
  simp only [Option.bind_some,e0,e1,Sy,w1 (show k<4611686018427387904 by omega)]
  simp) (by
  simp only [Rf]
  rw [if_neg (by simp)])
 have h':By (Rf (El jN 2 l a)) (a,0)=some (.inl (a+2*(l.length:Int))):=by
  rw [show a+2*((0:Nat):Int)=a by simp] at h; exact h
 simp only [DR,h',Option.bind_some]
theorem DO (a:List Ai) (o:okL Gy a):g436 a=some true:=by
 obtain ⟨r,e1,e2⟩:=GC a o 1048576 (by omega)
 unfold g436
 rw [e1,Option.bind_some]
 by_cases hr:r<0
 ·rw [if_pos (decide_eq_true hr)]
 ·rw [if_neg (by simpa using hr)]
  obtain ⟨hl,hf⟩:=e2 (by omega)
  obtain ⟨q,q1,q2,⟨q3,q4,q5⟩,q6⟩:=sN a hl fun x hx=>⟨o.2 x hx,hf x hx⟩
  obtain ⟨n,x,y,z,m1,m2,m3,m4,m5,m6⟩:=nU q.1 q3 q4 q5
  have hn:n≤1099511627776:=by
   have e:=show mN q.1 1=some (1+4*(q.1.Ac.Af.length:Int)+2*(q.1.Ad.length:Int)+(q.1.Aj.length:Int),Hx q.1.Ac.Af.length 1,El Lo 2 q.1.Ad (1+4*(q.1.Ac.Af.length:Int)),El (fun c _=>c) 1 q.1.Aj (1+4*(q.1.Ac.Af.length:Int)+2*(q.1.Ad.length:Int))) by
    simp only [mN,DN q.1.Ac q3,Option.bind_some,Ku,if_true,EE q.1.Ad (1+4*(q.1.Ac.Af.length:Int)) (by omega) q4,marked_len,dS q.1.Aj (1+4*(q.1.Ac.Af.length:Int)+2*(q.1.Ad.length:Int)) (by omega) q5]
   rw [m1] at e
   have:=congrArg Prod.fst (Option.some.inj e)
   simp only at this
   omega
  have n1:¬n<0:=by omega
  have n2:¬1+(Wt Lu a:Int)<0:=by omega
  have n4:0≤1+(Wt Lu a:Int):=by omega
  have n3:¬n+2*(q.2.1.length:Int)<0:=by omega
  simp [GH a hl hf,q1,q2,CW q.1 q3 q4 q5,iZ q.2.1 q6,CU a hl hf,nB a 1 (by omega) hl hf,markv_len,n1,n2,n3,n4,m1,m3,m4,m5,m6,sC q.2.1 n ⟨m2,hn⟩ q6,rV q.2.1 n ⟨m2,hn⟩ q6,Cd]
end Go.Ev
end
