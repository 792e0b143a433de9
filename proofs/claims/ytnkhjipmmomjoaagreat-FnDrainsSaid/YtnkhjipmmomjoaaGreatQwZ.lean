/- The plain part of the proof: what the functions compute answers as the law says. -/
import Derived.Test.YtnkhjipmmomjoaaGreatQwZa
set_option linter.all false
section
set_option maxHeartbeats 1000000
namespace Go.Ev
theorem mD {l:List Int} {M:Int} (h:Cf l 1 M) {x:Int} {c:Bool} {p:Nat} (hp:Mf l x p) (y:Int):y∈Kq l x c p↔if c=true then (y∈l∨y=x) else (y∈l∧y≠x):=by
 have hm:=sI h hp
 have hs:∀y,y∈l↔y∈l.take p∨y∈l.drop p:=fun y=>by rw [←List.mem_append,List.take_append_drop]
 unfold Kq
 cases c with
 | true=>
  simp only [if_true]
  split
  ·rename_i ha
   constructor
   ·intro hy; exact .inl hy
   ·rintro (hy | rfl)
    ·exact hy
    ·exact hm.1 ha
  ·rw [List.mem_append,List.mem_append,List.mem_singleton,hs y]
   constructor
   ·rintro ((h | h) | h)
    ·exact .inl (.inl h)
    ·exact .inr h
    ·exact .inl (.inr h)
   ·rintro ((h | h) | h)
    ·exact .inl (.inl h)
    ·exact .inr h
    ·exact .inl (.inr h)
 | false=>
  simp only [Bool.false_eq_true,if_false]
  split
  ·rename_i ha
   have hx:l[p]? = some x:=by simpa [Ic] using ha
   obtain ⟨hlt,he⟩:=List.getElem?_eq_some_iff.1 hx
   rw [List.mem_append]
   constructor
   ·rintro (hy | hy)
    ·have:=Zg hp hy
     exact ⟨List.mem_of_mem_take hy,by omega⟩
    ·obtain ⟨j,hj,rfl⟩:=List.getElem_of_mem hy
     simp only [List.length_drop] at hj
     rw [List.getElem_drop]
     have:=h.lt (show p+1+j<l.length by omega) (show p<p+1+j by omega)
     exact ⟨List.getElem_mem _,by omega⟩
   ·rintro ⟨hy,hne⟩
    rcases (hs y).1 hy with hy | hy
    ·exact .inl hy
    ·rw [List.drop_eq_getElem_cons hlt] at hy
     rcases List.mem_cons.1 hy with hy | hy
     ·exact absurd (hy.trans he) hne
     ·exact .inr hy
  ·rename_i ha
   constructor
   ·intro hy; exact ⟨hy,fun e=>ha (hm.2 (e ▸ hy))⟩
   ·exact fun h=>h.1
noncomputable def Bq (l:List Int) (x:Int) (c:Bool) (f:Int):List Int×Int:=(g89 l x c f).getD ([],0)
theorem Kp {l:List Int} {M:Int} (h:Cf l 1 M) (hl:l.length≤1048575) (x:Int) (c:Bool) (f:Int) (hx:c=true→1≤x∧x≤M):
  g89 l x c f=some (Bq l x c f)∧g86 l x c f=some (Bq l x c f)∧Cf (Bq l x c f).1 1 M ∧
   ((Bq l x c f).2=13∧(Bq l x c f).1=l∧f=1∨f≠1∧(Bq l x c f).2=Lu f∧∀y,y∈(Bq l x c f).1↔if c=true then (y∈l∨y=x) else (y∈l∧y≠x)):=by
 obtain ⟨p,hp⟩:=cut_ex h x
 have e1:=g89_eq h hl x c f hp
 have e2:=g86_eq hl x c f hp
 have e:Bq l x c f=if (f==1)=true then (l,13) else (Kq l x c p,Lu f):=by unfold Bq; rw [e1]; rfl
 rw [e]
 refine ⟨e1,e2,?_,?_⟩
 ·split
  ·exact h
  ·exact bS h c hx hp
 ·by_cases hf:f=1
  ·rw [if_pos (by simp [hf])]
   exact .inl ⟨rfl,rfl,hf⟩
  ·rw [if_neg (by simpa using hf)]
   exact .inr ⟨hf,rfl,fun y=>mD h hp y⟩
def Az (a:Am) (k:Nat):Int:=a.Cb[k]?.getD 0
theorem eC (a:Am) (k:Nat):lA a (k:Int)=some (Az a k):=by
 unfold lA Az
 by_cases h:k<a.Cb.length
 ·rw [if_pos (decide_eq_true (by omega)),Cd h,List.getElem?_eq_getElem h]; rfl
 ·rw [if_neg (by simp; omega),List.getElem?_eq_none (by omega)]; rfl
theorem bA {v:Aj} {a:Am} {k:Nat} (hk:k≤1048576) {M:Int} (h:Cf v.Ai 1 M) (hl:v.Ai.length≤1048575) (x:Int) (c:Bool) (hx:c=true→1≤x∧x≤M):
  eW (Cu.mk v a (k:Int)) x c=some ((Bq v.Ai x c (Az a k)).2,Cu.mk (Aj.mk v.Ad v.Ab (Bq v.Ai x c (Az a k)).1 v.Al) a ((k+1:Nat):Int)):=by
 have e:=(Kp h hl x c (Az a k) hx).1
 have hj:Tr (Cu.mk v a (k:Int)) x c (Az a k)=some ((Bq v.Ai x c (Az a k)).2,Cu.mk (Aj.mk v.Ad v.Ab (Bq v.Ai x c (Az a k)).1 v.Al) a ((k+1:Nat):Int)):=by
  simp only [Tr,e,Option.bind_some,w1 (show k<4611686018427387904 by omega)]
 unfold eW
 by_cases hlt:k<a.Cb.length
 ·rw [if_pos (decide_eq_true (by simp only; omega))]
  simp only [Cd hlt,Option.bind_some]
  have:Az a k=a.Cb[k]:=by unfold Az; rw [List.getElem?_eq_getElem hlt]; rfl
  rw [←this]
  exact hj
 ·rw [if_neg (by simp; omega)]
  have:Az a k=0:=by unfold Az; rw [List.getElem?_eq_none (by omega)]; rfl
  rw [←this]
  exact hj
def Hi (i:Ah):Ah:=Ah.mk i.As true
def Iv (v:Aj):Aj:=Aj.mk v.Ad (v.Ab.map Hi) v.Ai true
theorem DI (l:List Ah) (k:Nat) (hk:k<l.length):((l.take k).map Hi++l.drop k).set k (Hi l[k])=(l.take (k+1)).map Hi++l.drop (k+1):=by
 rw [List.set_append,if_neg (by simp; omega),List.take_succ_eq_append_getElem hk,List.map_append,List.append_assoc]
 congr 1
 rw [List.drop_eq_getElem_cons hk]
 have:k-((l.take k).map Hi).length=0:=by simp; omega
 rw [this]
 rfl
theorem DH (l:List Ah) (k:Nat) (hk:k<l.length):((l.take k).map Hi++l.drop k)[k]? = some l[k]:=by
 rw [List.getElem?_append_right (by simp; omega)]
 have:k-((l.take k).map Hi).length=0:=by simp; omega
 rw [this,List.getElem?_drop,Nat.add_zero,List.getElem?_eq_getElem hk]
theorem gI (l:List Ah) (k:Nat):((l.take k).map Hi++l.drop k).length=l.length:=by simp; omega
theorem Px (v:Aj) (h1:v.Ad.Ae.length≤1048576) (h2:v.Ab.length≤1048576) (h3:v.Ai.length≤1048576):eH v=some (Iv v):=by
 have e:Zl v=some v:=by
  simp only [Zl,Kb v.Ad h1,Option.bind_some]
  rw [if_pos (by simp; omega),if_pos (by simp; omega)]
  rfl
 have h:=Es (step:=Ql) (fun k=>((k:Int),(v.Ab.take k).map Hi++v.Ab.drop k)) v.Ab.length (v.Ab.map Hi) (fun k hk=>by
  simp only [Ql,gI]
  rw [if_pos (decide_eq_true (by omega)),Cd (by rw [gI]; exact hk)]
  simp only [Option.bind_some,Int.toNat_natCast,DH _ _ hk,w1 (show k<4611686018427387904 by omega)]
  rw [←DI _ _ hk]
  rfl) (by
  simp only [Ql,gI]
  rw [if_neg (by simp),List.take_length,List.drop_length,List.append_nil])
 have h':Bz Ql (0,v.Ab)=some (v.Ab.map Hi):=h
 simp only [eH,e,Option.bind_some,h']
 rfl
theorem Pw (v:Aj) (h2:v.Ab.length≤1048576):eV v=some (Iv v,Ao.mk 15 0):=by
 have h:=Es (step:=Qu v) (fun k=>((k:Int),(v.Ab.take k).map Hi++v.Ab.drop k)) v.Ab.length (v.Ab.map Hi) (fun k hk=>by
  simp only [Qu]
  rw [if_pos (decide_eq_true (by omega)),Cd (by rw [gI]; exact hk)]
  simp only [Option.bind_some,Int.toNat_natCast,DH _ _ hk,w1 (show k<4611686018427387904 by omega)]
  rw [←DI _ _ hk]
  rfl) (by
  simp only [Qu]
  rw [if_neg (by simp),List.take_length,List.drop_length,List.append_nil])
 have h':Bz (Qu v) (0,v.Ab)=some (v.Ab.map Hi):=h
 simp only [eV,Option.bind_some,h']
 rfl
def Gg (L:List Aa) (x code:Int):List Aa:=if code=0 then L.filter (fun y=>y.id != x) else L
def He (L:List Ah) (x code:Int):List Ah:=if code=0 then L.filter (fun y=>y.As != x) else L
theorem zS {t:Ak} (h:Et t) {k:Nat} (hk:k<t.Ae.length):t.Ae.take k++t.Ae.drop (k+1)=t.Ae.filter (fun y=>y.id != t.Ae[k].id):=by
 have hd:=List.drop_eq_getElem_cons hk
 have hlt1:∀j,∀hj:j<k,(t.Ae[j]'(by omega)).id<t.Ae[k].id:=fun j hj=>h.lt hk hj
 have hlt2:∀j,∀hj:k+1+j<t.Ae.length,t.Ae[k].id<t.Ae[k+1+j].id:=fun j hj=>h.lt hj (by omega)
 generalize t.Ae[k]=x at hd hlt1 hlt2
 have e:t.Ae.filter (fun y=>y.id != x.id)=(t.Ae.take k++x::t.Ae.drop (k+1)).filter (fun y=>y.id != x.id):=by rw [←hd,List.take_append_drop]
 rw [e,List.filter_append,List.filter_cons,if_neg (by simp)]
 congr 1
 ·symm
  rw [List.filter_eq_self]
  intro y hy
  obtain ⟨j,hj,rfl⟩:=List.getElem_of_mem hy
  simp only [List.length_take] at hj
  rw [List.getElem_take]
  have:=hlt1 j (by omega)
  simp; omega
 ·symm
  rw [List.filter_eq_self]
  intro y hy
  obtain ⟨j,hj,rfl⟩:=List.getElem_of_mem hy
  simp only [List.length_drop] at hj
  rw [List.getElem_drop]
  have:=hlt2 j (by omega)
  simp; omega
theorem qD {t:Ak} (h:Et t) {k:Nat} (hk:k<t.Ae.length):EE t t.Ae[k].id=some (k:Int)∧ED t t.Ae[k].id=some ((k:Int),true):=by
 have hl:=h.2.2.1
 obtain ⟨n,h1,h2⟩:=Sd t t.Ae[k].id (by omega)
 have hn:n=(k:Int):=by
  rcases h2 with ⟨_,h3⟩ | ⟨j,hj,rfl,h4⟩
  ·exact absurd rfl (h3 _ (List.getElem_mem hk))
  ·rcases Nat.lt_trichotomy j k with hjk | rfl | hjk
   ·have:=h.lt hk hjk; omega
   ·rfl
   ·have:=h.lt hj hjk; omega
 obtain ⟨i,b,h3,h4,h5⟩:=fB t h _ n h2
 subst hn
 cases b with
 | false=>have:=h5 rfl; omega
 | true=>
  obtain ⟨rfl,_⟩:=h4 rfl
  exact ⟨h1,h3⟩
theorem pZ {t:Ak} (h:Fp t) {x:Aa} (hx:x∈t.Ae) (hq:x.Cj=true):
  g76 t x.id=some (Ak.mk t.clock t.next (t.Ae.filter fun y=>y.id != x.id),0)∧(∃i,ED t x.id=some (i,true)∧g78 t i=some (Ak.mk t.clock t.next (t.Ae.filter fun y=>y.id != x.id))) ∧
   Fp (Ak.mk t.clock t.next (t.Ae.filter fun y=>y.id != x.id)):=by
 obtain ⟨k,hk,rfl⟩:=List.getElem_of_mem hx
 have hl:=h.1.2.2.1
 obtain ⟨f1,f2⟩:=qD h.1 hk
 have s1:=DA t.Ae 0 k (by omega) (by omega)
 have s2:=DA t.Ae (k+1) t.Ae.length (by omega) (Nat.le_refl _)
 rw [show ((0:Nat):Int)=0 from rfl] at s1
 have hw:=w1 (show k<4611686018427387904 by omega)
 rw [←zS h.1 hk]
 refine ⟨?_,⟨(k:Int),f2,?_⟩,rem_tab h hk⟩
 ·simp only [g76,f1,Option.bind_some]
  rw [if_neg (by simp),Cd hk]
  simp only [Option.bind_some]
  rw [if_neg (by simp [hq])]
  simp only [hw,s1,s2,Option.bind_some]
  rw [if_pos (by simp; omega),if_pos (by simp; omega)]
  simp
 ·simp only [g78,Qk t (by omega),Option.bind_some,g115,hw]
  rw [if_pos (⟨⟨by omega,by omega,by omega⟩,by omega⟩:(0≤(k:Int)∧(k:Int)≤((k+1:Nat):Int)∧((k+1:Nat):Int)≤(t.Ae.length:Int))∧t.Ae.length≤4398046511104)]
  simp only [Option.bind_some,Int.toNat_natCast]
theorem nA (l:List Ah) (x:Int) (hl:l.length≤1048576):g146 l x=some (l.filter fun y=>y.As != x):=by
 have h:=Es (step:=Qq l x) (fun k=>((l.take k).filter (fun y=>y.As != x),(k:Int))) l.length (l.filter fun y=>y.As != x) (fun k hk=>by
  simp only [Qq]
  rw [if_pos (decide_eq_true (by omega)),Cd hk]
  have hle:((l.take k).filter (fun y=>y.As != x)).length≤k:=Nat.le_trans (List.length_filter_le _ _) (by simp; omega)
  simp only [Option.bind_some,Xq,w1 (show k<4611686018427387904 by omega)]
  rw [List.take_succ_eq_append_getElem hk,List.filter_append,List.filter_cons]
  split
  ·rw [if_pos (by simp; omega)]
   rfl
  ·rw [List.filter_nil,List.append_nil]) (by
  simp only [Qq]
  rw [if_neg (by simp),List.take_length])
 have h':Bz (Qq l x) ([],0)=some (l.filter fun y=>y.As != x):=h
 simp only [g146,h',Option.bind_some]
theorem pY (l:List Ah) (y:Ah) (hl:l.length≤1048576):AM l (fun z=>AN z y)=some (l.filter fun z=>z.As != y.As):=
 g473_eq l (fun z=>AN z y) (fun z=>z.As==y.As) (fun _ _=>rfl) (by omega)
noncomputable def Db (a:Am):List Aa→Nat→List Aa→List Int→Nat×List Aa×List Int×Bool
 | [],c,L,A=>(c,L,A,false)
 | x::r,c,L,A=>if x.Cj=true then
   (if a.stop=2 then (c+1,Gg L x.id (Bq A x.id false (Az a c)).2,(Bq A x.id false (Az a c)).1,true)
   else Db a r (c+1) (Gg L x.id (Bq A x.id false (Az a c)).2) (Bq A x.id false (Az a c)).1)
  else Db a r c L A
noncomputable def De (a:Am):List Ah→Nat→List Ah→List Int→Nat×List Ah×List Int×Bool
 | [],c,L,A=>(c,L,A,false)
 | x::r,c,L,A=>if x.Md=true then
   (if a.stop=2 then (c+1,He L x.As (Bq A x.As false (Az a c)).2,(Bq A x.As false (Az a c)).1,true)
   else De a r (c+1) (He L x.As (Bq A x.As false (Az a c)).2) (Bq A x.As false (Az a c)).1)
  else De a r c L A
theorem Qa {A:List Int} {t:Ak} (h:Et t) (hA:Cf A 1 (t.next-1)):A.length≤1000000:=by
 have h1:=h.2.1
 have:=hA.len (by omega)
 omega
theorem jR (w:Aj) (a:Am) (hw:Et w.Ad) (hin:w.Ab.length≤1048576):∀m i c (L:List Aa) (A:List Int),i+m=w.Ad.Ae.length→c≤i→Fp (Ak.mk w.Ad.clock w.Ad.next L)→(∀x∈w.Ad.Ae.drop i,x∈L)→Cf A 1 (w.Ad.next-1)→(a.stop=2→c=0) →
  let R:=Db a (w.Ad.Ae.drop i) c L A
  let t:=Ak.mk w.Ad.clock w.Ad.next R.2.1
  Bz (Ln w a w) ((c:Int),(i:Int),w.Ad.clock,w.Ad.next,L,A)=some (if R.2.2.2=true then .inr (Iv (Aj.mk t w.Ab R.2.2.1 w.Al)) else .inl ((R.1:Int),w.Ad.clock,w.Ad.next,R.2.1,R.2.2.1)) ∧
  Bz (Kf a w.Ad.Ae) ((i:Int),w.Ad.clock,w.Ad.next,L,w.Ab,A,w.Al,a.kind,a.id,a.ttl,a.Ef,a.clock,a.Cb,a.stop,(c:Int))=some (if R.2.2.2=true then .inr (Iv (Aj.mk t w.Ab R.2.2.1 w.Al),Ao.mk 15 0) else .inl (w.Ad.clock,w.Ad.next,R.2.1,w.Ab,R.2.2.1,w.Al,a.kind,a.id,a.ttl,a.Ef,a.clock,a.Cb,a.stop,(R.1:Int))) ∧
  Fp t∧Cf R.2.2.1 1 (w.Ad.next-1)∧R.1≤w.Ad.Ae.length∧(R.2.2.2=false→a.stop=2→R.1=0):=by
 have h40:=hw.2.2.1
 intro m
 induction m with
 | zero=>
  intro i c L A him hc hT hL hA hs
  have e:w.Ad.Ae.drop i=[]:=List.drop_eq_nil_of_le (by omega)
  rw [e]
  refine ⟨Dl ?_,Dl ?_,hT,hA,by simp only [Db]; omega,fun _ h=>hs h⟩
  ·simp only [Ln,Db]
   rw [if_neg (by simp; omega)]
   rfl
  ·simp only [Kf,Db]
   rw [if_neg (by simp; omega)]
   rfl
 | succ m ih=>
  intro i c L A him hc hT hL hA hs
  have hlt:i<w.Ad.Ae.length:=by omega
  rw [List.drop_eq_getElem_cons hlt]
  have hx:w.Ad.Ae[i]∈L:=hL _ (by rw [List.drop_eq_getElem_cons hlt]; exact List.mem_cons_self)
  have hL1:∀x∈w.Ad.Ae.drop (i+1),x∈L:=fun x hx=>hL x (by rw [List.drop_eq_getElem_cons hlt]; exact List.mem_cons_of_mem _ hx)
  by_cases hq:w.Ad.Ae[i].Cj=true
  ·obtain ⟨c1,c2,c3,c4⟩:=Kp hA (by have:=Qa hw hA; omega) w.Ad.Ae[i].id false (Az a c) (fun h=>by cases h)
   obtain ⟨d1,⟨j,d2,d3⟩,d4⟩:=pZ hT hx hq
   simp only at d1 d2 d3 d4
   have r1:=bA (v:=Aj.mk (Ak.mk w.Ad.clock w.Ad.next L) w.Ab A w.Al) (a:=a) (k:=c) (by omega) hA (by have:=Qa hw hA; simp only; omega) w.Ad.Ae[i].id false (fun h=>by cases h)
   simp only at r1
   have hT':Fp (Ak.mk w.Ad.clock w.Ad.next (Gg L w.Ad.Ae[i].id (Bq A w.Ad.Ae[i].id false (Az a c)).2)):=by
    unfold Gg; split
    ·exact d4
    ·exact hT
   have hlen:(Gg L w.Ad.Ae[i].id (Bq A w.Ad.Ae[i].id false (Az a c)).2).length≤40:=hT'.1.2.2.1
   have hL2:∀x∈w.Ad.Ae.drop (i+1),x∈Gg L w.Ad.Ae[i].id (Bq A w.Ad.Ae[i].id false (Az a c)).2:=fun x hx=>by
    unfold Gg; split
    ·rw [List.mem_filter]
     refine ⟨hL1 x hx,?_⟩
     obtain ⟨j,hj,rfl⟩:=List.getElem_of_mem hx
     simp only [List.length_drop] at hj
     rw [List.getElem_drop]
     have:=hw.lt (show i+1+j<w.Ad.Ae.length by omega) (show i<i+1+j by omega)
     simp; omega
    ·exact hL1 x hx
   have hA':=Qa hw c3
   have spec1:∀K,Ln w a w ((c:Int),(i:Int),w.Ad.clock,w.Ad.next,L,A)=K↔Qm a w (c:Int) (i:Int) (Bq A w.Ad.Ae[i].id false (Az a c)) w.Ad.clock w.Ad.next (Gg L w.Ad.Ae[i].id (Bq A w.Ad.Ae[i].id false (Az a c)).2)=K:=fun K=>by
    simp only [Ln]
    rw [if_pos (decide_eq_true (by omega)),Cd hlt]
    simp only [Option.bind_some]
    rw [if_neg (by simp [hq]),eC]
    simp only [Option.bind_some,c2]
    unfold Gg
    by_cases h0:(Bq A w.Ad.Ae[i].id false (Az a c)).2=0
    ·rw [if_pos (by simp [h0]),if_pos h0,d1]
     rfl
    ·rw [if_neg (by simpa using h0),if_neg h0]
   have impl1:∀K,Kf a w.Ad.Ae ((i:Int),w.Ad.clock,w.Ad.next,L,w.Ab,A,w.Al,a.kind,a.id,a.ttl,a.Ef,a.clock,a.Cb,a.stop,(c:Int))=K↔Qs a (i:Int) ((Bq A w.Ad.Ae[i].id false (Az a c)).2,Cu.mk (Aj.mk (Ak.mk w.Ad.clock w.Ad.next L) w.Ab (Bq A w.Ad.Ae[i].id false (Az a c)).1 w.Al) a ((c+1:Nat):Int)) w.Ad.clock w.Ad.next (Gg L w.Ad.Ae[i].id (Bq A w.Ad.Ae[i].id false (Az a c)).2)=K:=fun K=>by
    simp only [Kf]
    rw [if_pos (decide_eq_true (by omega)),Cd hlt]
    simp only [Option.bind_some,Int.toNat_natCast,List.getElem?_eq_getElem hlt]
    rw [if_neg (by simp [hq])]
    rw [show eW (Cu.mk (Aj.mk (Ak.mk w.Ad.clock w.Ad.next L) w.Ab A w.Al) (Am.mk a.kind a.id a.ttl a.Ef a.clock a.Cb a.stop) (c:Int)) w.Ad.Ae[i].id false=_ from r1]
    simp only [Option.bind_some,d2]
    unfold Gg
    by_cases h0:(Bq A w.Ad.Ae[i].id false (Az a c)).2=0
    ·rw [if_pos (by simp [h0]),if_pos h0,d3]
     rfl
    ·rw [if_neg (by simpa using h0),if_neg h0]
   by_cases hst:a.stop=2
   ·have hc0:=hs hst
    subst hc0
    have eR:Db a (w.Ad.Ae[i]::w.Ad.Ae.drop (i+1)) 0 L A=(1,Gg L w.Ad.Ae[i].id (Bq A w.Ad.Ae[i].id false (Az a 0)).2,(Bq A w.Ad.Ae[i].id false (Az a 0)).1,true):=by simp only [Db,hq,if_true]; rw [if_pos hst]
    dsimp only
    rw [eR]
    refine ⟨Dl ?_,Dl ?_,hT',c3,by simp only; omega,fun h=>by cases h⟩
    ·rw [spec1]
     simp only [Qm]
     rw [if_pos (by simp [hst]),Px (Aj.mk (Ak.mk w.Ad.clock w.Ad.next (Gg L w.Ad.Ae[i].id (Bq A w.Ad.Ae[i].id false (Az a 0)).2)) w.Ab (Bq A w.Ad.Ae[i].id false (Az a 0)).1 w.Al) (by simp only; omega) hin (by simp only; omega)]
     rfl
    ·rw [impl1]
     simp only [Qs,lR,Option.bind_some]
     rw [if_pos (by simp [hst]),Pw (Aj.mk (Ak.mk w.Ad.clock w.Ad.next (Gg L w.Ad.Ae[i].id (Bq A w.Ad.Ae[i].id false (Az a 0)).2)) w.Ab (Bq A w.Ad.Ae[i].id false (Az a 0)).1 w.Al) hin]
     rfl
   ·have eR:Db a (w.Ad.Ae[i]::w.Ad.Ae.drop (i+1)) c L A=Db a (w.Ad.Ae.drop (i+1)) (c+1) (Gg L w.Ad.Ae[i].id (Bq A w.Ad.Ae[i].id false (Az a c)).2) (Bq A w.Ad.Ae[i].id false (Az a c)).1:=by simp only [Db,hq,if_true]; rw [if_neg hst]
    dsimp only
    rw [eR]
    obtain ⟨i1,i2,i3⟩:=ih (i+1) (c+1) _ (Bq A w.Ad.Ae[i].id false (Az a c)).1 (by omega) (by omega) hT' hL2 c3 (fun h=>absurd h hst)
    refine ⟨?_,?_,i3⟩
    ·rw [Dc (s':=(((c+1:Nat):Int),((i+1:Nat):Int),w.Ad.clock,w.Ad.next,Gg L w.Ad.Ae[i].id (Bq A w.Ad.Ae[i].id false (Az a c)).2,(Bq A w.Ad.Ae[i].id false (Az a c)).1)) ?_]
     ·exact i1
     ·rw [spec1]
      simp only [Qm,Tc]
      rw [if_neg (by simpa using hst),w1 (show c<4611686018427387904 by omega),w1 (show i<4611686018427387904 by omega)]
    ·rw [Dc (s':=(((i+1:Nat):Int),w.Ad.clock,w.Ad.next,Gg L w.Ad.Ae[i].id (Bq A w.Ad.Ae[i].id false (Az a c)).2,w.Ab,(Bq A w.Ad.Ae[i].id false (Az a c)).1,w.Al,a.kind,a.id,a.ttl,a.Ef,a.clock,a.Cb,a.stop,((c+1:Nat):Int))) ?_]
     ·exact i2
     ·rw [impl1]
      have es:(a.stop==2)=false:=by simpa using hst
      simp only [Qs,Tp,lR,Option.bind_some,es,cond_false]
      rw [if_neg (by simp),w1 (show i<4611686018427387904 by omega)]
  ·have hq':w.Ad.Ae[i].Cj=false:=by simpa using hq
   have eR:Db a (w.Ad.Ae[i]::w.Ad.Ae.drop (i+1)) c L A=Db a (w.Ad.Ae.drop (i+1)) c L A:=by simp only [Db,hq',Bool.false_eq_true,if_false]
   dsimp only
   rw [eR]
   obtain ⟨i1,i2,i3⟩:=ih (i+1) c L A (by omega) (by omega) hT hL1 hA hs
   refine ⟨?_,?_,i3⟩
   ·rw [Dc (s':=((c:Int),((i+1:Nat):Int),w.Ad.clock,w.Ad.next,L,A)) ?_]
    ·exact i1
    ·simp only [Ln]
     rw [if_pos (decide_eq_true (by omega)),Cd hlt]
     simp only [Option.bind_some,Tc]
     rw [if_pos (by simp [hq']),w1 (show i<4611686018427387904 by omega)]
   ·rw [Dc (s':=(((i+1:Nat):Int),w.Ad.clock,w.Ad.next,L,w.Ab,A,w.Al,a.kind,a.id,a.ttl,a.Ef,a.clock,a.Cb,a.stop,(c:Int))) ?_]
    ·exact i2
    ·simp only [Kf]
     rw [if_pos (decide_eq_true (by omega)),Cd hlt]
     simp only [Option.bind_some,Int.toNat_natCast,List.getElem?_eq_getElem hlt,Tp]
     rw [if_pos (by simp [hq']),w1 (show i<4611686018427387904 by omega)]
theorem jP (w:Aj) (a:Am) (t:Ak) (hw:Et t) (hin:w.Ab.length≤1000) (ht:t.next=w.Ad.next):∀m i c (L:List Ah) (A:List Int),i+m=w.Ab.length→c≤40+i→L.length≤1000→Cf A 1 (w.Ad.next-1)→(a.stop=2→c=0) →
  let R:=De a (w.Ab.drop i) c L A
  Bz (Jj w a w t.clock t.next t.Ae) ((c:Int),(i:Int),L,A)=some (if R.2.2.2=true then .inr (Iv (Aj.mk t R.2.1 R.2.2.1 w.Al)) else .inl (R.2.1,R.2.2.1)) ∧
  Bz (Ik a w.Ab) ((i:Int),t.clock,t.next,t.Ae,L,A,w.Al,a.kind,a.id,a.ttl,a.Ef,a.clock,a.Cb,a.stop,(c:Int))=some (if R.2.2.2=true then .inr (Iv (Aj.mk t R.2.1 R.2.2.1 w.Al),Ao.mk 15 0) else .inl (t.clock,t.next,t.Ae,R.2.1,R.2.2.1,w.Al,a.kind,a.id,a.ttl,a.Ef,a.clock,a.Cb,a.stop,(R.1:Int))) ∧
  Cf R.2.2.1 1 (w.Ad.next-1):=by
 have h40:=hw.2.2.1
 intro m
 induction m with
 | zero=>
  intro i c L A him hc hLl hA hs
  have e:w.Ab.drop i=[]:=List.drop_eq_nil_of_le (by omega)
  rw [e]
  refine ⟨Dl ?_,Dl ?_,hA⟩
  ·simp only [Jj,De]
   rw [if_neg (by simp; omega)]
   rfl
  ·simp only [Ik,De]
   rw [if_neg (by simp; omega)]
   rfl
 | succ m ih=>
  intro i c L A him hc hLl hA hs
  have hlt:i<w.Ab.length:=by omega
  rw [List.drop_eq_getElem_cons hlt]
  by_cases hq:w.Ab[i].Md=true
  ·have hA0:=Qa hw (ht ▸ hA)
   obtain ⟨c1,c2,c3,c4⟩:=Kp hA (by omega) w.Ab[i].As false (Az a c) (fun h=>by cases h)
   have hA':=Qa hw (ht ▸ c3)
   have r1:=bA (v:=Aj.mk t L A w.Al) (a:=a) (k:=c) (by omega) hA (by simp only; omega) w.Ab[i].As false (fun h=>by cases h)
   simp only at r1
   have hlen:(He L w.Ab[i].As (Bq A w.Ab[i].As false (Az a c)).2).length≤1000:=by
    unfold He; split
    ·exact Nat.le_trans (List.length_filter_le _ _) hLl
    ·exact hLl
   have spec1:∀K,Jj w a w t.clock t.next t.Ae ((c:Int),(i:Int),L,A)=K↔Qn a w t.clock t.next t.Ae (c:Int) (i:Int) (Bq A w.Ab[i].As false (Az a c)) (He L w.Ab[i].As (Bq A w.Ab[i].As false (Az a c)).2)=K:=fun K=>by
    simp only [Jj]
    rw [if_pos (decide_eq_true (by omega)),Cd hlt]
    simp only [Option.bind_some]
    rw [if_neg (by simp [hq]),eC]
    simp only [Option.bind_some,c2]
    unfold He
    by_cases h0:(Bq A w.Ab[i].As false (Az a c)).2=0
    ·rw [if_pos (by simp [h0]),if_pos h0,nA _ _ (by omega)]
     rfl
    ·rw [if_neg (by simpa using h0),if_neg h0]
   have impl1:∀K,Ik a w.Ab ((i:Int),t.clock,t.next,t.Ae,L,A,w.Al,a.kind,a.id,a.ttl,a.Ef,a.clock,a.Cb,a.stop,(c:Int))=K↔Qt a (i:Int) ((Bq A w.Ab[i].As false (Az a c)).2,Cu.mk (Aj.mk t L (Bq A w.Ab[i].As false (Az a c)).1 w.Al) a ((c+1:Nat):Int)) (He L w.Ab[i].As (Bq A w.Ab[i].As false (Az a c)).2)=K:=fun K=>by
    simp only [Ik]
    rw [if_pos (decide_eq_true (by omega)),Cd hlt]
    simp only [Option.bind_some,Int.toNat_natCast,List.getElem?_eq_getElem hlt]
    rw [if_neg (by simp [hq])]
    rw [show eW (Cu.mk (Aj.mk (Ak.mk t.clock t.next t.Ae) L A w.Al) (Am.mk a.kind a.id a.ttl a.Ef a.clock a.Cb a.stop) (c:Int)) w.Ab[i].As false=_ from r1]
    simp only [Option.bind_some]
    unfold He
    by_cases h0:(Bq A w.Ab[i].As false (Az a c)).2=0
    ·rw [if_pos (by simp [h0]),if_pos h0,pY _ _ (by omega)]
     rfl
    ·rw [if_neg (by simpa using h0),if_neg h0]
   by_cases hst:a.stop=2
   ·have hc0:=hs hst
    subst hc0
    have eR:De a (w.Ab[i]::w.Ab.drop (i+1)) 0 L A=(1,He L w.Ab[i].As (Bq A w.Ab[i].As false (Az a 0)).2,(Bq A w.Ab[i].As false (Az a 0)).1,true):=by simp only [De,hq,if_true]; rw [if_pos hst]
    dsimp only
    rw [eR]
    refine ⟨Dl ?_,Dl ?_,c3⟩
    ·rw [spec1]
     simp only [Qn]
     rw [if_pos (by simp [hst]),Px (Aj.mk t (He L w.Ab[i].As (Bq A w.Ab[i].As false (Az a 0)).2) (Bq A w.Ab[i].As false (Az a 0)).1 w.Al) (by simp only; omega) (by simp only; omega) (by simp only; omega)]
     rfl
    ·rw [impl1]
     simp only [Qt,lR,Option.bind_some]
     rw [if_pos (by simp [hst]),Pw (Aj.mk t (He L w.Ab[i].As (Bq A w.Ab[i].As false (Az a 0)).2) (Bq A w.Ab[i].As false (Az a 0)).1 w.Al) (by simp only; omega)]
     rfl
   ·have eR:De a (w.Ab[i]::w.Ab.drop (i+1)) c L A=De a (w.Ab.drop (i+1)) (c+1) (He L w.Ab[i].As (Bq A w.Ab[i].As false (Az a c)).2) (Bq A w.Ab[i].As false (Az a c)).1:=by simp only [De,hq,if_true]; rw [if_neg hst]
    dsimp only
    rw [eR]
    obtain ⟨i1,i2,i3⟩:=ih (i+1) (c+1) _ (Bq A w.Ab[i].As false (Az a c)).1 (by omega) (by omega) hlen c3 (fun h=>absurd h hst)
    refine ⟨?_,?_,i3⟩
    ·rw [Dc (s':=(((c+1:Nat):Int),((i+1:Nat):Int),He L w.Ab[i].As (Bq A w.Ab[i].As false (Az a c)).2,(Bq A w.Ab[i].As false (Az a c)).1)) ?_]
     ·exact i1
     ·rw [spec1]
      simp only [Qn,Td]
      rw [if_neg (by simpa using hst),w1 (show c<4611686018427387904 by omega),w1 (show i<4611686018427387904 by omega)]
    ·rw [Dc (s':=(((i+1:Nat):Int),t.clock,t.next,t.Ae,He L w.Ab[i].As (Bq A w.Ab[i].As false (Az a c)).2,(Bq A w.Ab[i].As false (Az a c)).1,w.Al,a.kind,a.id,a.ttl,a.Ef,a.clock,a.Cb,a.stop,((c+1:Nat):Int))) ?_]
     ·exact i2
     ·rw [impl1]
      have es:(a.stop==2)=false:=by simpa using hst
      simp only [Qt,Tq,lR,Option.bind_some,es,cond_false]
      rw [if_neg (by simp),w1 (show i<4611686018427387904 by omega)]
  ·have hq':w.Ab[i].Md=false:=by simpa using hq
   have eR:De a (w.Ab[i]::w.Ab.drop (i+1)) c L A=De a (w.Ab.drop (i+1)) c L A:=by simp only [De,hq',Bool.false_eq_true,if_false]
   dsimp only
   rw [eR]
   obtain ⟨i1,i2,i3⟩:=ih (i+1) c L A (by omega) (by omega) hLl hA hs
   refine ⟨?_,?_,i3⟩
   ·rw [Dc (s':=((c:Int),((i+1:Nat):Int),L,A)) ?_]
    ·exact i1
    ·simp only [Jj]
     rw [if_pos (decide_eq_true (by omega)),Cd hlt]
     simp only [Option.bind_some,Td]
     rw [if_pos (by simp [hq']),w1 (show i<4611686018427387904 by omega)]
   ·rw [Dc (s':=(((i+1:Nat):Int),t.clock,t.next,t.Ae,L,A,w.Al,a.kind,a.id,a.ttl,a.Ef,a.clock,a.Cb,a.stop,(c:Int))) ?_]
    ·exact i2
    ·simp only [Ik]
     rw [if_pos (decide_eq_true (by omega)),Cd hlt]
     simp only [Option.bind_some,Int.toNat_natCast,List.getElem?_eq_getElem hlt,Tq]
     rw [if_pos (by simp [hq']),w1 (show i<4611686018427387904 by omega)]
end Go.Ev
end
section
set_option maxHeartbeats 1000000
namespace Go.Ev
theorem jD {α:Type} [BEq α] [LawfulBEq α]:∀(A B:List α),A.Nodup→(∀x∈A,x∈B)→A.length≤B.length
 | [],_,_,_=>Nat.zero_le _
 | a::A,B,h,hs=>by
  have ha:a∈B:=hs a List.mem_cons_self
  have h1:=jD A (B.erase a) (List.nodup_cons.1 h).2 (fun x hx=>by
   have hne:x≠a:=fun e=>(List.nodup_cons.1 h).1 (e ▸ hx)
   exact (List.mem_erase_of_ne hne).2 (hs x (List.mem_cons_of_mem _ hx)))
  have h2:=List.length_erase_of_mem ha
  have h3:0<B.length:=List.length_pos_of_mem ha
  simp only [List.length_cons]; omega
structure Du (v:Aj):Prop where
 tab:Et v.Ad
 i40:v.Ab.length≤40
 acc:Cf v.Ai 1 (v.Ad.next-1)
 its:Cf (v.Ab.map Ah.As) 1 (v.Ad.next-1)
 off:∀i∈v.Ab,∀y∈v.Ad.Ae,y.id≠i.As
 nam:∀x∈v.Ai,(∃y∈v.Ad.Ae,y.id=x)∨∃i∈v.Ab,i.As=x
theorem CQ {v:Aj} (h:Du v):Rs v:=by
 refine ⟨h.tab,h.i40,?_,h.acc,h.its,fun x hx y hy=>?_,fun x hx=>?_⟩
 ·have hn:=jD v.Ai (v.Ad.Ae.map Aa.id++v.Ab.map Ah.As) ((Yl h.acc).imp (fun h=>Int.ne_of_lt h)) (fun x hx=>by
   rcases h.nam x hx with ⟨y,hy,rfl⟩ | ⟨i,hi,rfl⟩
   ·exact List.mem_append_left _ (List.mem_map_of_mem hy)
   ·exact List.mem_append_right _ (List.mem_map_of_mem hi))
  have:=h.tab.2.2.1
  have:=h.i40
  simp at hn; omega
 ·obtain ⟨i,hi,rfl⟩:=List.mem_map.1 hx
  exact h.off i hi y hy
 ·rcases h.nam x hx with ⟨y,hy,e⟩ | ⟨i,hi,e⟩
  ·exact .inl fun hn=>hn y hy e
  ·exact .inr fun hn=>hn i hi e
theorem Du.a {v:Aj} (h:Du v):v.Ai.length≤1000000:=Qa h.tab h.acc
theorem Du.t {v:Aj} (h:Du v):v.Ad.Ae.length≤40:=h.tab.2.2.1
structure rZ (v:Aj):Prop where
 right:Du v
 tab:Fp v.Ad
 und:∀i∈v.Ab,i.Md=true
theorem Rb {v:Aj} (h:Du v):Du (Iv v):=by
 have e:(Iv v).Ab.map Ah.As=v.Ab.map Ah.As:=by simp [Iv,Hi]
 refine ⟨h.tab,by simp [Iv,h.i40],h.acc,by rw [e]; exact h.its,fun i hi y hy=>?_,fun x hx=>?_⟩
 ·obtain ⟨j,hj,rfl⟩:=List.mem_map.1 hi
  exact h.off j hj y hy
 ·rcases h.nam x hx with h1 | ⟨i,hi,e⟩
  ·exact .inl h1
  ·exact .inr ⟨Hi i,List.mem_map_of_mem hi,e⟩
theorem Um {v:Aj} (h:Du v) (hT:Fp v.Ad):rZ (Iv v):=⟨Rb h,hT,fun i hi=>by
 obtain ⟨j,_,rfl⟩:=List.mem_map.1 hi; rfl⟩
theorem Mt {v:Aj} {t:Ak} (h:Du v) (hT:Et t) (hn:t.next=v.Ad.next) (hi:t.Ae.map Aa.id=v.Ad.Ae.map Aa.id) (s:Bool):Du (Aj.mk t v.Ab v.Ai s):=by
 have hm:∀x,(∃y∈t.Ae,y.id=x)↔∃y∈v.Ad.Ae,y.id=x:=fun x=>by
  rw [←List.mem_map,←List.mem_map,hi]
 refine ⟨hT,h.i40,by simp only [hn]; exact h.acc,by simp only [hn]; exact h.its,fun i hi' y hy e=>?_,fun x hx=>?_⟩
 ·obtain ⟨z,hz,ez⟩:=(hm i.As).1 ⟨y,hy,e⟩
  exact h.off i hi' z hz ez
 ·rcases h.nam x hx with h1 | h1
  ·exact .inl ((hm x).2 h1)
  ·exact .inr h1
def Yt (v:Aj) (a:Am) (r:Aj×Ao):Prop:=
 ((r.2.code_≠0∧r.2.code_≠15∧r.2.code_≠13)→r.1=v)∧(r.1.Ad.Ae.length≤1048576∧r.1.Ab.length≤1048576∧r.1.Ai.length≤1048576) ∧
  ((∀i∈v.Ab,i.Md=true)→Yq a→rZ r.1)
theorem Ra {v:Aj} (h:Du v) (hT:Fp v.Ad) (a:Am) (c n:Int):Yt v a (v,Ao.mk c n):=
 ⟨fun _=>rfl,⟨by have:=h.t; simp only; omega,by have:=h.i40; simp only; omega,by have:=h.a; simp only; omega⟩,fun hu _=>⟨h,hT,hu⟩⟩
theorem Qe {v:Aj} (h1:v.Ad.Ae.length≤1048576) (h2:v.Ab.length≤1048576) (h3:v.Ai.length≤1048576):Zl v=some v:=by
 simp only [Zl,Kb v.Ad h1,Option.bind_some]
 rw [if_pos (by simp; omega),if_pos (by simp; omega)]
 rfl
theorem mJ {v:Aj} (h1:v.Ad.Ae.length≤1048576) (h2:v.Ab.length≤1048576) (h3:v.Ai.length≤1048576):g463 v=some v:=by
 have e:kV v.Ai=some v.Ai:=by unfold kV; rw [if_pos (by simp; omega)]
 simp only [g463,Qk v.Ad h1,oC v.Ab h2,e,Option.bind_some]
theorem lW {t:Ak} (h:Et t) (x y:Int):∃r s,g70 t x y=some r∧g71 t x y=some s∧s.2=r.2∧((r.1=t∧r.2.2≠0) ∨
  (s=r∧r.2.2=0∧r.2.1=t.next∧t.next+1≤1000000∧t.Ae.length≤39∧∃l:Aa,l.id=t.next∧r.1=Ak.mk t.clock (t.next+1) (t.Ae++[l]))):=by
 have hl:=h.2.2.1
 have hn:=h.2.1
 simp only [g70,g71]
 split
 ·exact ⟨_,_,rfl,rfl,rfl,.inl ⟨rfl,by simp⟩⟩
 ·split
  ·exact ⟨_,_,rfl,rfl,rfl,.inl ⟨rfl,by simp⟩⟩
  ·simp only [Bs]
   split
   ·exact ⟨_,_,rfl,rfl,rfl,.inl ⟨rfl,by simp⟩⟩
   ·rename_i hf
    have hf1:t.Ae.length≠40:=fun e0=>hf (by rw [e0]; rfl)
    have hf2:t.next≠1000000:=fun e0=>hf (by rw [e0]; cases ((t.Ae.length:Int)==40)<;>rfl)
    obtain ⟨p,e1,e2⟩:=lS t.clock x
    obtain ⟨q,e3,e4⟩:=lS t.clock y
    rw [Kb t (by omega),Qk t (by omega)]
    simp only [e1,e2,e3,e4,Option.bind_some]
    rw [if_pos (by simp; omega)]
    exact ⟨_,_,rfl,rfl,rfl,.inr ⟨rfl,rfl,rfl,by omega,by omega,_,rfl,by rw [wr ⟨by omega,by omega⟩]⟩⟩
theorem AV {v:Aj} (h:Du v) (hn:v.Ad.next+1≤1000000) (hi:v.Ab.length≠40) (A:List Int) (hA:Cf A 1 v.Ad.next) (hs:∀x∈A,x∈v.Ai∨x=v.Ad.next) (b s:Bool):
  Du (Aj.mk (Ak.mk v.Ad.clock (v.Ad.next+1) v.Ad.Ae) (v.Ab++[Ah.mk v.Ad.next b]) A s):=by
 have h40:=h.i40
 have hn1:=h.tab.2.1
 have hT:Et (Ak.mk v.Ad.clock (v.Ad.next+1) v.Ad.Ae):=by
  refine ⟨h.tab.1,by simp only; omega,h.tab.2.2.1,fun k x hx=>?_⟩
  obtain ⟨a1,a2,a3,a4,a5⟩:=h.tab.2.2.2 k x hx
  exact ⟨by simp only; omega,a2,a3,a4,a5⟩
 refine ⟨hT,by simp; omega,by simp only; rw [show v.Ad.next+1-1=v.Ad.next by omega]; exact hA,?_,fun i hi' y hy=>?_,fun x hx=>?_⟩
 ·simp only [List.map_append,List.map_cons,List.map_nil]
  refine Yk (fun x hx=>?_) ?_
  ·rcases List.mem_append.1 hx with hx | hx
   ·have:=h.its.mem hx; omega
   ·simp only [List.mem_singleton] at hx; omega
  ·rw [List.pairwise_append]
   refine ⟨Yl h.its,List.pairwise_singleton _ _,fun x hx y hy=>?_⟩
   have:=h.its.mem hx
   simp only [List.mem_singleton] at hy
   omega
 ·simp only at hi' hy
  rcases List.mem_append.1 hi' with hi' | hi'
  ·exact h.off i hi' y hy
  ·simp only [List.mem_singleton] at hi'; subst hi'
   obtain ⟨k,hk,rfl⟩:=List.getElem_of_mem hy
   have:=(h.tab.at hk).1
   simp only; omega
 ·rcases hs x hx with hx | rfl
  ·rcases h.nam x hx with h1 | ⟨i,hi,e⟩
   ·exact .inl h1
   ·exact .inr ⟨i,List.mem_append_left _ hi,e⟩
  ·exact .inr ⟨Ah.mk v.Ad.next b,by simp,rfl⟩
theorem mB {v:Aj} {a:Am} (hr:Du v) (hT:Fp v.Ad) (hk:a.kind=1):∃r,g132 v a=some r∧g465 v a=some r∧Yt v a r:=by
 obtain ⟨r1,u1,e1,e2,e3,hc⟩:=lW hr.tab a.ttl a.Ef
 have h40:=hr.t
 have hi40:=hr.i40
 have ha:=hr.a
 have hn1:=hr.tab.2.1
 have tabf:Yq a→Fp r1.1:=fun hf=>by
  obtain ⟨r',e',t'⟩:=qO hT _ _ (hf.1 hk)
  rw [e1] at e'; cases e'; exact t'
 simp only [g132,g465,e1,e2,e3,Option.bind_some]
 have ref:∀c,c≠0→∃r,Kc v a r1 c=some r∧Ke v a u1 c=some r∧Yt v a r:=fun c h0=>⟨(v,Ao.mk c 0),by simp [Kc,h0],by simp [Ke,h0,bT],Ra hr hT a c 0⟩
 rcases hc with ⟨_,n0⟩ | ⟨hur,c0,cid,cn,cl,l,lid,lt⟩
 ·have:(bif (r1.2.2==0) then ((v.Ab.length:Int)==40) else false)=false:=by simp [n0]
  rw [this]
  simp only [Bool.false_eq_true,if_false]
  exact ref _ n0
 ·subst hur
  by_cases hf:v.Ab.length=40
  ·have:(bif (u1.2.2==0) then ((v.Ab.length:Int)==40) else false)=true:=by simp [c0,hf]
   rw [this]
   simp only [if_true]
   exact ref 9 (by decide)
  ·have:(bif (u1.2.2==0) then ((v.Ab.length:Int)==40) else false)=false:=by simp [c0]; omega
   rw [this]
   simp only [Bool.false_eq_true,if_false]
   obtain ⟨rt,rid,rc⟩:=u1
   simp only at c0 cid lt tabf
   subst c0 cid
   have hw:IntKind.i64.wrap (v.Ad.next+1)=v.Ad.next+1:=wr ⟨by omega,by omega⟩
   have hrn:rt.next=v.Ad.next+1:=by rw [lt]
   have hA:Cf v.Ai 1 v.Ad.next:=hr.acc.mono (by omega)
   obtain ⟨c1,c2,c3,c4⟩:=Kp hA (by omega) v.Ad.next true (Az a 0) (fun _=>⟨by omega,by omega⟩)
   have hA2:(Bq v.Ai v.Ad.next true (Az a 0)).1.length≤1000000:=by
    have:=c3.len (by omega); omega
   have f0:lA a 0=some (Az a 0):=eC a 0
   have hsub:∀x∈(Bq v.Ai v.Ad.next true (Az a 0)).1,x∈v.Ai∨x=v.Ad.next:=fun x hx=>by
    rcases c4 with ⟨_,e,_⟩ | ⟨_,_,hm⟩
    ·rw [e] at hx; exact .inl hx
    ·simpa using (hm x).1 hx
   have r1:eW (Cu.mk (Aj.mk (Ak.mk v.Ad.clock (v.Ad.next+1) v.Ad.Ae) (v.Ab++[Ah.mk v.Ad.next false]) v.Ai v.Al) a 0) v.Ad.next true=some ((Bq v.Ai v.Ad.next true (Az a 0)).2,Cu.mk (Aj.mk (Ak.mk v.Ad.clock (v.Ad.next+1) v.Ad.Ae) (v.Ab++[Ah.mk v.Ad.next false]) (Bq v.Ai v.Ad.next true (Az a 0)).1 v.Al) a 1):=
    bA (v:=Aj.mk (Ak.mk v.Ad.clock (v.Ad.next+1) v.Ad.Ae) (v.Ab++[Ah.mk v.Ad.next false]) v.Ai v.Al) (a:=a) (k:=0) (by omega) hA (by simp only; omega) v.Ad.next true (fun _=>⟨by omega,by omega⟩)
   have hlen:(v.Ab++[Ah.mk v.Ad.next false]).length=v.Ab.length+1:=by simp
   have hwl:IntKind.i64.wrap (((v.Ab++[Ah.mk v.Ad.next false]).length:Int)-1)=(v.Ab.length:Int):=by rw [hlen,wr ⟨by omega,by omega⟩]; omega
   have hT1:Fp (Ak.mk v.Ad.clock (v.Ad.next+1) v.Ad.Ae):=BT hT cn
   have cap:(v.Ab.length+([Ah.mk v.Ad.next false]:List Ah).length)*16≤140737488355328:=by simp; omega
   have ecp:=Qe (v:=v) (by omega) (by omega) (by omega)
   by_cases s1:a.stop=1
   ·have q1:=Px (Aj.mk (Ak.mk v.Ad.clock (v.Ad.next+1) v.Ad.Ae) (v.Ab++[Ah.mk v.Ad.next false]) v.Ai v.Al) (by simp only; omega) (by simp; omega) (by simp only; omega)
    have q2:=Pw (Aj.mk (Ak.mk v.Ad.clock (v.Ad.next+1) v.Ad.Ae) (v.Ab++[Ah.mk v.Ad.next false]) v.Ai v.Al) (by simp; omega)
    refine ⟨(Iv (Aj.mk (Ak.mk v.Ad.clock (v.Ad.next+1) v.Ad.Ae) (v.Ab++[Ah.mk v.Ad.next false]) v.Ai v.Al),Ao.mk 15 0),?_,?_,fun h=>absurd rfl h.2.1,⟨by simp [Iv]; omega,by simp [Iv]; omega,by simp [Iv]; omega⟩,fun _ _=>Um (AV hr cn hf v.Ai hA (fun x hx=>.inl hx) false v.Al) hT1⟩
    ·simp only [Kc,ecp,Option.bind_some,hrn,s1]
     rw [if_neg (by simp),if_pos cap,if_pos (by simp),q1]
     rfl
    ·simp only [Ke,hw,s1]
     rw [if_neg (by simp),if_pos cap,if_pos (by simp),q2]
     rfl
   ·have s1':¬(a.stop==1)=true:=by simpa using s1
    by_cases s2:a.stop=2
    ·have s2':(a.stop==2)=true:=by simpa using s2
     have q1:=Px (Aj.mk (Ak.mk v.Ad.clock (v.Ad.next+1) v.Ad.Ae) (v.Ab++[Ah.mk v.Ad.next false]) (Bq v.Ai v.Ad.next true (Az a 0)).1 v.Al) (by simp only; omega) (by simp; omega) (by simp only; omega)
     have q2:=Pw (Aj.mk (Ak.mk v.Ad.clock (v.Ad.next+1) v.Ad.Ae) (v.Ab++[Ah.mk v.Ad.next false]) (Bq v.Ai v.Ad.next true (Az a 0)).1 v.Al) (by simp; omega)
     refine ⟨(Iv (Aj.mk (Ak.mk v.Ad.clock (v.Ad.next+1) v.Ad.Ae) (v.Ab++[Ah.mk v.Ad.next false]) (Bq v.Ai v.Ad.next true (Az a 0)).1 v.Al),Ao.mk 15 0),?_,?_,fun h=>absurd rfl h.2.1,⟨by simp [Iv]; omega,by simp [Iv]; omega,by simp [Iv]; omega⟩,fun _ _=>Um (AV hr cn hf _ c3 hsub false v.Al) hT1⟩
     ·simp only [Kc,ecp,Option.bind_some,hrn,f0,c2]
      rw [if_neg (by simp),if_pos cap,if_neg s1',if_pos s2',q1]
      rfl
     ·simp only [Ke,hw,r1,Option.bind_some]
      rw [if_neg (by simp),if_pos cap,if_neg s1',if_pos s2',q2]
      rfl
    ·have s2':¬(a.stop==2)=true:=by simpa using s2
     by_cases h0:(Bq v.Ai v.Ad.next true (Az a 0)).2=0
     ·have h0':¬((Bq v.Ai v.Ad.next true (Az a 0)).2 != 0)=true:=by simp [h0]
      have hs:=CZ (v.Ab++[Ah.mk v.Ad.next false]) 0 v.Ab.length (by omega) (by omega)
      rw [show ((0:Nat):Int)=0 from rfl] at hs
      have et:List.drop 0 (List.take v.Ab.length (v.Ab++[Ah.mk v.Ad.next false]))=v.Ab:=by simp
      rw [et] at hs
      refine ⟨(Aj.mk rt v.Ab (Bq v.Ai v.Ad.next true (Az a 0)).1 v.Al,Ao.mk 0 v.Ad.next),?_,?_,fun h=>absurd rfl h.1,⟨by simp only [lt]; simp; omega,by simp only; omega,by simp only; omega⟩,fun hu hfit=>⟨?_,tabf hfit,hu⟩⟩
      ·simp only [Kc,ecp,Option.bind_some,hrn,f0,c2,hwl]
       rw [if_neg (by simp),if_pos cap,if_neg s1',if_neg s2',if_neg h0',hs]
       rfl
      ·simp only [Ke,hw,r1,Option.bind_some,hwl]
       rw [if_neg (by simp),if_pos cap,if_neg s1',if_neg s2',if_neg h0',hs]
       rfl
      ·refine ⟨(tabf hfit).1,hi40,by simp only [hrn]; rw [show v.Ad.next+1-1=v.Ad.next by omega]; exact c3,by simp only [hrn]; exact hr.its.mono (by omega),fun i hi y hy=>?_,fun x hx=>?_⟩
       ·simp only [lt] at hy
        rcases List.mem_append.1 hy with hy | hy
        ·exact hr.off i hi y hy
        ·simp only [List.mem_singleton] at hy; subst hy
         have:=hr.its.mem (List.mem_map_of_mem hi)
         omega
       ·simp only [lt]
        rcases hsub x hx with hx | rfl
        ·rcases hr.nam x hx with ⟨y,hy,e⟩ | h1
         ·exact .inl ⟨y,List.mem_append_left _ hy,e⟩
         ·exact .inr h1
        ·exact .inl ⟨l,by simp,lid⟩
     ·have h0':((Bq v.Ai v.Ad.next true (Az a 0)).2 != 0)=true:=by simpa using h0
      have il:=Cd (show v.Ab.length<(v.Ab++[Ah.mk v.Ad.next false]).length by omega)
      have gl:=List.getElem?_eq_getElem (show v.Ab.length<(v.Ab++[Ah.mk v.Ad.next false]).length by omega)
      have el:(v.Ab++[Ah.mk v.Ad.next false])[v.Ab.length]'(by omega)=Ah.mk v.Ad.next false:=by simp
      rw [el] at il gl
      have es:(v.Ab++[Ah.mk v.Ad.next false]).set v.Ab.length (Ah.mk v.Ad.next true)=v.Ab++[Ah.mk v.Ad.next true]:=by simp [List.set_append]
      refine ⟨(Aj.mk (Ak.mk v.Ad.clock (v.Ad.next+1) v.Ad.Ae) (v.Ab++[Ah.mk v.Ad.next true]) (Bq v.Ai v.Ad.next true (Az a 0)).1 v.Al,Ao.mk (Bq v.Ai v.Ad.next true (Az a 0)).2 0),?_,?_,fun h=>?_,⟨by simp only; omega,by simp; omega,by simp only; omega⟩,fun hu _=>⟨AV hr cn hf _ c3 hsub true v.Al,hT1,fun i hi=>?_⟩⟩
      ·simp only [Kc,ecp,Option.bind_some,hrn,f0,c2,hwl]
       rw [if_neg (by simp),if_pos cap,if_neg s1',if_neg s2',if_pos h0',il]
       simp only [Option.bind_some,Int.toNat_natCast,gl,es]
      ·simp only [Ke,hw,r1,Option.bind_some,hwl]
       rw [if_neg (by simp),if_pos cap,if_neg s1',if_neg s2',if_pos h0',il]
       simp only [Option.bind_some,Int.toNat_natCast,gl,es,bT]
      ·exfalso
       simp only at h
       rcases c4 with ⟨e,_,_⟩ | ⟨_,e,_⟩
       ·exact h.2.2 e
       ·rw [e] at h
        unfold Lu at h
        split at h
        ·exact h.2.1 rfl
        ·exact h.1 rfl
      ·simp only at hi
       rcases List.mem_append.1 hi with hi | hi
       ·exact hu i hi
       ·simp only [List.mem_singleton] at hi; subst hi; rfl
theorem oM {t:Ak} {k:Nat} (hk:k<t.Ae.length) (v:Aa) (h:v.id=t.Ae[k].id):(t.Ae.set k v).map Aa.id=t.Ae.map Aa.id:=by
 apply List.ext_getElem
 ·simp
 ·intro j h1 h2
  simp only [List.getElem_map,List.getElem_set]
  split
  ·rename_i e; subst e; exact h
  ·rfl
theorem jK {t:Ak} (h:Et t) (x:Int):∃r s,g74 t x=some r∧g75 t x=some s∧s.2=r.2∧(r.2=0→s=r)∧r.1.next=t.next∧r.1.Ae.map Aa.id=t.Ae.map Aa.id:=by
 have hl:=h.2.2.1
 obtain ⟨n,h1,h2⟩:=Sd t x (by omega)
 obtain ⟨i,b,h3,h4,h5⟩:=fB t h x n h2
 simp only [g74,g75,h1,h3,Option.bind_some]
 cases b with
 | false=>
  have:=h5 rfl; subst this
  exact ⟨_,_,rfl,rfl,rfl,(fun h=>by simp at h),rfl,rfl⟩
 | true=>
  obtain ⟨rfl,hn⟩:=h4 rfl
  rcases h2 with ⟨rfl,_⟩ | ⟨k,hk,rfl,_⟩
  ·omega
  ·rw [if_neg (by simp),if_neg (by simp),Kb t (by omega),Qk t (by omega)]
   simp only [Option.bind_some,Cd hk,Int.toNat_natCast,List.getElem?_eq_getElem hk]
   exact ⟨_,_,rfl,rfl,rfl,fun _=>rfl,rfl,oM hk _ rfl⟩
theorem mM {t:Ak} (h:Et t) (x c:Int):∃r s,g79 t x c=some r∧g80 t x c=some s∧s.2=r.2∧(r.2=0→s=r)∧r.1.next=t.next∧r.1.Ae.map Aa.id=t.Ae.map Aa.id:=by
 have hl:=h.2.2.1
 obtain ⟨n,h1,h2⟩:=Sd t x (by omega)
 obtain ⟨i,b,h3,h4,h5⟩:=fB t h x n h2
 simp only [g79,g80,h1,h3,Option.bind_some]
 by_cases hb:c<1
 ·simp only [decide_eq_true hb,if_true]
  exact ⟨_,_,rfl,rfl,rfl,(fun h=>by simp at h),rfl,rfl⟩
 ·simp only [decide_eq_false hb,if_neg (show ¬(false=true) by decide)]
  cases b with
  | false=>
   have:=h5 rfl; subst this
   exact ⟨_,_,rfl,rfl,rfl,(fun h=>by simp at h),rfl,rfl⟩
  | true=>
   obtain ⟨rfl,hn⟩:=h4 rfl
   rcases h2 with ⟨rfl,_⟩ | ⟨k,hk,rfl,_⟩
   ·omega
   ·rw [if_neg (by simp),if_neg (by simp),Cd hk]
    simp only [Option.bind_some]
    by_cases hq:t.Ae[k].Cj=true
    ·rw [if_pos hq,if_pos hq]
     exact ⟨_,_,rfl,rfl,rfl,(fun h=>by simp at h),rfl,rfl⟩
    ·rw [if_neg hq,if_neg hq,Kb t (by omega),Qk t (by omega)]
     obtain ⟨x,e3,e4⟩:=lS t.clock c
     simp only [Option.bind_some,Cd hk,Int.toNat_natCast,List.getElem?_eq_getElem hk,e3,e4,Bs]
     have:(if x<t.Ae[k].cap then x else t.Ae[k].cap)=(if t.Ae[k].cap<x then t.Ae[k].cap else x):=by
      split<;>split<;>omega
     rw [this]
     exact ⟨_,_,rfl,rfl,rfl,fun _=>rfl,rfl,oM hk _ rfl⟩
theorem dQ {v:Aj} (hr:Du v) (hT:Fp v.Ad) (a:Am) (r u:Ak×Int) (hu2:u.2=r.2) (hur:r.2=0→u=r) (hn:r.1.next=v.Ad.next) (hi:r.1.Ae.map Aa.id=v.Ad.Ae.map Aa.id) (hf:Yq a→Fp r.1):
  ∃x,Hr v r.2 r.1.clock r.1.next r.1.Ae v.Ab v.Ai v.Al=some x∧AL v u.1 u.2=some x∧Yt v a x:=by
 simp only [Hr,AL,bT,Option.bind_some,hu2]
 by_cases h0:r.2=0
 ·rw [if_neg (by simp [h0]),if_neg (by simp [h0])]
  rw [hur h0]
  have hl:r.1.Ae.length=v.Ad.Ae.length:=by simpa using congrArg List.length hi
  have:=hr.t
  have:=hr.i40
  have:=hr.a
  exact ⟨_,rfl,rfl,fun h=>absurd rfl h.1,⟨by simp only; omega,by simp only; omega,by simp only; omega⟩,fun hu hfit=>⟨Mt hr (hf hfit).1 hn hi _,hf hfit,hu⟩⟩
 ·rw [if_pos (by simpa using h0),if_pos (by simpa using h0)]
  exact ⟨_,rfl,rfl,Ra hr hT a _ _⟩
theorem jS (a:Am) {M:Int} (hM:M≤1000000) (hM0:0≤M):∀(r:List Aa) (c:Nat) (L:List Aa) (A:List Int),Cf A 1 M →
  (∀y∈(Db a r c L A).2.1,y∈L)∧∀y∈(Db a r c L A).2.2.1,y∈A∧((∃z∈L,z.id=y)→∃z∈(Db a r c L A).2.1,z.id=y):=by
 intro r
 induction r with
 | nil=>intro c L A hA; exact ⟨fun y hy=>hy,fun y hy=>⟨hy,fun h=>h⟩⟩
 | cons x r ih=>
  intro c L A hA
  by_cases hq:x.Cj=true
  ·have hlen:A.length≤1000000:=by have:=hA.len hM0; omega
   obtain ⟨c1,c2,c3,c4⟩:=Kp hA (by omega) x.id false (Az a c) (fun h=>by cases h)
   have hL:∀y∈Gg L x.id (Bq A x.id false (Az a c)).2,y∈L:=fun y hy=>by
    unfold Gg at hy
    split at hy
    ·exact (List.mem_filter.1 hy).1
    ·exact hy
   have hN:∀y∈(Bq A x.id false (Az a c)).1,y∈A∧((∃z∈L,z.id=y)→∃z∈Gg L x.id (Bq A x.id false (Az a c)).2,z.id=y):=fun y hy=>by
    rcases c4 with ⟨e1,e2,_⟩ | ⟨_,e1,hm⟩
    ·rw [e2] at hy
     refine ⟨hy,fun h=>?_⟩
     unfold Gg
     rw [if_neg (by rw [e1]; decide)]
     exact h
    ·have hy':y∈A∧y≠x.id:=by simpa using (hm y).1 hy
     refine ⟨hy'.1,fun ⟨z,hz,e⟩=>⟨z,?_,e⟩⟩
     unfold Gg
     split
     ·rw [List.mem_filter]
      exact ⟨hz,by simp; rw [e]; exact hy'.2⟩
     ·exact hz
   by_cases hs:a.stop=2
   ·have eR:Db a (x::r) c L A=(c+1,Gg L x.id (Bq A x.id false (Az a c)).2,(Bq A x.id false (Az a c)).1,true):=by simp only [Db,hq,if_true]; rw [if_pos hs]
    rw [eR]
    exact ⟨hL,hN⟩
   ·have eR:Db a (x::r) c L A=Db a r (c+1) (Gg L x.id (Bq A x.id false (Az a c)).2) (Bq A x.id false (Az a c)).1:=by simp only [Db,hq,if_true]; rw [if_neg hs]
    rw [eR]
    obtain ⟨i1,i2⟩:=ih (c+1) (Gg L x.id (Bq A x.id false (Az a c)).2) _ c3
    exact ⟨fun y hy=>hL y (i1 y hy),fun y hy=>⟨(hN y (i2 y hy).1).1,fun h=>(i2 y hy).2 ((hN y (i2 y hy).1).2 h)⟩⟩
  ·have eR:Db a (x::r) c L A=Db a r c L A:=by simp only [Db,hq,if_false]; rfl
   rw [eR]
   exact ih c L A hA
theorem jQ (a:Am) {M:Int} (hM:M≤1000000) (hM0:0≤M):∀(r:List Ah) (c:Nat) (L:List Ah) (A:List Int),Cf A 1 M →
  (De a r c L A).2.1.Sublist L∧∀y∈(De a r c L A).2.2.1,y∈A∧((∃z∈L,z.As=y)→∃z∈(De a r c L A).2.1,z.As=y):=by
 intro r
 induction r with
 | nil=>intro c L A hA; exact ⟨List.Sublist.refl _,fun y hy=>⟨hy,fun h=>h⟩⟩
 | cons x r ih=>
  intro c L A hA
  by_cases hq:x.Md=true
  ·have hlen:A.length≤1000000:=by have:=hA.len hM0; omega
   obtain ⟨c1,c2,c3,c4⟩:=Kp hA (by omega) x.As false (Az a c) (fun h=>by cases h)
   have hL:(He L x.As (Bq A x.As false (Az a c)).2).Sublist L:=by
    unfold He
    split
    ·exact List.filter_sublist
    ·exact List.Sublist.refl _
   have hN:∀y∈(Bq A x.As false (Az a c)).1,y∈A∧((∃z∈L,z.As=y)→∃z∈He L x.As (Bq A x.As false (Az a c)).2,z.As=y):=fun y hy=>by
    rcases c4 with ⟨e1,e2,_⟩ | ⟨_,e1,hm⟩
    ·rw [e2] at hy
     refine ⟨hy,fun h=>?_⟩
     unfold He
     rw [if_neg (by rw [e1]; decide)]
     exact h
    ·have hy':y∈A∧y≠x.As:=by simpa using (hm y).1 hy
     refine ⟨hy'.1,fun ⟨z,hz,e⟩=>⟨z,?_,e⟩⟩
     unfold He
     split
     ·rw [List.mem_filter]
      exact ⟨hz,by simp; rw [e]; exact hy'.2⟩
     ·exact hz
   by_cases hs:a.stop=2
   ·have eR:De a (x::r) c L A=(c+1,He L x.As (Bq A x.As false (Az a c)).2,(Bq A x.As false (Az a c)).1,true):=by simp only [De,hq,if_true]; rw [if_pos hs]
    rw [eR]
    exact ⟨hL,hN⟩
   ·have eR:De a (x::r) c L A=De a r (c+1) (He L x.As (Bq A x.As false (Az a c)).2) (Bq A x.As false (Az a c)).1:=by simp only [De,hq,if_true]; rw [if_neg hs]
    rw [eR]
    obtain ⟨i1,i2⟩:=ih (c+1) (He L x.As (Bq A x.As false (Az a c)).2) _ c3
    exact ⟨i1.trans hL,fun y hy=>⟨(hN y (i2 y hy).1).1,fun h=>(i2 y hy).2 ((hN y (i2 y hy).1).2 h)⟩⟩
  ·have eR:De a (x::r) c L A=De a r c L A:=by simp only [De,hq,if_false]; rfl
   rw [eR]
   exact ih c L A hA
noncomputable def Ch (w:Aj) (a:Am):Nat×List Aa×List Int×Bool:=Db a w.Ad.Ae 0 w.Ad.Ae w.Ai
noncomputable def Dm (w:Aj) (a:Am):Nat×List Ah×List Int×Bool:=De a w.Ab (Ch w a).1 w.Ab (Ch w a).2.2.1
noncomputable def Ki (w:Aj) (a:Am):Ak:=Ak.mk w.Ad.clock w.Ad.next (Ch w a).2.1
noncomputable def Fc (w:Aj) (a:Am):Aj×Bool:=
 if (Ch w a).2.2.2=true then (Iv (Aj.mk (Ki w a) w.Ab (Ch w a).2.2.1 w.Al),true)
 else if (Dm w a).2.2.2=true then (Iv (Aj.mk (Ki w a) (Dm w a).2.1 (Dm w a).2.2.1 w.Al),true)
 else (Aj.mk (Ki w a) (Dm w a).2.1 (Dm w a).2.2.1 w.Al,false)
theorem Sq {w:Aj} (a:Am) (hr:Du w) (hT:Fp w.Ad):
  kW w a=some (Fc w a).1 ∧
  ((Bz (Kf a w.Ad.Ae) (0,w.Ad.clock,w.Ad.next,w.Ad.Ae,w.Ab,w.Ai,w.Al,a.kind,a.id,a.ttl,a.Ef,a.clock,a.Cb,a.stop,0)).bind fun r182=>(match r182 with
   | .inl (p108,p109,p110,p111,p112,p113,p114,p115,p116,p117,p118,p119,p120,p121)=>(lQ p111).bind fun r184=>
    (Bz (Ik a r184) (0,p108,p109,p110,p111,p112,p113,p114,p115,p116,p117,p118,p119,p120,p121)).bind fun r344=>(match r344 with
    | .inl (p278,p279,p280,p281,p282,p283,p284,p285,p286,p287,p288,p289,p290,p291)=>some ((Aj.mk (Ak.mk p278 p279 p280) p281 p282 p283),(Ao.mk 0 0))
    | .inr q=>some q)
   | .inr q=>some q))=some ((Fc w a).1,Ao.mk (if (Fc w a).2=true then 15 else 0) 0) ∧
  Du (Fc w a).1∧Fp (Fc w a).1.Ad∧((∀i∈w.Ab,i.Md=true)→∀i∈(Fc w a).1.Ab,i.Md=true)∧((Fc w a).2=true→(Fc w a).1.Al=true)∧((Fc w a).2=false→(Fc w a).1.Al=w.Al):=by
 have h40:=hr.t
 have hi40:=hr.i40
 have hn1:=hr.tab.2.1
 obtain ⟨l1,l2,l3,l4,l5,l6⟩:=jR w a hr.tab (by omega) w.Ad.Ae.length 0 0 w.Ad.Ae w.Ai (by omega) (Nat.le_refl _) hT (fun x hx=>by simpa using hx) hr.acc (fun _=>rfl)
 simp only [List.drop_zero] at l1 l2 l3 l4 l5 l6
 change Bz (Ln w a w) (0,0,w.Ad.clock,w.Ad.next,w.Ad.Ae,w.Ai)=some (if (Ch w a).2.2.2=true then .inr (Iv (Aj.mk (Ki w a) w.Ab (Ch w a).2.2.1 w.Al)) else .inl (((Ch w a).1:Int),w.Ad.clock,w.Ad.next,(Ch w a).2.1,(Ch w a).2.2.1)) at l1
 change Bz (Kf a w.Ad.Ae) (0,w.Ad.clock,w.Ad.next,w.Ad.Ae,w.Ab,w.Ai,w.Al,a.kind,a.id,a.ttl,a.Ef,a.clock,a.Cb,a.stop,0)=some (if (Ch w a).2.2.2=true then .inr (Iv (Aj.mk (Ki w a) w.Ab (Ch w a).2.2.1 w.Al),Ao.mk 15 0) else .inl (w.Ad.clock,w.Ad.next,(Ch w a).2.1,w.Ab,(Ch w a).2.2.1,w.Al,a.kind,a.id,a.ttl,a.Ef,a.clock,a.Cb,a.stop,((Ch w a).1:Int))) at l2
 change Fp (Ki w a) at l3
 change Cf (Ch w a).2.2.1 1 (w.Ad.next-1) at l4
 change (Ch w a).1≤w.Ad.Ae.length at l5
 change (Ch w a).2.2.2=false→a.stop=2→(Ch w a).1=0 at l6
 obtain ⟨p1,p2⟩:=jS a (M:=w.Ad.next-1) (by omega) (by omega) w.Ad.Ae 0 w.Ad.Ae w.Ai hr.acc
 change ∀y∈(Ch w a).2.1,y∈w.Ad.Ae at p1
 change ∀y∈(Ch w a).2.2.1,y∈w.Ai∧((∃z∈w.Ad.Ae,z.id=y)→∃z∈(Ch w a).2.1,z.id=y) at p2
 have rA:∀s,Du (Aj.mk (Ki w a) w.Ab (Ch w a).2.2.1 s):=fun s=>⟨l3.1,hr.i40,l4,hr.its,fun i hi y hy=>hr.off i hi y (p1 y hy),fun x hx=>by
  rcases hr.nam x (p2 x hx).1 with h1 | h1
  ·exact .inl ((p2 x hx).2 h1)
  ·exact .inr h1⟩
 by_cases hb:(Ch w a).2.2.2=true
 ·have e:Fc w a=(Iv (Aj.mk (Ki w a) w.Ab (Ch w a).2.2.1 w.Al),true):=by unfold Fc; rw [if_pos hb]
  rw [if_pos hb] at l1 l2
  rw [e]
  refine ⟨?_,?_,Rb (rA _),l3,fun _=>(Um (rA w.Al) l3).und,fun _=>rfl,fun h=>by cases h⟩
  ·simp only [kW,Qe (v:=w) (by omega) (by omega) (by have:=hr.a; omega),Option.bind_some,l1]
  ·simp only [l2,Option.bind_some]
   rfl
 ·rw [if_neg hb] at l1 l2
  have hb':(Ch w a).2.2.2=false:=by simpa using hb
  obtain ⟨m1,m2,m3⟩:=jP w a (Ki w a) l3.1 (by omega) rfl w.Ab.length 0 (Ch w a).1 w.Ab (Ch w a).2.2.1 (by omega) (by omega) (by omega) l4 (l6 hb')
  simp only [List.drop_zero] at m1 m2 m3
  change Bz (Jj w a w (Ki w a).clock (Ki w a).next (Ki w a).Ae) (((Ch w a).1:Int),0,w.Ab,(Ch w a).2.2.1)=some (if (Dm w a).2.2.2=true then .inr (Iv (Aj.mk (Ki w a) (Dm w a).2.1 (Dm w a).2.2.1 w.Al)) else .inl ((Dm w a).2.1,(Dm w a).2.2.1)) at m1
  change Bz (Ik a w.Ab) (0,(Ki w a).clock,(Ki w a).next,(Ki w a).Ae,w.Ab,(Ch w a).2.2.1,w.Al,a.kind,a.id,a.ttl,a.Ef,a.clock,a.Cb,a.stop,((Ch w a).1:Int))=some (if (Dm w a).2.2.2=true then .inr (Iv (Aj.mk (Ki w a) (Dm w a).2.1 (Dm w a).2.2.1 w.Al),Ao.mk 15 0) else .inl ((Ki w a).clock,(Ki w a).next,(Ki w a).Ae,(Dm w a).2.1,(Dm w a).2.2.1,w.Al,a.kind,a.id,a.ttl,a.Ef,a.clock,a.Cb,a.stop,((Dm w a).1:Int))) at m2
  change Cf (Dm w a).2.2.1 1 (w.Ad.next-1) at m3
  obtain ⟨q1,q2⟩:=jQ a (M:=w.Ad.next-1) (by omega) (by omega) w.Ab (Ch w a).1 w.Ab (Ch w a).2.2.1 l4
  change (Dm w a).2.1.Sublist w.Ab at q1
  change ∀y∈(Dm w a).2.2.1,y∈(Ch w a).2.2.1∧((∃z∈w.Ab,z.As=y)→∃z∈(Dm w a).2.1,z.As=y) at q2
  have rB:∀s,Du (Aj.mk (Ki w a) (Dm w a).2.1 (Dm w a).2.2.1 s):=fun s=>⟨l3.1,Nat.le_trans q1.length_le hr.i40,m3,Yk (fun x hx=>hr.its.mem ((q1.map _).mem hx)) ((Yl hr.its).sublist (q1.map _)),fun i hi y hy=>hr.off i (q1.mem hi) y (p1 y hy),fun x hx=>by
   have h1:=q2 x hx
   have h2:=p2 x h1.1
   rcases hr.nam x h2.1 with h3 | h3
   ·exact .inl (h2.2 h3)
   ·exact .inr (h1.2 h3)⟩
  have ec:lQ w.Ab=some w.Ab:=oC _ (by omega)
  by_cases hd:(Dm w a).2.2.2=true
  ·have e:Fc w a=(Iv (Aj.mk (Ki w a) (Dm w a).2.1 (Dm w a).2.2.1 w.Al),true):=by unfold Fc; rw [if_neg hb,if_pos hd]
   rw [if_pos hd] at m1 m2
   rw [e]
   refine ⟨?_,?_,Rb (rB _),l3,fun _=>(Um (rB w.Al) l3).und,fun _=>rfl,fun h=>by cases h⟩
   ·simp only [kW,Qe (v:=w) (by omega) (by omega) (by have:=hr.a; omega),Option.bind_some,l1]
    rw [show Bz (Jj w a w w.Ad.clock w.Ad.next (Ch w a).2.1) (((Ch w a).1:Int),0,w.Ab,(Ch w a).2.2.1)=_ from m1]
    rfl
   ·simp only [l2,Option.bind_some,ec]
    rw [show Bz (Ik a w.Ab) (0,w.Ad.clock,w.Ad.next,(Ch w a).2.1,w.Ab,(Ch w a).2.2.1,w.Al,a.kind,a.id,a.ttl,a.Ef,a.clock,a.Cb,a.stop,((Ch w a).1:Int))=_ from m2]
    rfl
  ·have e:Fc w a=(Aj.mk (Ki w a) (Dm w a).2.1 (Dm w a).2.2.1 w.Al,false):=by unfold Fc; rw [if_neg hb,if_neg hd]
   rw [if_neg hd] at m1 m2
   rw [e]
   refine ⟨?_,?_,rB _,l3,fun hu i hi=>hu i (q1.mem hi),(fun h=>by cases h),fun _=>rfl⟩
   ·simp only [kW,Qe (v:=w) (by omega) (by omega) (by have:=hr.a; omega),Option.bind_some,l1]
    rw [show Bz (Jj w a w w.Ad.clock w.Ad.next (Ch w a).2.1) (((Ch w a).1:Int),0,w.Ab,(Ch w a).2.2.1)=_ from m1]
    rfl
   ·simp only [l2,Option.bind_some,ec]
    rw [show Bz (Ik a w.Ab) (0,w.Ad.clock,w.Ad.next,(Ch w a).2.1,w.Ab,(Ch w a).2.2.1,w.Al,a.kind,a.id,a.ttl,a.Ef,a.clock,a.Cb,a.stop,((Ch w a).1:Int))=_ from m2]
    rfl
def Mw (t:Ak) (c:Int):Ak:=Ak.mk (Cs t c) t.next (t.Ae.map (Ho (Cs t c)))
theorem Ur (t:Ak) (c:Int):(Mw t c).Ae.map Aa.id=t.Ae.map Aa.id:=by
 simp only [Mw,List.map_map]
 apply List.map_congr_left
 intro x _
 simp only [Function.comp,Ho]
 split<;>rfl
def El (v:Aj) (a:Am):Aj:=Aj.mk (Mw v.Ad a.clock) v.Ab v.Ai v.Al
noncomputable def Uq (v:Aj) (a:Am):Aj×Ao:=
 if a.stop=1 then (Iv (El v a),Ao.mk 15 0) else ((Fc (El v a) a).1,Ao.mk (if (Fc (El v a) a).2=true then 15 else 0) 0)
theorem dP {v:Aj} (a:Am) (hr:Du v) (hT:Fp v.Ad) (hc:a.clock≤9223372036854775807):g467 v a=some (Uq v a):=by
 have h40:=hr.t
 have hi40:=hr.i40
 obtain ⟨s,e1,_⟩:=g82_eq v.Ad a.clock (by omega)
 have hT2:Fp (Mw v.Ad a.clock):=Ut hT a.clock hc
 have hr2:Du (El v a):=Mt hr hT2.1 rfl (Ur _ _) _
 have hl2:(Mw v.Ad a.clock).Ae.length≤40:=hT2.1.2.2.1
 simp only [g467,e1,Option.bind_some]
 unfold Uq
 by_cases h1:a.stop=1
 ·rw [if_pos (by simp [h1]),if_pos h1]
  rw [show eV (Aj.mk (Ak.mk (Cs v.Ad a.clock) v.Ad.next (v.Ad.Ae.map (Ho (Cs v.Ad a.clock)))) v.Ab v.Ai v.Al)=_ from Pw (El v a) (by simp only [El]; omega)]
  rfl
 ·rw [if_neg (by simpa using h1),if_neg h1]
  rw [show g66 (v.Ad.Ae.map (Ho (Cs v.Ad a.clock)))=_ from AR (Mw v.Ad a.clock).Ae (by omega)]
  exact (Sq a hr2 hT2).2.1
theorem rJ {v:Aj} (a:Am) (hr:Du v) (hT:Fp v.Ad) (hc:a.clock≤9223372036854775807):Yt v a (Uq v a):=by
 have hT2:Fp (Mw v.Ad a.clock):=Ut hT a.clock hc
 have hr2:Du (El v a):=Mt hr hT2.1 rfl (Ur _ _) _
 have lens:∀w:Aj,Du w→w.Ad.Ae.length≤1048576∧w.Ab.length≤1048576∧w.Ai.length≤1048576:=fun w h=>⟨by have:=h.t; omega,by have:=h.i40; omega,by have:=h.a; omega⟩
 unfold Uq
 split
 ·exact ⟨fun h=>absurd rfl h.2.1,lens _ (Rb hr2),fun _ _=>Um hr2 hT2⟩
 ·obtain ⟨_,_,s3,s4,s5,_⟩:=Sq a hr2 hT2
  refine ⟨fun h=>?_,lens _ s3,fun hu _=>⟨s3,s4,s5 hu⟩⟩
  exfalso
  simp only at h
  split at h
  ·exact h.2.1 rfl
  ·exact h.1 rfl
theorem fN (k:Int):oF k 1 6=some (decide (1≤k∧k≤6))∧qM k 1 6=some (decide (1≤k∧k≤6)):=by
 simp only [oF,qM]
 by_cases h1:1≤k<;>by_cases h2:k≤6<;>simp [h1,h2]
theorem mU {v:Aj} (hr:Du v) (hT:Fp v.Ad) (a:Am) (hc':a.clock≤9223372036854775807∨a.kind≠4):∃r,zY v a=some r∧iJ v a=some r∧Yt v a r:=by
 have h40:=hr.t
 have hi40:=hr.i40
 have ha:=hr.a
 have lens:v.Ad.Ae.length≤1048576∧v.Ab.length≤1048576∧v.Ai.length≤1048576:=⟨by omega,by omega,by omega⟩
 simp only [zY,iJ,mJ lens.1 lens.2.1 lens.2.2,Qe lens.1 lens.2.1 lens.2.2,fN,bT,Option.bind_some]
 by_cases hk:1≤a.kind∧a.kind≤6
 ·rw [decide_eq_true hk]
  simp only [Bool.not_true,Bool.false_eq_true,if_false]
  by_cases hs:v.Al=true∧a.kind≠6
  ·have e:(bif v.Al then (a.kind != 6) else false)=true:=by simp [hs.1,hs.2]
   rw [e]
   exact ⟨_,rfl,rfl,Ra hr hT a _ _⟩
  ·have e:(bif v.Al then (a.kind != 6) else false)=false:=by
    cases hv:v.Al
    ·rfl
    ·simp only [cond_true]
     rw [bne_eq_false_iff_eq]
     exact Classical.byContradiction fun h=>hs ⟨hv,h⟩
   rw [e]
   simp only [Bool.false_eq_true,if_false]
   have fin:∀s:Bool,Yt v a (Aj.mk v.Ad v.Ab v.Ai s,Ao.mk 0 0):=fun s=>⟨fun h=>absurd rfl h.1,lens,fun hu _=>⟨⟨hr.tab,hr.i40,hr.acc,hr.its,hr.off,hr.nam⟩,hT,hu⟩⟩
   by_cases k1:a.kind=1
   ·obtain ⟨r,x1,x2,x3⟩:=mB (a:=a) hr hT k1
    simp only [show (a.kind==1)=true by simp [k1],if_true]
    rw [x1,x2]
    exact ⟨_,rfl,rfl,x3⟩
   ·simp only [show (a.kind==1)=false by simpa using k1,Bool.false_eq_true,if_false]
    by_cases k2:a.kind=2
    ·obtain ⟨r,u,x1,x2,x5,x6,x3,x4⟩:=mM hr.tab a.id a.ttl
     simp only [show (a.kind==2)=true by simp [k2],if_true]
     rw [x1,x2]
     obtain ⟨x,y1,y2,y3⟩:=dQ hr hT a r u x5 x6 x3 x4 (fun hf=>by
      obtain ⟨r',e',t'⟩:=mN hT a.id a.ttl (hf.2.1 k2)
      rw [x1] at e'; cases e'; exact t')
     simp only [Option.bind_some,y1,y2]
     exact ⟨_,rfl,rfl,y3⟩
    ·simp only [show (a.kind==2)=false by simpa using k2,Bool.false_eq_true,if_false]
     by_cases k3:a.kind=3
     ·obtain ⟨r,u,x1,x2,x5,x6,x3,x4⟩:=jK hr.tab a.id
      simp only [show (a.kind==3)=true by simp [k3],if_true]
      rw [x1,x2]
      obtain ⟨x,y1,y2,y3⟩:=dQ hr hT a r u x5 x6 x3 x4 (fun hf=>by
       obtain ⟨r',e',t'⟩:=mP hT a.id
       rw [x1] at e'; cases e'; exact t')
      simp only [Option.bind_some,y1,y2]
      exact ⟨_,rfl,rfl,y3⟩
     ·simp only [show (a.kind==3)=false by simpa using k3,Bool.false_eq_true,if_false]
      by_cases k4:a.kind=4
      ·have hc:a.clock≤9223372036854775807:=hc'.resolve_right (fun h=>h k4)
       have hv:v.Al=false:=by
        cases hv:v.Al
        ·rfl
        ·exact absurd ⟨hv,by omega⟩ hs
       simp only [show (a.kind==4)=true by simp [k4],if_true]
       rw [dP a hr hT hc]
       obtain ⟨s,e1,_⟩:=g81_eq v.Ad a.clock hr.tab (by omega)
       have hT2:Fp (Mw v.Ad a.clock):=Ut hT a.clock hc
       have hr2:Du (El v a):=Mt hr hT2.1 rfl (Ur _ _) _
       refine ⟨Uq v a,?_,rfl,rJ a hr hT hc⟩
       simp only [e1,Option.bind_some]
       unfold Uq
       by_cases h1:a.stop=1
       ·rw [if_pos (by simp [h1]),if_pos h1]
        rw [show eH (Aj.mk (Ak.mk (Cs v.Ad a.clock) v.Ad.next (v.Ad.Ae.map (Ho (Cs v.Ad a.clock)))) v.Ab v.Ai v.Al)=_ from Px (El v a) (by have:=hr2.t; omega) (by have:=hr2.i40; omega) (by have:=hr2.a; omega)]
        rfl
       ·rw [if_neg (by simpa using h1),if_neg h1]
        obtain ⟨s1,_,s3,s4,s5,s6,s7⟩:=Sq a hr2 hT2
        rw [show kW (Aj.mk (Ak.mk (Cs v.Ad a.clock) v.Ad.next (v.Ad.Ae.map (Ho (Cs v.Ad a.clock)))) v.Ab v.Ai v.Al) a=_ from s1]
        simp only [Option.bind_some,hv,Bool.not_false]
        cases hb:(Fc (El v a) a).2
        ·rw [s7 hb,show (El v a).Al=false from hv]
         simp only [cond_false,Bool.false_eq_true,if_false,Hr]
         rw [if_neg (by simp)]
         have e2:(Fc (El v a) a).1.Al=false:=(s7 hb).trans hv
         rw [←e2]
        ·rw [s6 hb]
         simp
      ·simp only [show (a.kind==4)=false by simpa using k4,Bool.false_eq_true,if_false]
       by_cases k5:a.kind=5
       ·rw [if_pos (by simp [k5])]
        simp only [Hr]
        rw [if_neg (by simp)]
        have:(a.kind==5)=true:=by simp [k5]
        rw [this]
        exact ⟨_,rfl,rfl,fin true⟩
       ·have k6:a.kind=6:=by omega
        rw [if_neg (by simpa using k5),if_pos (by simp [k6])]
        simp only [Hr]
        rw [if_neg (by simp)]
        have:(a.kind==5)=false:=by simpa using k5
        rw [this]
        exact ⟨_,rfl,rfl,fin false⟩
 ·rw [decide_eq_false hk]
  simp only [Bool.not_false,if_true]
  exact ⟨_,rfl,rfl,Ra hr hT a _ _⟩
end Go.Ev
end
section
set_option maxHeartbeats 1000000
namespace Go.Ev
abbrev Vx (l:List Int):Prop:=l.length≤3∧∀f∈l,0≤f∧f≤2
def Jg (a:Am):Prop:=Yq a∧Vx a.Cb∧0≤a.stop∧a.stop≤2
theorem Ml:Vx []:=⟨by simp,by simp⟩
theorem cR {s:By} {B:Int} (h:Hv s B) (hB:B≤1099511627776):∃l s',AG s=some (l,s')∧Vx l∧Hv s' (B+12):=by
 obtain ⟨v,s1,e1,e2,e3⟩:=Ha (n:=4) h (by omega) (by omega)
 have hv:=e2.2.2 (by omega)
 have hv0:=e2.1
 obtain ⟨q,q1,q2⟩:=Tw (step:=Xr) (fun s=>∃k:Nat,s.2.1=(k:Int)∧k+s.1.length≤3∧(∀f∈s.1,0≤f∧f≤2)∧Hv (By.mk s.2.2.1 s.2.2.2.1 s.2.2.2.2) (B+12-3*(k:Int))) (fun s=>s.2.1.toNat)
  (fun r=>Vx r.1∧Hv (By.mk r.2.1 r.2.2.1 r.2.2.2) (B+12)) ([],v,s1.code_,s1.at_,s1.Fl) ⟨v.toNat,by simp only; omega,by simp; omega,by simp,e3.mono (by omega)⟩ (by
  rintro ⟨L,_,cd,at_,sd⟩ ⟨k,rfl,hk,hf,hs⟩
  simp only at hk hs hf
  simp only [Xr]
  by_cases h0:0<k
  ·rw [if_pos (decide_eq_true (by omega))]
   obtain ⟨x,s6,x1,x2,x3⟩:=Ha (n:=5) hs (by omega) (by omega)
   simp only [x1,Option.bind_some]
   rw [if_pos (by simp; omega)]
   have hw:IntKind.i64.wrap ((k:Int)-1)=((k-1:Nat):Int):=by rw [wr ⟨by omega,by omega⟩]; omega
   rw [hw]
   refine .inl ⟨_,rfl,⟨k-1,rfl,by simp; omega,fun f hf'=>?_,x3.mono (by omega)⟩,by simp only; omega⟩
   simp only at hf'
   rcases List.mem_append.1 hf' with hf' | hf'
   ·exact hf f hf'
   ·simp only [List.mem_singleton] at hf'; subst hf'
    have hx0:=x2.1
    rw [Int.tmod_eq_emod_of_nonneg hx0]
    omega
  ·rw [if_neg (by simp; omega)]
   exact .inr ⟨_,rfl,⟨by simp only; omega,hf⟩,hs.mono (by omega)⟩)
 simp only [AG,e1,q1,Option.bind_some]
 exact ⟨_,_,rfl,q2⟩
theorem Pa {k i t m c:Int} {f:List Int} {s:By} {B:Int} (hs:Hv s B) (hB:B≤1099511627776)
  (h1:k=1→1≤t∧t≤m∧m≤9223372036854775807) (h2:k=2→1≤t∧t≤9223372036854775807) (h4:k=4→c≤9223372036854775807) (hf:Vx f):
  ∃r,Lo k i t m c f s.code_ s.at_ s.Fl=some r∧Jg r.1∧Hv r.2 (B+6):=by
 obtain ⟨x,s6,x1,x2,x3⟩:=Ha (n:=7) (s:=By.mk s.code_ s.at_ s.Fl) (B:=B) hs (by omega) (by omega)
 simp only [Lo,g119,x1,Option.bind_some,Xo]
 split
 ·obtain ⟨y,s7,y1,y2,y3⟩:=Ha (n:=2) x3 (by omega) (by omega)
  simp only [y1,Option.bind_some]
  have hy0:=y2.1
  have hy2:=y2.2.2 (by omega)
  rw [wr (n:=1+y) ⟨by omega,by omega⟩]
  exact ⟨_,rfl,⟨⟨h1,h2,h4,by have:=hf.1; simp only; omega⟩,hf,by simp only; omega,by simp only; omega⟩,y3.mono (by omega)⟩
 ·exact ⟨_,rfl,⟨⟨h1,h2,h4,by have:=hf.1; simp only; omega⟩,hf,by simp,by simp⟩,x3.mono (by omega)⟩
theorem ER {s:By} {B:Int} (h:Hv s B) (hB:B≤109951162777):∃r,g135 s=some r∧Jg r.1∧Hv r.2 (B+60):=by
 obtain ⟨v1,s1,a1,a2,a3⟩:=Ha (n:=9) h (by omega) (by omega)
 obtain ⟨f1,s2,b1,b2,b3⟩:=cR a3 (by omega)
 obtain ⟨v3,s3,c1,c2,c3⟩:=Ha (n:=9) b3 (by omega) (by omega)
 obtain ⟨v4,s4,d1,d2,d3⟩:=Ha (n:=10) c3 (by omega) (by omega)
 have hv1:=a2.2.2 (by omega)
 have hv3:=c2.2.2 (by omega)
 have m:∀ {r:Am×By} {C:Int},Hv r.2 C→C≤B+60→Hv r.2 (B+60):=fun hs hc=>hs.mono hc
 have j2:∀b:Bool,∃r,Qo (v1,s1) (f1,s2) (v3,s3) (v4,s4) b=some r∧Jg r.1∧Hv r.2 (B+60):=by
  intro b
  simp only [Qo]
  split
  ·obtain ⟨x,s5,x1,x2,x3⟩:=Ha (n:=60) d3 (by omega) (by omega)
   obtain ⟨g,s6,y1,y2,y3⟩:=cR x3 (by omega)
   have hx:=x2.2.2 (by omega)
   simp only [x1,y1,Option.bind_some]
   obtain ⟨r,r1,r2,r3⟩:=Pa (k:=4) (i:=0) (t:=0) (m:=0) (c:=x) (f:=g) y3 (by omega) (fun h=>by cases h) (fun h=>by cases h) (fun _=>by omega) y2
   exact ⟨r,r1,r2,r3.mono (by omega)⟩
  ·split
   ·obtain ⟨x,s5,x1,x2,x3⟩:=Ha (n:=4) d3 (by omega) (by omega)
    have hx:=x2.2.2 (by omega)
    have hx0:=x2.1
    obtain ⟨k,rfl⟩:∃k:Nat,x=k:=⟨x.toNat,by omega⟩
    have hk:k<([5,6,6,6]:List Int).length:=by simp; omega
    simp only [x1,Option.bind_some,Int.toNat_natCast]
    rw [Cd hk,List.getElem?_eq_getElem hk]
    simp only [Option.bind_some]
    have hval:([5,6,6,6]:List Int)[k]=5∨([5,6,6,6]:List Int)[k]=6:=by
     have:∀y∈([5,6,6,6]:List Int),y=5∨y=6:=by simp
     exact this _ (List.getElem_mem hk)
    obtain ⟨r,r1,r2,r3⟩:=Pa (k:=([5,6,6,6]:List Int)[k]) (i:=0) (t:=0) (m:=0) (c:=0) (f:=[]) x3 (by omega) (fun h=>by omega) (fun h=>by omega) (fun h=>by omega) Ml
    exact ⟨r,r1,r2,r3.mono (by omega)⟩
   ·have w1':IntKind.i64.wrap (1+v1)=1+v1:=wr ⟨by omega,by omega⟩
    have w2':IntKind.i64.wrap (1+v1+v3)=1+v1+v3:=wr ⟨by omega,by omega⟩
    simp only [w1',w2']
    obtain ⟨r,r1,r2,r3⟩:=Pa (k:=1) (i:=0) (t:=1+v1) (m:=1+v1+v3) (c:=0) (f:=f1) d3 (by omega) (fun _=>by omega) (fun h=>by cases h) (fun h=>by cases h) b2
    exact ⟨r,r1,r2,r3.mono (by omega)⟩
 simp only [g135,a1,b1,c1,d1,Option.bind_some]
 split
 ·obtain ⟨x,s5,x1,x2,x3⟩:=Ha (n:=9) d3 (by omega) (by omega)
  obtain ⟨y,s6,y1,y2,y3⟩:=Ha (n:=12) x3 (by omega) (by omega)
  have hx:=x2.2.2 (by omega)
  have hy:=y2.2.2 (by omega)
  have w1':IntKind.i64.wrap (1+y)=1+y:=wr ⟨by omega,by omega⟩
  simp only [x1,y1,w1',Option.bind_some]
  obtain ⟨r,r1,r2,r3⟩:=Pa (k:=2) (i:=IntKind.i64.wrap (1+x)) (t:=1+y) (m:=0) (c:=0) (f:=[]) y3 (by omega) (fun h=>by cases h) (fun _=>by omega) (fun h=>by cases h) Ml
  exact ⟨r,r1,r2,r3.mono (by omega)⟩
 ·split
  ·obtain ⟨x,s5,x1,x2,x3⟩:=Ha (n:=9) d3 (by omega) (by omega)
   simp only [x1,Option.bind_some]
   obtain ⟨r,r1,r2,r3⟩:=Pa (k:=3) (i:=IntKind.i64.wrap (1+x)) (t:=0) (m:=0) (c:=0) (f:=[]) x3 (by omega) (fun h=>by cases h) (fun h=>by cases h) (fun h=>by cases h) Ml
   exact ⟨r,r1,r2,r3.mono (by omega)⟩
  ·split
   ·exact j2 _
   ·split
    ·exact j2 _
    ·exact j2 _
theorem sF (code:List UInt8) (hc:code.length≤1048576):∃l,g51 code=some l∧l.length≤120∧∀a∈l,Jg a:=by
 obtain ⟨s0,s1,s2⟩:=g83_ok code hc
 have hw0:IntKind.i64.wrap (((s0.code_.length:Int)).tdiv 12)=((s0.code_.length / 12:Nat):Int):=sdv 12 (by have:=s2.1; omega)
 obtain ⟨r1,p1,p2⟩:∃r1,g118 s0 16=some r1∧(0≤r1∧r1≤16):=by
  simp only [g118,hw0,Bs]
  have hw1:IntKind.i64.wrap (1+((s0.code_.length / 12:Nat):Int))=1+((s0.code_.length / 12:Nat):Int):=wr ⟨by omega,by have:=s2.1; omega⟩
  rw [hw1]
  exact ⟨_,rfl,by split<;>omega⟩
 have hw2:IntKind.i64.wrap (r1+3)=r1+3:=wr ⟨by omega,by omega⟩
 obtain ⟨v,s3,e1,e2,e3⟩:=Ha (n:=r1+3) s2 (by omega) (by omega)
 have hv:v≤18:=by have:=e2.2.2 (by omega); omega
 have hv0:=e2.1
 have open0:Jg (Am.mk 6 0 0 0 0 ([]:List Int) 0):=by simp [Jg,Yq,Vx]
 obtain ⟨q,q1,q2⟩:=Tw (step:=Xk) (fun s=>∃k:Nat,s.2.1=(k:Int)∧k≤18∧s.1.length+2*k≤40∧(∀a∈s.1,Jg a)∧Hv (By.mk s.2.2.1 s.2.2.2.1 s.2.2.2.2) (4000-60*(k:Int))) (fun s=>s.2.1.toNat)
  (fun r=>∀a∈r.1,Jg a) ([],v,s3.code_,s3.at_,s3.Fl) ⟨v.toNat,by simp only; omega,by omega,by simp; omega,by simp,e3.mono (by omega)⟩ (by
  rintro ⟨L,_,cd,at_,sd⟩ ⟨k,rfl,hk18,hk,hL,hs⟩
  simp only at hk hs hL
  simp only [Xk]
  by_cases h0:0<k
  ·rw [if_pos (decide_eq_true (by omega))]
   obtain ⟨x,x1,x2,x3⟩:=ER hs (by omega)
   simp only [x1,Option.bind_some]
   have hw:IntKind.i64.wrap ((k:Int)-1)=((k-1:Nat):Int):=by rw [wr ⟨by omega,by omega⟩]; omega
   rw [if_pos (by simp; omega)]
   simp only [Xj,hw]
   have hL1:∀a∈L++[x.1],Jg a:=fun a ha=>by
    rcases List.mem_append.1 ha with ha | ha
    ·exact hL a ha
    ·simp only [List.mem_singleton] at ha; subst ha; exact x2
   split
   ·rw [if_pos (by simp; omega)]
    refine .inl ⟨_,rfl,⟨k-1,rfl,by omega,by simp; omega,fun a ha=>?_,x3.mono (by omega)⟩,by simp only; omega⟩
    rcases List.mem_append.1 ha with ha | ha
    ·exact hL1 a ha
    ·simp only [List.mem_singleton] at ha; subst ha; exact open0
   ·exact .inl ⟨_,rfl,⟨k-1,rfl,by omega,by simp; omega,hL1,x3.mono (by omega)⟩,by simp only; omega⟩
  ·rw [if_neg (by simp; omega)]
   exact .inr ⟨_,rfl,hL⟩)
 obtain ⟨L,cd,at_,sd⟩:=q
 simp only at q2
 simp only [g51,s1,g103,p1,hw2,e1,q1,Option.bind_some]
 have hmin:∃m:Nat,(if (120:Int)<(L.length:Int) then (120:Int) else (L.length:Int))=(m:Int)∧m≤L.length∧m≤120:=by
  split
  ·exact ⟨120,rfl,by omega,by omega⟩
  ·exact ⟨L.length,rfl,by omega,by omega⟩
 obtain ⟨m,m1,m2,m3⟩:=hmin
 have hs:=CZ L 0 m (by omega) m2
 rw [show ((0:Nat):Int)=0 from rfl] at hs
 rw [m1,hs]
 simp only [Option.bind_some]
 exact ⟨_,rfl,by simp; omega,fun a ha=>q2 a (List.mem_of_mem_take (List.mem_of_mem_drop ha))⟩
theorem lZ {a:Am} (h:Vx a.Cb∧0≤a.stop∧a.stop≤2):g100 a=some true:=by
 obtain ⟨⟨h1,h2⟩,h3,h4⟩:=h
 have e:∀x,0≤x∧x≤2→oF x 0 2=some true:=fun x hx=>by simp [oF,hx.1,hx.2]
 have h:=Es (step:=Qi a) (fun k=>(k:Int)) a.Cb.length (.inl ()) (fun k hk=>by
  simp only [Qi]
  rw [if_pos (decide_eq_true (by omega)),Cd hk]
  simp only [Option.bind_some,e _ (h2 _ (List.getElem_mem hk)),w1 (show k<4611686018427387904 by omega)]
  rfl) (by
  simp only [Qi]
  rw [if_neg (by simp)])
 have h':Bz (Qi a) 0=some (.inl ()):=h
 simp only [g100]
 rw [decide_eq_false (show ¬(a.Cb.length:Int)>4096 by omega),e _ ⟨h3,h4⟩,h']
 rfl
theorem Zz {a:Am} (h:Vx a.Cb∧0≤a.stop∧a.stop≤2):g457 a=some true:=by
 obtain ⟨⟨h1,h2⟩,h3,h4⟩:=h
 have e:∀x,0≤x∧x≤2→qM x 0 2=some true:=fun x hx=>by simp [qM,hx.1,hx.2]
 have h:=AT a.Cb (fun z=>g88 z) (fun _=>true) (fun x hx=>by simp [g88,e x (h2 x hx)]) (by omega)
 have ha:a.Cb.all (fun _=>true)=true:=by simp
 simp only [g457,g87,Option.bind_some,h,e _ ⟨h3,h4⟩,ha]
 rw [decide_eq_true (show (a.Cb.length:Int)≤4096 by omega)]
 rfl
theorem inv0:rZ (Aj.mk (Ak.mk 0 1 []) [] [] false):=by
 have tab0:Fp (Ak.mk 0 1 []):=⟨⟨by simp,⟨by simp,by simp⟩,by simp,fun k x hx=>by simp at hx⟩,by simp,by simp⟩
 exact ⟨⟨tab0.1,by simp,fun k x hx=>by simp at hx,fun k x hx=>by simp at hx,by simp,by simp⟩,tab0,by simp⟩
theorem run_inv (acts:List Am) (hl:acts.length≤120) (h:∀a∈acts,Jg a):∃v R,g50 acts=some (v,R,0)∧rZ v∧R.length=acts.length:=by
 simp only [g50]
 rw [if_neg (by simp; omega),if_neg (by simp; omega)]
 obtain ⟨r,e1,e2⟩:=Tw (step:=eY acts) (fun s=>∃i:Nat,s.2.1=(i:Int)∧i≤acts.length∧s.1.length=i∧rZ (Aj.mk (Ak.mk s.2.2.1 s.2.2.2.1 s.2.2.2.2.1) s.2.2.2.2.2.1 s.2.2.2.2.2.2.1 s.2.2.2.2.2.2.2))
  (fun s=>(acts.length-s.2.1).toNat)
  (fun r=>∃R v,r = .inl (R,v.Ad.clock,v.Ad.next,v.Ad.Ae,v.Ab,v.Ai,v.Al)∧rZ v∧R.length=acts.length) ([],0,0,1,[],[],[],false) ⟨0,rfl,by omega,rfl,inv0⟩ (by
  rintro ⟨R,_,ck,nx,L,In,A,se⟩ ⟨i,rfl,hi,hR,hv⟩
  simp only at hR hv
  simp only [eY]
  by_cases hlt:i<acts.length
  ·rw [if_pos (decide_eq_true (by omega)),Cd hlt]
   have ha:=h _ (List.getElem_mem hlt)
   simp only [Option.bind_some,lZ ha.2,Bool.not_true,Bool.false_eq_true,if_false]
   have hcl:acts[i].clock≤9223372036854775807∨acts[i].kind≠4:=by
    by_cases hk:acts[i].kind=4
    ·exact .inl (ha.1.2.2.1 hk)
    ·exact .inr hk
   obtain ⟨r,x1,x2⟩:∃r,zY (Aj.mk (Ak.mk ck nx L) In A se) acts[i]=some r∧rZ r.1:=by
    obtain ⟨r,y1,_,y3⟩:=mU hv.right hv.tab acts[i] hcl
    exact ⟨r,y1,y3.2.2 hv.und ha.1⟩
   simp only [x1,Option.bind_some]
   rw [if_pos (by simp; omega),w1 (show i<4611686018427387904 by omega)]
   exact .inl ⟨_,rfl,⟨i+1,rfl,by omega,by simp; omega,x2⟩,by simp only; omega⟩
  ·rw [if_neg (by simp; omega)]
   exact .inr ⟨_,rfl,R,Aj.mk (Ak.mk ck nx L) In A se,rfl,hv,by omega⟩)
 obtain ⟨R,v,rfl,hv,hR⟩:=e2
 simp only [e1,Option.bind_some]
 have ec:Zl (Aj.mk (Ak.mk v.Ad.clock v.Ad.next v.Ad.Ae) v.Ab v.Ai v.Al)=some v:=Qe (v:=v) (by have:=hv.right.t; omega) (by have:=hv.right.i40; omega) (by have:=hv.right.a; omega)
 rw [ec]
 exact ⟨v,R,rfl,hv,hR⟩
end Go.Ev
end
section
set_option maxHeartbeats 1000000
namespace Go.Ev
theorem jY {v:Aj} (hv:Du v):g46 v=some true∧g48 v=some true:=by
 have h1:=hv.t
 have h2:=hv.i40
 have h3:=hv.a
 have hn:=hv.tab.2.1
 have hn64:I64 v.Ad.next:=⟨by omega,by omega⟩
 have s1:=mR v (by omega) (by omega) (by omega) hn64
 have s2:=lX v (by omega) (by omega) (by omega) hn64
 rw [Fd (CQ hv)] at s1 s2
 exact ⟨s1,s2⟩
theorem iE {A:List Int} {M:Int} (hA:Cf A 1 M) (hM:0≤M∧M≤1000000) (x:Int):(Bq A x false 0).2=0∧Cf (Bq A x false 0).1 1 M∧∀y,y∈(Bq A x false 0).1↔y∈A∧y≠x:=by
 have hl:=hA.len hM.1
 obtain ⟨c1,c2,c3,c4⟩:=Kp hA (by omega) x false 0 (fun h=>by cases h)
 rcases c4 with ⟨_,_,h⟩ | ⟨_,e,hm⟩
 ·cases h
 ·exact ⟨e,c3,fun y=>by simpa using hm y⟩
theorem drainL {a:Am} (hf:∀k,Az a k=0) (hs:a.stop≠2) {M:Int} (hM:0≤M∧M≤1000000):∀(r:List Aa) (c:Nat) (L:List Aa) (A:List Int),Cf A 1 M →
  (Db a r c L A).2.2.2=false∧(∀z∈(Db a r c L A).2.1,z∈L∧∀x∈r,x.Cj=true→z.id≠x.id)∧(∀y∈(Db a r c L A).2.2.1,y∈A∧∀x∈r,x.Cj=true→y≠x.id)∧Cf (Db a r c L A).2.2.1 1 M:=by
 intro r
 induction r with
 | nil=>intro c L A hA; exact ⟨rfl,fun z hz=>⟨hz,fun x hx=>by cases hx⟩,fun y hy=>⟨hy,fun x hx=>by cases hx⟩,hA⟩
 | cons x r ih=>
  intro c L A hA
  by_cases hq:x.Cj=true
  ·obtain ⟨c1,c2,c3⟩:=iE hA hM x.id
   have eR:Db a (x::r) c L A=Db a r (c+1) (L.filter (fun y=>y.id != x.id)) (Bq A x.id false 0).1:=by
    simp only [Db,hq,if_true]
    rw [if_neg hs,hf c,c1]
    rfl
   rw [eR]
   obtain ⟨i1,i2,i3,i4⟩:=ih (c+1) (L.filter (fun y=>y.id != x.id)) _ c2
   refine ⟨i1,fun z hz=>?_,fun y hy=>?_,i4⟩
   ·obtain ⟨j1,j2⟩:=i2 z hz
    obtain ⟨k1,k2⟩:=List.mem_filter.1 j1
    refine ⟨k1,fun w hw hwq=>?_⟩
    rcases List.mem_cons.1 hw with rfl | hw
    ·simpa using k2
    ·exact j2 w hw hwq
   ·obtain ⟨j1,j2⟩:=i3 y hy
    obtain ⟨k1,k2⟩:=(c3 y).1 j1
    refine ⟨k1,fun w hw hwq=>?_⟩
    rcases List.mem_cons.1 hw with rfl | hw
    ·exact k2
    ·exact j2 w hw hwq
  ·have eR:Db a (x::r) c L A=Db a r c L A:=by simp only [Db,hq,if_false]; rfl
   rw [eR]
   obtain ⟨i1,i2,i3,i4⟩:=ih c L A hA
   refine ⟨i1,fun z hz=>⟨(i2 z hz).1,fun w hw hwq=>?_⟩,fun y hy=>⟨(i3 y hy).1,fun w hw hwq=>?_⟩,i4⟩
   ·rcases List.mem_cons.1 hw with rfl | hw
    ·exact absurd hwq hq
    ·exact (i2 z hz).2 w hw hwq
   ·rcases List.mem_cons.1 hw with rfl | hw
    ·exact absurd hwq hq
    ·exact (i3 y hy).2 w hw hwq
theorem drainI {a:Am} (hf:∀k,Az a k=0) (hs:a.stop≠2) {M:Int} (hM:0≤M∧M≤1000000):∀(r:List Ah) (c:Nat) (L:List Ah) (A:List Int),Cf A 1 M →
  (De a r c L A).2.2.2=false∧(∀z∈(De a r c L A).2.1,z∈L∧∀x∈r,x.Md=true→z.As≠x.As)∧(∀y∈(De a r c L A).2.2.1,y∈A∧∀x∈r,x.Md=true→y≠x.As):=by
 intro r
 induction r with
 | nil=>intro c L A hA; exact ⟨rfl,fun z hz=>⟨hz,fun x hx=>by cases hx⟩,fun y hy=>⟨hy,fun x hx=>by cases hx⟩⟩
 | cons x r ih=>
  intro c L A hA
  by_cases hq:x.Md=true
  ·obtain ⟨c1,c2,c3⟩:=iE hA hM x.As
   have eR:De a (x::r) c L A=De a r (c+1) (L.filter (fun y=>y.As != x.As)) (Bq A x.As false 0).1:=by
    simp only [De,hq,if_true]
    rw [if_neg hs,hf c,c1]
    rfl
   rw [eR]
   obtain ⟨i1,i2,i3⟩:=ih (c+1) (L.filter (fun y=>y.As != x.As)) _ c2
   refine ⟨i1,fun z hz=>?_,fun y hy=>?_⟩
   ·obtain ⟨j1,j2⟩:=i2 z hz
    obtain ⟨k1,k2⟩:=List.mem_filter.1 j1
    refine ⟨k1,fun w hw hwq=>?_⟩
    rcases List.mem_cons.1 hw with rfl | hw
    ·simpa using k2
    ·exact j2 w hw hwq
   ·obtain ⟨j1,j2⟩:=i3 y hy
    obtain ⟨k1,k2⟩:=(c3 y).1 j1
    refine ⟨k1,fun w hw hwq=>?_⟩
    rcases List.mem_cons.1 hw with rfl | hw
    ·exact k2
    ·exact j2 w hw hwq
  ·have eR:De a (x::r) c L A=De a r c L A:=by simp only [De,hq,if_false]; rfl
   rw [eR]
   obtain ⟨i1,i2,i3⟩:=ih c L A hA
   refine ⟨i1,fun z hz=>⟨(i2 z hz).1,fun w hw hwq=>?_⟩,fun y hy=>⟨(i3 y hy).1,fun w hw hwq=>?_⟩⟩
   ·rcases List.mem_cons.1 hw with rfl | hw
    ·exact absurd hwq hq
    ·exact (i2 z hz).2 w hw hwq
   ·rcases List.mem_cons.1 hw with rfl | hw
    ·exact absurd hwq hq
    ·exact (i3 y hy).2 w hw hwq
abbrev CA:Am:=Am.mk 6 0 0 0 0 [] 0
abbrev Fj:Am:=Am.mk 4 0 0 0 9223372036854775807 [] 0
def oW (v:Aj):Aj:=Aj.mk v.Ad v.Ab v.Ai false
theorem qY {v:Aj} (h:rZ v):lP v CA=some (oW v,Ao.mk 0 0,0)∧rZ (oW v):=by
 have hr:=h.right
 have h1:=hr.t
 have h2:=hr.i40
 have h3:=hr.a
 have e:iJ v CA=some (oW v,Ao.mk 0 0):=by
  simp only [iJ,mJ (v:=v) (by omega) (by omega) (by omega),fN,Option.bind_some]
  cases hs:v.Al<;>simp [oW]
 have ea:=Zz (a:=CA) ⟨Ml,by decide,by decide⟩
 refine ⟨?_,⟨⟨hr.tab,hr.i40,hr.acc,hr.its,hr.off,hr.nam⟩,h.tab,h.und⟩⟩
 simp only [lP,(jY hr).2,ea,Option.bind_some,e]
 rfl
theorem zO {v:Aj} (h:rZ v) (hs:v.Al=false):∃t r,lP v Fj=some (Aj.mk (Ak.mk 9223372036854775807 t []) [] [] false,r,0):=by
 have hr:=h.right
 have h1:=hr.t
 have h2:=hr.i40
 have h3:=hr.a
 have hn:=hr.tab.2.1
 have ea:=Zz (a:=Fj) ⟨Ml,by decide,by decide⟩
 have et:=dP Fj hr h.tab (by decide)
 have e:iJ v Fj=some (Uq v Fj):=by
  simp only [iJ,mJ (v:=v) (by omega) (by omega) (by omega),fN,Option.bind_some,hs,et]
  simp
 have hT2:Fp (Mw v.Ad 9223372036854775807):=Ut h.tab _ (by decide)
 have hr2:Du (El v Fj):=Mt hr hT2.1 rfl (Ur _ _) _
 have hnow:Cs v.Ad 9223372036854775807=9223372036854775807:=by
  have:=h.tab.2.1
  unfold Cs; split<;>omega
 have hq:∀z∈(Mw v.Ad 9223372036854775807).Ae,z.Cj=true:=fun z hz=>by
  have ha:=List.getElem_of_mem hz
  obtain ⟨k,hk,rfl⟩:=ha
  cases hb:(Mw v.Ad 9223372036854775807).Ae[k].Cj with
  | true=>rfl
  | false=>
   exfalso
   have h5:=(hT2.1.at hk).2.2.2.2 hb
   have h4:=(hT2.1.at hk).2.2.2.1
   have h6:=hT2.2.2 _ (List.getElem_mem hk)
   simp only [Mw,hnow] at h5 h4 h6
   omega
 have hf:∀k,Az Fj k=0:=fun k=>by simp [Az]
 obtain ⟨d1,d2,d3,d4⟩:=drainL (a:=Fj) hf (by decide) (M:=v.Ad.next-1) ⟨by omega,by omega⟩ (El v Fj).Ad.Ae 0 (El v Fj).Ad.Ae v.Ai hr.acc
 change (Ch (El v Fj) Fj).2.2.2=false at d1
 change ∀z∈(Ch (El v Fj) Fj).2.1,z∈(El v Fj).Ad.Ae∧∀x∈(El v Fj).Ad.Ae,x.Cj=true→z.id≠x.id at d2
 change ∀y∈(Ch (El v Fj) Fj).2.2.1,y∈v.Ai∧∀x∈(El v Fj).Ad.Ae,x.Cj=true→y≠x.id at d3
 change Cf (Ch (El v Fj) Fj).2.2.1 1 (v.Ad.next-1) at d4
 obtain ⟨f1,f2,f3⟩:=drainI (a:=Fj) hf (by decide) (M:=v.Ad.next-1) ⟨by omega,by omega⟩ v.Ab (Ch (El v Fj) Fj).1 v.Ab (Ch (El v Fj) Fj).2.2.1 d4
 change (Dm (El v Fj) Fj).2.2.2=false at f1
 change ∀z∈(Dm (El v Fj) Fj).2.1,z∈v.Ab∧∀x∈v.Ab,x.Md=true→z.As≠x.As at f2
 change ∀y∈(Dm (El v Fj) Fj).2.2.1,y∈(Ch (El v Fj) Fj).2.2.1∧∀x∈v.Ab,x.Md=true→y≠x.As at f3
 have n1:(Ch (El v Fj) Fj).2.1=[]:=List.eq_nil_iff_forall_not_mem.2 fun z hz=>by
  obtain ⟨m1,m2⟩:=d2 z hz
  exact m2 z m1 (hq z m1) rfl
 have n2:(Dm (El v Fj) Fj).2.1=[]:=List.eq_nil_iff_forall_not_mem.2 fun z hz=>by
  obtain ⟨m1,m2⟩:=f2 z hz
  exact m2 z m1 (h.und z m1) rfl
 have n3:(Dm (El v Fj) Fj).2.2.1=[]:=List.eq_nil_iff_forall_not_mem.2 fun y hy=>by
  obtain ⟨m1,m2⟩:=f3 y hy
  obtain ⟨m3,m4⟩:=d3 y m1
  rcases hr2.nam y m3 with ⟨z,hz,e⟩ | ⟨i,hi,e⟩
  ·exact m4 z hz (hq z hz) e.symm
  ·exact m2 i hi (h.und i hi) e.symm
 have ev:Fc (El v Fj) Fj=(Aj.mk (Ak.mk 9223372036854775807 v.Ad.next []) [] [] false,false):=by
  unfold Fc Ki
  rw [if_neg (by rw [d1]; decide),if_neg (by rw [f1]; decide),n1,n2,n3]
  simp only [El,Mw,hnow,hs]
 have etv:Uq v Fj=(Aj.mk (Ak.mk 9223372036854775807 v.Ad.next []) [] [] false,Ao.mk 0 0):=by
  unfold Uq
  rw [if_neg (by decide),ev]
  rfl
 refine ⟨v.Ad.next,Ao.mk 0 0,?_⟩
 simp only [lP,(jY hr).2,ea,Option.bind_some,e,etv]
 rfl
theorem kQ {v:Aj} (h:rZ v):g441 v=some 0:=by
 have h2:=h.right.i40
 have hh:=Es (step:=Qr v) (fun k=>(0,(k:Int))) v.Ab.length 0 (fun k hk=>by
  simp only [Qr,Yi]
  rw [if_pos (decide_eq_true (by omega)),Cd hk]
  simp only [Option.bind_some,h.und _ (List.getElem_mem hk),w1 (show k<4611686018427387904 by omega)]
  rfl) (by
  simp only [Qr]
  rw [if_neg (by simp)])
 have h':Bz (Qr v) (0,0)=some 0:=hh
 simp only [g441,h',Option.bind_some]
theorem AK (code:List UInt8) (_:okL aT code):g434 code=some true:=by
 unfold g434
 by_cases hc:code.length>1048576
 ·rw [if_pos (decide_eq_true (by omega))]
 ·rw [if_neg (by simp; omega)]
  obtain ⟨l,l1,l2,l3⟩:=sF code (by omega)
  obtain ⟨v,R,e1,hv,_⟩:=run_inv l l2 l3
  obtain ⟨o1,o2⟩:=qY hv
  obtain ⟨t,r,q1⟩:=zO o2 rfl
  simp [l1,e1,o1,q1,kQ hv,Bs]
end Go.Ev
end
