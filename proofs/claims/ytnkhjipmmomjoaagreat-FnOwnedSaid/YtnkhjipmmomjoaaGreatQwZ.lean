/- The plain part of the proof: what the functions compute answers as the law says. -/
import Derived.Test.YtnkhjipmmomjoaaGreatQwZa
set_option linter.all false
section
set_option maxHeartbeats 1000000
namespace Go.Ev
theorem mW {l:List Int} {M:Int} (h:Cl l 1 M) {x:Int} {c:Bool} {p:Nat} (hp:Mg l x p) (y:Int):y∈Kp l x c p↔if c=true then (y∈l∨y=x) else (y∈l∧y≠x):=by
 have hm:=tG h hp
 have hs:∀y,y∈l↔y∈l.take p∨y∈l.drop p:=fun y=>by rw [←List.mem_append,List.take_append_drop]
 unfold Kp
 cases c with
 | true=>
  simp only [if_true]
  split
  ·rename_i ha
   constructor
   ·intro hy; exact .inl hy
   ·rintro (hy | rfl)
    ·exact hy
    ·exact hm.1 ha
  ·rw [List.mem_append,List.mem_append,List.mem_singleton,hs y]
   constructor
   ·rintro ((h | h) | h)
    ·exact .inl (.inl h)
    ·exact .inr h
    ·exact .inl (.inr h)
   ·rintro ((h | h) | h)
    ·exact .inl (.inl h)
    ·exact .inr h
    ·exact .inl (.inr h)
 | false=>
  simp only [Bool.false_eq_true,if_false]
  split
  ·rename_i ha
   have hx:l[p]? = some x:=by simpa [Ig] using ha
   obtain ⟨hlt,he⟩:=List.getElem?_eq_some_iff.1 hx
   rw [List.mem_append]
   constructor
   ·rintro (hy | hy)
    ·have:=Zs hp hy
     exact ⟨List.mem_of_mem_take hy,by omega⟩
    ·obtain ⟨j,hj,rfl⟩:=List.getElem_of_mem hy
     simp only [List.length_drop] at hj
     rw [List.getElem_drop]
     have:=h.lt (show p+1+j<l.length by omega) (show p<p+1+j by omega)
     exact ⟨List.getElem_mem _,by omega⟩
   ·rintro ⟨hy,hne⟩
    rcases (hs y).1 hy with hy | hy
    ·exact .inl hy
    ·rw [List.drop_eq_getElem_cons hlt] at hy
     rcases List.mem_cons.1 hy with hy | hy
     ·exact absurd (hy.trans he) hne
     ·exact .inr hy
  ·rename_i ha
   constructor
   ·intro hy; exact ⟨hy,fun e=>ha (hm.2 (e ▸ hy))⟩
   ·exact fun h=>h.1
noncomputable def Bu (l:List Int) (x:Int) (c:Bool) (f:Int):List Int×Int:=(g89 l x c f).getD ([],0)
theorem Mk {l:List Int} {M:Int} (h:Cl l 1 M) (hl:l.length≤1048575) (x:Int) (c:Bool) (f:Int) (hx:c=true→1≤x∧x≤M):
  g89 l x c f=some (Bu l x c f)∧g86 l x c f=some (Bu l x c f)∧Cl (Bu l x c f).1 1 M ∧
   ((Bu l x c f).2=13∧(Bu l x c f).1=l∧f=1∨f≠1∧(Bu l x c f).2=Lv f∧∀y,y∈(Bu l x c f).1↔if c=true then (y∈l∨y=x) else (y∈l∧y≠x)):=by
 obtain ⟨p,hp⟩:=cut_ex h x
 have e1:=g89_eq h hl x c f hp
 have e2:=g86_eq hl x c f hp
 have e:Bu l x c f=if (f==1)=true then (l,13) else (Kp l x c p,Lv f):=by unfold Bu; rw [e1]; rfl
 rw [e]
 refine ⟨e1,e2,?_,?_⟩
 ·split
  ·exact h
  ·exact cM h c hx hp
 ·by_cases hf:f=1
  ·rw [if_pos (by simp [hf])]
   exact .inl ⟨rfl,rfl,hf⟩
  ·rw [if_neg (by simpa using hf)]
   exact .inr ⟨hf,rfl,fun y=>mW h hp y⟩
def Bj (a:Ak) (k:Nat):Int:=a.Ce[k]?.getD 0
theorem fE (a:Ak) (k:Nat):lW a (k:Int)=some (Bj a k):=by
 unfold lW Bj
 by_cases h:k<a.Ce.length
 ·rw [if_pos (decide_eq_true (by omega)),Cd h,List.getElem?_eq_getElem h]; rfl
 ·rw [if_neg (by simp; omega),List.getElem?_eq_none (by omega)]; rfl
theorem bP {v:Aj} {a:Ak} {k:Nat} (hk:k≤1048576) {M:Int} (h:Cl v.Ah 1 M) (hl:v.Ah.length≤1048575) (x:Int) (c:Bool) (hx:c=true→1≤x∧x≤M):
  fS (Da.mk v a (k:Int)) x c=some ((Bu v.Ah x c (Bj a k)).2,Da.mk (Aj.mk v.Ad v.Ab (Bu v.Ah x c (Bj a k)).1 v.Am) a ((k+1:Nat):Int)):=by
 have e:=(Mk h hl x c (Bj a k) hx).1
 have hj:Uf (Da.mk v a (k:Int)) x c (Bj a k)=some ((Bu v.Ah x c (Bj a k)).2,Da.mk (Aj.mk v.Ad v.Ab (Bu v.Ah x c (Bj a k)).1 v.Am) a ((k+1:Nat):Int)):=by
  simp only [Uf,e,Option.bind_some,w1 (show k<4611686018427387904 by omega)]
 unfold fS
 by_cases hlt:k<a.Ce.length
 ·rw [if_pos (decide_eq_true (by simp only; omega))]
  simp only [Cd hlt,Option.bind_some]
  have:Bj a k=a.Ce[k]:=by unfold Bj; rw [List.getElem?_eq_getElem hlt]; rfl
  rw [←this]
  exact hj
 ·rw [if_neg (by simp; omega)]
  have:Bj a k=0:=by unfold Bj; rw [List.getElem?_eq_none (by omega)]; rfl
  rw [←this]
  exact hj
def Hl (i:Ai):Ai:=Ai.mk i.Av true
def Jb (v:Aj):Aj:=Aj.mk v.Ad (v.Ab.map Hl) v.Ah true
theorem ET (l:List Ai) (k:Nat) (hk:k<l.length):((l.take k).map Hl++l.drop k).set k (Hl l[k])=(l.take (k+1)).map Hl++l.drop (k+1):=by
 rw [List.set_append,if_neg (by simp; omega),List.take_succ_eq_append_getElem hk,List.map_append,List.append_assoc]
 congr 1
 rw [List.drop_eq_getElem_cons hk]
 have:k-((l.take k).map Hl).length=0:=by simp; omega
 rw [this]
 rfl
theorem ES (l:List Ai) (k:Nat) (hk:k<l.length):((l.take k).map Hl++l.drop k)[k]? = some l[k]:=by
 rw [List.getElem?_append_right (by simp; omega)]
 have:k-((l.take k).map Hl).length=0:=by simp; omega
 rw [this,List.getElem?_drop,Nat.add_zero,List.getElem?_eq_getElem hk]
theorem hP (l:List Ai) (k:Nat):((l.take k).map Hl++l.drop k).length=l.length:=by simp; omega
theorem Qb (v:Aj) (h1:v.Ad.Ae.length≤1048576) (h2:v.Ab.length≤1048576) (h3:v.Ah.length≤1048576):fJ v=some (Jb v):=by
 have e:cN v=some v:=by
  simp only [cN,Kc v.Ad h1,Option.bind_some]
  rw [if_pos (by simp; omega),if_pos (by simp; omega)]
  rfl
 have h:=Em (step:=Qr) (fun k=>((k:Int),(v.Ab.take k).map Hl++v.Ab.drop k)) v.Ab.length (v.Ab.map Hl) (fun k hk=>by
  simp only [Qr,hP]
  rw [if_pos (decide_eq_true (by omega)),Cd (by rw [hP]; exact hk)]
  simp only [Option.bind_some,Int.toNat_natCast,ES _ _ hk,w1 (show k<4611686018427387904 by omega)]
  rw [←ET _ _ hk]
  rfl) (by
  simp only [Qr,hP]
  rw [if_neg (by simp),List.take_length,List.drop_length,List.append_nil])
 have h':Bz Qr (0,v.Ab)=some (v.Ab.map Hl):=h
 simp only [fJ,e,Option.bind_some,h']
 rfl
theorem Qa (v:Aj) (h2:v.Ab.length≤1048576):fR v=some (Jb v,As.mk 15 0):=by
 have h:=Em (step:=Rb v) (fun k=>((k:Int),(v.Ab.take k).map Hl++v.Ab.drop k)) v.Ab.length (v.Ab.map Hl) (fun k hk=>by
  simp only [Rb]
  rw [if_pos (decide_eq_true (by omega)),Cd (by rw [hP]; exact hk)]
  simp only [Option.bind_some,Int.toNat_natCast,ES _ _ hk,w1 (show k<4611686018427387904 by omega)]
  rw [←ET _ _ hk]
  rfl) (by
  simp only [Rb]
  rw [if_neg (by simp),List.take_length,List.drop_length,List.append_nil])
 have h':Bz (Rb v) (0,v.Ab)=some (v.Ab.map Hl):=h
 simp only [fR,Option.bind_some,h']
 rfl
def Gh (L:List Aa) (x code:Int):List Aa:=if code=0 then L.filter (fun y=>y.id != x) else L
def Hg (L:List Ai) (x code:Int):List Ai:=if code=0 then L.filter (fun y=>y.Av != x) else L
theorem BG {t:Al} (h:Fb t) {k:Nat} (hk:k<t.Ae.length):t.Ae.take k++t.Ae.drop (k+1)=t.Ae.filter (fun y=>y.id != t.Ae[k].id):=by
 have hd:=List.drop_eq_getElem_cons hk
 have hlt1:∀j,∀hj:j<k,(t.Ae[j]'(by omega)).id<t.Ae[k].id:=fun j hj=>h.lt hk hj
 have hlt2:∀j,∀hj:k+1+j<t.Ae.length,t.Ae[k].id<t.Ae[k+1+j].id:=fun j hj=>h.lt hj (by omega)
 generalize t.Ae[k]=x at hd hlt1 hlt2
 have e:t.Ae.filter (fun y=>y.id != x.id)=(t.Ae.take k++x::t.Ae.drop (k+1)).filter (fun y=>y.id != x.id):=by rw [←hd,List.take_append_drop]
 rw [e,List.filter_append,List.filter_cons,if_neg (by simp)]
 congr 1
 ·symm
  rw [List.filter_eq_self]
  intro y hy
  obtain ⟨j,hj,rfl⟩:=List.getElem_of_mem hy
  simp only [List.length_take] at hj
  rw [List.getElem_take]
  have:=hlt1 j (by omega)
  simp; omega
 ·symm
  rw [List.filter_eq_self]
  intro y hy
  obtain ⟨j,hj,rfl⟩:=List.getElem_of_mem hy
  simp only [List.length_drop] at hj
  rw [List.getElem_drop]
  have:=hlt2 j (by omega)
  simp; omega
theorem qZ {t:Al} (h:Fb t) {k:Nat} (hk:k<t.Ae.length):FN t t.Ae[k].id=some (k:Int)∧FM t t.Ae[k].id=some ((k:Int),true):=by
 have hl:=h.2.2.1
 obtain ⟨n,h1,h2⟩:=Sn t t.Ae[k].id (by omega)
 have hn:n=(k:Int):=by
  rcases h2 with ⟨_,h3⟩ | ⟨j,hj,rfl,h4⟩
  ·exact absurd rfl (h3 _ (List.getElem_mem hk))
  ·rcases Nat.lt_trichotomy j k with hjk | rfl | hjk
   ·have:=h.lt hk hjk; omega
   ·rfl
   ·have:=h.lt hj hjk; omega
 obtain ⟨i,b,h3,h4,h5⟩:=fX t h _ n h2
 subst hn
 cases b with
 | false=>have:=h5 rfl; omega
 | true=>
  obtain ⟨rfl,_⟩:=h4 rfl
  exact ⟨h1,h3⟩
theorem qU {t:Al} (h:Fw t) {x:Aa} (hx:x∈t.Ae) (hq:x.Ck=true):
  g76 t x.id=some (Al.mk t.clock t.next (t.Ae.filter fun y=>y.id != x.id),0)∧(∃i,FM t x.id=some (i,true)∧g78 t i=some (Al.mk t.clock t.next (t.Ae.filter fun y=>y.id != x.id))) ∧
   Fw (Al.mk t.clock t.next (t.Ae.filter fun y=>y.id != x.id)):=by
 obtain ⟨k,hk,rfl⟩:=List.getElem_of_mem hx
 have hl:=h.1.2.2.1
 obtain ⟨f1,f2⟩:=qZ h.1 hk
 have s1:=EM t.Ae 0 k (by omega) (by omega)
 have s2:=EM t.Ae (k+1) t.Ae.length (by omega) (Nat.le_refl _)
 rw [show ((0:Nat):Int)=0 from rfl] at s1
 have hw:=w1 (show k<4611686018427387904 by omega)
 rw [←BG h.1 hk]
 refine ⟨?_,⟨(k:Int),f2,?_⟩,rem_tab h hk⟩
 ·simp only [g76,f1,Option.bind_some]
  rw [if_neg (by simp),Cd hk]
  simp only [Option.bind_some]
  rw [if_neg (by simp [hq])]
  simp only [hw,s1,s2,Option.bind_some]
  rw [if_pos (by simp; omega),if_pos (by simp; omega)]
  simp
 ·simp only [g78,Qq t (by omega),Option.bind_some,g115,hw]
  rw [if_pos (⟨⟨by omega,by omega,by omega⟩,by omega⟩:(0≤(k:Int)∧(k:Int)≤((k+1:Nat):Int)∧((k+1:Nat):Int)≤(t.Ae.length:Int))∧t.Ae.length≤4398046511104)]
  simp only [Option.bind_some,Int.toNat_natCast]
theorem nS (l:List Ai) (x:Int) (hl:l.length≤1048576):g146 l x=some (l.filter fun y=>y.Av != x):=by
 have h:=Em (step:=Qx l x) (fun k=>((l.take k).filter (fun y=>y.Av != x),(k:Int))) l.length (l.filter fun y=>y.Av != x) (fun k hk=>by
  simp only [Qx]
  rw [if_pos (decide_eq_true (by omega)),Cd hk]
  have hle:((l.take k).filter (fun y=>y.Av != x)).length≤k:=Nat.le_trans (List.length_filter_le _ _) (by simp; omega)
  simp only [Option.bind_some,Yb,w1 (show k<4611686018427387904 by omega)]
  rw [List.take_succ_eq_append_getElem hk,List.filter_append,List.filter_cons]
  split
  ·rw [if_pos (by simp; omega)]
   rfl
  ·rw [List.filter_nil,List.append_nil]) (by
  simp only [Qx]
  rw [if_neg (by simp),List.take_length])
 have h':Bz (Qx l x) ([],0)=some (l.filter fun y=>y.Av != x):=h
 simp only [g146,h',Option.bind_some]
theorem qT (l:List Ai) (y:Ai) (hl:l.length≤1048576):BY l (fun z=>BZ z y)=some (l.filter fun z=>z.Av != y.Av):=
 g473_eq l (fun z=>BZ z y) (fun z=>z.Av==y.Av) (fun _ _=>rfl) (by omega)
noncomputable def Ej (a:Ak):List Aa→Nat→List Aa→List Int→Nat×List Aa×List Int×Bool
 | [],c,L,A=>(c,L,A,false)
 | x::r,c,L,A=>if x.Ck=true then
   (if a.stop=2 then (c+1,Gh L x.id (Bu A x.id false (Bj a c)).2,(Bu A x.id false (Bj a c)).1,true)
   else Ej a r (c+1) (Gh L x.id (Bu A x.id false (Bj a c)).2) (Bu A x.id false (Bj a c)).1)
  else Ej a r c L A
noncomputable def Es (a:Ak):List Ai→Nat→List Ai→List Int→Nat×List Ai×List Int×Bool
 | [],c,L,A=>(c,L,A,false)
 | x::r,c,L,A=>if x.Ol=true then
   (if a.stop=2 then (c+1,Hg L x.Av (Bu A x.Av false (Bj a c)).2,(Bu A x.Av false (Bj a c)).1,true)
   else Es a r (c+1) (Hg L x.Av (Bu A x.Av false (Bj a c)).2) (Bu A x.Av false (Bj a c)).1)
  else Es a r c L A
theorem Qf {A:List Int} {t:Al} (h:Fb t) (hA:Cl A 1 (t.next-1)):A.length≤1000000:=by
 have h1:=h.2.1
 have:=hA.len (by omega)
 omega
theorem kN (w:Aj) (a:Ak) (hw:Fb w.Ad) (hin:w.Ab.length≤1048576):∀m i c (L:List Aa) (A:List Int),i+m=w.Ad.Ae.length→c≤i→Fw (Al.mk w.Ad.clock w.Ad.next L)→(∀x∈w.Ad.Ae.drop i,x∈L)→Cl A 1 (w.Ad.next-1)→(a.stop=2→c=0) →
  let R:=Ej a (w.Ad.Ae.drop i) c L A
  let t:=Al.mk w.Ad.clock w.Ad.next R.2.1
  Bz (Lo w a w) ((c:Int),(i:Int),w.Ad.clock,w.Ad.next,L,A)=some (if R.2.2.2=true then .inr (Jb (Aj.mk t w.Ab R.2.2.1 w.Am)) else .inl ((R.1:Int),w.Ad.clock,w.Ad.next,R.2.1,R.2.2.1)) ∧
  Bz (Kg a w.Ad.Ae) ((i:Int),w.Ad.clock,w.Ad.next,L,w.Ab,A,w.Am,a.kind,a.id,a.ttl,a.El,a.clock,a.Ce,a.stop,(c:Int))=some (if R.2.2.2=true then .inr (Jb (Aj.mk t w.Ab R.2.2.1 w.Am),As.mk 15 0) else .inl (w.Ad.clock,w.Ad.next,R.2.1,w.Ab,R.2.2.1,w.Am,a.kind,a.id,a.ttl,a.El,a.clock,a.Ce,a.stop,(R.1:Int))) ∧
  Fw t∧Cl R.2.2.1 1 (w.Ad.next-1)∧R.1≤w.Ad.Ae.length∧(R.2.2.2=false→a.stop=2→R.1=0):=by
 have h40:=hw.2.2.1
 intro m
 induction m with
 | zero=>
  intro i c L A him hc hT hL hA hs
  have e:w.Ad.Ae.drop i=[]:=List.drop_eq_nil_of_le (by omega)
  rw [e]
  refine ⟨Dp ?_,Dp ?_,hT,hA,by simp only [Ej]; omega,fun _ h=>hs h⟩
  ·simp only [Lo,Ej]
   rw [if_neg (by simp; omega)]
   rfl
  ·simp only [Kg,Ej]
   rw [if_neg (by simp; omega)]
   rfl
 | succ m ih=>
  intro i c L A him hc hT hL hA hs
  have hlt:i<w.Ad.Ae.length:=by omega
  rw [List.drop_eq_getElem_cons hlt]
  have hx:w.Ad.Ae[i]∈L:=hL _ (by rw [List.drop_eq_getElem_cons hlt]; exact List.mem_cons_self)
  have hL1:∀x∈w.Ad.Ae.drop (i+1),x∈L:=fun x hx=>hL x (by rw [List.drop_eq_getElem_cons hlt]; exact List.mem_cons_of_mem _ hx)
  by_cases hq:w.Ad.Ae[i].Ck=true
  ·obtain ⟨c1,c2,c3,c4⟩:=Mk hA (by have:=Qf hw hA; omega) w.Ad.Ae[i].id false (Bj a c) (fun h=>by cases h)
   obtain ⟨d1,⟨j,d2,d3⟩,d4⟩:=qU hT hx hq
   simp only at d1 d2 d3 d4
   have r1:=bP (v:=Aj.mk (Al.mk w.Ad.clock w.Ad.next L) w.Ab A w.Am) (a:=a) (k:=c) (by omega) hA (by have:=Qf hw hA; simp only; omega) w.Ad.Ae[i].id false (fun h=>by cases h)
   simp only at r1
   have hT':Fw (Al.mk w.Ad.clock w.Ad.next (Gh L w.Ad.Ae[i].id (Bu A w.Ad.Ae[i].id false (Bj a c)).2)):=by
    unfold Gh; split
    ·exact d4
    ·exact hT
   have hlen:(Gh L w.Ad.Ae[i].id (Bu A w.Ad.Ae[i].id false (Bj a c)).2).length≤40:=hT'.1.2.2.1
   have hL2:∀x∈w.Ad.Ae.drop (i+1),x∈Gh L w.Ad.Ae[i].id (Bu A w.Ad.Ae[i].id false (Bj a c)).2:=fun x hx=>by
    unfold Gh; split
    ·rw [List.mem_filter]
     refine ⟨hL1 x hx,?_⟩
     obtain ⟨j,hj,rfl⟩:=List.getElem_of_mem hx
     simp only [List.length_drop] at hj
     rw [List.getElem_drop]
     have:=hw.lt (show i+1+j<w.Ad.Ae.length by omega) (show i<i+1+j by omega)
     simp; omega
    ·exact hL1 x hx
   have hA':=Qf hw c3
   have spec1:∀K,Lo w a w ((c:Int),(i:Int),w.Ad.clock,w.Ad.next,L,A)=K↔Qs a w (c:Int) (i:Int) (Bu A w.Ad.Ae[i].id false (Bj a c)) w.Ad.clock w.Ad.next (Gh L w.Ad.Ae[i].id (Bu A w.Ad.Ae[i].id false (Bj a c)).2)=K:=fun K=>by
    simp only [Lo]
    rw [if_pos (decide_eq_true (by omega)),Cd hlt]
    simp only [Option.bind_some]
    rw [if_neg (by simp [hq]),fE]
    simp only [Option.bind_some,c2]
    unfold Gh
    by_cases h0:(Bu A w.Ad.Ae[i].id false (Bj a c)).2=0
    ·rw [if_pos (by simp [h0]),if_pos h0,d1]
     rfl
    ·rw [if_neg (by simpa using h0),if_neg h0]
   have impl1:∀K,Kg a w.Ad.Ae ((i:Int),w.Ad.clock,w.Ad.next,L,w.Ab,A,w.Am,a.kind,a.id,a.ttl,a.El,a.clock,a.Ce,a.stop,(c:Int))=K↔Qz a (i:Int) ((Bu A w.Ad.Ae[i].id false (Bj a c)).2,Da.mk (Aj.mk (Al.mk w.Ad.clock w.Ad.next L) w.Ab (Bu A w.Ad.Ae[i].id false (Bj a c)).1 w.Am) a ((c+1:Nat):Int)) w.Ad.clock w.Ad.next (Gh L w.Ad.Ae[i].id (Bu A w.Ad.Ae[i].id false (Bj a c)).2)=K:=fun K=>by
    simp only [Kg]
    rw [if_pos (decide_eq_true (by omega)),Cd hlt]
    simp only [Option.bind_some,Int.toNat_natCast,List.getElem?_eq_getElem hlt]
    rw [if_neg (by simp [hq])]
    rw [show fS (Da.mk (Aj.mk (Al.mk w.Ad.clock w.Ad.next L) w.Ab A w.Am) (Ak.mk a.kind a.id a.ttl a.El a.clock a.Ce a.stop) (c:Int)) w.Ad.Ae[i].id false=_ from r1]
    simp only [Option.bind_some,d2]
    unfold Gh
    by_cases h0:(Bu A w.Ad.Ae[i].id false (Bj a c)).2=0
    ·rw [if_pos (by simp [h0]),if_pos h0,d3]
     rfl
    ·rw [if_neg (by simpa using h0),if_neg h0]
   by_cases hst:a.stop=2
   ·have hc0:=hs hst
    subst hc0
    have eR:Ej a (w.Ad.Ae[i]::w.Ad.Ae.drop (i+1)) 0 L A=(1,Gh L w.Ad.Ae[i].id (Bu A w.Ad.Ae[i].id false (Bj a 0)).2,(Bu A w.Ad.Ae[i].id false (Bj a 0)).1,true):=by simp only [Ej,hq,if_true]; rw [if_pos hst]
    dsimp only
    rw [eR]
    refine ⟨Dp ?_,Dp ?_,hT',c3,by simp only; omega,fun h=>by cases h⟩
    ·rw [spec1]
     simp only [Qs]
     rw [if_pos (by simp [hst]),Qb (Aj.mk (Al.mk w.Ad.clock w.Ad.next (Gh L w.Ad.Ae[i].id (Bu A w.Ad.Ae[i].id false (Bj a 0)).2)) w.Ab (Bu A w.Ad.Ae[i].id false (Bj a 0)).1 w.Am) (by simp only; omega) hin (by simp only; omega)]
     rfl
    ·rw [impl1]
     simp only [Qz,mL,Option.bind_some]
     rw [if_pos (by simp [hst]),Qa (Aj.mk (Al.mk w.Ad.clock w.Ad.next (Gh L w.Ad.Ae[i].id (Bu A w.Ad.Ae[i].id false (Bj a 0)).2)) w.Ab (Bu A w.Ad.Ae[i].id false (Bj a 0)).1 w.Am) hin]
     rfl
   ·have eR:Ej a (w.Ad.Ae[i]::w.Ad.Ae.drop (i+1)) c L A=Ej a (w.Ad.Ae.drop (i+1)) (c+1) (Gh L w.Ad.Ae[i].id (Bu A w.Ad.Ae[i].id false (Bj a c)).2) (Bu A w.Ad.Ae[i].id false (Bj a c)).1:=by simp only [Ej,hq,if_true]; rw [if_neg hst]
    dsimp only
    rw [eR]
    obtain ⟨i1,i2,i3⟩:=ih (i+1) (c+1) _ (Bu A w.Ad.Ae[i].id false (Bj a c)).1 (by omega) (by omega) hT' hL2 c3 (fun h=>absurd h hst)
    refine ⟨?_,?_,i3⟩
    ·rw [Dh (s':=(((c+1:Nat):Int),((i+1:Nat):Int),w.Ad.clock,w.Ad.next,Gh L w.Ad.Ae[i].id (Bu A w.Ad.Ae[i].id false (Bj a c)).2,(Bu A w.Ad.Ae[i].id false (Bj a c)).1)) ?_]
     ·exact i1
     ·rw [spec1]
      simp only [Qs,To]
      rw [if_neg (by simpa using hst),w1 (show c<4611686018427387904 by omega),w1 (show i<4611686018427387904 by omega)]
    ·rw [Dh (s':=(((i+1:Nat):Int),w.Ad.clock,w.Ad.next,Gh L w.Ad.Ae[i].id (Bu A w.Ad.Ae[i].id false (Bj a c)).2,w.Ab,(Bu A w.Ad.Ae[i].id false (Bj a c)).1,w.Am,a.kind,a.id,a.ttl,a.El,a.clock,a.Ce,a.stop,((c+1:Nat):Int))) ?_]
     ·exact i2
     ·rw [impl1]
      have es:(a.stop==2)=false:=by simpa using hst
      simp only [Qz,Ud,mL,Option.bind_some,es,cond_false]
      rw [if_neg (by simp),w1 (show i<4611686018427387904 by omega)]
  ·have hq':w.Ad.Ae[i].Ck=false:=by simpa using hq
   have eR:Ej a (w.Ad.Ae[i]::w.Ad.Ae.drop (i+1)) c L A=Ej a (w.Ad.Ae.drop (i+1)) c L A:=by simp only [Ej,hq',Bool.false_eq_true,if_false]
   dsimp only
   rw [eR]
   obtain ⟨i1,i2,i3⟩:=ih (i+1) c L A (by omega) (by omega) hT hL1 hA hs
   refine ⟨?_,?_,i3⟩
   ·rw [Dh (s':=((c:Int),((i+1:Nat):Int),w.Ad.clock,w.Ad.next,L,A)) ?_]
    ·exact i1
    ·simp only [Lo]
     rw [if_pos (decide_eq_true (by omega)),Cd hlt]
     simp only [Option.bind_some,To]
     rw [if_pos (by simp [hq']),w1 (show i<4611686018427387904 by omega)]
   ·rw [Dh (s':=(((i+1:Nat):Int),w.Ad.clock,w.Ad.next,L,w.Ab,A,w.Am,a.kind,a.id,a.ttl,a.El,a.clock,a.Ce,a.stop,(c:Int))) ?_]
    ·exact i2
    ·simp only [Kg]
     rw [if_pos (decide_eq_true (by omega)),Cd hlt]
     simp only [Option.bind_some,Int.toNat_natCast,List.getElem?_eq_getElem hlt,Ud]
     rw [if_pos (by simp [hq']),w1 (show i<4611686018427387904 by omega)]
theorem kL (w:Aj) (a:Ak) (t:Al) (hw:Fb t) (hin:w.Ab.length≤1000) (ht:t.next=w.Ad.next):∀m i c (L:List Ai) (A:List Int),i+m=w.Ab.length→c≤40+i→L.length≤1000→Cl A 1 (w.Ad.next-1)→(a.stop=2→c=0) →
  let R:=Es a (w.Ab.drop i) c L A
  Bz (Jl w a w t.clock t.next t.Ae) ((c:Int),(i:Int),L,A)=some (if R.2.2.2=true then .inr (Jb (Aj.mk t R.2.1 R.2.2.1 w.Am)) else .inl (R.2.1,R.2.2.1)) ∧
  Bz (Ir a w.Ab) ((i:Int),t.clock,t.next,t.Ae,L,A,w.Am,a.kind,a.id,a.ttl,a.El,a.clock,a.Ce,a.stop,(c:Int))=some (if R.2.2.2=true then .inr (Jb (Aj.mk t R.2.1 R.2.2.1 w.Am),As.mk 15 0) else .inl (t.clock,t.next,t.Ae,R.2.1,R.2.2.1,w.Am,a.kind,a.id,a.ttl,a.El,a.clock,a.Ce,a.stop,(R.1:Int))) ∧
  Cl R.2.2.1 1 (w.Ad.next-1):=by
 have h40:=hw.2.2.1
 intro m
 induction m with
 | zero=>
  intro i c L A him hc hLl hA hs
  have e:w.Ab.drop i=[]:=List.drop_eq_nil_of_le (by omega)
  rw [e]
  refine ⟨Dp ?_,Dp ?_,hA⟩
  ·simp only [Jl,Es]
   rw [if_neg (by simp; omega)]
   rfl
  ·simp only [Ir,Es]
   rw [if_neg (by simp; omega)]
   rfl
 | succ m ih=>
  intro i c L A him hc hLl hA hs
  have hlt:i<w.Ab.length:=by omega
  rw [List.drop_eq_getElem_cons hlt]
  by_cases hq:w.Ab[i].Ol=true
  ·have hA0:=Qf hw (ht ▸ hA)
   obtain ⟨c1,c2,c3,c4⟩:=Mk hA (by omega) w.Ab[i].Av false (Bj a c) (fun h=>by cases h)
   have hA':=Qf hw (ht ▸ c3)
   have r1:=bP (v:=Aj.mk t L A w.Am) (a:=a) (k:=c) (by omega) hA (by simp only; omega) w.Ab[i].Av false (fun h=>by cases h)
   simp only at r1
   have hlen:(Hg L w.Ab[i].Av (Bu A w.Ab[i].Av false (Bj a c)).2).length≤1000:=by
    unfold Hg; split
    ·exact Nat.le_trans (List.length_filter_le _ _) hLl
    ·exact hLl
   have spec1:∀K,Jl w a w t.clock t.next t.Ae ((c:Int),(i:Int),L,A)=K↔Qt a w t.clock t.next t.Ae (c:Int) (i:Int) (Bu A w.Ab[i].Av false (Bj a c)) (Hg L w.Ab[i].Av (Bu A w.Ab[i].Av false (Bj a c)).2)=K:=fun K=>by
    simp only [Jl]
    rw [if_pos (decide_eq_true (by omega)),Cd hlt]
    simp only [Option.bind_some]
    rw [if_neg (by simp [hq]),fE]
    simp only [Option.bind_some,c2]
    unfold Hg
    by_cases h0:(Bu A w.Ab[i].Av false (Bj a c)).2=0
    ·rw [if_pos (by simp [h0]),if_pos h0,nS _ _ (by omega)]
     rfl
    ·rw [if_neg (by simpa using h0),if_neg h0]
   have impl1:∀K,Ir a w.Ab ((i:Int),t.clock,t.next,t.Ae,L,A,w.Am,a.kind,a.id,a.ttl,a.El,a.clock,a.Ce,a.stop,(c:Int))=K↔Ra a (i:Int) ((Bu A w.Ab[i].Av false (Bj a c)).2,Da.mk (Aj.mk t L (Bu A w.Ab[i].Av false (Bj a c)).1 w.Am) a ((c+1:Nat):Int)) (Hg L w.Ab[i].Av (Bu A w.Ab[i].Av false (Bj a c)).2)=K:=fun K=>by
    simp only [Ir]
    rw [if_pos (decide_eq_true (by omega)),Cd hlt]
    simp only [Option.bind_some,Int.toNat_natCast,List.getElem?_eq_getElem hlt]
    rw [if_neg (by simp [hq])]
    rw [show fS (Da.mk (Aj.mk (Al.mk t.clock t.next t.Ae) L A w.Am) (Ak.mk a.kind a.id a.ttl a.El a.clock a.Ce a.stop) (c:Int)) w.Ab[i].Av false=_ from r1]
    simp only [Option.bind_some]
    unfold Hg
    by_cases h0:(Bu A w.Ab[i].Av false (Bj a c)).2=0
    ·rw [if_pos (by simp [h0]),if_pos h0,qT _ _ (by omega)]
     rfl
    ·rw [if_neg (by simpa using h0),if_neg h0]
   by_cases hst:a.stop=2
   ·have hc0:=hs hst
    subst hc0
    have eR:Es a (w.Ab[i]::w.Ab.drop (i+1)) 0 L A=(1,Hg L w.Ab[i].Av (Bu A w.Ab[i].Av false (Bj a 0)).2,(Bu A w.Ab[i].Av false (Bj a 0)).1,true):=by simp only [Es,hq,if_true]; rw [if_pos hst]
    dsimp only
    rw [eR]
    refine ⟨Dp ?_,Dp ?_,c3⟩
    ·rw [spec1]
     simp only [Qt]
     rw [if_pos (by simp [hst]),Qb (Aj.mk t (Hg L w.Ab[i].Av (Bu A w.Ab[i].Av false (Bj a 0)).2) (Bu A w.Ab[i].Av false (Bj a 0)).1 w.Am) (by simp only; omega) (by simp only; omega) (by simp only; omega)]
     rfl
    ·rw [impl1]
     simp only [Ra,mL,Option.bind_some]
     rw [if_pos (by simp [hst]),Qa (Aj.mk t (Hg L w.Ab[i].Av (Bu A w.Ab[i].Av false (Bj a 0)).2) (Bu A w.Ab[i].Av false (Bj a 0)).1 w.Am) (by simp only; omega)]
     rfl
   ·have eR:Es a (w.Ab[i]::w.Ab.drop (i+1)) c L A=Es a (w.Ab.drop (i+1)) (c+1) (Hg L w.Ab[i].Av (Bu A w.Ab[i].Av false (Bj a c)).2) (Bu A w.Ab[i].Av false (Bj a c)).1:=by simp only [Es,hq,if_true]; rw [if_neg hst]
    dsimp only
    rw [eR]
    obtain ⟨i1,i2,i3⟩:=ih (i+1) (c+1) _ (Bu A w.Ab[i].Av false (Bj a c)).1 (by omega) (by omega) hlen c3 (fun h=>absurd h hst)
    refine ⟨?_,?_,i3⟩
    ·rw [Dh (s':=(((c+1:Nat):Int),((i+1:Nat):Int),Hg L w.Ab[i].Av (Bu A w.Ab[i].Av false (Bj a c)).2,(Bu A w.Ab[i].Av false (Bj a c)).1)) ?_]
     ·exact i1
     ·rw [spec1]
      simp only [Qt,Tp]
      rw [if_neg (by simpa using hst),w1 (show c<4611686018427387904 by omega),w1 (show i<4611686018427387904 by omega)]
    ·rw [Dh (s':=(((i+1:Nat):Int),t.clock,t.next,t.Ae,Hg L w.Ab[i].Av (Bu A w.Ab[i].Av false (Bj a c)).2,(Bu A w.Ab[i].Av false (Bj a c)).1,w.Am,a.kind,a.id,a.ttl,a.El,a.clock,a.Ce,a.stop,((c+1:Nat):Int))) ?_]
     ·exact i2
     ·rw [impl1]
      have es:(a.stop==2)=false:=by simpa using hst
      simp only [Ra,Ue,mL,Option.bind_some,es,cond_false]
      rw [if_neg (by simp),w1 (show i<4611686018427387904 by omega)]
  ·have hq':w.Ab[i].Ol=false:=by simpa using hq
   have eR:Es a (w.Ab[i]::w.Ab.drop (i+1)) c L A=Es a (w.Ab.drop (i+1)) c L A:=by simp only [Es,hq',Bool.false_eq_true,if_false]
   dsimp only
   rw [eR]
   obtain ⟨i1,i2,i3⟩:=ih (i+1) c L A (by omega) (by omega) hLl hA hs
   refine ⟨?_,?_,i3⟩
   ·rw [Dh (s':=((c:Int),((i+1:Nat):Int),L,A)) ?_]
    ·exact i1
    ·simp only [Jl]
     rw [if_pos (decide_eq_true (by omega)),Cd hlt]
     simp only [Option.bind_some,Tp]
     rw [if_pos (by simp [hq']),w1 (show i<4611686018427387904 by omega)]
   ·rw [Dh (s':=(((i+1:Nat):Int),t.clock,t.next,t.Ae,L,A,w.Am,a.kind,a.id,a.ttl,a.El,a.clock,a.Ce,a.stop,(c:Int))) ?_]
    ·exact i2
    ·simp only [Ir]
     rw [if_pos (decide_eq_true (by omega)),Cd hlt]
     simp only [Option.bind_some,Int.toNat_natCast,List.getElem?_eq_getElem hlt,Ue]
     rw [if_pos (by simp [hq']),w1 (show i<4611686018427387904 by omega)]
end Go.Ev
end
section
set_option maxHeartbeats 1000000
namespace Go.Ev
theorem jX {α:Type} [BEq α] [LawfulBEq α]:∀(A B:List α),A.Nodup→(∀x∈A,x∈B)→A.length≤B.length
 | [],_,_,_=>Nat.zero_le _
 | a::A,B,h,hs=>by
  have ha:a∈B:=hs a List.mem_cons_self
  have h1:=jX A (B.erase a) (List.nodup_cons.1 h).2 (fun x hx=>by
   have hne:x≠a:=fun e=>(List.nodup_cons.1 h).1 (e ▸ hx)
   exact (List.mem_erase_of_ne hne).2 (hs x (List.mem_cons_of_mem _ hx)))
  have h2:=List.length_erase_of_mem ha
  have h3:0<B.length:=List.length_pos_of_mem ha
  simp only [List.length_cons]; omega
structure Dt (v:Aj):Prop where
 tab:Fb v.Ad
 i40:v.Ab.length≤40
 acc:Cl v.Ah 1 (v.Ad.next-1)
 its:Cl (v.Ab.map Ai.Av) 1 (v.Ad.next-1)
 off:∀i∈v.Ab,∀y∈v.Ad.Ae,y.id≠i.Av
 nam:∀x∈v.Ah,(∃y∈v.Ad.Ae,y.id=x)∨∃i∈v.Ab,i.Av=x
theorem bV {v:Aj} (h:Dt v):Sb v:=by
 refine ⟨h.tab,h.i40,?_,h.acc,h.its,fun x hx y hy=>?_,fun x hx=>?_⟩
 ·have hn:=jX v.Ah (v.Ad.Ae.map Aa.id++v.Ab.map Ai.Av) ((Yx h.acc).imp (fun h=>Int.ne_of_lt h)) (fun x hx=>by
   rcases h.nam x hx with ⟨y,hy,rfl⟩ | ⟨i,hi,rfl⟩
   ·exact List.mem_append_left _ (List.mem_map_of_mem hy)
   ·exact List.mem_append_right _ (List.mem_map_of_mem hi))
  have:=h.tab.2.2.1
  have:=h.i40
  simp at hn; omega
 ·obtain ⟨i,hi,rfl⟩:=List.mem_map.1 hx
  exact h.off i hi y hy
 ·rcases h.nam x hx with ⟨y,hy,e⟩ | ⟨i,hi,e⟩
  ·exact .inl fun hn=>hn y hy e
  ·exact .inr fun hn=>hn i hi e
theorem Dt.a {v:Aj} (h:Dt v):v.Ah.length≤1000000:=Qf h.tab h.acc
theorem Dt.t {v:Aj} (h:Dt v):v.Ad.Ae.length≤40:=h.tab.2.2.1
structure Inv (v:Aj):Prop where
 right:Dt v
 tab:Fw v.Ad
 und:∀i∈v.Ab,i.Ol=true
theorem Rh {v:Aj} (h:Dt v):Dt (Jb v):=by
 have e:(Jb v).Ab.map Ai.Av=v.Ab.map Ai.Av:=by simp [Jb,Hl]
 refine ⟨h.tab,by simp [Jb,h.i40],h.acc,by rw [e]; exact h.its,fun i hi y hy=>?_,fun x hx=>?_⟩
 ·obtain ⟨j,hj,rfl⟩:=List.mem_map.1 hi
  exact h.off j hj y hy
 ·rcases h.nam x hx with h1 | ⟨i,hi,e⟩
  ·exact .inl h1
  ·exact .inr ⟨Hl i,List.mem_map_of_mem hi,e⟩
theorem Uz {v:Aj} (h:Dt v) (hT:Fw v.Ad):Inv (Jb v):=⟨Rh h,hT,fun i hi=>by
 obtain ⟨j,_,rfl⟩:=List.mem_map.1 hi; rfl⟩
theorem Ri {v:Aj} {t:Al} (h:Dt v) (hT:Fb t) (hn:t.next=v.Ad.next) (hi:t.Ae.map Aa.id=v.Ad.Ae.map Aa.id) (s:Bool):Dt (Aj.mk t v.Ab v.Ah s):=by
 have hm:∀x,(∃y∈t.Ae,y.id=x)↔∃y∈v.Ad.Ae,y.id=x:=fun x=>by
  rw [←List.mem_map,←List.mem_map,hi]
 refine ⟨hT,h.i40,by simp only [hn]; exact h.acc,by simp only [hn]; exact h.its,fun i hi' y hy e=>?_,fun x hx=>?_⟩
 ·obtain ⟨z,hz,ez⟩:=(hm i.Av).1 ⟨y,hy,e⟩
  exact h.off i hi' z hz ez
 ·rcases h.nam x hx with h1 | h1
  ·exact .inl ((hm x).2 h1)
  ·exact .inr h1
def Ze (v:Aj) (a:Ak) (r:Aj×As):Prop:=
 ((r.2.code_≠0∧r.2.code_≠15∧r.2.code_≠13)→r.1=v)∧(r.1.Ad.Ae.length≤1048576∧r.1.Ab.length≤1048576∧r.1.Ah.length≤1048576) ∧
  ((∀i∈v.Ab,i.Ol=true)→Zb a→Inv r.1)
theorem Rg {v:Aj} (h:Dt v) (hT:Fw v.Ad) (a:Ak) (c n:Int):Ze v a (v,As.mk c n):=
 ⟨fun _=>rfl,⟨by have:=h.t; simp only; omega,by have:=h.i40; simp only; omega,by have:=h.a; simp only; omega⟩,fun hu _=>⟨h,hT,hu⟩⟩
theorem Qj {v:Aj} (h1:v.Ad.Ae.length≤1048576) (h2:v.Ab.length≤1048576) (h3:v.Ah.length≤1048576):cN v=some v:=by
 simp only [cN,Kc v.Ad h1,Option.bind_some]
 rw [if_pos (by simp; omega),if_pos (by simp; omega)]
 rfl
theorem own_eq {v:Aj} (h1:v.Ad.Ae.length≤1048576) (h2:v.Ab.length≤1048576) (h3:v.Ah.length≤1048576):g463 v=some v:=by
 have e:lQ v.Ah=some v.Ah:=by unfold lQ; rw [if_pos (by simp; omega)]
 simp only [g463,Qq v.Ad h1,oZ v.Ab h2,e,Option.bind_some]
theorem mO {t:Al} (h:Fb t) (x y:Int):∃r s,g70 t x y=some r∧g71 t x y=some s∧s.2=r.2∧((r.1=t∧r.2.2≠0) ∨
  (s=r∧r.2.2=0∧r.2.1=t.next∧t.next+1≤1000000∧t.Ae.length≤39∧∃l:Aa,l.id=t.next∧r.1=Al.mk t.clock (t.next+1) (t.Ae++[l]))):=by
 have hl:=h.2.2.1
 have hn:=h.2.1
 simp only [g70,g71]
 split
 ·exact ⟨_,_,rfl,rfl,rfl,.inl ⟨rfl,by simp⟩⟩
 ·split
  ·exact ⟨_,_,rfl,rfl,rfl,.inl ⟨rfl,by simp⟩⟩
  ·simp only [Bp]
   split
   ·exact ⟨_,_,rfl,rfl,rfl,.inl ⟨rfl,by simp⟩⟩
   ·rename_i hf
    have hf1:t.Ae.length≠40:=fun e0=>hf (by rw [e0]; rfl)
    have hf2:t.next≠1000000:=fun e0=>hf (by rw [e0]; cases ((t.Ae.length:Int)==40)<;>rfl)
    obtain ⟨p,e1,e2⟩:=mM t.clock x
    obtain ⟨q,e3,e4⟩:=mM t.clock y
    rw [Kc t (by omega),Qq t (by omega)]
    simp only [e1,e2,e3,e4,Option.bind_some]
    rw [if_pos (by simp; omega)]
    exact ⟨_,_,rfl,rfl,rfl,.inr ⟨rfl,rfl,rfl,by omega,by omega,_,rfl,by rw [wr ⟨by omega,by omega⟩]⟩⟩
theorem CG {v:Aj} (h:Dt v) (hn:v.Ad.next+1≤1000000) (hi:v.Ab.length≠40) (A:List Int) (hA:Cl A 1 v.Ad.next) (hs:∀x∈A,x∈v.Ah∨x=v.Ad.next) (b s:Bool):
  Dt (Aj.mk (Al.mk v.Ad.clock (v.Ad.next+1) v.Ad.Ae) (v.Ab++[Ai.mk v.Ad.next b]) A s):=by
 have h40:=h.i40
 have hn1:=h.tab.2.1
 have hT:Fb (Al.mk v.Ad.clock (v.Ad.next+1) v.Ad.Ae):=by
  refine ⟨h.tab.1,by simp only; omega,h.tab.2.2.1,fun k x hx=>?_⟩
  obtain ⟨a1,a2,a3,a4,a5⟩:=h.tab.2.2.2 k x hx
  exact ⟨by simp only; omega,a2,a3,a4,a5⟩
 refine ⟨hT,by simp; omega,by simp only; rw [show v.Ad.next+1-1=v.Ad.next by omega]; exact hA,?_,fun i hi' y hy=>?_,fun x hx=>?_⟩
 ·simp only [List.map_append,List.map_cons,List.map_nil]
  refine Yw (fun x hx=>?_) ?_
  ·rcases List.mem_append.1 hx with hx | hx
   ·have:=h.its.mem hx; omega
   ·simp only [List.mem_singleton] at hx; omega
  ·rw [List.pairwise_append]
   refine ⟨Yx h.its,List.pairwise_singleton _ _,fun x hx y hy=>?_⟩
   have:=h.its.mem hx
   simp only [List.mem_singleton] at hy
   omega
 ·simp only at hi' hy
  rcases List.mem_append.1 hi' with hi' | hi'
  ·exact h.off i hi' y hy
  ·simp only [List.mem_singleton] at hi'; subst hi'
   obtain ⟨k,hk,rfl⟩:=List.getElem_of_mem hy
   have:=(h.tab.at hk).1
   simp only; omega
 ·rcases hs x hx with hx | rfl
  ·rcases h.nam x hx with h1 | ⟨i,hi,e⟩
   ·exact .inl h1
   ·exact .inr ⟨i,List.mem_append_left _ hi,e⟩
  ·exact .inr ⟨Ai.mk v.Ad.next b,by simp,rfl⟩
theorem mU {v:Aj} {a:Ak} (hr:Dt v) (hT:Fw v.Ad) (hk:a.kind=1):∃r,g132 v a=some r∧g465 v a=some r∧Ze v a r:=by
 obtain ⟨r1,u1,e1,e2,e3,hc⟩:=mO hr.tab a.ttl a.El
 have h40:=hr.t
 have hi40:=hr.i40
 have ha:=hr.a
 have hn1:=hr.tab.2.1
 have tabf:Zb a→Fw r1.1:=fun hf=>by
  obtain ⟨r',e',t'⟩:=rP hT _ _ (hf.1 hk)
  rw [e1] at e'; cases e'; exact t'
 simp only [g132,g465,e1,e2,e3,Option.bind_some]
 have ref:∀c,c≠0→∃r,Kd v a r1 c=some r∧Kf v a u1 c=some r∧Ze v a r:=fun c h0=>⟨(v,As.mk c 0),by simp [Kd,h0],by simp [Kf,h0,cO],Rg hr hT a c 0⟩
 rcases hc with ⟨_,n0⟩ | ⟨hur,c0,cid,cn,cl,l,lid,lt⟩
 ·have:(bif (r1.2.2==0) then ((v.Ab.length:Int)==40) else false)=false:=by simp [n0]
  rw [this]
  simp only [Bool.false_eq_true,if_false]
  exact ref _ n0
 ·subst hur
  by_cases hf:v.Ab.length=40
  ·have:(bif (u1.2.2==0) then ((v.Ab.length:Int)==40) else false)=true:=by simp [c0,hf]
   rw [this]
   simp only [if_true]
   exact ref 9 (by decide)
  ·have:(bif (u1.2.2==0) then ((v.Ab.length:Int)==40) else false)=false:=by simp [c0]; omega
   rw [this]
   simp only [Bool.false_eq_true,if_false]
   obtain ⟨rt,rid,rc⟩:=u1
   simp only at c0 cid lt tabf
   subst c0 cid
   have hw:IntKind.i64.wrap (v.Ad.next+1)=v.Ad.next+1:=wr ⟨by omega,by omega⟩
   have hrn:rt.next=v.Ad.next+1:=by rw [lt]
   have hA:Cl v.Ah 1 v.Ad.next:=hr.acc.mono (by omega)
   obtain ⟨c1,c2,c3,c4⟩:=Mk hA (by omega) v.Ad.next true (Bj a 0) (fun _=>⟨by omega,by omega⟩)
   have hA2:(Bu v.Ah v.Ad.next true (Bj a 0)).1.length≤1000000:=by
    have:=c3.len (by omega); omega
   have f0:lW a 0=some (Bj a 0):=fE a 0
   have hsub:∀x∈(Bu v.Ah v.Ad.next true (Bj a 0)).1,x∈v.Ah∨x=v.Ad.next:=fun x hx=>by
    rcases c4 with ⟨_,e,_⟩ | ⟨_,_,hm⟩
    ·rw [e] at hx; exact .inl hx
    ·simpa using (hm x).1 hx
   have r1:fS (Da.mk (Aj.mk (Al.mk v.Ad.clock (v.Ad.next+1) v.Ad.Ae) (v.Ab++[Ai.mk v.Ad.next false]) v.Ah v.Am) a 0) v.Ad.next true=some ((Bu v.Ah v.Ad.next true (Bj a 0)).2,Da.mk (Aj.mk (Al.mk v.Ad.clock (v.Ad.next+1) v.Ad.Ae) (v.Ab++[Ai.mk v.Ad.next false]) (Bu v.Ah v.Ad.next true (Bj a 0)).1 v.Am) a 1):=
    bP (v:=Aj.mk (Al.mk v.Ad.clock (v.Ad.next+1) v.Ad.Ae) (v.Ab++[Ai.mk v.Ad.next false]) v.Ah v.Am) (a:=a) (k:=0) (by omega) hA (by simp only; omega) v.Ad.next true (fun _=>⟨by omega,by omega⟩)
   have hlen:(v.Ab++[Ai.mk v.Ad.next false]).length=v.Ab.length+1:=by simp
   have hwl:IntKind.i64.wrap (((v.Ab++[Ai.mk v.Ad.next false]).length:Int)-1)=(v.Ab.length:Int):=by rw [hlen,wr ⟨by omega,by omega⟩]; omega
   have hT1:Fw (Al.mk v.Ad.clock (v.Ad.next+1) v.Ad.Ae):=DG hT cn
   have cap:(v.Ab.length+([Ai.mk v.Ad.next false]:List Ai).length)*16≤140737488355328:=by simp; omega
   have ecp:=Qj (v:=v) (by omega) (by omega) (by omega)
   by_cases s1:a.stop=1
   ·have q1:=Qb (Aj.mk (Al.mk v.Ad.clock (v.Ad.next+1) v.Ad.Ae) (v.Ab++[Ai.mk v.Ad.next false]) v.Ah v.Am) (by simp only; omega) (by simp; omega) (by simp only; omega)
    have q2:=Qa (Aj.mk (Al.mk v.Ad.clock (v.Ad.next+1) v.Ad.Ae) (v.Ab++[Ai.mk v.Ad.next false]) v.Ah v.Am) (by simp; omega)
    refine ⟨(Jb (Aj.mk (Al.mk v.Ad.clock (v.Ad.next+1) v.Ad.Ae) (v.Ab++[Ai.mk v.Ad.next false]) v.Ah v.Am),As.mk 15 0),?_,?_,fun h=>absurd rfl h.2.1,⟨by simp [Jb]; omega,by simp [Jb]; omega,by simp [Jb]; omega⟩,fun _ _=>Uz (CG hr cn hf v.Ah hA (fun x hx=>.inl hx) false v.Am) hT1⟩
    ·simp only [Kd,ecp,Option.bind_some,hrn,s1]
     rw [if_neg (by simp),if_pos cap,if_pos (by simp),q1]
     rfl
    ·simp only [Kf,hw,s1]
     rw [if_neg (by simp),if_pos cap,if_pos (by simp),q2]
     rfl
   ·have s1':¬(a.stop==1)=true:=by simpa using s1
    by_cases s2:a.stop=2
    ·have s2':(a.stop==2)=true:=by simpa using s2
     have q1:=Qb (Aj.mk (Al.mk v.Ad.clock (v.Ad.next+1) v.Ad.Ae) (v.Ab++[Ai.mk v.Ad.next false]) (Bu v.Ah v.Ad.next true (Bj a 0)).1 v.Am) (by simp only; omega) (by simp; omega) (by simp only; omega)
     have q2:=Qa (Aj.mk (Al.mk v.Ad.clock (v.Ad.next+1) v.Ad.Ae) (v.Ab++[Ai.mk v.Ad.next false]) (Bu v.Ah v.Ad.next true (Bj a 0)).1 v.Am) (by simp; omega)
     refine ⟨(Jb (Aj.mk (Al.mk v.Ad.clock (v.Ad.next+1) v.Ad.Ae) (v.Ab++[Ai.mk v.Ad.next false]) (Bu v.Ah v.Ad.next true (Bj a 0)).1 v.Am),As.mk 15 0),?_,?_,fun h=>absurd rfl h.2.1,⟨by simp [Jb]; omega,by simp [Jb]; omega,by simp [Jb]; omega⟩,fun _ _=>Uz (CG hr cn hf _ c3 hsub false v.Am) hT1⟩
     ·simp only [Kd,ecp,Option.bind_some,hrn,f0,c2]
      rw [if_neg (by simp),if_pos cap,if_neg s1',if_pos s2',q1]
      rfl
     ·simp only [Kf,hw,r1,Option.bind_some]
      rw [if_neg (by simp),if_pos cap,if_neg s1',if_pos s2',q2]
      rfl
    ·have s2':¬(a.stop==2)=true:=by simpa using s2
     by_cases h0:(Bu v.Ah v.Ad.next true (Bj a 0)).2=0
     ·have h0':¬((Bu v.Ah v.Ad.next true (Bj a 0)).2 != 0)=true:=by simp [h0]
      have hs:=EL (v.Ab++[Ai.mk v.Ad.next false]) 0 v.Ab.length (by omega) (by omega)
      rw [show ((0:Nat):Int)=0 from rfl] at hs
      have et:List.drop 0 (List.take v.Ab.length (v.Ab++[Ai.mk v.Ad.next false]))=v.Ab:=by simp
      rw [et] at hs
      refine ⟨(Aj.mk rt v.Ab (Bu v.Ah v.Ad.next true (Bj a 0)).1 v.Am,As.mk 0 v.Ad.next),?_,?_,fun h=>absurd rfl h.1,⟨by simp only [lt]; simp; omega,by simp only; omega,by simp only; omega⟩,fun hu hfit=>⟨?_,tabf hfit,hu⟩⟩
      ·simp only [Kd,ecp,Option.bind_some,hrn,f0,c2,hwl]
       rw [if_neg (by simp),if_pos cap,if_neg s1',if_neg s2',if_neg h0',hs]
       rfl
      ·simp only [Kf,hw,r1,Option.bind_some,hwl]
       rw [if_neg (by simp),if_pos cap,if_neg s1',if_neg s2',if_neg h0',hs]
       rfl
      ·refine ⟨(tabf hfit).1,hi40,by simp only [hrn]; rw [show v.Ad.next+1-1=v.Ad.next by omega]; exact c3,by simp only [hrn]; exact hr.its.mono (by omega),fun i hi y hy=>?_,fun x hx=>?_⟩
       ·simp only [lt] at hy
        rcases List.mem_append.1 hy with hy | hy
        ·exact hr.off i hi y hy
        ·simp only [List.mem_singleton] at hy; subst hy
         have:=hr.its.mem (List.mem_map_of_mem hi)
         omega
       ·simp only [lt]
        rcases hsub x hx with hx | rfl
        ·rcases hr.nam x hx with ⟨y,hy,e⟩ | h1
         ·exact .inl ⟨y,List.mem_append_left _ hy,e⟩
         ·exact .inr h1
        ·exact .inl ⟨l,by simp,lid⟩
     ·have h0':((Bu v.Ah v.Ad.next true (Bj a 0)).2 != 0)=true:=by simpa using h0
      have il:=Cd (show v.Ab.length<(v.Ab++[Ai.mk v.Ad.next false]).length by omega)
      have gl:=List.getElem?_eq_getElem (show v.Ab.length<(v.Ab++[Ai.mk v.Ad.next false]).length by omega)
      have el:(v.Ab++[Ai.mk v.Ad.next false])[v.Ab.length]'(by omega)=Ai.mk v.Ad.next false:=by simp
      rw [el] at il gl
      have es:(v.Ab++[Ai.mk v.Ad.next false]).set v.Ab.length (Ai.mk v.Ad.next true)=v.Ab++[Ai.mk v.Ad.next true]:=by simp [List.set_append]
      refine ⟨(Aj.mk (Al.mk v.Ad.clock (v.Ad.next+1) v.Ad.Ae) (v.Ab++[Ai.mk v.Ad.next true]) (Bu v.Ah v.Ad.next true (Bj a 0)).1 v.Am,As.mk (Bu v.Ah v.Ad.next true (Bj a 0)).2 0),?_,?_,fun h=>?_,⟨by simp only; omega,by simp; omega,by simp only; omega⟩,fun hu _=>⟨CG hr cn hf _ c3 hsub true v.Am,hT1,fun i hi=>?_⟩⟩
      ·simp only [Kd,ecp,Option.bind_some,hrn,f0,c2,hwl]
       rw [if_neg (by simp),if_pos cap,if_neg s1',if_neg s2',if_pos h0',il]
       simp only [Option.bind_some,Int.toNat_natCast,gl,es]
      ·simp only [Kf,hw,r1,Option.bind_some,hwl]
       rw [if_neg (by simp),if_pos cap,if_neg s1',if_neg s2',if_pos h0',il]
       simp only [Option.bind_some,Int.toNat_natCast,gl,es,cO]
      ·exfalso
       simp only at h
       rcases c4 with ⟨e,_,_⟩ | ⟨_,e,_⟩
       ·exact h.2.2 e
       ·rw [e] at h
        unfold Lv at h
        split at h
        ·exact h.2.1 rfl
        ·exact h.1 rfl
      ·simp only at hi
       rcases List.mem_append.1 hi with hi | hi
       ·exact hu i hi
       ·simp only [List.mem_singleton] at hi; subst hi; rfl
theorem pJ {t:Al} {k:Nat} (hk:k<t.Ae.length) (v:Aa) (h:v.id=t.Ae[k].id):(t.Ae.set k v).map Aa.id=t.Ae.map Aa.id:=by
 apply List.ext_getElem
 ·simp
 ·intro j h1 h2
  simp only [List.getElem_map,List.getElem_set]
  split
  ·rename_i e; subst e; exact h
  ·rfl
theorem kE {t:Al} (h:Fb t) (x:Int):∃r s,g74 t x=some r∧g75 t x=some s∧s.2=r.2∧(r.2=0→s=r)∧r.1.next=t.next∧r.1.Ae.map Aa.id=t.Ae.map Aa.id:=by
 have hl:=h.2.2.1
 obtain ⟨n,h1,h2⟩:=Sn t x (by omega)
 obtain ⟨i,b,h3,h4,h5⟩:=fX t h x n h2
 simp only [g74,g75,h1,h3,Option.bind_some]
 cases b with
 | false=>
  have:=h5 rfl; subst this
  exact ⟨_,_,rfl,rfl,rfl,(fun h=>by simp at h),rfl,rfl⟩
 | true=>
  obtain ⟨rfl,hn⟩:=h4 rfl
  rcases h2 with ⟨rfl,_⟩ | ⟨k,hk,rfl,_⟩
  ·omega
  ·rw [if_neg (by simp),if_neg (by simp),Kc t (by omega),Qq t (by omega)]
   simp only [Option.bind_some,Cd hk,Int.toNat_natCast,List.getElem?_eq_getElem hk]
   exact ⟨_,_,rfl,rfl,rfl,fun _=>rfl,rfl,pJ hk _ rfl⟩
theorem nE {t:Al} (h:Fb t) (x c:Int):∃r s,g79 t x c=some r∧g80 t x c=some s∧s.2=r.2∧(r.2=0→s=r)∧r.1.next=t.next∧r.1.Ae.map Aa.id=t.Ae.map Aa.id:=by
 have hl:=h.2.2.1
 obtain ⟨n,h1,h2⟩:=Sn t x (by omega)
 obtain ⟨i,b,h3,h4,h5⟩:=fX t h x n h2
 simp only [g79,g80,h1,h3,Option.bind_some]
 by_cases hb:c<1
 ·simp only [decide_eq_true hb,if_true]
  exact ⟨_,_,rfl,rfl,rfl,(fun h=>by simp at h),rfl,rfl⟩
 ·simp only [decide_eq_false hb,if_neg (show ¬(false=true) by decide)]
  cases b with
  | false=>
   have:=h5 rfl; subst this
   exact ⟨_,_,rfl,rfl,rfl,(fun h=>by simp at h),rfl,rfl⟩
  | true=>
   obtain ⟨rfl,hn⟩:=h4 rfl
   rcases h2 with ⟨rfl,_⟩ | ⟨k,hk,rfl,_⟩
   ·omega
   ·rw [if_neg (by simp),if_neg (by simp),Cd hk]
    simp only [Option.bind_some]
    by_cases hq:t.Ae[k].Ck=true
    ·rw [if_pos hq,if_pos hq]
     exact ⟨_,_,rfl,rfl,rfl,(fun h=>by simp at h),rfl,rfl⟩
    ·rw [if_neg hq,if_neg hq,Kc t (by omega),Qq t (by omega)]
     obtain ⟨x,e3,e4⟩:=mM t.clock c
     simp only [Option.bind_some,Cd hk,Int.toNat_natCast,List.getElem?_eq_getElem hk,e3,e4,Bp]
     have:(if x<t.Ae[k].cap then x else t.Ae[k].cap)=(if t.Ae[k].cap<x then t.Ae[k].cap else x):=by
      split<;>split<;>omega
     rw [this]
     exact ⟨_,_,rfl,rfl,rfl,fun _=>rfl,rfl,pJ hk _ rfl⟩
theorem eQ {v:Aj} (hr:Dt v) (hT:Fw v.Ad) (a:Ak) (r u:Al×Int) (hu2:u.2=r.2) (hur:r.2=0→u=r) (hn:r.1.next=v.Ad.next) (hi:r.1.Ae.map Aa.id=v.Ad.Ae.map Aa.id) (hf:Zb a→Fw r.1):
  ∃x,Hu v r.2 r.1.clock r.1.next r.1.Ae v.Ab v.Ah v.Am=some x∧BX v u.1 u.2=some x∧Ze v a x:=by
 simp only [Hu,BX,cO,Option.bind_some,hu2]
 by_cases h0:r.2=0
 ·rw [if_neg (by simp [h0]),if_neg (by simp [h0])]
  rw [hur h0]
  have hl:r.1.Ae.length=v.Ad.Ae.length:=by simpa using congrArg List.length hi
  have:=hr.t
  have:=hr.i40
  have:=hr.a
  exact ⟨_,rfl,rfl,fun h=>absurd rfl h.1,⟨by simp only; omega,by simp only; omega,by simp only; omega⟩,fun hu hfit=>⟨Ri hr (hf hfit).1 hn hi _,hf hfit,hu⟩⟩
 ·rw [if_pos (by simpa using h0),if_pos (by simpa using h0)]
  exact ⟨_,rfl,rfl,Rg hr hT a _ _⟩
theorem kO (a:Ak) {M:Int} (hM:M≤1000000) (hM0:0≤M):∀(r:List Aa) (c:Nat) (L:List Aa) (A:List Int),Cl A 1 M →
  (∀y∈(Ej a r c L A).2.1,y∈L)∧∀y∈(Ej a r c L A).2.2.1,y∈A∧((∃z∈L,z.id=y)→∃z∈(Ej a r c L A).2.1,z.id=y):=by
 intro r
 induction r with
 | nil=>intro c L A hA; exact ⟨fun y hy=>hy,fun y hy=>⟨hy,fun h=>h⟩⟩
 | cons x r ih=>
  intro c L A hA
  by_cases hq:x.Ck=true
  ·have hlen:A.length≤1000000:=by have:=hA.len hM0; omega
   obtain ⟨c1,c2,c3,c4⟩:=Mk hA (by omega) x.id false (Bj a c) (fun h=>by cases h)
   have hL:∀y∈Gh L x.id (Bu A x.id false (Bj a c)).2,y∈L:=fun y hy=>by
    unfold Gh at hy
    split at hy
    ·exact (List.mem_filter.1 hy).1
    ·exact hy
   have hN:∀y∈(Bu A x.id false (Bj a c)).1,y∈A∧((∃z∈L,z.id=y)→∃z∈Gh L x.id (Bu A x.id false (Bj a c)).2,z.id=y):=fun y hy=>by
    rcases c4 with ⟨e1,e2,_⟩ | ⟨_,e1,hm⟩
    ·rw [e2] at hy
     refine ⟨hy,fun h=>?_⟩
     unfold Gh
     rw [if_neg (by rw [e1]; decide)]
     exact h
    ·have hy':y∈A∧y≠x.id:=by simpa using (hm y).1 hy
     refine ⟨hy'.1,fun ⟨z,hz,e⟩=>⟨z,?_,e⟩⟩
     unfold Gh
     split
     ·rw [List.mem_filter]
      exact ⟨hz,by simp; rw [e]; exact hy'.2⟩
     ·exact hz
   by_cases hs:a.stop=2
   ·have eR:Ej a (x::r) c L A=(c+1,Gh L x.id (Bu A x.id false (Bj a c)).2,(Bu A x.id false (Bj a c)).1,true):=by simp only [Ej,hq,if_true]; rw [if_pos hs]
    rw [eR]
    exact ⟨hL,hN⟩
   ·have eR:Ej a (x::r) c L A=Ej a r (c+1) (Gh L x.id (Bu A x.id false (Bj a c)).2) (Bu A x.id false (Bj a c)).1:=by simp only [Ej,hq,if_true]; rw [if_neg hs]
    rw [eR]
    obtain ⟨i1,i2⟩:=ih (c+1) (Gh L x.id (Bu A x.id false (Bj a c)).2) _ c3
    exact ⟨fun y hy=>hL y (i1 y hy),fun y hy=>⟨(hN y (i2 y hy).1).1,fun h=>(i2 y hy).2 ((hN y (i2 y hy).1).2 h)⟩⟩
  ·have eR:Ej a (x::r) c L A=Ej a r c L A:=by simp only [Ej,hq,if_false]; rfl
   rw [eR]
   exact ih c L A hA
theorem kM (a:Ak) {M:Int} (hM:M≤1000000) (hM0:0≤M):∀(r:List Ai) (c:Nat) (L:List Ai) (A:List Int),Cl A 1 M →
  (Es a r c L A).2.1.Sublist L∧∀y∈(Es a r c L A).2.2.1,y∈A∧((∃z∈L,z.Av=y)→∃z∈(Es a r c L A).2.1,z.Av=y):=by
 intro r
 induction r with
 | nil=>intro c L A hA; exact ⟨List.Sublist.refl _,fun y hy=>⟨hy,fun h=>h⟩⟩
 | cons x r ih=>
  intro c L A hA
  by_cases hq:x.Ol=true
  ·have hlen:A.length≤1000000:=by have:=hA.len hM0; omega
   obtain ⟨c1,c2,c3,c4⟩:=Mk hA (by omega) x.Av false (Bj a c) (fun h=>by cases h)
   have hL:(Hg L x.Av (Bu A x.Av false (Bj a c)).2).Sublist L:=by
    unfold Hg
    split
    ·exact List.filter_sublist
    ·exact List.Sublist.refl _
   have hN:∀y∈(Bu A x.Av false (Bj a c)).1,y∈A∧((∃z∈L,z.Av=y)→∃z∈Hg L x.Av (Bu A x.Av false (Bj a c)).2,z.Av=y):=fun y hy=>by
    rcases c4 with ⟨e1,e2,_⟩ | ⟨_,e1,hm⟩
    ·rw [e2] at hy
     refine ⟨hy,fun h=>?_⟩
     unfold Hg
     rw [if_neg (by rw [e1]; decide)]
     exact h
    ·have hy':y∈A∧y≠x.Av:=by simpa using (hm y).1 hy
     refine ⟨hy'.1,fun ⟨z,hz,e⟩=>⟨z,?_,e⟩⟩
     unfold Hg
     split
     ·rw [List.mem_filter]
      exact ⟨hz,by simp; rw [e]; exact hy'.2⟩
     ·exact hz
   by_cases hs:a.stop=2
   ·have eR:Es a (x::r) c L A=(c+1,Hg L x.Av (Bu A x.Av false (Bj a c)).2,(Bu A x.Av false (Bj a c)).1,true):=by simp only [Es,hq,if_true]; rw [if_pos hs]
    rw [eR]
    exact ⟨hL,hN⟩
   ·have eR:Es a (x::r) c L A=Es a r (c+1) (Hg L x.Av (Bu A x.Av false (Bj a c)).2) (Bu A x.Av false (Bj a c)).1:=by simp only [Es,hq,if_true]; rw [if_neg hs]
    rw [eR]
    obtain ⟨i1,i2⟩:=ih (c+1) (Hg L x.Av (Bu A x.Av false (Bj a c)).2) _ c3
    exact ⟨i1.trans hL,fun y hy=>⟨(hN y (i2 y hy).1).1,fun h=>(i2 y hy).2 ((hN y (i2 y hy).1).2 h)⟩⟩
  ·have eR:Es a (x::r) c L A=Es a r c L A:=by simp only [Es,hq,if_false]; rfl
   rw [eR]
   exact ih c L A hA
noncomputable def Cp (w:Aj) (a:Ak):Nat×List Aa×List Int×Bool:=Ej a w.Ad.Ae 0 w.Ad.Ae w.Ah
noncomputable def Ee (w:Aj) (a:Ak):Nat×List Ai×List Int×Bool:=Es a w.Ab (Cp w a).1 w.Ab (Cp w a).2.2.1
noncomputable def Ld (w:Aj) (a:Ak):Al:=Al.mk w.Ad.clock w.Ad.next (Cp w a).2.1
noncomputable def Fv (w:Aj) (a:Ak):Aj×Bool:=
 if (Cp w a).2.2.2=true then (Jb (Aj.mk (Ld w a) w.Ab (Cp w a).2.2.1 w.Am),true)
 else if (Ee w a).2.2.2=true then (Jb (Aj.mk (Ld w a) (Ee w a).2.1 (Ee w a).2.2.1 w.Am),true)
 else (Aj.mk (Ld w a) (Ee w a).2.1 (Ee w a).2.2.1 w.Am,false)
theorem Tb {w:Aj} (a:Ak) (hr:Dt w) (hT:Fw w.Ad):
  lR w a=some (Fv w a).1 ∧
  ((Bz (Kg a w.Ad.Ae) (0,w.Ad.clock,w.Ad.next,w.Ad.Ae,w.Ab,w.Ah,w.Am,a.kind,a.id,a.ttl,a.El,a.clock,a.Ce,a.stop,0)).bind fun r182=>(match r182 with
   | .inl (p108,p109,p110,p111,p112,p113,p114,p115,p116,p117,p118,p119,p120,p121)=>(mK p111).bind fun r184=>
    (Bz (Ir a r184) (0,p108,p109,p110,p111,p112,p113,p114,p115,p116,p117,p118,p119,p120,p121)).bind fun r344=>(match r344 with
    | .inl (p278,p279,p280,p281,p282,p283,p284,p285,p286,p287,p288,p289,p290,p291)=>some ((Aj.mk (Al.mk p278 p279 p280) p281 p282 p283),(As.mk 0 0))
    | .inr q=>some q)
   | .inr q=>some q))=some ((Fv w a).1,As.mk (if (Fv w a).2=true then 15 else 0) 0) ∧
  Dt (Fv w a).1∧Fw (Fv w a).1.Ad∧((∀i∈w.Ab,i.Ol=true)→∀i∈(Fv w a).1.Ab,i.Ol=true)∧((Fv w a).2=true→(Fv w a).1.Am=true)∧((Fv w a).2=false→(Fv w a).1.Am=w.Am):=by
 have h40:=hr.t
 have hi40:=hr.i40
 have hn1:=hr.tab.2.1
 obtain ⟨l1,l2,l3,l4,l5,l6⟩:=kN w a hr.tab (by omega) w.Ad.Ae.length 0 0 w.Ad.Ae w.Ah (by omega) (Nat.le_refl _) hT (fun x hx=>by simpa using hx) hr.acc (fun _=>rfl)
 simp only [List.drop_zero] at l1 l2 l3 l4 l5 l6
 change Bz (Lo w a w) (0,0,w.Ad.clock,w.Ad.next,w.Ad.Ae,w.Ah)=some (if (Cp w a).2.2.2=true then .inr (Jb (Aj.mk (Ld w a) w.Ab (Cp w a).2.2.1 w.Am)) else .inl (((Cp w a).1:Int),w.Ad.clock,w.Ad.next,(Cp w a).2.1,(Cp w a).2.2.1)) at l1
 change Bz (Kg a w.Ad.Ae) (0,w.Ad.clock,w.Ad.next,w.Ad.Ae,w.Ab,w.Ah,w.Am,a.kind,a.id,a.ttl,a.El,a.clock,a.Ce,a.stop,0)=some (if (Cp w a).2.2.2=true then .inr (Jb (Aj.mk (Ld w a) w.Ab (Cp w a).2.2.1 w.Am),As.mk 15 0) else .inl (w.Ad.clock,w.Ad.next,(Cp w a).2.1,w.Ab,(Cp w a).2.2.1,w.Am,a.kind,a.id,a.ttl,a.El,a.clock,a.Ce,a.stop,((Cp w a).1:Int))) at l2
 change Fw (Ld w a) at l3
 change Cl (Cp w a).2.2.1 1 (w.Ad.next-1) at l4
 change (Cp w a).1≤w.Ad.Ae.length at l5
 change (Cp w a).2.2.2=false→a.stop=2→(Cp w a).1=0 at l6
 obtain ⟨p1,p2⟩:=kO a (M:=w.Ad.next-1) (by omega) (by omega) w.Ad.Ae 0 w.Ad.Ae w.Ah hr.acc
 change ∀y∈(Cp w a).2.1,y∈w.Ad.Ae at p1
 change ∀y∈(Cp w a).2.2.1,y∈w.Ah∧((∃z∈w.Ad.Ae,z.id=y)→∃z∈(Cp w a).2.1,z.id=y) at p2
 have rA:∀s,Dt (Aj.mk (Ld w a) w.Ab (Cp w a).2.2.1 s):=fun s=>⟨l3.1,hr.i40,l4,hr.its,fun i hi y hy=>hr.off i hi y (p1 y hy),fun x hx=>by
  rcases hr.nam x (p2 x hx).1 with h1 | h1
  ·exact .inl ((p2 x hx).2 h1)
  ·exact .inr h1⟩
 by_cases hb:(Cp w a).2.2.2=true
 ·have e:Fv w a=(Jb (Aj.mk (Ld w a) w.Ab (Cp w a).2.2.1 w.Am),true):=by unfold Fv; rw [if_pos hb]
  rw [if_pos hb] at l1 l2
  rw [e]
  refine ⟨?_,?_,Rh (rA _),l3,fun _=>(Uz (rA w.Am) l3).und,fun _=>rfl,fun h=>by cases h⟩
  ·simp only [lR,Qj (v:=w) (by omega) (by omega) (by have:=hr.a; omega),Option.bind_some,l1]
  ·simp only [l2,Option.bind_some]
   rfl
 ·rw [if_neg hb] at l1 l2
  have hb':(Cp w a).2.2.2=false:=by simpa using hb
  obtain ⟨m1,m2,m3⟩:=kL w a (Ld w a) l3.1 (by omega) rfl w.Ab.length 0 (Cp w a).1 w.Ab (Cp w a).2.2.1 (by omega) (by omega) (by omega) l4 (l6 hb')
  simp only [List.drop_zero] at m1 m2 m3
  change Bz (Jl w a w (Ld w a).clock (Ld w a).next (Ld w a).Ae) (((Cp w a).1:Int),0,w.Ab,(Cp w a).2.2.1)=some (if (Ee w a).2.2.2=true then .inr (Jb (Aj.mk (Ld w a) (Ee w a).2.1 (Ee w a).2.2.1 w.Am)) else .inl ((Ee w a).2.1,(Ee w a).2.2.1)) at m1
  change Bz (Ir a w.Ab) (0,(Ld w a).clock,(Ld w a).next,(Ld w a).Ae,w.Ab,(Cp w a).2.2.1,w.Am,a.kind,a.id,a.ttl,a.El,a.clock,a.Ce,a.stop,((Cp w a).1:Int))=some (if (Ee w a).2.2.2=true then .inr (Jb (Aj.mk (Ld w a) (Ee w a).2.1 (Ee w a).2.2.1 w.Am),As.mk 15 0) else .inl ((Ld w a).clock,(Ld w a).next,(Ld w a).Ae,(Ee w a).2.1,(Ee w a).2.2.1,w.Am,a.kind,a.id,a.ttl,a.El,a.clock,a.Ce,a.stop,((Ee w a).1:Int))) at m2
  change Cl (Ee w a).2.2.1 1 (w.Ad.next-1) at m3
  obtain ⟨q1,q2⟩:=kM a (M:=w.Ad.next-1) (by omega) (by omega) w.Ab (Cp w a).1 w.Ab (Cp w a).2.2.1 l4
  change (Ee w a).2.1.Sublist w.Ab at q1
  change ∀y∈(Ee w a).2.2.1,y∈(Cp w a).2.2.1∧((∃z∈w.Ab,z.Av=y)→∃z∈(Ee w a).2.1,z.Av=y) at q2
  have rB:∀s,Dt (Aj.mk (Ld w a) (Ee w a).2.1 (Ee w a).2.2.1 s):=fun s=>⟨l3.1,Nat.le_trans q1.length_le hr.i40,m3,Yw (fun x hx=>hr.its.mem ((q1.map _).mem hx)) ((Yx hr.its).sublist (q1.map _)),fun i hi y hy=>hr.off i (q1.mem hi) y (p1 y hy),fun x hx=>by
   have h1:=q2 x hx
   have h2:=p2 x h1.1
   rcases hr.nam x h2.1 with h3 | h3
   ·exact .inl (h2.2 h3)
   ·exact .inr (h1.2 h3)⟩
  have ec:mK w.Ab=some w.Ab:=oZ _ (by omega)
  by_cases hd:(Ee w a).2.2.2=true
  ·have e:Fv w a=(Jb (Aj.mk (Ld w a) (Ee w a).2.1 (Ee w a).2.2.1 w.Am),true):=by unfold Fv; rw [if_neg hb,if_pos hd]
   rw [if_pos hd] at m1 m2
   rw [e]
   refine ⟨?_,?_,Rh (rB _),l3,fun _=>(Uz (rB w.Am) l3).und,fun _=>rfl,fun h=>by cases h⟩
   ·simp only [lR,Qj (v:=w) (by omega) (by omega) (by have:=hr.a; omega),Option.bind_some,l1]
    rw [show Bz (Jl w a w w.Ad.clock w.Ad.next (Cp w a).2.1) (((Cp w a).1:Int),0,w.Ab,(Cp w a).2.2.1)=_ from m1]
    rfl
   ·simp only [l2,Option.bind_some,ec]
    rw [show Bz (Ir a w.Ab) (0,w.Ad.clock,w.Ad.next,(Cp w a).2.1,w.Ab,(Cp w a).2.2.1,w.Am,a.kind,a.id,a.ttl,a.El,a.clock,a.Ce,a.stop,((Cp w a).1:Int))=_ from m2]
    rfl
  ·have e:Fv w a=(Aj.mk (Ld w a) (Ee w a).2.1 (Ee w a).2.2.1 w.Am,false):=by unfold Fv; rw [if_neg hb,if_neg hd]
   rw [if_neg hd] at m1 m2
   rw [e]
   refine ⟨?_,?_,rB _,l3,fun hu i hi=>hu i (q1.mem hi),(fun h=>by cases h),fun _=>rfl⟩
   ·simp only [lR,Qj (v:=w) (by omega) (by omega) (by have:=hr.a; omega),Option.bind_some,l1]
    rw [show Bz (Jl w a w w.Ad.clock w.Ad.next (Cp w a).2.1) (((Cp w a).1:Int),0,w.Ab,(Cp w a).2.2.1)=_ from m1]
    rfl
   ·simp only [l2,Option.bind_some,ec]
    rw [show Bz (Ir a w.Ab) (0,w.Ad.clock,w.Ad.next,(Cp w a).2.1,w.Ab,(Cp w a).2.2.1,w.Am,a.kind,a.id,a.ttl,a.El,a.clock,a.Ce,a.stop,((Cp w a).1:Int))=_ from m2]
    rfl
def Xc (t:Al) (c:Int):Al:=Al.mk (Cz t c) t.next (t.Ae.map (Hr (Cz t c)))
theorem cB (t:Al) (c:Int):(Xc t c).Ae.map Aa.id=t.Ae.map Aa.id:=by
 simp only [Xc,List.map_map]
 apply List.map_congr_left
 intro x _
 simp only [Function.comp,Hr]
 split<;>rfl
def Oh (v:Aj) (a:Ak):Aj:=Aj.mk (Xc v.Ad a.clock) v.Ab v.Ah v.Am
noncomputable def eP (v:Aj) (a:Ak):Aj×As:=
 if a.stop=1 then (Jb (Oh v a),As.mk 15 0) else ((Fv (Oh v a) a).1,As.mk (if (Fv (Oh v a) a).2=true then 15 else 0) 0)
theorem sH {v:Aj} (a:Ak) (hr:Dt v) (hT:Fw v.Ad) (hc:a.clock≤9223372036854775807):g467 v a=some (eP v a):=by
 have h40:=hr.t
 have hi40:=hr.i40
 obtain ⟨s,e1,_⟩:=g82_eq v.Ad a.clock (by omega)
 have hT2:Fw (Xc v.Ad a.clock):=cC hT a.clock hc
 have hr2:Dt (Oh v a):=Ri hr hT2.1 rfl (cB _ _) _
 have hl2:(Xc v.Ad a.clock).Ae.length≤40:=hT2.1.2.2.1
 simp only [g467,e1,Option.bind_some]
 unfold eP
 by_cases h1:a.stop=1
 ·rw [if_pos (by simp [h1]),if_pos h1]
  rw [show fR (Aj.mk (Al.mk (Cz v.Ad a.clock) v.Ad.next (v.Ad.Ae.map (Hr (Cz v.Ad a.clock)))) v.Ab v.Ah v.Am)=_ from Qa (Oh v a) (by simp only [Oh]; omega)]
  rfl
 ·rw [if_neg (by simpa using h1),if_neg h1]
  rw [show g66 (v.Ad.Ae.map (Hr (Cz v.Ad a.clock)))=_ from CD (Xc v.Ad a.clock).Ae (by omega)]
  exact (Tb a hr2 hT2).2.1
theorem sI {v:Aj} (a:Ak) (hr:Dt v) (hT:Fw v.Ad) (hc:a.clock≤9223372036854775807):Ze v a (eP v a):=by
 have hT2:Fw (Xc v.Ad a.clock):=cC hT a.clock hc
 have hr2:Dt (Oh v a):=Ri hr hT2.1 rfl (cB _ _) _
 have lens:∀w:Aj,Dt w→w.Ad.Ae.length≤1048576∧w.Ab.length≤1048576∧w.Ah.length≤1048576:=fun w h=>⟨by have:=h.t; omega,by have:=h.i40; omega,by have:=h.a; omega⟩
 unfold eP
 split
 ·exact ⟨fun h=>absurd rfl h.2.1,lens _ (Rh hr2),fun _ _=>Uz hr2 hT2⟩
 ·obtain ⟨_,_,s3,s4,s5,_⟩:=Tb a hr2 hT2
  refine ⟨fun h=>?_,lens _ s3,fun hu _=>⟨s3,s4,s5 hu⟩⟩
  exfalso
  simp only at h
  split at h
  ·exact h.2.1 rfl
  ·exact h.1 rfl
theorem kind_eq (k:Int):pC k 1 6=some (decide (1≤k∧k≤6))∧rM k 1 6=some (decide (1≤k∧k≤6)):=by
 simp only [pC,rM]
 by_cases h1:1≤k<;>by_cases h2:k≤6<;>simp [h1,h2]
theorem nM {v:Aj} (hr:Dt v) (hT:Fw v.Ad) (a:Ak) (hc':a.clock≤9223372036854775807∨a.kind≠4):∃r,g101 v a=some r∧jF v a=some r∧Ze v a r:=by
 have h40:=hr.t
 have hi40:=hr.i40
 have ha:=hr.a
 have lens:v.Ad.Ae.length≤1048576∧v.Ab.length≤1048576∧v.Ah.length≤1048576:=⟨by omega,by omega,by omega⟩
 simp only [g101,jF,own_eq lens.1 lens.2.1 lens.2.2,Qj lens.1 lens.2.1 lens.2.2,kind_eq,cO,Option.bind_some]
 by_cases hk:1≤a.kind∧a.kind≤6
 ·rw [decide_eq_true hk]
  simp only [Bool.not_true,Bool.false_eq_true,if_false]
  by_cases hs:v.Am=true∧a.kind≠6
  ·have e:(bif v.Am then (a.kind != 6) else false)=true:=by simp [hs.1,hs.2]
   rw [e]
   exact ⟨_,rfl,rfl,Rg hr hT a _ _⟩
  ·have e:(bif v.Am then (a.kind != 6) else false)=false:=by
    cases hv:v.Am
    ·rfl
    ·simp only [cond_true]
     rw [bne_eq_false_iff_eq]
     exact Classical.byContradiction fun h=>hs ⟨hv,h⟩
   rw [e]
   simp only [Bool.false_eq_true,if_false]
   have fin:∀s:Bool,Ze v a (Aj.mk v.Ad v.Ab v.Ah s,As.mk 0 0):=fun s=>⟨fun h=>absurd rfl h.1,lens,fun hu _=>⟨⟨hr.tab,hr.i40,hr.acc,hr.its,hr.off,hr.nam⟩,hT,hu⟩⟩
   by_cases k1:a.kind=1
   ·obtain ⟨r,x1,x2,x3⟩:=mU (a:=a) hr hT k1
    simp only [show (a.kind==1)=true by simp [k1],if_true]
    rw [x1,x2]
    exact ⟨_,rfl,rfl,x3⟩
   ·simp only [show (a.kind==1)=false by simpa using k1,Bool.false_eq_true,if_false]
    by_cases k2:a.kind=2
    ·obtain ⟨r,u,x1,x2,x5,x6,x3,x4⟩:=nE hr.tab a.id a.ttl
     simp only [show (a.kind==2)=true by simp [k2],if_true]
     rw [x1,x2]
     obtain ⟨x,y1,y2,y3⟩:=eQ hr hT a r u x5 x6 x3 x4 (fun hf=>by
      obtain ⟨r',e',t'⟩:=nF hT a.id a.ttl (hf.2.1 k2)
      rw [x1] at e'; cases e'; exact t')
     simp only [Option.bind_some,y1,y2]
     exact ⟨_,rfl,rfl,y3⟩
    ·simp only [show (a.kind==2)=false by simpa using k2,Bool.false_eq_true,if_false]
     by_cases k3:a.kind=3
     ·obtain ⟨r,u,x1,x2,x5,x6,x3,x4⟩:=kE hr.tab a.id
      simp only [show (a.kind==3)=true by simp [k3],if_true]
      rw [x1,x2]
      obtain ⟨x,y1,y2,y3⟩:=eQ hr hT a r u x5 x6 x3 x4 (fun hf=>by
       obtain ⟨r',e',t'⟩:=nH hT a.id
       rw [x1] at e'; cases e'; exact t')
      simp only [Option.bind_some,y1,y2]
      exact ⟨_,rfl,rfl,y3⟩
     ·simp only [show (a.kind==3)=false by simpa using k3,Bool.false_eq_true,if_false]
      by_cases k4:a.kind=4
      ·have hc:a.clock≤9223372036854775807:=hc'.resolve_right (fun h=>h k4)
       have hv:v.Am=false:=by
        cases hv:v.Am
        ·rfl
        ·exact absurd ⟨hv,by omega⟩ hs
       simp only [show (a.kind==4)=true by simp [k4],if_true]
       rw [sH a hr hT hc]
       obtain ⟨s,e1,_⟩:=g81_eq v.Ad a.clock hr.tab (by omega)
       have hT2:Fw (Xc v.Ad a.clock):=cC hT a.clock hc
       have hr2:Dt (Oh v a):=Ri hr hT2.1 rfl (cB _ _) _
       refine ⟨eP v a,?_,rfl,sI a hr hT hc⟩
       simp only [e1,Option.bind_some]
       unfold eP
       by_cases h1:a.stop=1
       ·rw [if_pos (by simp [h1]),if_pos h1]
        rw [show fJ (Aj.mk (Al.mk (Cz v.Ad a.clock) v.Ad.next (v.Ad.Ae.map (Hr (Cz v.Ad a.clock)))) v.Ab v.Ah v.Am)=_ from Qb (Oh v a) (by have:=hr2.t; omega) (by have:=hr2.i40; omega) (by have:=hr2.a; omega)]
        rfl
       ·rw [if_neg (by simpa using h1),if_neg h1]
        obtain ⟨s1,_,s3,s4,s5,s6,s7⟩:=Tb a hr2 hT2
        rw [show lR (Aj.mk (Al.mk (Cz v.Ad a.clock) v.Ad.next (v.Ad.Ae.map (Hr (Cz v.Ad a.clock)))) v.Ab v.Ah v.Am) a=_ from s1]
        simp only [Option.bind_some,hv,Bool.not_false]
        cases hb:(Fv (Oh v a) a).2
        ·rw [s7 hb,show (Oh v a).Am=false from hv]
         simp only [cond_false,Bool.false_eq_true,if_false,Hu]
         rw [if_neg (by simp)]
         have e2:(Fv (Oh v a) a).1.Am=false:=(s7 hb).trans hv
         rw [←e2]
        ·rw [s6 hb]
         simp
      ·simp only [show (a.kind==4)=false by simpa using k4,Bool.false_eq_true,if_false]
       by_cases k5:a.kind=5
       ·rw [if_pos (by simp [k5])]
        simp only [Hu]
        rw [if_neg (by simp)]
        have:(a.kind==5)=true:=by simp [k5]
        rw [this]
        exact ⟨_,rfl,rfl,fin true⟩
       ·have k6:a.kind=6:=by omega
        rw [if_neg (by simpa using k5),if_pos (by simp [k6])]
        simp only [Hu]
        rw [if_neg (by simp)]
        have:(a.kind==5)=false:=by simpa using k5
        rw [this]
        exact ⟨_,rfl,rfl,fin false⟩
 ·rw [decide_eq_false hk]
  simp only [Bool.not_false,if_true]
  exact ⟨_,rfl,rfl,Rg hr hT a _ _⟩
end Go.Ev
end
section
set_option maxHeartbeats 1000000
namespace Go.Ev
abbrev Wi (l:List Int):Prop:=l.length≤3∧∀f∈l,0≤f∧f≤2
def Gz (a:Ak):Prop:=Zb a∧Wi a.Ce∧0≤a.stop∧a.stop≤2
theorem Vv:Wi []:=⟨by simp,by simp⟩
theorem dM {s:Cc} {B:Int} (h:Hy s B) (hB:B≤1099511627776):∃l s',BR s=some (l,s')∧Wi l∧Hy s' (B+12):=by
 obtain ⟨v,s1,e1,e2,e3⟩:=Hc (n:=4) h (by omega) (by omega)
 have hv:=e2.2.2 (by omega)
 have hv0:=e2.1
 obtain ⟨q,q1,q2⟩:=Uj (step:=Yc) (fun s=>∃k:Nat,s.2.1=(k:Int)∧k+s.1.length≤3∧(∀f∈s.1,0≤f∧f≤2)∧Hy (Cc.mk s.2.2.1 s.2.2.2.1 s.2.2.2.2) (B+12-3*(k:Int))) (fun s=>s.2.1.toNat)
  (fun r=>Wi r.1∧Hy (Cc.mk r.2.1 r.2.2.1 r.2.2.2) (B+12)) ([],v,s1.code_,s1.at_,s1.Fm) ⟨v.toNat,by simp only; omega,by simp; omega,by simp,e3.mono (by omega)⟩ (by
  rintro ⟨L,_,cd,at_,sd⟩ ⟨k,rfl,hk,hf,hs⟩
  simp only at hk hs hf
  simp only [Yc]
  by_cases h0:0<k
  ·rw [if_pos (decide_eq_true (by omega))]
   obtain ⟨x,s6,x1,x2,x3⟩:=Hc (n:=5) hs (by omega) (by omega)
   simp only [x1,Option.bind_some]
   rw [if_pos (by simp; omega)]
   have hw:IntKind.i64.wrap ((k:Int)-1)=((k-1:Nat):Int):=by rw [wr ⟨by omega,by omega⟩]; omega
   rw [hw]
   refine .inl ⟨_,rfl,⟨k-1,rfl,by simp; omega,fun f hf'=>?_,x3.mono (by omega)⟩,by simp only; omega⟩
   simp only at hf'
   rcases List.mem_append.1 hf' with hf' | hf'
   ·exact hf f hf'
   ·simp only [List.mem_singleton] at hf'; subst hf'
    have hx0:=x2.1
    rw [Int.tmod_eq_emod_of_nonneg hx0]
    omega
  ·rw [if_neg (by simp; omega)]
   exact .inr ⟨_,rfl,⟨by simp only; omega,hf⟩,hs.mono (by omega)⟩)
 simp only [BR,e1,q1,Option.bind_some]
 exact ⟨_,_,rfl,q2⟩
theorem Pd {k i t m c:Int} {f:List Int} {s:Cc} {B:Int} (hs:Hy s B) (hB:B≤1099511627776)
  (h1:k=1→1≤t∧t≤m∧m≤9223372036854775807) (h2:k=2→1≤t∧t≤9223372036854775807) (h4:k=4→c≤9223372036854775807) (hf:Wi f):
  ∃r,Lp k i t m c f s.code_ s.at_ s.Fm=some r∧Gz r.1∧Hy r.2 (B+6):=by
 obtain ⟨x,s6,x1,x2,x3⟩:=Hc (n:=7) (s:=Cc.mk s.code_ s.at_ s.Fm) (B:=B) hs (by omega) (by omega)
 simp only [Lp,g119,x1,Option.bind_some,Xz]
 split
 ·obtain ⟨y,s7,y1,y2,y3⟩:=Hc (n:=2) x3 (by omega) (by omega)
  simp only [y1,Option.bind_some]
  have hy0:=y2.1
  have hy2:=y2.2.2 (by omega)
  rw [wr (n:=1+y) ⟨by omega,by omega⟩]
  exact ⟨_,rfl,⟨⟨h1,h2,h4,by have:=hf.1; simp only; omega⟩,hf,by simp only; omega,by simp only; omega⟩,y3.mono (by omega)⟩
 ·exact ⟨_,rfl,⟨⟨h1,h2,h4,by have:=hf.1; simp only; omega⟩,hf,by simp,by simp⟩,x3.mono (by omega)⟩
theorem GE {s:Cc} {B:Int} (h:Hy s B) (hB:B≤109951162777):∃r,g135 s=some r∧Gz r.1∧Hy r.2 (B+60):=by
 obtain ⟨v1,s1,a1,a2,a3⟩:=Hc (n:=9) h (by omega) (by omega)
 obtain ⟨f1,s2,b1,b2,b3⟩:=dM a3 (by omega)
 obtain ⟨v3,s3,c1,c2,c3⟩:=Hc (n:=9) b3 (by omega) (by omega)
 obtain ⟨v4,s4,d1,d2,d3⟩:=Hc (n:=10) c3 (by omega) (by omega)
 have hv1:=a2.2.2 (by omega)
 have hv3:=c2.2.2 (by omega)
 have m:∀ {r:Ak×Cc} {C:Int},Hy r.2 C→C≤B+60→Hy r.2 (B+60):=fun hs hc=>hs.mono hc
 have j2:∀b:Bool,∃r,Qu (v1,s1) (f1,s2) (v3,s3) (v4,s4) b=some r∧Gz r.1∧Hy r.2 (B+60):=by
  intro b
  simp only [Qu]
  split
  ·obtain ⟨x,s5,x1,x2,x3⟩:=Hc (n:=60) d3 (by omega) (by omega)
   obtain ⟨g,s6,y1,y2,y3⟩:=dM x3 (by omega)
   have hx:=x2.2.2 (by omega)
   simp only [x1,y1,Option.bind_some]
   obtain ⟨r,r1,r2,r3⟩:=Pd (k:=4) (i:=0) (t:=0) (m:=0) (c:=x) (f:=g) y3 (by omega) (fun h=>by cases h) (fun h=>by cases h) (fun _=>by omega) y2
   exact ⟨r,r1,r2,r3.mono (by omega)⟩
  ·split
   ·obtain ⟨x,s5,x1,x2,x3⟩:=Hc (n:=4) d3 (by omega) (by omega)
    have hx:=x2.2.2 (by omega)
    have hx0:=x2.1
    obtain ⟨k,rfl⟩:∃k:Nat,x=k:=⟨x.toNat,by omega⟩
    have hk:k<([5,6,6,6]:List Int).length:=by simp; omega
    simp only [x1,Option.bind_some,Int.toNat_natCast]
    rw [Cd hk,List.getElem?_eq_getElem hk]
    simp only [Option.bind_some]
    have hval:([5,6,6,6]:List Int)[k]=5∨([5,6,6,6]:List Int)[k]=6:=by
     have:∀y∈([5,6,6,6]:List Int),y=5∨y=6:=by simp
     exact this _ (List.getElem_mem hk)
    obtain ⟨r,r1,r2,r3⟩:=Pd (k:=([5,6,6,6]:List Int)[k]) (i:=0) (t:=0) (m:=0) (c:=0) (f:=[]) x3 (by omega) (fun h=>by omega) (fun h=>by omega) (fun h=>by omega) Vv
    exact ⟨r,r1,r2,r3.mono (by omega)⟩
   ·have w1':IntKind.i64.wrap (1+v1)=1+v1:=wr ⟨by omega,by omega⟩
    have w2':IntKind.i64.wrap (1+v1+v3)=1+v1+v3:=wr ⟨by omega,by omega⟩
    simp only [w1',w2']
    obtain ⟨r,r1,r2,r3⟩:=Pd (k:=1) (i:=0) (t:=1+v1) (m:=1+v1+v3) (c:=0) (f:=f1) d3 (by omega) (fun _=>by omega) (fun h=>by cases h) (fun h=>by cases h) b2
    exact ⟨r,r1,r2,r3.mono (by omega)⟩
 simp only [g135,a1,b1,c1,d1,Option.bind_some]
 split
 ·obtain ⟨x,s5,x1,x2,x3⟩:=Hc (n:=9) d3 (by omega) (by omega)
  obtain ⟨y,s6,y1,y2,y3⟩:=Hc (n:=12) x3 (by omega) (by omega)
  have hx:=x2.2.2 (by omega)
  have hy:=y2.2.2 (by omega)
  have w1':IntKind.i64.wrap (1+y)=1+y:=wr ⟨by omega,by omega⟩
  simp only [x1,y1,w1',Option.bind_some]
  obtain ⟨r,r1,r2,r3⟩:=Pd (k:=2) (i:=IntKind.i64.wrap (1+x)) (t:=1+y) (m:=0) (c:=0) (f:=[]) y3 (by omega) (fun h=>by cases h) (fun _=>by omega) (fun h=>by cases h) Vv
  exact ⟨r,r1,r2,r3.mono (by omega)⟩
 ·split
  ·obtain ⟨x,s5,x1,x2,x3⟩:=Hc (n:=9) d3 (by omega) (by omega)
   simp only [x1,Option.bind_some]
   obtain ⟨r,r1,r2,r3⟩:=Pd (k:=3) (i:=IntKind.i64.wrap (1+x)) (t:=0) (m:=0) (c:=0) (f:=[]) x3 (by omega) (fun h=>by cases h) (fun h=>by cases h) (fun h=>by cases h) Vv
   exact ⟨r,r1,r2,r3.mono (by omega)⟩
  ·split
   ·exact j2 _
   ·split
    ·exact j2 _
    ·exact j2 _
theorem tD (code:List UInt8) (hc:code.length≤1048576):∃l,g51 code=some l∧l.length≤120∧∀a∈l,Gz a:=by
 obtain ⟨s0,s1,s2⟩:=g83_ok code hc
 have hw0:IntKind.i64.wrap (((s0.code_.length:Int)).tdiv 12)=((s0.code_.length / 12:Nat):Int):=sdv 12 (by have:=s2.1; omega)
 obtain ⟨r1,p1,p2⟩:∃r1,g118 s0 16=some r1∧(0≤r1∧r1≤16):=by
  simp only [g118,hw0,Bp]
  have hw1:IntKind.i64.wrap (1+((s0.code_.length / 12:Nat):Int))=1+((s0.code_.length / 12:Nat):Int):=wr ⟨by omega,by have:=s2.1; omega⟩
  rw [hw1]
  exact ⟨_,rfl,by split<;>omega⟩
 have hw2:IntKind.i64.wrap (r1+3)=r1+3:=wr ⟨by omega,by omega⟩
 obtain ⟨v,s3,e1,e2,e3⟩:=Hc (n:=r1+3) s2 (by omega) (by omega)
 have hv:v≤18:=by have:=e2.2.2 (by omega); omega
 have hv0:=e2.1
 have open0:Gz (Ak.mk 6 0 0 0 0 ([]:List Int) 0):=by simp [Gz,Zb,Wi]
 obtain ⟨q,q1,q2⟩:=Uj (step:=Xu) (fun s=>∃k:Nat,s.2.1=(k:Int)∧k≤18∧s.1.length+2*k≤40∧(∀a∈s.1,Gz a)∧Hy (Cc.mk s.2.2.1 s.2.2.2.1 s.2.2.2.2) (4000-60*(k:Int))) (fun s=>s.2.1.toNat)
  (fun r=>∀a∈r.1,Gz a) ([],v,s3.code_,s3.at_,s3.Fm) ⟨v.toNat,by simp only; omega,by omega,by simp; omega,by simp,e3.mono (by omega)⟩ (by
  rintro ⟨L,_,cd,at_,sd⟩ ⟨k,rfl,hk18,hk,hL,hs⟩
  simp only at hk hs hL
  simp only [Xu]
  by_cases h0:0<k
  ·rw [if_pos (decide_eq_true (by omega))]
   obtain ⟨x,x1,x2,x3⟩:=GE hs (by omega)
   simp only [x1,Option.bind_some]
   have hw:IntKind.i64.wrap ((k:Int)-1)=((k-1:Nat):Int):=by rw [wr ⟨by omega,by omega⟩]; omega
   rw [if_pos (by simp; omega)]
   simp only [Xt,hw]
   have hL1:∀a∈L++[x.1],Gz a:=fun a ha=>by
    rcases List.mem_append.1 ha with ha | ha
    ·exact hL a ha
    ·simp only [List.mem_singleton] at ha; subst ha; exact x2
   split
   ·rw [if_pos (by simp; omega)]
    refine .inl ⟨_,rfl,⟨k-1,rfl,by omega,by simp; omega,fun a ha=>?_,x3.mono (by omega)⟩,by simp only; omega⟩
    rcases List.mem_append.1 ha with ha | ha
    ·exact hL1 a ha
    ·simp only [List.mem_singleton] at ha; subst ha; exact open0
   ·exact .inl ⟨_,rfl,⟨k-1,rfl,by omega,by simp; omega,hL1,x3.mono (by omega)⟩,by simp only; omega⟩
  ·rw [if_neg (by simp; omega)]
   exact .inr ⟨_,rfl,hL⟩)
 obtain ⟨L,cd,at_,sd⟩:=q
 simp only at q2
 simp only [g51,s1,g103,p1,hw2,e1,q1,Option.bind_some]
 have hmin:∃m:Nat,(if (120:Int)<(L.length:Int) then (120:Int) else (L.length:Int))=(m:Int)∧m≤L.length∧m≤120:=by
  split
  ·exact ⟨120,rfl,by omega,by omega⟩
  ·exact ⟨L.length,rfl,by omega,by omega⟩
 obtain ⟨m,m1,m2,m3⟩:=hmin
 have hs:=EL L 0 m (by omega) m2
 rw [show ((0:Nat):Int)=0 from rfl] at hs
 rw [m1,hs]
 simp only [Option.bind_some]
 exact ⟨_,rfl,by simp; omega,fun a ha=>q2 a (List.mem_of_mem_take (List.mem_of_mem_drop ha))⟩
theorem mR {a:Ak} (h:Wi a.Ce∧0≤a.stop∧a.stop≤2):g100 a=some true:=by
 obtain ⟨⟨h1,h2⟩,h3,h4⟩:=h
 have e:∀x,0≤x∧x≤2→pC x 0 2=some true:=fun x hx=>by simp [pC,hx.1,hx.2]
 have h:=Em (step:=Qo a) (fun k=>(k:Int)) a.Ce.length (.inl ()) (fun k hk=>by
  simp only [Qo]
  rw [if_pos (decide_eq_true (by omega)),Cd hk]
  simp only [Option.bind_some,e _ (h2 _ (List.getElem_mem hk)),w1 (show k<4611686018427387904 by omega)]
  rfl) (by
  simp only [Qo]
  rw [if_neg (by simp)])
 have h':Bz (Qo a) 0=some (.inl ()):=h
 simp only [g100]
 rw [decide_eq_false (show ¬(a.Ce.length:Int)>4096 by omega),e _ ⟨h3,h4⟩,h']
 rfl
theorem aP {a:Ak} (h:Wi a.Ce∧0≤a.stop∧a.stop≤2):mJ a=some true:=by
 obtain ⟨⟨h1,h2⟩,h3,h4⟩:=h
 have e:∀x,0≤x∧x≤2→rM x 0 2=some true:=fun x hx=>by simp [rM,hx.1,hx.2]
 have h:=CF a.Ce (fun z=>g88 z) (fun _=>true) (fun x hx=>by simp [g88,e x (h2 x hx)]) (by omega)
 have ha:a.Ce.all (fun _=>true)=true:=by simp
 simp only [mJ,g87,Option.bind_some,h,e _ ⟨h3,h4⟩,ha]
 rw [decide_eq_true (show (a.Ce.length:Int)≤4096 by omega)]
 rfl
theorem inv0:Inv (Aj.mk (Al.mk 0 1 []) [] [] false):=by
 have tab0:Fw (Al.mk 0 1 []):=⟨⟨by simp,⟨by simp,by simp⟩,by simp,fun k x hx=>by simp at hx⟩,by simp,by simp⟩
 exact ⟨⟨tab0.1,by simp,fun k x hx=>by simp at hx,fun k x hx=>by simp at hx,by simp,by simp⟩,tab0,by simp⟩
end Go.Ev
end
section
set_option maxHeartbeats 1000000
namespace Go.Ev
theorem kG (t:Al) (h:t.Ae.length≤1048576):g41 t t=some true:=by
 have hh:=Wf t.Ae (step:=aC t t) (fun k hk=>by
  simp only [aC]
  rw [if_pos (decide_eq_true (by omega)),Cd hk]
  simp only [Option.bind_some,Bp]
  rw [if_neg (by simp),w1 (show k<4611686018427387904 by omega)]) (by
  simp only [aC]
  rw [if_neg (by simp)])
 simp only [g41,Bp]
 rw [if_neg (by simp),hh]
 rfl
theorem nI (l:List Int) (hl:l.length≤1048576):g52 l l=some true:=by
 have h:=Wf l (step:=aE l l) (fun k hk=>by
  simp only [aE]
  rw [if_pos (decide_eq_true (by omega)),Cd hk]
  simp only [Option.bind_some]
  rw [if_neg (by simp),w1 (show k<4611686018427387904 by omega)]) (by
  simp only [aE]
  rw [if_neg (by simp)])
 unfold g52
 rw [if_neg (by simp),h]
 rfl
theorem Qc {v:Aj} (hv:Dt v):jE v v=some true:=by
 have h1:=hv.t
 have h2:=hv.i40
 have h3:=hv.a
 have h:=Wf v.Ab (step:=Uc v v) (fun k hk=>by
  simp only [Uc]
  rw [if_pos (decide_eq_true (by omega)),Cd hk]
  simp only [Option.bind_some]
  rw [if_neg (by simp),w1 (show k<4611686018427387904 by omega)]) (by
  simp only [Uc]
  rw [if_neg (by simp)])
 simp [jE,kG v.Ad (by omega),nI v.Ah (by omega),h,Bp]
theorem cE {v:Aj} (hv:Dt v):g46 v=some true∧g48 v=some true:=by
 have h1:=hv.t
 have h2:=hv.i40
 have h3:=hv.a
 have hn:=hv.tab.2.1
 have hn64:I64 v.Ad.next:=⟨by omega,by omega⟩
 have s1:=nK v (by omega) (by omega) (by omega) hn64
 have s2:=mP v (by omega) (by omega) (by omega) hn64
 rw [Ez (bV hv)] at s1 s2
 exact ⟨s1,s2⟩
theorem DS {v:Aj} (h:Dt v):g439 v=some (0,0):=by
 have h1:=h.t
 have h2:=h.i40
 have h3:=h.a
 have hn:=h.tab.2.1
 have e1:=BV v.Ad (by omega) (show I64 v.Ad.next from ⟨by omega,by omega⟩)
 rw [Ez h.tab] at e1
 obtain ⟨q,q1,q2⟩:=kJ v (by omega) (by omega) (by omega)
 rw [Ez (bV h).2.2.2.2.2.2] at q2
 have q3:q.2=false:=by simpa using q2
 have ha80:=(bV h).2.2.1
 simp only [g439,e1,g460,g87,q1,Option.bind_some]
 rw [decide_eq_true (show (v.Ab.length:Int)≤4096 by omega),decide_eq_true (show (v.Ah.length:Int)≤4096 by omega)]
 simp [q3]
theorem Zj {v:Aj} (h:Inv v) {a:Ak} (ha:Gz a):∃r,jF v a=some r∧rK v a=some (r.1,r.2,0)∧rL v a=some (r.1,r.2,0)∧Inv r.1∧((r.2.code_≠0∧r.2.code_≠15∧r.2.code_≠13)→r.1=v):=by
 have hcl:a.clock≤9223372036854775807∨a.kind≠4:=by
  by_cases hk:a.kind=4
  ·exact .inl (ha.1.2.2.1 hk)
  ·exact .inr hk
 obtain ⟨r,r1,r2,r3,r4,r5⟩:=nM h.right h.tab a hcl
 have hi:=r5 h.und ha.1
 have c1:=Qj (v:=r.1) r4.1 r4.2.1 r4.2.2
 refine ⟨r,r2,?_,?_,hi,r3⟩
 ·simp only [rK,(cE h.right).2,aP ha.2,Option.bind_some,r2]
  rfl
 ·simp only [rL,(cE h.right).1,mR ha.2,Option.bind_some,r1,c1]
  rfl
noncomputable def Di (acts:List Ak):Nat→Aj
 | 0=>Aj.mk (Al.mk 0 1 []) [] [] false
 | k+1=>((jF (Di acts k) (acts[k]?.getD default)).map (·.1)).getD default
theorem gS (acts:List Ak) (h:∀a∈acts,Gz a):∀k,k≤acts.length→Inv (Di acts k):=by
 intro k
 induction k with
 | zero=>intro _; exact inv0
 | succ k ih=>
  intro hk
  have hlt:k<acts.length:=by omega
  obtain ⟨r,r1,_,_,r4,_⟩:=Zj (ih (by omega)) (h _ (List.getElem_mem hlt))
  simp only [Di,List.getElem?_eq_getElem hlt,Option.getD_some,r1,Option.map_some]
  exact r4
theorem eM (acts:List Ak) (h:∀a∈acts,Gz a) {k:Nat} (hk:k<acts.length):∃y,jF (Di acts k) acts[k]=some (Di acts (k+1),y)∧rK (Di acts k) acts[k]=some (Di acts (k+1),y,0)∧rL (Di acts k) acts[k]=some (Di acts (k+1),y,0)∧((y.code_≠0∧y.code_≠15∧y.code_≠13)→Di acts (k+1)=Di acts k):=by
 obtain ⟨r,r1,r2,r3,_,r5⟩:=Zj (gS acts h k (by omega)) (h _ (List.getElem_mem hk))
 have e:Di acts (k+1)=r.1:=by simp only [Di,List.getElem?_eq_getElem hk,Option.getD_some,r1,Option.map_some]
 rw [e]
 exact ⟨r.2,r1,r2,r3,r5⟩
theorem CN (acts:List Ak) (hl:acts.length≤120) (h:∀a∈acts,Gz a):∃R,g438 acts=some (Di acts acts.length,R,0)∧R.length=acts.length:=by
 obtain ⟨r,e1,R,e2,e3⟩:=Uj (step:=Yt acts) (fun s=>∃i:Nat,s.2.1=(i:Int)∧i≤acts.length∧s.1.length=i∧Aj.mk (Al.mk s.2.2.1 s.2.2.2.1 s.2.2.2.2.1) s.2.2.2.2.2.1 s.2.2.2.2.2.2.1 s.2.2.2.2.2.2.2=Di acts i)
  (fun s=>(acts.length-s.2.1).toNat)
  (fun r=>∃R:List As,r=(R,(Di acts acts.length).Ad.clock,(Di acts acts.length).Ad.next,(Di acts acts.length).Ad.Ae,(Di acts acts.length).Ab,(Di acts acts.length).Ah,(Di acts acts.length).Am)∧R.length=acts.length) ([],0,0,1,[],[],[],false) ⟨0,rfl,by omega,rfl,rfl⟩ (by
  rintro ⟨R,_,ck,nx,L,In,A,se⟩ ⟨i,rfl,hi,hR,hv⟩
  simp only at hR hv
  simp only [Yt]
  by_cases hlt:i<acts.length
  ·rw [if_pos (decide_eq_true (by omega)),Cd hlt]
   obtain ⟨y,y1,_⟩:=eM acts h hlt
   simp only [Option.bind_some,hv,y1]
   rw [if_pos (by simp; omega),w1 (show i<4611686018427387904 by omega)]
   exact .inl ⟨_,rfl,⟨i+1,rfl,by omega,by simp; omega,rfl⟩,by simp only; omega⟩
  ·rw [if_neg (by simp; omega)]
   have:i=acts.length:=by omega
   subst this
   rw [←hv]
   exact .inr ⟨_,rfl,R,rfl,by omega⟩)
 subst e2
 have ha:=g456_eq acts (fun z=>mJ z) (fun _=>true) (fun x hx=>aP (h x hx).2) (by omega)
 have ht:acts.all (fun _=>true)=true:=by simp
 refine ⟨R,?_,e3⟩
 simp only [g438,g455,Option.bind_some,ha,ht,g458,e1]
 rw [decide_eq_true (show (acts.length:Int)≤4096 by omega),if_neg (by simp),if_neg (by simp; omega),if_neg (by simp)]
theorem BW (code:List UInt8) (_:okL bJ code):g435 code=some true:=by
 unfold g435
 by_cases hc:code.length>1048576
 ·rw [if_pos (decide_eq_true (by omega))]
 ·rw [if_neg (by simp; omega)]
  obtain ⟨l,l1,l2,l3⟩:=tD code (by omega)
  obtain ⟨R,f1,f2⟩:=CN l l2 l3
  have hit:=Em (step:=Qy l) (fun k=>((k:Int),(Di l k).Ad.clock,(Di l k).Ad.next,(Di l k).Ad.Ae,(Di l k).Ab,(Di l k).Ah,(Di l k).Am)) l.length (.inl ((Di l l.length).Ad.clock,(Di l l.length).Ad.next,(Di l l.length).Ad.Ae,(Di l l.length).Ab,(Di l l.length).Ah,(Di l l.length).Am)) (fun k hk=>by
   obtain ⟨y,_,y2,y3,y4⟩:=eM l l3 hk
   have hr:=(gS l l3 (k+1) (by omega)).right
   simp only [Qy]
   rw [if_pos (decide_eq_true (by omega)),Cd hk]
   simp only [Option.bind_some,Int.toNat_natCast,List.getElem?_eq_getElem hk]
   rw [show rK (Aj.mk (Al.mk (Di l k).Ad.clock (Di l k).Ad.next (Di l k).Ad.Ae) (Di l k).Ab (Di l k).Ah (Di l k).Am) l[k]=_ from y2,
    show rL (Aj.mk (Al.mk (Di l k).Ad.clock (Di l k).Ad.next (Di l k).Ad.Ae) (Di l k).Ab (Di l k).Ah (Di l k).Am) l[k]=_ from y3]
   simp only [Option.bind_some,DS hr,Qc hr,(cE hr).2,Bp,w1 (show k<4611686018427387904 by omega)]
   by_cases h0:y.code_≠0∧y.code_≠15∧y.code_≠13
   ·have he:=y4 h0
    have e2:(bif (bif (y.code_ != 0) then (y.code_ != 15) else false) then (y.code_ != 13) else false)=true:=by simp [h0.1,h0.2.1,h0.2.2]
    have e3:jE (Di l (k+1)) (Aj.mk (Al.mk (Di l k).Ad.clock (Di l k).Ad.next (Di l k).Ad.Ae) (Di l k).Ab (Di l k).Ah (Di l k).Am)=some true:=by
     have:Aj.mk (Al.mk (Di l k).Ad.clock (Di l k).Ad.next (Di l k).Ad.Ae) (Di l k).Ab (Di l k).Ah (Di l k).Am=Di l (k+1):=he.symm
     rw [this]; exact Qc hr
    simp [h0.1,h0.2.1,h0.2.2,e3]
   ·have e2:(bif (bif (y.code_ != 0) then (y.code_ != 15) else false) then (y.code_ != 13) else false)=false:=by
     by_cases c0:y.code_=0
     ·simp [c0]
     ·by_cases c1:y.code_=15
      ·simp [c1]
      ·have c2:y.code_=13:=Classical.byContradiction fun c2=>h0 ⟨c0,c1,c2⟩
       simp [c2]
    have h0':¬((¬y.code_=0∧¬y.code_=15)∧¬y.code_=13):=fun h=>h0 ⟨h.1.1,h.1.2,h.2⟩
    simp [h0']) (by
   simp only [Qy]
   rw [if_neg (by simp)])
  have hit':Bz (Qy l) (0,0,1,[],[],[],false)=some (.inl ((Di l l.length).Ad.clock,(Di l l.length).Ad.next,(Di l l.length).Ad.Ae,(Di l l.length).Ab,(Di l l.length).Ah,(Di l l.length).Am)):=hit
  have hr:=(gS l l3 l.length (Nat.le_refl _)).right
  have e3:jE (Di l l.length) (Aj.mk (Al.mk (Di l l.length).Ad.clock (Di l l.length).Ad.next (Di l l.length).Ad.Ae) (Di l l.length).Ab (Di l l.length).Ah (Di l l.length).Am)=some true:=Qc hr
  simp [l1,hit',f1,f2,e3,Bp]
end Go.Ev
end
