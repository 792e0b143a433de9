/- The plain part of the proof: what the functions compute answers as the law says. -/
import Derived.Test.YtfpbbpkdjmldkaaGreatQwZa
set_option linter.all false
section
namespace Go.Ev
theorem Amp (l:List Ad) (f:Ad→Option Bool) (p:Ad→Bool) (hf:∀x∈l,f x=some (p x)) (hl:l.length≤4611686018427387903):g475 l f=some (Gj l p):=Md l f p hf hl (fun _=>rfl)
theorem Amo (l:List Ad) (f:Ad→Option Bool) (p:Ad→Bool) (hf:∀x∈l,f x=some (p x)) (hl:l.length≤4611686018427387903):JC l f=some (l.filter fun x => !p x):=by
 unfold JC; rw [Amp l f p hf hl]; exact mE l f p hf hl _ (fun _ _ _=>rfl)
theorem uB (l:List Ad) (hl:l.length≤1048576):qW l=some l:=by
 unfold qW; rw [if_pos (by simp; omega)]
theorem Amn (l:List Aj) (f:Aj→Option Bool) (p:Aj→Bool) (hf:∀x∈l,f x=some (p x)) (hl:l.length≤4611686018427387903):g468 l f=some (Gj l p):=Md l f p hf hl (fun _=>rfl)
theorem Ami (l:List Aj) (f:Aj→Option Bool) (p:Aj→Bool) (hf:∀x∈l,f x=some (p x)) (hl:l.length≤4611686018427387903):Amh l f=some (l.any p):=by
 unfold Amh; rw [Amn l f p hf hl]; simp only [Option.bind_some,Oy]
theorem Amg (l:List Aj) (f:Aj→Option Bool) (p:Aj→Bool) (hf:∀x∈l,f x=some (p x)) (hl:l.length≤4611686018427387903):Amf l f=some (l.all p):=by
 unfold Amf; rw [Ami l _ (fun x => !p x) (fun x hx=>by simp [Amj,hf x hx]) hl]; simp only [Option.bind_some,aM]
end Go.Ev
end
section
set_option maxHeartbeats 1000000
namespace Go.Ev
theorem rH {l:List Int} {M:Int} (h:Cx l 1 M) {x:Int} {c:Bool} {p:Nat} (hp:Nu l x p) (y:Int):y∈Lw l x c p↔if c=true then (y∈l∨y=x) else (y∈l∧y≠x):=by
 have hm:=zL h hp
 have hs:∀y,y∈l↔y∈l.take p∨y∈l.drop p:=fun y=>by rw [←List.mem_append,List.take_append_drop]
 unfold Lw
 cases c with
 | true=>
  simp only [if_true]
  split
  ·rename_i ha
   constructor
   ·intro hy; exact .inl hy
   ·rintro (hy | rfl)
    ·exact hy
    ·exact hm.1 ha
  ·rw [List.mem_append,List.mem_append,List.mem_singleton,hs y]
   constructor
   ·rintro ((h | h) | h)
    ·exact .inl (.inl h)
    ·exact .inr h
    ·exact .inl (.inr h)
   ·rintro ((h | h) | h)
    ·exact .inl (.inl h)
    ·exact .inr h
    ·exact .inl (.inr h)
 | false=>
  simp only [Bool.false_eq_true,if_false]
  split
  ·rename_i ha
   have hx:l[p]? = some x:=by simpa [Je] using ha
   obtain ⟨hlt,he⟩:=List.getElem?_eq_some_iff.1 hx
   rw [List.mem_append]
   constructor
   ·rintro (hy | hy)
    ·have:=cH hp hy
     exact ⟨List.mem_of_mem_take hy,by omega⟩
    ·obtain ⟨j,hj,rfl⟩:=List.getElem_of_mem hy
     simp only [List.length_drop] at hj
     rw [List.getElem_drop]
     have:=h.lt (show p+1+j<l.length by omega) (show p<p+1+j by omega)
     exact ⟨List.getElem_mem _,by omega⟩
   ·rintro ⟨hy,hne⟩
    rcases (hs y).1 hy with hy | hy
    ·exact .inl hy
    ·rw [List.drop_eq_getElem_cons hlt] at hy
     rcases List.mem_cons.1 hy with hy | hy
     ·exact absurd (hy.trans he) hne
     ·exact .inr hy
  ·rename_i ha
   constructor
   ·intro hy; exact ⟨hy,fun e=>ha (hm.2 (e ▸ hy))⟩
   ·exact fun h=>h.1
noncomputable def Bv (l:List Int) (x:Int) (c:Bool) (f:Int):List Int×Int:=(g89 l x c f).getD ([],0)
theorem Lv {l:List Int} {M:Int} (h:Cx l 1 M) (hl:l.length≤1048575) (x:Int) (c:Bool) (f:Int) (hx:c=true→1≤x∧x≤M):
  g89 l x c f=some (Bv l x c f)∧g86 l x c f=some (Bv l x c f)∧Cx (Bv l x c f).1 1 M ∧
   ((Bv l x c f).2=13∧(Bv l x c f).1=l∧f=1∨f≠1∧(Bv l x c f).2=Nn f∧∀y,y∈(Bv l x c f).1↔if c=true then (y∈l∨y=x) else (y∈l∧y≠x)):=by
 obtain ⟨p,hp⟩:=cut_ex h x
 have e1:=g89_eq h hl x c f hp
 have e2:=g86_eq hl x c f hp
 have e:Bv l x c f=if (f==1)=true then (l,13) else (Lw l x c p,Nn f):=by unfold Bv; rw [e1]; rfl
 rw [e]
 refine ⟨e1,e2,?_,?_⟩
 ·split
  ·exact h
  ·exact fG h c hx hp
 ·by_cases hf:f=1
  ·rw [if_pos (by simp [hf])]
   exact .inl ⟨rfl,rfl,hf⟩
  ·rw [if_neg (by simpa using hf)]
   exact .inr ⟨hf,rfl,fun y=>rH h hp y⟩
def Bf (a:Aj) (k:Nat):Int:=a.Cp[k]?.getD 0
theorem jJ (a:Aj) (k:Nat):qL a (k:Int)=some (Bf a k):=by
 unfold qL Bf
 by_cases h:k<a.Cp.length
 ·rw [if_pos (decide_eq_true (by omega)),Bx h,List.getElem?_eq_getElem h]; rfl
 ·rw [if_neg (by simp; omega),List.getElem?_eq_none (by omega)]; rfl
theorem eH {v:Ag} {a:Aj} {k:Nat} (hk:k≤1048576) {M:Int} (h:Cx v.Ae 1 M) (hl:v.Ae.length≤1048575) (x:Int) (c:Bool) (hx:c=true→1≤x∧x≤M):
  jU (Dp.mk v a (k:Int)) x c=some ((Bv v.Ae x c (Bf a k)).2,Dp.mk (Ag.mk v.Ab v.Aa (Bv v.Ae x c (Bf a k)).1 v.Ai) a ((k+1:Nat):Int)):=by
 have e:=(Lv h hl x c (Bf a k) hx).1
 have hj:Wt (Dp.mk v a (k:Int)) x c (Bf a k)=some ((Bv v.Ae x c (Bf a k)).2,Dp.mk (Ag.mk v.Ab v.Aa (Bv v.Ae x c (Bf a k)).1 v.Ai) a ((k+1:Nat):Int)):=by
  simp only [Wt,e,Option.bind_some,w1 (show k<4611686018427387904 by omega)]
 unfold jU
 by_cases hlt:k<a.Cp.length
 ·rw [if_pos (decide_eq_true (by simp only; omega))]
  simp only [Bx hlt,Option.bind_some]
  have:Bf a k=a.Cp[k]:=by unfold Bf; rw [List.getElem?_eq_getElem hlt]; rfl
  rw [←this]
  exact hj
 ·rw [if_neg (by simp; omega)]
  have:Bf a k=0:=by unfold Bf; rw [List.getElem?_eq_none (by omega)]; rfl
  rw [←this]
  exact hj
def Ia (i:Ad):Ad:=Ad.mk i.Bb true
def Jt (v:Ag):Ag:=Ag.mk v.Ab (v.Aa.map Ia) v.Ae true
theorem MK (l:List Ad) (k:Nat) (hk:k<l.length):((l.take k).map Ia++l.drop k).set k (Ia l[k])=(l.take (k+1)).map Ia++l.drop (k+1):=by
 rw [List.set_append,if_neg (by simp; omega),List.take_succ_eq_append_getElem hk,List.map_append,List.append_assoc]
 congr 1
 rw [List.drop_eq_getElem_cons hk]
 have:k-((l.take k).map Ia).length=0:=by simp; omega
 rw [this]
 rfl
theorem MJ (l:List Ad) (k:Nat) (hk:k<l.length):((l.take k).map Ia++l.drop k)[k]? = some l[k]:=by
 rw [List.getElem?_append_right (by simp; omega)]
 have:k-((l.take k).map Ia).length=0:=by simp; omega
 rw [this,List.getElem?_drop,Nat.add_zero,List.getElem?_eq_getElem hk]
theorem lG (l:List Ad) (k:Nat):((l.take k).map Ia++l.drop k).length=l.length:=by simp; omega
theorem Rv (v:Ag) (h1:v.Ab.Ac.length≤1048576) (h2:v.Aa.length≤1048576) (h3:v.Ae.length≤1048576):jN v=some (Jt v):=by
 have e:cP v=some v:=by
  simp only [cP,Ld v.Ab h1,Option.bind_some]
  rw [if_pos (by simp; omega),if_pos (by simp; omega)]
  rfl
 have h:=Cz (step:=Sj) (fun k=>((k:Int),(v.Aa.take k).map Ia++v.Aa.drop k)) v.Aa.length (v.Aa.map Ia) (fun k hk=>by
  simp only [Sj,lG]
  rw [if_pos (decide_eq_true (by omega)),Bx (by rw [lG]; exact hk)]
  simp only [Option.bind_some,Int.toNat_natCast,MJ _ _ hk,w1 (show k<4611686018427387904 by omega)]
  rw [←MK _ _ hk]
  rfl) (by
  simp only [Sj,lG]
  rw [if_neg (by simp),List.take_length,List.drop_length,List.append_nil])
 have h':Ce Sj (0,v.Aa)=some (v.Aa.map Ia):=h
 simp only [jN,e,Option.bind_some,h']
 rfl
theorem Ru (v:Ag) (h2:v.Aa.length≤1048576):jT v=some (Jt v,Am.mk 15 0):=by
 have h:=Cz (step:=Tf v) (fun k=>((k:Int),(v.Aa.take k).map Ia++v.Aa.drop k)) v.Aa.length (v.Aa.map Ia) (fun k hk=>by
  simp only [Tf]
  rw [if_pos (decide_eq_true (by omega)),Bx (by rw [lG]; exact hk)]
  simp only [Option.bind_some,Int.toNat_natCast,MJ _ _ hk,w1 (show k<4611686018427387904 by omega)]
  rw [←MK _ _ hk]
  rfl) (by
  simp only [Tf]
  rw [if_neg (by simp),List.take_length,List.drop_length,List.append_nil])
 have h':Ce (Tf v) (0,v.Aa)=some (v.Aa.map Ia):=h
 simp only [jT,Option.bind_some,h']
 rfl
def Hb (L:List Af) (x code:Int):List Af:=if code=0 then L.filter (fun y=>y.id != x) else L
def Hw (L:List Ad) (x code:Int):List Ad:=if code=0 then L.filter (fun y=>y.Bb != x) else L
theorem HZ {t:Ak} (h:Gy t) {k:Nat} (hk:k<t.Ac.length):t.Ac.take k++t.Ac.drop (k+1)=t.Ac.filter (fun y=>y.id != t.Ac[k].id):=by
 have hd:=List.drop_eq_getElem_cons hk
 have hlt1:∀j,∀hj:j<k,(t.Ac[j]'(by omega)).id<t.Ac[k].id:=fun j hj=>h.lt hk hj
 have hlt2:∀j,∀hj:k+1+j<t.Ac.length,t.Ac[k].id<t.Ac[k+1+j].id:=fun j hj=>h.lt hj (by omega)
 generalize t.Ac[k]=x at hd hlt1 hlt2
 have e:t.Ac.filter (fun y=>y.id != x.id)=(t.Ac.take k++x::t.Ac.drop (k+1)).filter (fun y=>y.id != x.id):=by rw [←hd,List.take_append_drop]
 rw [e,List.filter_append,List.filter_cons,if_neg (by simp)]
 congr 1
 ·symm
  rw [List.filter_eq_self]
  intro y hy
  obtain ⟨j,hj,rfl⟩:=List.getElem_of_mem hy
  simp only [List.length_take] at hj
  rw [List.getElem_take]
  have:=hlt1 j (by omega)
  simp; omega
 ·symm
  rw [List.filter_eq_self]
  intro y hy
  obtain ⟨j,hj,rfl⟩:=List.getElem_of_mem hy
  simp only [List.length_drop] at hj
  rw [List.getElem_drop]
  have:=hlt2 j (by omega)
  simp; omega
theorem wN {t:Ak} (h:Gy t) {k:Nat} (hk:k<t.Ac.length):g92 t t.Ac[k].id=some (k:Int)∧NG t t.Ac[k].id=some ((k:Int),true):=by
 have hl:=h.2.2.1
 obtain ⟨n,h1,h2⟩:=Yk t t.Ac[k].id (by omega)
 have hn:n=(k:Int):=by
  rcases h2 with ⟨_,h3⟩ | ⟨j,hj,rfl,h4⟩
  ·exact absurd rfl (h3 _ (List.getElem_mem hk))
  ·rcases Nat.lt_trichotomy j k with hjk | rfl | hjk
   ·have:=h.lt hk hjk; omega
   ·rfl
   ·have:=h.lt hj hjk; omega
 obtain ⟨i,b,h3,h4,h5⟩:=jX t h _ n h2
 subst hn
 cases b with
 | false=>have:=h5 rfl; omega
 | true=>
  obtain ⟨rfl,_⟩:=h4 rfl
  exact ⟨h1,h3⟩
theorem wJ {t:Ak} (h:Gr t) {x:Af} (hx:x∈t.Ac) (hq:x.Cg=true):
  g76 t x.id=some (Ak.mk t.clock t.next (t.Ac.filter fun y=>y.id != x.id),0)∧(∃i,NG t x.id=some (i,true)∧g78 t i=some (Ak.mk t.clock t.next (t.Ac.filter fun y=>y.id != x.id))) ∧
   Gr (Ak.mk t.clock t.next (t.Ac.filter fun y=>y.id != x.id)):=by
 obtain ⟨k,hk,rfl⟩:=List.getElem_of_mem hx
 have hl:=h.1.2.2.1
 obtain ⟨f1,f2⟩:=wN h.1 hk
 have s1:=MB t.Ac 0 k (by omega) (by omega)
 have s2:=MB t.Ac (k+1) t.Ac.length (by omega) (Nat.le_refl _)
 rw [show ((0:Nat):Int)=0 from rfl] at s1
 have hw:=w1 (show k<4611686018427387904 by omega)
 rw [←HZ h.1 hk]
 refine ⟨?_,⟨(k:Int),f2,?_⟩,rem_tab h hk⟩
 ·simp only [g76,f1,Option.bind_some]
  rw [if_neg (by simp),Bx hk]
  simp only [Option.bind_some]
  rw [if_neg (by simp [hq])]
  simp only [hw,s1,s2,Option.bind_some]
  rw [if_pos (by simp; omega),if_pos (by simp; omega)]
  simp
 ·simp only [g78,Si t (by omega),Option.bind_some,g115,hw]
  rw [if_pos (⟨⟨by omega,by omega,by omega⟩,by omega⟩:(0≤(k:Int)∧(k:Int)≤((k+1:Nat):Int)∧((k+1:Nat):Int)≤(t.Ac.length:Int))∧t.Ac.length≤4398046511104)]
  simp only [Option.bind_some,Int.toNat_natCast]
theorem sL (l:List Ad) (x:Int) (hl:l.length≤1048576):Alb l x=some (l.filter fun y=>y.Bb != x):=by
 have h:=Cz (step:=Sn l x) (fun k=>((l.take k).filter (fun y=>y.Bb != x),(k:Int))) l.length (l.filter fun y=>y.Bb != x) (fun k hk=>by
  simp only [Sn]
  rw [if_pos (decide_eq_true (by omega)),Bx hk]
  have hle:((l.take k).filter (fun y=>y.Bb != x)).length≤k:=Nat.le_trans (List.length_filter_le _ _) (by simp; omega)
  simp only [Option.bind_some,aY,w1 (show k<4611686018427387904 by omega)]
  rw [List.take_succ_eq_append_getElem hk,List.filter_append,List.filter_cons]
  split
  ·rw [if_pos (by simp; omega)]
   rfl
  ·rw [List.filter_nil,List.append_nil]) (by
  simp only [Sn]
  rw [if_neg (by simp),List.take_length])
 have h':Ce (Sn l x) ([],0)=some (l.filter fun y=>y.Bb != x):=h
 simp only [Alb,h',Option.bind_some]
theorem wI (l:List Ad) (y:Ad) (hl:l.length≤1048576):JC l (fun z=>JD z y)=some (l.filter fun z=>z.Bb != y.Bb):=
 Amo l (fun z=>JD z y) (fun z=>z.Bb==y.Bb) (fun _ _=>rfl) (by omega)
noncomputable def Dv (a:Aj):List Af→Nat→List Af→List Int→Nat×List Af×List Int×Bool
 | [],c,L,A=>(c,L,A,false)
 | x::r,c,L,A=>if x.Cg=true then
   (if a.stop=2 then (c+1,Hb L x.id (Bv A x.id false (Bf a c)).2,(Bv A x.id false (Bf a c)).1,true)
   else Dv a r (c+1) (Hb L x.id (Bv A x.id false (Bf a c)).2) (Bv A x.id false (Bf a c)).1)
  else Dv a r c L A
noncomputable def Ee (a:Aj):List Ad→Nat→List Ad→List Int→Nat×List Ad×List Int×Bool
 | [],c,L,A=>(c,L,A,false)
 | x::r,c,L,A=>if x.Ij=true then
   (if a.stop=2 then (c+1,Hw L x.Bb (Bv A x.Bb false (Bf a c)).2,(Bv A x.Bb false (Bf a c)).1,true)
   else Ee a r (c+1) (Hw L x.Bb (Bv A x.Bb false (Bf a c)).2) (Bv A x.Bb false (Bf a c)).1)
  else Ee a r c L A
theorem Ry {A:List Int} {t:Ak} (h:Gy t) (hA:Cx A 1 (t.next-1)):A.length≤1000000:=by
 have h1:=h.2.1
 have:=hA.len (by omega)
 omega
theorem oH (w:Ag) (a:Aj) (hw:Gy w.Ab) (hin:w.Aa.length≤1048576):∀m i c (L:List Af) (A:List Int),i+m=w.Ab.Ac.length→c≤i→Gr (Ak.mk w.Ab.clock w.Ab.next L)→(∀x∈w.Ab.Ac.drop i,x∈L)→Cx A 1 (w.Ab.next-1)→(a.stop=2→c=0) →
  let R:=Dv a (w.Ab.Ac.drop i) c L A
  let t:=Ak.mk w.Ab.clock w.Ab.next R.2.1
  Ce (Nb w a w) ((c:Int),(i:Int),w.Ab.clock,w.Ab.next,L,A)=some (if R.2.2.2=true then .inr (Jt (Ag.mk t w.Aa R.2.2.1 w.Ai)) else .inl ((R.1:Int),w.Ab.clock,w.Ab.next,R.2.1,R.2.2.1)) ∧
  Ce (Lh a w.Ab.Ac) ((i:Int),w.Ab.clock,w.Ab.next,L,w.Aa,A,w.Ai,a.kind,a.id,a.ttl,a.Fd,a.clock,a.Cp,a.stop,(c:Int))=some (if R.2.2.2=true then .inr (Jt (Ag.mk t w.Aa R.2.2.1 w.Ai),Am.mk 15 0) else .inl (w.Ab.clock,w.Ab.next,R.2.1,w.Aa,R.2.2.1,w.Ai,a.kind,a.id,a.ttl,a.Fd,a.clock,a.Cp,a.stop,(R.1:Int))) ∧
  Gr t∧Cx R.2.2.1 1 (w.Ab.next-1)∧R.1≤w.Ab.Ac.length∧(R.2.2.2=false→a.stop=2→R.1=0):=by
 have h40:=hw.2.2.1
 intro m
 induction m with
 | zero=>
  intro i c L A him hc hT hL hA hs
  have e:w.Ab.Ac.drop i=[]:=List.drop_eq_nil_of_le (by omega)
  rw [e]
  refine ⟨Ea ?_,Ea ?_,hT,hA,by simp only [Dv]; omega,fun _ h=>hs h⟩
  ·simp only [Nb,Dv]
   rw [if_neg (by simp; omega)]
   rfl
  ·simp only [Lh,Dv]
   rw [if_neg (by simp; omega)]
   rfl
 | succ m ih=>
  intro i c L A him hc hT hL hA hs
  have hlt:i<w.Ab.Ac.length:=by omega
  rw [List.drop_eq_getElem_cons hlt]
  have hx:w.Ab.Ac[i]∈L:=hL _ (by rw [List.drop_eq_getElem_cons hlt]; exact List.mem_cons_self)
  have hL1:∀x∈w.Ab.Ac.drop (i+1),x∈L:=fun x hx=>hL x (by rw [List.drop_eq_getElem_cons hlt]; exact List.mem_cons_of_mem _ hx)
  by_cases hq:w.Ab.Ac[i].Cg=true
  ·obtain ⟨c1,c2,c3,c4⟩:=Lv hA (by have:=Ry hw hA; omega) w.Ab.Ac[i].id false (Bf a c) (fun h=>by cases h)
   obtain ⟨d1,⟨j,d2,d3⟩,d4⟩:=wJ hT hx hq
   simp only at d1 d2 d3 d4
   have r1:=eH (v:=Ag.mk (Ak.mk w.Ab.clock w.Ab.next L) w.Aa A w.Ai) (a:=a) (k:=c) (by omega) hA (by have:=Ry hw hA; simp only; omega) w.Ab.Ac[i].id false (fun h=>by cases h)
   simp only at r1
   have hT':Gr (Ak.mk w.Ab.clock w.Ab.next (Hb L w.Ab.Ac[i].id (Bv A w.Ab.Ac[i].id false (Bf a c)).2)):=by
    unfold Hb; split
    ·exact d4
    ·exact hT
   have hlen:(Hb L w.Ab.Ac[i].id (Bv A w.Ab.Ac[i].id false (Bf a c)).2).length≤40:=hT'.1.2.2.1
   have hL2:∀x∈w.Ab.Ac.drop (i+1),x∈Hb L w.Ab.Ac[i].id (Bv A w.Ab.Ac[i].id false (Bf a c)).2:=fun x hx=>by
    unfold Hb; split
    ·rw [List.mem_filter]
     refine ⟨hL1 x hx,?_⟩
     obtain ⟨j,hj,rfl⟩:=List.getElem_of_mem hx
     simp only [List.length_drop] at hj
     rw [List.getElem_drop]
     have:=hw.lt (show i+1+j<w.Ab.Ac.length by omega) (show i<i+1+j by omega)
     simp; omega
    ·exact hL1 x hx
   have hA':=Ry hw c3
   have spec1:∀K,Nb w a w ((c:Int),(i:Int),w.Ab.clock,w.Ab.next,L,A)=K↔Sk a w (c:Int) (i:Int) (Bv A w.Ab.Ac[i].id false (Bf a c)) w.Ab.clock w.Ab.next (Hb L w.Ab.Ac[i].id (Bv A w.Ab.Ac[i].id false (Bf a c)).2)=K:=fun K=>by
    simp only [Nb]
    rw [if_pos (decide_eq_true (by omega)),Bx hlt]
    simp only [Option.bind_some]
    rw [if_neg (by simp [hq]),jJ]
    simp only [Option.bind_some,c2]
    unfold Hb
    by_cases h0:(Bv A w.Ab.Ac[i].id false (Bf a c)).2=0
    ·rw [if_pos (by simp [h0]),if_pos h0,d1]
     rfl
    ·rw [if_neg (by simpa using h0),if_neg h0]
   have impl1:∀K,Lh a w.Ab.Ac ((i:Int),w.Ab.clock,w.Ab.next,L,w.Aa,A,w.Ai,a.kind,a.id,a.ttl,a.Fd,a.clock,a.Cp,a.stop,(c:Int))=K↔Td a (i:Int) ((Bv A w.Ab.Ac[i].id false (Bf a c)).2,Dp.mk (Ag.mk (Ak.mk w.Ab.clock w.Ab.next L) w.Aa (Bv A w.Ab.Ac[i].id false (Bf a c)).1 w.Ai) a ((c+1:Nat):Int)) w.Ab.clock w.Ab.next (Hb L w.Ab.Ac[i].id (Bv A w.Ab.Ac[i].id false (Bf a c)).2)=K:=fun K=>by
    simp only [Lh]
    rw [if_pos (decide_eq_true (by omega)),Bx hlt]
    simp only [Option.bind_some,Int.toNat_natCast,List.getElem?_eq_getElem hlt]
    rw [if_neg (by simp [hq])]
    rw [show jU (Dp.mk (Ag.mk (Ak.mk w.Ab.clock w.Ab.next L) w.Aa A w.Ai) (Aj.mk a.kind a.id a.ttl a.Fd a.clock a.Cp a.stop) (c:Int)) w.Ab.Ac[i].id false=_ from r1]
    simp only [Option.bind_some,d2]
    unfold Hb
    by_cases h0:(Bv A w.Ab.Ac[i].id false (Bf a c)).2=0
    ·rw [if_pos (by simp [h0]),if_pos h0,d3]
     rfl
    ·rw [if_neg (by simpa using h0),if_neg h0]
   by_cases hst:a.stop=2
   ·have hc0:=hs hst
    subst hc0
    have eR:Dv a (w.Ab.Ac[i]::w.Ab.Ac.drop (i+1)) 0 L A=(1,Hb L w.Ab.Ac[i].id (Bv A w.Ab.Ac[i].id false (Bf a 0)).2,(Bv A w.Ab.Ac[i].id false (Bf a 0)).1,true):=by simp only [Dv,hq,if_true]; rw [if_pos hst]
    dsimp only
    rw [eR]
    refine ⟨Ea ?_,Ea ?_,hT',c3,by simp only; omega,fun h=>by cases h⟩
    ·rw [spec1]
     simp only [Sk]
     rw [if_pos (by simp [hst]),Rv (Ag.mk (Ak.mk w.Ab.clock w.Ab.next (Hb L w.Ab.Ac[i].id (Bv A w.Ab.Ac[i].id false (Bf a 0)).2)) w.Aa (Bv A w.Ab.Ac[i].id false (Bf a 0)).1 w.Ai) (by simp only; omega) hin (by simp only; omega)]
     rfl
    ·rw [impl1]
     simp only [Td,qX,Option.bind_some]
     rw [if_pos (by simp [hst]),Ru (Ag.mk (Ak.mk w.Ab.clock w.Ab.next (Hb L w.Ab.Ac[i].id (Bv A w.Ab.Ac[i].id false (Bf a 0)).2)) w.Aa (Bv A w.Ab.Ac[i].id false (Bf a 0)).1 w.Ai) hin]
     rfl
   ·have eR:Dv a (w.Ab.Ac[i]::w.Ab.Ac.drop (i+1)) c L A=Dv a (w.Ab.Ac.drop (i+1)) (c+1) (Hb L w.Ab.Ac[i].id (Bv A w.Ab.Ac[i].id false (Bf a c)).2) (Bv A w.Ab.Ac[i].id false (Bf a c)).1:=by simp only [Dv,hq,if_true]; rw [if_neg hst]
    dsimp only
    rw [eR]
    obtain ⟨i1,i2,i3⟩:=ih (i+1) (c+1) _ (Bv A w.Ab.Ac[i].id false (Bf a c)).1 (by omega) (by omega) hT' hL2 c3 (fun h=>absurd h hst)
    refine ⟨?_,?_,i3⟩
    ·rw [Dw (s':=(((c+1:Nat):Int),((i+1:Nat):Int),w.Ab.clock,w.Ab.next,Hb L w.Ab.Ac[i].id (Bv A w.Ab.Ac[i].id false (Bf a c)).2,(Bv A w.Ab.Ac[i].id false (Bf a c)).1)) ?_]
     ·exact i1
     ·rw [spec1]
      simp only [Sk,Wd]
      rw [if_neg (by simpa using hst),w1 (show c<4611686018427387904 by omega),w1 (show i<4611686018427387904 by omega)]
    ·rw [Dw (s':=(((i+1:Nat):Int),w.Ab.clock,w.Ab.next,Hb L w.Ab.Ac[i].id (Bv A w.Ab.Ac[i].id false (Bf a c)).2,w.Aa,(Bv A w.Ab.Ac[i].id false (Bf a c)).1,w.Ai,a.kind,a.id,a.ttl,a.Fd,a.clock,a.Cp,a.stop,((c+1:Nat):Int))) ?_]
     ·exact i2
     ·rw [impl1]
      have es:(a.stop==2)=false:=by simpa using hst
      simp only [Td,Wr,qX,Option.bind_some,es,cond_false]
      rw [if_neg (by simp),w1 (show i<4611686018427387904 by omega)]
  ·have hq':w.Ab.Ac[i].Cg=false:=by simpa using hq
   have eR:Dv a (w.Ab.Ac[i]::w.Ab.Ac.drop (i+1)) c L A=Dv a (w.Ab.Ac.drop (i+1)) c L A:=by simp only [Dv,hq',Bool.false_eq_true,if_false]
   dsimp only
   rw [eR]
   obtain ⟨i1,i2,i3⟩:=ih (i+1) c L A (by omega) (by omega) hT hL1 hA hs
   refine ⟨?_,?_,i3⟩
   ·rw [Dw (s':=((c:Int),((i+1:Nat):Int),w.Ab.clock,w.Ab.next,L,A)) ?_]
    ·exact i1
    ·simp only [Nb]
     rw [if_pos (decide_eq_true (by omega)),Bx hlt]
     simp only [Option.bind_some,Wd]
     rw [if_pos (by simp [hq']),w1 (show i<4611686018427387904 by omega)]
   ·rw [Dw (s':=(((i+1:Nat):Int),w.Ab.clock,w.Ab.next,L,w.Aa,A,w.Ai,a.kind,a.id,a.ttl,a.Fd,a.clock,a.Cp,a.stop,(c:Int))) ?_]
    ·exact i2
    ·simp only [Lh]
     rw [if_pos (decide_eq_true (by omega)),Bx hlt]
     simp only [Option.bind_some,Int.toNat_natCast,List.getElem?_eq_getElem hlt,Wr]
     rw [if_pos (by simp [hq']),w1 (show i<4611686018427387904 by omega)]
theorem oF (w:Ag) (a:Aj) (t:Ak) (hw:Gy t) (hin:w.Aa.length≤1000) (ht:t.next=w.Ab.next):∀m i c (L:List Ad) (A:List Int),i+m=w.Aa.length→c≤40+i→L.length≤1000→Cx A 1 (w.Ab.next-1)→(a.stop=2→c=0) →
  let R:=Ee a (w.Aa.drop i) c L A
  Ce (Kl w a w t.clock t.next t.Ac) ((c:Int),(i:Int),L,A)=some (if R.2.2.2=true then .inr (Jt (Ag.mk t R.2.1 R.2.2.1 w.Ai)) else .inl (R.2.1,R.2.2.1)) ∧
  Ce (Jk a w.Aa) ((i:Int),t.clock,t.next,t.Ac,L,A,w.Ai,a.kind,a.id,a.ttl,a.Fd,a.clock,a.Cp,a.stop,(c:Int))=some (if R.2.2.2=true then .inr (Jt (Ag.mk t R.2.1 R.2.2.1 w.Ai),Am.mk 15 0) else .inl (t.clock,t.next,t.Ac,R.2.1,R.2.2.1,w.Ai,a.kind,a.id,a.ttl,a.Fd,a.clock,a.Cp,a.stop,(R.1:Int))) ∧
  Cx R.2.2.1 1 (w.Ab.next-1):=by
 have h40:=hw.2.2.1
 intro m
 induction m with
 | zero=>
  intro i c L A him hc hLl hA hs
  have e:w.Aa.drop i=[]:=List.drop_eq_nil_of_le (by omega)
  rw [e]
  refine ⟨Ea ?_,Ea ?_,hA⟩
  ·simp only [Kl,Ee]
   rw [if_neg (by simp; omega)]
   rfl
  ·simp only [Jk,Ee]
   rw [if_neg (by simp; omega)]
   rfl
 | succ m ih=>
  intro i c L A him hc hLl hA hs
  have hlt:i<w.Aa.length:=by omega
  rw [List.drop_eq_getElem_cons hlt]
  by_cases hq:w.Aa[i].Ij=true
  ·have hA0:=Ry hw (ht ▸ hA)
   obtain ⟨c1,c2,c3,c4⟩:=Lv hA (by omega) w.Aa[i].Bb false (Bf a c) (fun h=>by cases h)
   have hA':=Ry hw (ht ▸ c3)
   have r1:=eH (v:=Ag.mk t L A w.Ai) (a:=a) (k:=c) (by omega) hA (by simp only; omega) w.Aa[i].Bb false (fun h=>by cases h)
   simp only at r1
   have hlen:(Hw L w.Aa[i].Bb (Bv A w.Aa[i].Bb false (Bf a c)).2).length≤1000:=by
    unfold Hw; split
    ·exact Nat.le_trans (List.length_filter_le _ _) hLl
    ·exact hLl
   have spec1:∀K,Kl w a w t.clock t.next t.Ac ((c:Int),(i:Int),L,A)=K↔Sl a w t.clock t.next t.Ac (c:Int) (i:Int) (Bv A w.Aa[i].Bb false (Bf a c)) (Hw L w.Aa[i].Bb (Bv A w.Aa[i].Bb false (Bf a c)).2)=K:=fun K=>by
    simp only [Kl]
    rw [if_pos (decide_eq_true (by omega)),Bx hlt]
    simp only [Option.bind_some]
    rw [if_neg (by simp [hq]),jJ]
    simp only [Option.bind_some,c2]
    unfold Hw
    by_cases h0:(Bv A w.Aa[i].Bb false (Bf a c)).2=0
    ·rw [if_pos (by simp [h0]),if_pos h0,sL _ _ (by omega)]
     rfl
    ·rw [if_neg (by simpa using h0),if_neg h0]
   have impl1:∀K,Jk a w.Aa ((i:Int),t.clock,t.next,t.Ac,L,A,w.Ai,a.kind,a.id,a.ttl,a.Fd,a.clock,a.Cp,a.stop,(c:Int))=K↔Te a (i:Int) ((Bv A w.Aa[i].Bb false (Bf a c)).2,Dp.mk (Ag.mk t L (Bv A w.Aa[i].Bb false (Bf a c)).1 w.Ai) a ((c+1:Nat):Int)) (Hw L w.Aa[i].Bb (Bv A w.Aa[i].Bb false (Bf a c)).2)=K:=fun K=>by
    simp only [Jk]
    rw [if_pos (decide_eq_true (by omega)),Bx hlt]
    simp only [Option.bind_some,Int.toNat_natCast,List.getElem?_eq_getElem hlt]
    rw [if_neg (by simp [hq])]
    rw [show jU (Dp.mk (Ag.mk (Ak.mk t.clock t.next t.Ac) L A w.Ai) (Aj.mk a.kind a.id a.ttl a.Fd a.clock a.Cp a.stop) (c:Int)) w.Aa[i].Bb false=_ from r1]
    simp only [Option.bind_some]
    unfold Hw
    by_cases h0:(Bv A w.Aa[i].Bb false (Bf a c)).2=0
    ·rw [if_pos (by simp [h0]),if_pos h0,wI _ _ (by omega)]
     rfl
    ·rw [if_neg (by simpa using h0),if_neg h0]
   by_cases hst:a.stop=2
   ·have hc0:=hs hst
    subst hc0
    have eR:Ee a (w.Aa[i]::w.Aa.drop (i+1)) 0 L A=(1,Hw L w.Aa[i].Bb (Bv A w.Aa[i].Bb false (Bf a 0)).2,(Bv A w.Aa[i].Bb false (Bf a 0)).1,true):=by simp only [Ee,hq,if_true]; rw [if_pos hst]
    dsimp only
    rw [eR]
    refine ⟨Ea ?_,Ea ?_,c3⟩
    ·rw [spec1]
     simp only [Sl]
     rw [if_pos (by simp [hst]),Rv (Ag.mk t (Hw L w.Aa[i].Bb (Bv A w.Aa[i].Bb false (Bf a 0)).2) (Bv A w.Aa[i].Bb false (Bf a 0)).1 w.Ai) (by simp only; omega) (by simp only; omega) (by simp only; omega)]
     rfl
    ·rw [impl1]
     simp only [Te,qX,Option.bind_some]
     rw [if_pos (by simp [hst]),Ru (Ag.mk t (Hw L w.Aa[i].Bb (Bv A w.Aa[i].Bb false (Bf a 0)).2) (Bv A w.Aa[i].Bb false (Bf a 0)).1 w.Ai) (by simp only; omega)]
     rfl
   ·have eR:Ee a (w.Aa[i]::w.Aa.drop (i+1)) c L A=Ee a (w.Aa.drop (i+1)) (c+1) (Hw L w.Aa[i].Bb (Bv A w.Aa[i].Bb false (Bf a c)).2) (Bv A w.Aa[i].Bb false (Bf a c)).1:=by simp only [Ee,hq,if_true]; rw [if_neg hst]
    dsimp only
    rw [eR]
    obtain ⟨i1,i2,i3⟩:=ih (i+1) (c+1) _ (Bv A w.Aa[i].Bb false (Bf a c)).1 (by omega) (by omega) hlen c3 (fun h=>absurd h hst)
    refine ⟨?_,?_,i3⟩
    ·rw [Dw (s':=(((c+1:Nat):Int),((i+1:Nat):Int),Hw L w.Aa[i].Bb (Bv A w.Aa[i].Bb false (Bf a c)).2,(Bv A w.Aa[i].Bb false (Bf a c)).1)) ?_]
     ·exact i1
     ·rw [spec1]
      simp only [Sl,We]
      rw [if_neg (by simpa using hst),w1 (show c<4611686018427387904 by omega),w1 (show i<4611686018427387904 by omega)]
    ·rw [Dw (s':=(((i+1:Nat):Int),t.clock,t.next,t.Ac,Hw L w.Aa[i].Bb (Bv A w.Aa[i].Bb false (Bf a c)).2,(Bv A w.Aa[i].Bb false (Bf a c)).1,w.Ai,a.kind,a.id,a.ttl,a.Fd,a.clock,a.Cp,a.stop,((c+1:Nat):Int))) ?_]
     ·exact i2
     ·rw [impl1]
      have es:(a.stop==2)=false:=by simpa using hst
      simp only [Te,Ws,qX,Option.bind_some,es,cond_false]
      rw [if_neg (by simp),w1 (show i<4611686018427387904 by omega)]
  ·have hq':w.Aa[i].Ij=false:=by simpa using hq
   have eR:Ee a (w.Aa[i]::w.Aa.drop (i+1)) c L A=Ee a (w.Aa.drop (i+1)) c L A:=by simp only [Ee,hq',Bool.false_eq_true,if_false]
   dsimp only
   rw [eR]
   obtain ⟨i1,i2,i3⟩:=ih (i+1) c L A (by omega) (by omega) hLl hA hs
   refine ⟨?_,?_,i3⟩
   ·rw [Dw (s':=((c:Int),((i+1:Nat):Int),L,A)) ?_]
    ·exact i1
    ·simp only [Kl]
     rw [if_pos (decide_eq_true (by omega)),Bx hlt]
     simp only [Option.bind_some,We]
     rw [if_pos (by simp [hq']),w1 (show i<4611686018427387904 by omega)]
   ·rw [Dw (s':=(((i+1:Nat):Int),t.clock,t.next,t.Ac,L,A,w.Ai,a.kind,a.id,a.ttl,a.Fd,a.clock,a.Cp,a.stop,(c:Int))) ?_]
    ·exact i2
    ·simp only [Jk]
     rw [if_pos (decide_eq_true (by omega)),Bx hlt]
     simp only [Option.bind_some,Int.toNat_natCast,List.getElem?_eq_getElem hlt,Ws]
     rw [if_pos (by simp [hq']),w1 (show i<4611686018427387904 by omega)]
end Go.Ev
end
section
set_option maxHeartbeats 1000000
namespace Go.Ev
theorem nM {α:Type} [BEq α] [LawfulBEq α]:∀(A B:List α),A.Nodup→(∀x∈A,x∈B)→A.length≤B.length
 | [],_,_,_=>Nat.zero_le _
 | a::A,B,h,hs=>by
  have ha:a∈B:=hs a List.mem_cons_self
  have h1:=nM A (B.erase a) (List.nodup_cons.1 h).2 (fun x hx=>by
   have hne:x≠a:=fun e=>(List.nodup_cons.1 h).1 (e ▸ hx)
   exact (List.mem_erase_of_ne hne).2 (hs x (List.mem_cons_of_mem _ hx)))
  have h2:=List.length_erase_of_mem ha
  have h3:0<B.length:=List.length_pos_of_mem ha
  simp only [List.length_cons]; omega
structure Ec (v:Ag):Prop where
 tab:Gy v.Ab
 i40:v.Aa.length≤40
 acc:Cx v.Ae 1 (v.Ab.next-1)
 its:Cx (v.Aa.map Ad.Bb) 1 (v.Ab.next-1)
 off:∀i∈v.Aa,∀y∈v.Ab.Ac,y.id≠i.Bb
 nam:∀x∈v.Ae,(∃y∈v.Ab.Ac,y.id=x)∨∃i∈v.Aa,i.Bb=x
theorem Mn {v:Ag} (h:Ec v):Ui v:=by
 refine ⟨h.tab,h.i40,?_,h.acc,h.its,fun x hx y hy=>?_,fun x hx=>?_⟩
 ·have hn:=nM v.Ae (v.Ab.Ac.map Af.id++v.Aa.map Ad.Bb) ((Xf h.acc).imp (fun h=>Int.ne_of_lt h)) (fun x hx=>by
   rcases h.nam x hx with ⟨y,hy,rfl⟩ | ⟨i,hi,rfl⟩
   ·exact List.mem_append_left _ (List.mem_map_of_mem hy)
   ·exact List.mem_append_right _ (List.mem_map_of_mem hi))
  have:=h.tab.2.2.1
  have:=h.i40
  simp at hn; omega
 ·obtain ⟨i,hi,rfl⟩:=List.mem_map.1 hx
  exact h.off i hi y hy
 ·rcases h.nam x hx with ⟨y,hy,e⟩ | ⟨i,hi,e⟩
  ·exact .inl fun hn=>hn y hy e
  ·exact .inr fun hn=>hn i hi e
theorem Ec.a {v:Ag} (h:Ec v):v.Ae.length≤1000000:=Ry h.tab h.acc
theorem Ec.t {v:Ag} (h:Ec v):v.Ab.Ac.length≤40:=h.tab.2.2.1
structure yX (v:Ag):Prop where
 right:Ec v
 tab:Gr v.Ab
 und:∀i∈v.Aa,i.Ij=true
theorem Tn {v:Ag} (h:Ec v):Ec (Jt v):=by
 have e:(Jt v).Aa.map Ad.Bb=v.Aa.map Ad.Bb:=by simp [Jt,Ia]
 refine ⟨h.tab,by simp [Jt,h.i40],h.acc,by rw [e]; exact h.its,fun i hi y hy=>?_,fun x hx=>?_⟩
 ·obtain ⟨j,hj,rfl⟩:=List.mem_map.1 hi
  exact h.off j hj y hy
 ·rcases h.nam x hx with h1 | ⟨i,hi,e⟩
  ·exact .inl h1
  ·exact .inr ⟨Ia i,List.mem_map_of_mem hi,e⟩
theorem Xh {v:Ag} (h:Ec v) (hT:Gr v.Ab):yX (Jt v):=⟨Tn h,hT,fun i hi=>by
 obtain ⟨j,_,rfl⟩:=List.mem_map.1 hi; rfl⟩
theorem Ol {v:Ag} {t:Ak} (h:Ec v) (hT:Gy t) (hn:t.next=v.Ab.next) (hi:t.Ac.map Af.id=v.Ab.Ac.map Af.id) (s:Bool):Ec (Ag.mk t v.Aa v.Ae s):=by
 have hm:∀x,(∃y∈t.Ac,y.id=x)↔∃y∈v.Ab.Ac,y.id=x:=fun x=>by
  rw [←List.mem_map,←List.mem_map,hi]
 refine ⟨hT,h.i40,by simp only [hn]; exact h.acc,by simp only [hn]; exact h.its,fun i hi' y hy e=>?_,fun x hx=>?_⟩
 ·obtain ⟨z,hz,ez⟩:=(hm i.Bb).1 ⟨y,hy,e⟩
  exact h.off i hi' z hz ez
 ·rcases h.nam x hx with h1 | h1
  ·exact .inl ((hm x).2 h1)
  ·exact .inr h1
def bQ (v:Ag) (a:Aj) (r:Ag×Am):Prop:=
 ((r.2.code_≠0∧r.2.code_≠15∧r.2.code_≠13)→r.1=v)∧(r.1.Ab.Ac.length≤1048576∧r.1.Aa.length≤1048576∧r.1.Ae.length≤1048576) ∧
  ((∀i∈v.Aa,i.Ij=true)→bO a→yX r.1)
theorem Tm {v:Ag} (h:Ec v) (hT:Gr v.Ab) (a:Aj) (c n:Int):bQ v a (v,Am.mk c n):=
 ⟨fun _=>rfl,⟨by have:=h.t; simp only; omega,by have:=h.i40; simp only; omega,by have:=h.a; simp only; omega⟩,fun hu _=>⟨h,hT,hu⟩⟩
theorem Sc {v:Ag} (h1:v.Ab.Ac.length≤1048576) (h2:v.Aa.length≤1048576) (h3:v.Ae.length≤1048576):cP v=some v:=by
 simp only [cP,Ld v.Ab h1,Option.bind_some]
 rw [if_pos (by simp; omega),if_pos (by simp; omega)]
 rfl
theorem rM {v:Ag} (h1:v.Ab.Ac.length≤1048576) (h2:v.Aa.length≤1048576) (h3:v.Ae.length≤1048576):Amk v=some v:=by
 have e:fH v.Ae=some v.Ae:=by unfold fH; rw [if_pos (by simp; omega)]
 simp only [Amk,Si v.Ab h1,uB v.Aa h2,e,Option.bind_some]
theorem rC {t:Ak} (h:Gy t) (x y:Int):∃r s,g70 t x y=some r∧g71 t x y=some s∧s.2=r.2∧((r.1=t∧r.2.2≠0) ∨
  (s=r∧r.2.2=0∧r.2.1=t.next∧t.next+1≤1000000∧t.Ac.length≤39∧∃l:Af,l.id=t.next∧r.1=Ak.mk t.clock (t.next+1) (t.Ac++[l]))):=by
 have hl:=h.2.2.1
 have hn:=h.2.1
 simp only [g70,g71]
 split
 ·exact ⟨_,_,rfl,rfl,rfl,.inl ⟨rfl,by simp⟩⟩
 ·split
  ·exact ⟨_,_,rfl,rfl,rfl,.inl ⟨rfl,by simp⟩⟩
  ·simp only [Bs]
   split
   ·exact ⟨_,_,rfl,rfl,rfl,.inl ⟨rfl,by simp⟩⟩
   ·rename_i hf
    have hf1:t.Ac.length≠40:=fun e0=>hf (by rw [e0]; rfl)
    have hf2:t.next≠1000000:=fun e0=>hf (by rw [e0]; cases ((t.Ac.length:Int)==40)<;>rfl)
    obtain ⟨p,e1,e2⟩:=qY t.clock x
    obtain ⟨q,e3,e4⟩:=qY t.clock y
    rw [Ld t (by omega),Si t (by omega)]
    simp only [e1,e2,e3,e4,Option.bind_some]
    rw [if_pos (by simp; omega)]
    exact ⟨_,_,rfl,rfl,rfl,.inr ⟨rfl,rfl,rfl,by omega,by omega,_,rfl,by rw [wr ⟨by omega,by omega⟩]⟩⟩
theorem JN {v:Ag} (h:Ec v) (hn:v.Ab.next+1≤1000000) (hi:v.Aa.length≠40) (A:List Int) (hA:Cx A 1 v.Ab.next) (hs:∀x∈A,x∈v.Ae∨x=v.Ab.next) (b s:Bool):
  Ec (Ag.mk (Ak.mk v.Ab.clock (v.Ab.next+1) v.Ab.Ac) (v.Aa++[Ad.mk v.Ab.next b]) A s):=by
 have h40:=h.i40
 have hn1:=h.tab.2.1
 have hT:Gy (Ak.mk v.Ab.clock (v.Ab.next+1) v.Ab.Ac):=by
  refine ⟨h.tab.1,by simp only; omega,h.tab.2.2.1,fun k x hx=>?_⟩
  obtain ⟨a1,a2,a3,a4,a5⟩:=h.tab.2.2.2 k x hx
  exact ⟨by simp only; omega,a2,a3,a4,a5⟩
 refine ⟨hT,by simp; omega,by simp only; rw [show v.Ab.next+1-1=v.Ab.next by omega]; exact hA,?_,fun i hi' y hy=>?_,fun x hx=>?_⟩
 ·simp only [List.map_append,List.map_cons,List.map_nil]
  refine bK (fun x hx=>?_) ?_
  ·rcases List.mem_append.1 hx with hx | hx
   ·have:=h.its.mem hx; omega
   ·simp only [List.mem_singleton] at hx; omega
  ·rw [List.pairwise_append]
   refine ⟨Xf h.its,List.pairwise_singleton _ _,fun x hx y hy=>?_⟩
   have:=h.its.mem hx
   simp only [List.mem_singleton] at hy
   omega
 ·simp only at hi' hy
  rcases List.mem_append.1 hi' with hi' | hi'
  ·exact h.off i hi' y hy
  ·simp only [List.mem_singleton] at hi'; subst hi'
   obtain ⟨k,hk,rfl⟩:=List.getElem_of_mem hy
   have:=(h.tab.at hk).1
   simp only; omega
 ·rcases hs x hx with hx | rfl
  ·rcases h.nam x hx with h1 | ⟨i,hi,e⟩
   ·exact .inl h1
   ·exact .inr ⟨i,List.mem_append_left _ hi,e⟩
  ·exact .inr ⟨Ad.mk v.Ab.next b,by simp,rfl⟩
theorem rF {v:Ag} {a:Aj} (hr:Ec v) (hT:Gr v.Ab) (hk:a.kind=1):∃r,AkX v a=some r∧Aml v a=some r∧bQ v a r:=by
 obtain ⟨r1,u1,e1,e2,e3,hc⟩:=rC hr.tab a.ttl a.Fd
 have h40:=hr.t
 have hi40:=hr.i40
 have ha:=hr.a
 have hn1:=hr.tab.2.1
 have tabf:bO a→Gr r1.1:=fun hf=>by
  obtain ⟨r',e',t'⟩:=xD hT _ _ (hf.1 hk)
  rw [e1] at e'; cases e'; exact t'
 simp only [AkX,Aml,e1,e2,e3,Option.bind_some]
 have ref:∀c,c≠0→∃r,Lf v a r1 c=some r∧Lg v a u1 c=some r∧bQ v a r:=fun c h0=>⟨(v,Am.mk c 0),by simp [Lf,h0],by simp [Lg,h0,fN],Tm hr hT a c 0⟩
 rcases hc with ⟨_,n0⟩ | ⟨hur,c0,cid,cn,cl,l,lid,lt⟩
 ·have:(bif (r1.2.2==0) then ((v.Aa.length:Int)==40) else false)=false:=by simp [n0]
  rw [this]
  simp only [Bool.false_eq_true,if_false]
  exact ref _ n0
 ·subst hur
  by_cases hf:v.Aa.length=40
  ·have:(bif (u1.2.2==0) then ((v.Aa.length:Int)==40) else false)=true:=by simp [c0,hf]
   rw [this]
   simp only [if_true]
   exact ref 9 (by decide)
  ·have:(bif (u1.2.2==0) then ((v.Aa.length:Int)==40) else false)=false:=by simp [c0]; omega
   rw [this]
   simp only [Bool.false_eq_true,if_false]
   obtain ⟨rt,rid,rc⟩:=u1
   simp only at c0 cid lt tabf
   subst c0 cid
   have hw:IntKind.i64.wrap (v.Ab.next+1)=v.Ab.next+1:=wr ⟨by omega,by omega⟩
   have hrn:rt.next=v.Ab.next+1:=by rw [lt]
   have hA:Cx v.Ae 1 v.Ab.next:=hr.acc.mono (by omega)
   obtain ⟨c1,c2,c3,c4⟩:=Lv hA (by omega) v.Ab.next true (Bf a 0) (fun _=>⟨by omega,by omega⟩)
   have hA2:(Bv v.Ae v.Ab.next true (Bf a 0)).1.length≤1000000:=by
    have:=c3.len (by omega); omega
   have f0:qL a 0=some (Bf a 0):=jJ a 0
   have hsub:∀x∈(Bv v.Ae v.Ab.next true (Bf a 0)).1,x∈v.Ae∨x=v.Ab.next:=fun x hx=>by
    rcases c4 with ⟨_,e,_⟩ | ⟨_,_,hm⟩
    ·rw [e] at hx; exact .inl hx
    ·simpa using (hm x).1 hx
   have r1:jU (Dp.mk (Ag.mk (Ak.mk v.Ab.clock (v.Ab.next+1) v.Ab.Ac) (v.Aa++[Ad.mk v.Ab.next false]) v.Ae v.Ai) a 0) v.Ab.next true=some ((Bv v.Ae v.Ab.next true (Bf a 0)).2,Dp.mk (Ag.mk (Ak.mk v.Ab.clock (v.Ab.next+1) v.Ab.Ac) (v.Aa++[Ad.mk v.Ab.next false]) (Bv v.Ae v.Ab.next true (Bf a 0)).1 v.Ai) a 1):=
    eH (v:=Ag.mk (Ak.mk v.Ab.clock (v.Ab.next+1) v.Ab.Ac) (v.Aa++[Ad.mk v.Ab.next false]) v.Ae v.Ai) (a:=a) (k:=0) (by omega) hA (by simp only; omega) v.Ab.next true (fun _=>⟨by omega,by omega⟩)
   have hlen:(v.Aa++[Ad.mk v.Ab.next false]).length=v.Aa.length+1:=by simp
   have hwl:IntKind.i64.wrap (((v.Aa++[Ad.mk v.Ab.next false]).length:Int)-1)=(v.Aa.length:Int):=by rw [hlen,wr ⟨by omega,by omega⟩]; omega
   have hT1:Gr (Ak.mk v.Ab.clock (v.Ab.next+1) v.Ab.Ac):=KN hT cn
   have cap:(v.Aa.length+([Ad.mk v.Ab.next false]:List Ad).length)*16≤140737488355328:=by simp; omega
   have ecp:=Sc (v:=v) (by omega) (by omega) (by omega)
   by_cases s1:a.stop=1
   ·have q1:=Rv (Ag.mk (Ak.mk v.Ab.clock (v.Ab.next+1) v.Ab.Ac) (v.Aa++[Ad.mk v.Ab.next false]) v.Ae v.Ai) (by simp only; omega) (by simp; omega) (by simp only; omega)
    have q2:=Ru (Ag.mk (Ak.mk v.Ab.clock (v.Ab.next+1) v.Ab.Ac) (v.Aa++[Ad.mk v.Ab.next false]) v.Ae v.Ai) (by simp; omega)
    refine ⟨(Jt (Ag.mk (Ak.mk v.Ab.clock (v.Ab.next+1) v.Ab.Ac) (v.Aa++[Ad.mk v.Ab.next false]) v.Ae v.Ai),Am.mk 15 0),?_,?_,fun h=>absurd rfl h.2.1,⟨by simp [Jt]; omega,by simp [Jt]; omega,by simp [Jt]; omega⟩,fun _ _=>Xh (JN hr cn hf v.Ae hA (fun x hx=>.inl hx) false v.Ai) hT1⟩
    ·simp only [Lf,ecp,Option.bind_some,hrn,s1]
     rw [if_neg (by simp),if_pos cap,if_pos (by simp),q1]
     rfl
    ·simp only [Lg,hw,s1]
     rw [if_neg (by simp),if_pos cap,if_pos (by simp),q2]
     rfl
   ·have s1':¬(a.stop==1)=true:=by simpa using s1
    by_cases s2:a.stop=2
    ·have s2':(a.stop==2)=true:=by simpa using s2
     have q1:=Rv (Ag.mk (Ak.mk v.Ab.clock (v.Ab.next+1) v.Ab.Ac) (v.Aa++[Ad.mk v.Ab.next false]) (Bv v.Ae v.Ab.next true (Bf a 0)).1 v.Ai) (by simp only; omega) (by simp; omega) (by simp only; omega)
     have q2:=Ru (Ag.mk (Ak.mk v.Ab.clock (v.Ab.next+1) v.Ab.Ac) (v.Aa++[Ad.mk v.Ab.next false]) (Bv v.Ae v.Ab.next true (Bf a 0)).1 v.Ai) (by simp; omega)
     refine ⟨(Jt (Ag.mk (Ak.mk v.Ab.clock (v.Ab.next+1) v.Ab.Ac) (v.Aa++[Ad.mk v.Ab.next false]) (Bv v.Ae v.Ab.next true (Bf a 0)).1 v.Ai),Am.mk 15 0),?_,?_,fun h=>absurd rfl h.2.1,⟨by simp [Jt]; omega,by simp [Jt]; omega,by simp [Jt]; omega⟩,fun _ _=>Xh (JN hr cn hf _ c3 hsub false v.Ai) hT1⟩
     ·simp only [Lf,ecp,Option.bind_some,hrn,f0,c2]
      rw [if_neg (by simp),if_pos cap,if_neg s1',if_pos s2',q1]
      rfl
     ·simp only [Lg,hw,r1,Option.bind_some]
      rw [if_neg (by simp),if_pos cap,if_neg s1',if_pos s2',q2]
      rfl
    ·have s2':¬(a.stop==2)=true:=by simpa using s2
     by_cases h0:(Bv v.Ae v.Ab.next true (Bf a 0)).2=0
     ·have h0':¬((Bv v.Ae v.Ab.next true (Bf a 0)).2 != 0)=true:=by simp [h0]
      have hs:=Tz (v.Aa++[Ad.mk v.Ab.next false]) 0 v.Aa.length (by omega) (by omega)
      rw [show ((0:Nat):Int)=0 from rfl] at hs
      have et:List.drop 0 (List.take v.Aa.length (v.Aa++[Ad.mk v.Ab.next false]))=v.Aa:=by simp
      rw [et] at hs
      refine ⟨(Ag.mk rt v.Aa (Bv v.Ae v.Ab.next true (Bf a 0)).1 v.Ai,Am.mk 0 v.Ab.next),?_,?_,fun h=>absurd rfl h.1,⟨by simp only [lt]; simp; omega,by simp only; omega,by simp only; omega⟩,fun hu hfit=>⟨?_,tabf hfit,hu⟩⟩
      ·simp only [Lf,ecp,Option.bind_some,hrn,f0,c2,hwl]
       rw [if_neg (by simp),if_pos cap,if_neg s1',if_neg s2',if_neg h0',hs]
       rfl
      ·simp only [Lg,hw,r1,Option.bind_some,hwl]
       rw [if_neg (by simp),if_pos cap,if_neg s1',if_neg s2',if_neg h0',hs]
       rfl
      ·refine ⟨(tabf hfit).1,hi40,by simp only [hrn]; rw [show v.Ab.next+1-1=v.Ab.next by omega]; exact c3,by simp only [hrn]; exact hr.its.mono (by omega),fun i hi y hy=>?_,fun x hx=>?_⟩
       ·simp only [lt] at hy
        rcases List.mem_append.1 hy with hy | hy
        ·exact hr.off i hi y hy
        ·simp only [List.mem_singleton] at hy; subst hy
         have:=hr.its.mem (List.mem_map_of_mem hi)
         omega
       ·simp only [lt]
        rcases hsub x hx with hx | rfl
        ·rcases hr.nam x hx with ⟨y,hy,e⟩ | h1
         ·exact .inl ⟨y,List.mem_append_left _ hy,e⟩
         ·exact .inr h1
        ·exact .inl ⟨l,by simp,lid⟩
     ·have h0':((Bv v.Ae v.Ab.next true (Bf a 0)).2 != 0)=true:=by simpa using h0
      have il:=Bx (show v.Aa.length<(v.Aa++[Ad.mk v.Ab.next false]).length by omega)
      have gl:=List.getElem?_eq_getElem (show v.Aa.length<(v.Aa++[Ad.mk v.Ab.next false]).length by omega)
      have el:(v.Aa++[Ad.mk v.Ab.next false])[v.Aa.length]'(by omega)=Ad.mk v.Ab.next false:=by simp
      rw [el] at il gl
      have es:(v.Aa++[Ad.mk v.Ab.next false]).set v.Aa.length (Ad.mk v.Ab.next true)=v.Aa++[Ad.mk v.Ab.next true]:=by simp [List.set_append]
      refine ⟨(Ag.mk (Ak.mk v.Ab.clock (v.Ab.next+1) v.Ab.Ac) (v.Aa++[Ad.mk v.Ab.next true]) (Bv v.Ae v.Ab.next true (Bf a 0)).1 v.Ai,Am.mk (Bv v.Ae v.Ab.next true (Bf a 0)).2 0),?_,?_,fun h=>?_,⟨by simp only; omega,by simp; omega,by simp only; omega⟩,fun hu _=>⟨JN hr cn hf _ c3 hsub true v.Ai,hT1,fun i hi=>?_⟩⟩
      ·simp only [Lf,ecp,Option.bind_some,hrn,f0,c2,hwl]
       rw [if_neg (by simp),if_pos cap,if_neg s1',if_neg s2',if_pos h0',il]
       simp only [Option.bind_some,Int.toNat_natCast,gl,es]
      ·simp only [Lg,hw,r1,Option.bind_some,hwl]
       rw [if_neg (by simp),if_pos cap,if_neg s1',if_neg s2',if_pos h0',il]
       simp only [Option.bind_some,Int.toNat_natCast,gl,es,fN]
      ·exfalso
       simp only at h
       rcases c4 with ⟨e,_,_⟩ | ⟨_,e,_⟩
       ·exact h.2.2 e
       ·rw [e] at h
        unfold Nn at h
        split at h
        ·exact h.2.1 rfl
        ·exact h.1 rfl
      ·simp only at hi
       rcases List.mem_append.1 hi with hi | hi
       ·exact hu i hi
       ·simp only [List.mem_singleton] at hi; subst hi; rfl
theorem uR {t:Ak} {k:Nat} (hk:k<t.Ac.length) (v:Af) (h:v.id=t.Ac[k].id):(t.Ac.set k v).map Af.id=t.Ac.map Af.id:=by
 apply List.ext_getElem
 ·simp
 ·intro j h1 h2
  simp only [List.getElem_map,List.getElem_set]
  split
  ·rename_i e; subst e; exact h
  ·rfl
theorem nW {t:Ak} (h:Gy t) (x:Int):∃r s,g74 t x=some r∧g75 t x=some s∧s.2=r.2∧(r.2=0→s=r)∧r.1.next=t.next∧r.1.Ac.map Af.id=t.Ac.map Af.id:=by
 have hl:=h.2.2.1
 obtain ⟨n,h1,h2⟩:=Yk t x (by omega)
 obtain ⟨i,b,h3,h4,h5⟩:=jX t h x n h2
 simp only [g74,g75,h1,h3,Option.bind_some]
 cases b with
 | false=>
  have:=h5 rfl; subst this
  exact ⟨_,_,rfl,rfl,rfl,(fun h=>by simp at h),rfl,rfl⟩
 | true=>
  obtain ⟨rfl,hn⟩:=h4 rfl
  rcases h2 with ⟨rfl,_⟩ | ⟨k,hk,rfl,_⟩
  ·omega
  ·rw [if_neg (by simp),if_neg (by simp),Ld t (by omega),Si t (by omega)]
   simp only [Option.bind_some,Bx hk,Int.toNat_natCast,List.getElem?_eq_getElem hk]
   exact ⟨_,_,rfl,rfl,rfl,fun _=>rfl,rfl,uR hk _ rfl⟩
theorem rS {t:Ak} (h:Gy t) (x c:Int):∃r s,g79 t x c=some r∧g80 t x c=some s∧s.2=r.2∧(r.2=0→s=r)∧r.1.next=t.next∧r.1.Ac.map Af.id=t.Ac.map Af.id:=by
 have hl:=h.2.2.1
 obtain ⟨n,h1,h2⟩:=Yk t x (by omega)
 obtain ⟨i,b,h3,h4,h5⟩:=jX t h x n h2
 simp only [g79,g80,h1,h3,Option.bind_some]
 by_cases hb:c<1
 ·simp only [decide_eq_true hb,if_true]
  exact ⟨_,_,rfl,rfl,rfl,(fun h=>by simp at h),rfl,rfl⟩
 ·simp only [decide_eq_false hb,if_neg (show ¬(false=true) by decide)]
  cases b with
  | false=>
   have:=h5 rfl; subst this
   exact ⟨_,_,rfl,rfl,rfl,(fun h=>by simp at h),rfl,rfl⟩
  | true=>
   obtain ⟨rfl,hn⟩:=h4 rfl
   rcases h2 with ⟨rfl,_⟩ | ⟨k,hk,rfl,_⟩
   ·omega
   ·rw [if_neg (by simp),if_neg (by simp),Bx hk]
    simp only [Option.bind_some]
    by_cases hq:t.Ac[k].Cg=true
    ·rw [if_pos hq,if_pos hq]
     exact ⟨_,_,rfl,rfl,rfl,(fun h=>by simp at h),rfl,rfl⟩
    ·rw [if_neg hq,if_neg hq,Ld t (by omega),Si t (by omega)]
     obtain ⟨x,e3,e4⟩:=qY t.clock c
     simp only [Option.bind_some,Bx hk,Int.toNat_natCast,List.getElem?_eq_getElem hk,e3,e4,Bs]
     have:(if x<t.Ac[k].cap then x else t.Ac[k].cap)=(if t.Ac[k].cap<x then t.Ac[k].cap else x):=by
      split<;>split<;>omega
     rw [this]
     exact ⟨_,_,rfl,rfl,rfl,fun _=>rfl,rfl,uR hk _ rfl⟩
theorem iM {v:Ag} (hr:Ec v) (hT:Gr v.Ab) (a:Aj) (r u:Ak×Int) (hu2:u.2=r.2) (hur:r.2=0→u=r) (hn:r.1.next=v.Ab.next) (hi:r.1.Ac.map Af.id=v.Ab.Ac.map Af.id) (hf:bO a→Gr r.1):
  ∃x,Im v r.2 r.1.clock r.1.next r.1.Ac v.Aa v.Ae v.Ai=some x∧JB v u.1 u.2=some x∧bQ v a x:=by
 simp only [Im,JB,fN,Option.bind_some,hu2]
 by_cases h0:r.2=0
 ·rw [if_neg (by simp [h0]),if_neg (by simp [h0])]
  rw [hur h0]
  have hl:r.1.Ac.length=v.Ab.Ac.length:=by simpa using congrArg List.length hi
  have:=hr.t
  have:=hr.i40
  have:=hr.a
  exact ⟨_,rfl,rfl,fun h=>absurd rfl h.1,⟨by simp only; omega,by simp only; omega,by simp only; omega⟩,fun hu hfit=>⟨Ol hr (hf hfit).1 hn hi _,hf hfit,hu⟩⟩
 ·rw [if_pos (by simpa using h0),if_pos (by simpa using h0)]
  exact ⟨_,rfl,rfl,Tm hr hT a _ _⟩
theorem oJ (a:Aj) {M:Int} (hM:M≤1000000) (hM0:0≤M):∀(r:List Af) (c:Nat) (L:List Af) (A:List Int),Cx A 1 M →
  (∀y∈(Dv a r c L A).2.1,y∈L)∧∀y∈(Dv a r c L A).2.2.1,y∈A∧((∃z∈L,z.id=y)→∃z∈(Dv a r c L A).2.1,z.id=y):=by
 intro r
 induction r with
 | nil=>intro c L A hA; exact ⟨fun y hy=>hy,fun y hy=>⟨hy,fun h=>h⟩⟩
 | cons x r ih=>
  intro c L A hA
  by_cases hq:x.Cg=true
  ·have hlen:A.length≤1000000:=by have:=hA.len hM0; omega
   obtain ⟨c1,c2,c3,c4⟩:=Lv hA (by omega) x.id false (Bf a c) (fun h=>by cases h)
   have hL:∀y∈Hb L x.id (Bv A x.id false (Bf a c)).2,y∈L:=fun y hy=>by
    unfold Hb at hy
    split at hy
    ·exact (List.mem_filter.1 hy).1
    ·exact hy
   have hN:∀y∈(Bv A x.id false (Bf a c)).1,y∈A∧((∃z∈L,z.id=y)→∃z∈Hb L x.id (Bv A x.id false (Bf a c)).2,z.id=y):=fun y hy=>by
    rcases c4 with ⟨e1,e2,_⟩ | ⟨_,e1,hm⟩
    ·rw [e2] at hy
     refine ⟨hy,fun h=>?_⟩
     unfold Hb
     rw [if_neg (by rw [e1]; decide)]
     exact h
    ·have hy':y∈A∧y≠x.id:=by simpa using (hm y).1 hy
     refine ⟨hy'.1,fun ⟨z,hz,e⟩=>⟨z,?_,e⟩⟩
     unfold Hb
     split
     ·rw [List.mem_filter]
      exact ⟨hz,by simp; rw [e]; exact hy'.2⟩
     ·exact hz
   by_cases hs:a.stop=2
   ·have eR:Dv a (x::r) c L A=(c+1,Hb L x.id (Bv A x.id false (Bf a c)).2,(Bv A x.id false (Bf a c)).1,true):=by simp only [Dv,hq,if_true]; rw [if_pos hs]
    rw [eR]
    exact ⟨hL,hN⟩
   ·have eR:Dv a (x::r) c L A=Dv a r (c+1) (Hb L x.id (Bv A x.id false (Bf a c)).2) (Bv A x.id false (Bf a c)).1:=by simp only [Dv,hq,if_true]; rw [if_neg hs]
    rw [eR]
    obtain ⟨i1,i2⟩:=ih (c+1) (Hb L x.id (Bv A x.id false (Bf a c)).2) _ c3
    exact ⟨fun y hy=>hL y (i1 y hy),fun y hy=>⟨(hN y (i2 y hy).1).1,fun h=>(i2 y hy).2 ((hN y (i2 y hy).1).2 h)⟩⟩
  ·have eR:Dv a (x::r) c L A=Dv a r c L A:=by simp only [Dv,hq,if_false]; rfl
   rw [eR]
   exact ih c L A hA
theorem oG (a:Aj) {M:Int} (hM:M≤1000000) (hM0:0≤M):∀(r:List Ad) (c:Nat) (L:List Ad) (A:List Int),Cx A 1 M →
  (Ee a r c L A).2.1.Sublist L∧∀y∈(Ee a r c L A).2.2.1,y∈A∧((∃z∈L,z.Bb=y)→∃z∈(Ee a r c L A).2.1,z.Bb=y):=by
 intro r
 induction r with
 | nil=>intro c L A hA; exact ⟨List.Sublist.refl _,fun y hy=>⟨hy,fun h=>h⟩⟩
 | cons x r ih=>
  intro c L A hA
  by_cases hq:x.Ij=true
  ·have hlen:A.length≤1000000:=by have:=hA.len hM0; omega
   obtain ⟨c1,c2,c3,c4⟩:=Lv hA (by omega) x.Bb false (Bf a c) (fun h=>by cases h)
   have hL:(Hw L x.Bb (Bv A x.Bb false (Bf a c)).2).Sublist L:=by
    unfold Hw
    split
    ·exact List.filter_sublist
    ·exact List.Sublist.refl _
   have hN:∀y∈(Bv A x.Bb false (Bf a c)).1,y∈A∧((∃z∈L,z.Bb=y)→∃z∈Hw L x.Bb (Bv A x.Bb false (Bf a c)).2,z.Bb=y):=fun y hy=>by
    rcases c4 with ⟨e1,e2,_⟩ | ⟨_,e1,hm⟩
    ·rw [e2] at hy
     refine ⟨hy,fun h=>?_⟩
     unfold Hw
     rw [if_neg (by rw [e1]; decide)]
     exact h
    ·have hy':y∈A∧y≠x.Bb:=by simpa using (hm y).1 hy
     refine ⟨hy'.1,fun ⟨z,hz,e⟩=>⟨z,?_,e⟩⟩
     unfold Hw
     split
     ·rw [List.mem_filter]
      exact ⟨hz,by simp; rw [e]; exact hy'.2⟩
     ·exact hz
   by_cases hs:a.stop=2
   ·have eR:Ee a (x::r) c L A=(c+1,Hw L x.Bb (Bv A x.Bb false (Bf a c)).2,(Bv A x.Bb false (Bf a c)).1,true):=by simp only [Ee,hq,if_true]; rw [if_pos hs]
    rw [eR]
    exact ⟨hL,hN⟩
   ·have eR:Ee a (x::r) c L A=Ee a r (c+1) (Hw L x.Bb (Bv A x.Bb false (Bf a c)).2) (Bv A x.Bb false (Bf a c)).1:=by simp only [Ee,hq,if_true]; rw [if_neg hs]
    rw [eR]
    obtain ⟨i1,i2⟩:=ih (c+1) (Hw L x.Bb (Bv A x.Bb false (Bf a c)).2) _ c3
    exact ⟨i1.trans hL,fun y hy=>⟨(hN y (i2 y hy).1).1,fun h=>(i2 y hy).2 ((hN y (i2 y hy).1).2 h)⟩⟩
  ·have eR:Ee a (x::r) c L A=Ee a r c L A:=by simp only [Ee,hq,if_false]; rfl
   rw [eR]
   exact ih c L A hA
noncomputable def Cv (w:Ag) (a:Aj):Nat×List Af×List Int×Bool:=Dv a w.Ab.Ac 0 w.Ab.Ac w.Ae
noncomputable def Eh (w:Ag) (a:Aj):Nat×List Ad×List Int×Bool:=Ee a w.Aa (Cv w a).1 w.Aa (Cv w a).2.2.1
noncomputable def Lk (w:Ag) (a:Aj):Ak:=Ak.mk w.Ab.clock w.Ab.next (Cv w a).2.1
noncomputable def Fx (w:Ag) (a:Aj):Ag×Bool:=
 if (Cv w a).2.2.2=true then (Jt (Ag.mk (Lk w a) w.Aa (Cv w a).2.2.1 w.Ai),true)
 else if (Eh w a).2.2.2=true then (Jt (Ag.mk (Lk w a) (Eh w a).2.1 (Eh w a).2.2.1 w.Ai),true)
 else (Ag.mk (Lk w a) (Eh w a).2.1 (Eh w a).2.2.1 w.Ai,false)
theorem Vp {w:Ag} (a:Aj) (hr:Ec w) (hT:Gr w.Ab):
  qJ w a=some (Fx w a).1 ∧
  ((Ce (Lh a w.Ab.Ac) (0,w.Ab.clock,w.Ab.next,w.Ab.Ac,w.Aa,w.Ae,w.Ai,a.kind,a.id,a.ttl,a.Fd,a.clock,a.Cp,a.stop,0)).bind fun r182=>(match r182 with
   | .inl (p108,p109,p110,p111,p112,p113,p114,p115,p116,p117,p118,p119,p120,p121)=>(qW p111).bind fun r184=>
    (Ce (Jk a r184) (0,p108,p109,p110,p111,p112,p113,p114,p115,p116,p117,p118,p119,p120,p121)).bind fun r344=>(match r344 with
    | .inl (p278,p279,p280,p281,p282,p283,p284,p285,p286,p287,p288,p289,p290,p291)=>some ((Ag.mk (Ak.mk p278 p279 p280) p281 p282 p283),(Am.mk 0 0))
    | .inr q=>some q)
   | .inr q=>some q))=some ((Fx w a).1,Am.mk (if (Fx w a).2=true then 15 else 0) 0) ∧
  Ec (Fx w a).1∧Gr (Fx w a).1.Ab∧((∀i∈w.Aa,i.Ij=true)→∀i∈(Fx w a).1.Aa,i.Ij=true)∧((Fx w a).2=true→(Fx w a).1.Ai=true)∧((Fx w a).2=false→(Fx w a).1.Ai=w.Ai):=by
 have h40:=hr.t
 have hi40:=hr.i40
 have hn1:=hr.tab.2.1
 obtain ⟨l1,l2,l3,l4,l5,l6⟩:=oH w a hr.tab (by omega) w.Ab.Ac.length 0 0 w.Ab.Ac w.Ae (by omega) (Nat.le_refl _) hT (fun x hx=>by simpa using hx) hr.acc (fun _=>rfl)
 simp only [List.drop_zero] at l1 l2 l3 l4 l5 l6
 change Ce (Nb w a w) (0,0,w.Ab.clock,w.Ab.next,w.Ab.Ac,w.Ae)=some (if (Cv w a).2.2.2=true then .inr (Jt (Ag.mk (Lk w a) w.Aa (Cv w a).2.2.1 w.Ai)) else .inl (((Cv w a).1:Int),w.Ab.clock,w.Ab.next,(Cv w a).2.1,(Cv w a).2.2.1)) at l1
 change Ce (Lh a w.Ab.Ac) (0,w.Ab.clock,w.Ab.next,w.Ab.Ac,w.Aa,w.Ae,w.Ai,a.kind,a.id,a.ttl,a.Fd,a.clock,a.Cp,a.stop,0)=some (if (Cv w a).2.2.2=true then .inr (Jt (Ag.mk (Lk w a) w.Aa (Cv w a).2.2.1 w.Ai),Am.mk 15 0) else .inl (w.Ab.clock,w.Ab.next,(Cv w a).2.1,w.Aa,(Cv w a).2.2.1,w.Ai,a.kind,a.id,a.ttl,a.Fd,a.clock,a.Cp,a.stop,((Cv w a).1:Int))) at l2
 change Gr (Lk w a) at l3
 change Cx (Cv w a).2.2.1 1 (w.Ab.next-1) at l4
 change (Cv w a).1≤w.Ab.Ac.length at l5
 change (Cv w a).2.2.2=false→a.stop=2→(Cv w a).1=0 at l6
 obtain ⟨p1,p2⟩:=oJ a (M:=w.Ab.next-1) (by omega) (by omega) w.Ab.Ac 0 w.Ab.Ac w.Ae hr.acc
 change ∀y∈(Cv w a).2.1,y∈w.Ab.Ac at p1
 change ∀y∈(Cv w a).2.2.1,y∈w.Ae∧((∃z∈w.Ab.Ac,z.id=y)→∃z∈(Cv w a).2.1,z.id=y) at p2
 have rA:∀s,Ec (Ag.mk (Lk w a) w.Aa (Cv w a).2.2.1 s):=fun s=>⟨l3.1,hr.i40,l4,hr.its,fun i hi y hy=>hr.off i hi y (p1 y hy),fun x hx=>by
  rcases hr.nam x (p2 x hx).1 with h1 | h1
  ·exact .inl ((p2 x hx).2 h1)
  ·exact .inr h1⟩
 by_cases hb:(Cv w a).2.2.2=true
 ·have e:Fx w a=(Jt (Ag.mk (Lk w a) w.Aa (Cv w a).2.2.1 w.Ai),true):=by unfold Fx; rw [if_pos hb]
  rw [if_pos hb] at l1 l2
  rw [e]
  refine ⟨?_,?_,Tn (rA _),l3,fun _=>(Xh (rA w.Ai) l3).und,fun _=>rfl,fun h=>by cases h⟩
  ·simp only [qJ,Sc (v:=w) (by omega) (by omega) (by have:=hr.a; omega),Option.bind_some,l1]
  ·simp only [l2,Option.bind_some]
   rfl
 ·rw [if_neg hb] at l1 l2
  have hb':(Cv w a).2.2.2=false:=by simpa using hb
  obtain ⟨m1,m2,m3⟩:=oF w a (Lk w a) l3.1 (by omega) rfl w.Aa.length 0 (Cv w a).1 w.Aa (Cv w a).2.2.1 (by omega) (by omega) (by omega) l4 (l6 hb')
  simp only [List.drop_zero] at m1 m2 m3
  change Ce (Kl w a w (Lk w a).clock (Lk w a).next (Lk w a).Ac) (((Cv w a).1:Int),0,w.Aa,(Cv w a).2.2.1)=some (if (Eh w a).2.2.2=true then .inr (Jt (Ag.mk (Lk w a) (Eh w a).2.1 (Eh w a).2.2.1 w.Ai)) else .inl ((Eh w a).2.1,(Eh w a).2.2.1)) at m1
  change Ce (Jk a w.Aa) (0,(Lk w a).clock,(Lk w a).next,(Lk w a).Ac,w.Aa,(Cv w a).2.2.1,w.Ai,a.kind,a.id,a.ttl,a.Fd,a.clock,a.Cp,a.stop,((Cv w a).1:Int))=some (if (Eh w a).2.2.2=true then .inr (Jt (Ag.mk (Lk w a) (Eh w a).2.1 (Eh w a).2.2.1 w.Ai),Am.mk 15 0) else .inl ((Lk w a).clock,(Lk w a).next,(Lk w a).Ac,(Eh w a).2.1,(Eh w a).2.2.1,w.Ai,a.kind,a.id,a.ttl,a.Fd,a.clock,a.Cp,a.stop,((Eh w a).1:Int))) at m2
  change Cx (Eh w a).2.2.1 1 (w.Ab.next-1) at m3
  obtain ⟨q1,q2⟩:=oG a (M:=w.Ab.next-1) (by omega) (by omega) w.Aa (Cv w a).1 w.Aa (Cv w a).2.2.1 l4
  change (Eh w a).2.1.Sublist w.Aa at q1
  change ∀y∈(Eh w a).2.2.1,y∈(Cv w a).2.2.1∧((∃z∈w.Aa,z.Bb=y)→∃z∈(Eh w a).2.1,z.Bb=y) at q2
  have rB:∀s,Ec (Ag.mk (Lk w a) (Eh w a).2.1 (Eh w a).2.2.1 s):=fun s=>⟨l3.1,Nat.le_trans q1.length_le hr.i40,m3,bK (fun x hx=>hr.its.mem ((q1.map _).mem hx)) ((Xf hr.its).sublist (q1.map _)),fun i hi y hy=>hr.off i (q1.mem hi) y (p1 y hy),fun x hx=>by
   have h1:=q2 x hx
   have h2:=p2 x h1.1
   rcases hr.nam x h2.1 with h3 | h3
   ·exact .inl (h2.2 h3)
   ·exact .inr (h1.2 h3)⟩
  have ec:qW w.Aa=some w.Aa:=uB _ (by omega)
  by_cases hd:(Eh w a).2.2.2=true
  ·have e:Fx w a=(Jt (Ag.mk (Lk w a) (Eh w a).2.1 (Eh w a).2.2.1 w.Ai),true):=by unfold Fx; rw [if_neg hb,if_pos hd]
   rw [if_pos hd] at m1 m2
   rw [e]
   refine ⟨?_,?_,Tn (rB _),l3,fun _=>(Xh (rB w.Ai) l3).und,fun _=>rfl,fun h=>by cases h⟩
   ·simp only [qJ,Sc (v:=w) (by omega) (by omega) (by have:=hr.a; omega),Option.bind_some,l1]
    rw [show Ce (Kl w a w w.Ab.clock w.Ab.next (Cv w a).2.1) (((Cv w a).1:Int),0,w.Aa,(Cv w a).2.2.1)=_ from m1]
    rfl
   ·simp only [l2,Option.bind_some,ec]
    rw [show Ce (Jk a w.Aa) (0,w.Ab.clock,w.Ab.next,(Cv w a).2.1,w.Aa,(Cv w a).2.2.1,w.Ai,a.kind,a.id,a.ttl,a.Fd,a.clock,a.Cp,a.stop,((Cv w a).1:Int))=_ from m2]
    rfl
  ·have e:Fx w a=(Ag.mk (Lk w a) (Eh w a).2.1 (Eh w a).2.2.1 w.Ai,false):=by unfold Fx; rw [if_neg hb,if_neg hd]
   rw [if_neg hd] at m1 m2
   rw [e]
   refine ⟨?_,?_,rB _,l3,fun hu i hi=>hu i (q1.mem hi),(fun h=>by cases h),fun _=>rfl⟩
   ·simp only [qJ,Sc (v:=w) (by omega) (by omega) (by have:=hr.a; omega),Option.bind_some,l1]
    rw [show Ce (Kl w a w w.Ab.clock w.Ab.next (Cv w a).2.1) (((Cv w a).1:Int),0,w.Aa,(Cv w a).2.2.1)=_ from m1]
    rfl
   ·simp only [l2,Option.bind_some,ec]
    rw [show Ce (Jk a w.Aa) (0,w.Ab.clock,w.Ab.next,(Cv w a).2.1,w.Aa,(Cv w a).2.2.1,w.Ai,a.kind,a.id,a.ttl,a.Fd,a.clock,a.Cp,a.stop,((Cv w a).1:Int))=_ from m2]
    rfl
def On (t:Ak) (c:Int):Ak:=Ak.mk (Do t c) t.next (t.Ac.map (Ih (Do t c)))
theorem Xm (t:Ak) (c:Int):(On t c).Ac.map Af.id=t.Ac.map Af.id:=by
 simp only [On,List.map_map]
 apply List.map_congr_left
 intro x _
 simp only [Function.comp,Ih]
 split<;>rfl
def Fk (v:Ag) (a:Aj):Ag:=Ag.mk (On v.Ab a.clock) v.Aa v.Ae v.Ai
noncomputable def Xl (v:Ag) (a:Aj):Ag×Am:=
 if a.stop=1 then (Jt (Fk v a),Am.mk 15 0) else ((Fx (Fk v a) a).1,Am.mk (if (Fx (Fk v a) a).2=true then 15 else 0) 0)
theorem iL {v:Ag} (a:Aj) (hr:Ec v) (hT:Gr v.Ab) (hc:a.clock≤9223372036854775807):Amm v a=some (Xl v a):=by
 have h40:=hr.t
 have hi40:=hr.i40
 obtain ⟨s,e1,_⟩:=g82_eq v.Ab a.clock (by omega)
 have hT2:Gr (On v.Ab a.clock):=Xn hT a.clock hc
 have hr2:Ec (Fk v a):=Ol hr hT2.1 rfl (Xm _ _) _
 have hl2:(On v.Ab a.clock).Ac.length≤40:=hT2.1.2.2.1
 simp only [Amm,e1,Option.bind_some]
 unfold Xl
 by_cases h1:a.stop=1
 ·rw [if_pos (by simp [h1]),if_pos h1]
  rw [show jT (Ag.mk (Ak.mk (Do v.Ab a.clock) v.Ab.next (v.Ab.Ac.map (Ih (Do v.Ab a.clock)))) v.Aa v.Ae v.Ai)=_ from Ru (Fk v a) (by simp only [Fk]; omega)]
  rfl
 ·rw [if_neg (by simpa using h1),if_neg h1]
  rw [show g66 (v.Ab.Ac.map (Ih (Do v.Ab a.clock)))=_ from JI (On v.Ab a.clock).Ac (by omega)]
  exact (Vp a hr2 hT2).2.1
theorem yJ {v:Ag} (a:Aj) (hr:Ec v) (hT:Gr v.Ab) (hc:a.clock≤9223372036854775807):bQ v a (Xl v a):=by
 have hT2:Gr (On v.Ab a.clock):=Xn hT a.clock hc
 have hr2:Ec (Fk v a):=Ol hr hT2.1 rfl (Xm _ _) _
 have lens:∀w:Ag,Ec w→w.Ab.Ac.length≤1048576∧w.Aa.length≤1048576∧w.Ae.length≤1048576:=fun w h=>⟨by have:=h.t; omega,by have:=h.i40; omega,by have:=h.a; omega⟩
 unfold Xl
 split
 ·exact ⟨fun h=>absurd rfl h.2.1,lens _ (Tn hr2),fun _ _=>Xh hr2 hT2⟩
 ·obtain ⟨_,_,s3,s4,s5,_⟩:=Vp a hr2 hT2
  refine ⟨fun h=>?_,lens _ s3,fun hu _=>⟨s3,s4,s5 hu⟩⟩
  exfalso
  simp only at h
  split at h
  ·exact h.2.1 rfl
  ·exact h.1 rfl
theorem kG (k:Int):g56 k 1 6=some (decide (1≤k∧k≤6))∧bI k 1 6=some (decide (1≤k∧k≤6)):=by
 simp only [g56,bI]
 by_cases h1:1≤k<;>by_cases h2:k≤6<;>simp [h1,h2]
theorem sA {v:Ag} (hr:Ec v) (hT:Gr v.Ab) (a:Aj) (hc':a.clock≤9223372036854775807∨a.kind≠4):∃r,ID v a=some r∧fM v a=some r∧bQ v a r:=by
 have h40:=hr.t
 have hi40:=hr.i40
 have ha:=hr.a
 have lens:v.Ab.Ac.length≤1048576∧v.Aa.length≤1048576∧v.Ae.length≤1048576:=⟨by omega,by omega,by omega⟩
 simp only [ID,fM,rM lens.1 lens.2.1 lens.2.2,Sc lens.1 lens.2.1 lens.2.2,kG,fN,Option.bind_some]
 by_cases hk:1≤a.kind∧a.kind≤6
 ·rw [decide_eq_true hk]
  simp only [Bool.not_true,Bool.false_eq_true,if_false]
  by_cases hs:v.Ai=true∧a.kind≠6
  ·have e:(bif v.Ai then (a.kind != 6) else false)=true:=by simp [hs.1,hs.2]
   rw [e]
   exact ⟨_,rfl,rfl,Tm hr hT a _ _⟩
  ·have e:(bif v.Ai then (a.kind != 6) else false)=false:=by
    cases hv:v.Ai
    ·rfl
    ·simp only [cond_true]
     rw [bne_eq_false_iff_eq]
     exact Classical.byContradiction fun h=>hs ⟨hv,h⟩
   rw [e]
   simp only [Bool.false_eq_true,if_false]
   have fin:∀s:Bool,bQ v a (Ag.mk v.Ab v.Aa v.Ae s,Am.mk 0 0):=fun s=>⟨fun h=>absurd rfl h.1,lens,fun hu _=>⟨⟨hr.tab,hr.i40,hr.acc,hr.its,hr.off,hr.nam⟩,hT,hu⟩⟩
   by_cases k1:a.kind=1
   ·obtain ⟨r,x1,x2,x3⟩:=rF (a:=a) hr hT k1
    simp only [show (a.kind==1)=true by simp [k1],if_true]
    rw [x1,x2]
    exact ⟨_,rfl,rfl,x3⟩
   ·simp only [show (a.kind==1)=false by simpa using k1,Bool.false_eq_true,if_false]
    by_cases k2:a.kind=2
    ·obtain ⟨r,u,x1,x2,x5,x6,x3,x4⟩:=rS hr.tab a.id a.ttl
     simp only [show (a.kind==2)=true by simp [k2],if_true]
     rw [x1,x2]
     obtain ⟨x,y1,y2,y3⟩:=iM hr hT a r u x5 x6 x3 x4 (fun hf=>by
      obtain ⟨r',e',t'⟩:=rT hT a.id a.ttl (hf.2.1 k2)
      rw [x1] at e'; cases e'; exact t')
     simp only [Option.bind_some,y1,y2]
     exact ⟨_,rfl,rfl,y3⟩
    ·simp only [show (a.kind==2)=false by simpa using k2,Bool.false_eq_true,if_false]
     by_cases k3:a.kind=3
     ·obtain ⟨r,u,x1,x2,x5,x6,x3,x4⟩:=nW hr.tab a.id
      simp only [show (a.kind==3)=true by simp [k3],if_true]
      rw [x1,x2]
      obtain ⟨x,y1,y2,y3⟩:=iM hr hT a r u x5 x6 x3 x4 (fun hf=>by
       obtain ⟨r',e',t'⟩:=rV hT a.id
       rw [x1] at e'; cases e'; exact t')
      simp only [Option.bind_some,y1,y2]
      exact ⟨_,rfl,rfl,y3⟩
     ·simp only [show (a.kind==3)=false by simpa using k3,Bool.false_eq_true,if_false]
      by_cases k4:a.kind=4
      ·have hc:a.clock≤9223372036854775807:=hc'.resolve_right (fun h=>h k4)
       have hv:v.Ai=false:=by
        cases hv:v.Ai
        ·rfl
        ·exact absurd ⟨hv,by omega⟩ hs
       simp only [show (a.kind==4)=true by simp [k4],if_true]
       rw [iL a hr hT hc]
       obtain ⟨s,e1,_⟩:=g81_eq v.Ab a.clock hr.tab (by omega)
       have hT2:Gr (On v.Ab a.clock):=Xn hT a.clock hc
       have hr2:Ec (Fk v a):=Ol hr hT2.1 rfl (Xm _ _) _
       refine ⟨Xl v a,?_,rfl,yJ a hr hT hc⟩
       simp only [e1,Option.bind_some]
       unfold Xl
       by_cases h1:a.stop=1
       ·rw [if_pos (by simp [h1]),if_pos h1]
        rw [show jN (Ag.mk (Ak.mk (Do v.Ab a.clock) v.Ab.next (v.Ab.Ac.map (Ih (Do v.Ab a.clock)))) v.Aa v.Ae v.Ai)=_ from Rv (Fk v a) (by have:=hr2.t; omega) (by have:=hr2.i40; omega) (by have:=hr2.a; omega)]
        rfl
       ·rw [if_neg (by simpa using h1),if_neg h1]
        obtain ⟨s1,_,s3,s4,s5,s6,s7⟩:=Vp a hr2 hT2
        rw [show qJ (Ag.mk (Ak.mk (Do v.Ab a.clock) v.Ab.next (v.Ab.Ac.map (Ih (Do v.Ab a.clock)))) v.Aa v.Ae v.Ai) a=_ from s1]
        simp only [Option.bind_some,hv,Bool.not_false]
        cases hb:(Fx (Fk v a) a).2
        ·rw [s7 hb,show (Fk v a).Ai=false from hv]
         simp only [cond_false,Bool.false_eq_true,if_false,Im]
         rw [if_neg (by simp)]
         have e2:(Fx (Fk v a) a).1.Ai=false:=(s7 hb).trans hv
         rw [←e2]
        ·rw [s6 hb]
         simp
      ·simp only [show (a.kind==4)=false by simpa using k4,Bool.false_eq_true,if_false]
       by_cases k5:a.kind=5
       ·rw [if_pos (by simp [k5])]
        simp only [Im]
        rw [if_neg (by simp)]
        have:(a.kind==5)=true:=by simp [k5]
        rw [this]
        exact ⟨_,rfl,rfl,fin true⟩
       ·have k6:a.kind=6:=by omega
        rw [if_neg (by simpa using k5),if_pos (by simp [k6])]
        simp only [Im]
        rw [if_neg (by simp)]
        have:(a.kind==5)=false:=by simpa using k5
        rw [this]
        exact ⟨_,rfl,rfl,fin false⟩
 ·rw [decide_eq_false hk]
  simp only [Bool.not_false,if_true]
  exact ⟨_,rfl,rfl,Tm hr hT a _ _⟩
end Go.Ev
end
section
set_option maxHeartbeats 1000000
namespace Go.Ev
abbrev Zj (l:List Int):Prop:=l.length≤3∧∀f∈l,0≤f∧f≤2
def Jd (a:Aj):Prop:=bO a∧Zj a.Cp∧0≤a.stop∧a.stop≤2
theorem Oc:Zj []:=⟨by simp,by simp⟩
theorem gN {s:Bz} {B:Int} (h:Hu s B) (hB:B≤1099511627776):∃l s',IK s=some (l,s')∧Zj l∧Hu s' (B+12):=by
 obtain ⟨v,s1,e1,e2,e3⟩:=Gv (n:=4) h (by omega) (by omega)
 have hv:=e2.2.2 (by omega)
 have hv0:=e2.1
 obtain ⟨q,q1,q2⟩:=Oe (step:=aZ) (fun s=>∃k:Nat,s.2.1=(k:Int)∧k+s.1.length≤3∧(∀f∈s.1,0≤f∧f≤2)∧Hu (Bz.mk s.2.2.1 s.2.2.2.1 s.2.2.2.2) (B+12-3*(k:Int))) (fun s=>s.2.1.toNat)
  (fun r=>Zj r.1∧Hu (Bz.mk r.2.1 r.2.2.1 r.2.2.2) (B+12)) ([],v,s1.code_,s1.at_,s1.Fv) ⟨v.toNat,by simp only; omega,by simp; omega,by simp,e3.mono (by omega)⟩ (by
  rintro ⟨L,_,cd,at_,sd⟩ ⟨k,rfl,hk,hf,hs⟩
  simp only at hk hs hf
  simp only [aZ]
  by_cases h0:0<k
  ·rw [if_pos (decide_eq_true (by omega))]
   obtain ⟨x,s6,x1,x2,x3⟩:=Gv (n:=5) hs (by omega) (by omega)
   simp only [x1,Option.bind_some]
   rw [if_pos (by simp; omega)]
   have hw:IntKind.i64.wrap ((k:Int)-1)=((k-1:Nat):Int):=by rw [wr ⟨by omega,by omega⟩]; omega
   rw [hw]
   refine .inl ⟨_,rfl,⟨k-1,rfl,by simp; omega,fun f hf'=>?_,x3.mono (by omega)⟩,by simp only; omega⟩
   simp only at hf'
   rcases List.mem_append.1 hf' with hf' | hf'
   ·exact hf f hf'
   ·simp only [List.mem_singleton] at hf'; subst hf'
    have hx0:=x2.1
    rw [Int.tmod_eq_emod_of_nonneg hx0]
    omega
  ·rw [if_neg (by simp; omega)]
   exact .inr ⟨_,rfl,⟨by simp only; omega,hf⟩,hs.mono (by omega)⟩)
 simp only [IK,e1,q1,Option.bind_some]
 exact ⟨_,_,rfl,q2⟩
theorem Qr {k i t m c:Int} {f:List Int} {s:Bz} {B:Int} (hs:Hu s B) (hB:B≤1099511627776)
  (h1:k=1→1≤t∧t≤m∧m≤9223372036854775807) (h2:k=2→1≤t∧t≤9223372036854775807) (h4:k=4→c≤9223372036854775807) (hf:Zj f):
  ∃r,Nc k i t m c f s.code_ s.at_ s.Fv=some r∧Jd r.1∧Hu r.2 (B+6):=by
 obtain ⟨x,s6,x1,x2,x3⟩:=Gv (n:=7) (s:=Bz.mk s.code_ s.at_ s.Fv) (B:=B) hs (by omega) (by omega)
 simp only [Nc,IH,x1,Option.bind_some,aW]
 split
 ·obtain ⟨y,s7,y1,y2,y3⟩:=Gv (n:=2) x3 (by omega) (by omega)
  simp only [y1,Option.bind_some]
  have hy0:=y2.1
  have hy2:=y2.2.2 (by omega)
  rw [wr (n:=1+y) ⟨by omega,by omega⟩]
  exact ⟨_,rfl,⟨⟨h1,h2,h4,by have:=hf.1; simp only; omega⟩,hf,by simp only; omega,by simp only; omega⟩,y3.mono (by omega)⟩
 ·exact ⟨_,rfl,⟨⟨h1,h2,h4,by have:=hf.1; simp only; omega⟩,hf,by simp,by simp⟩,x3.mono (by omega)⟩
theorem OH {s:Bz} {B:Int} (h:Hu s B) (hB:B≤109951162777):∃r,AkY s=some r∧Jd r.1∧Hu r.2 (B+60):=by
 obtain ⟨v1,s1,a1,a2,a3⟩:=Gv (n:=9) h (by omega) (by omega)
 obtain ⟨f1,s2,b1,b2,b3⟩:=gN a3 (by omega)
 obtain ⟨v3,s3,c1,c2,c3⟩:=Gv (n:=9) b3 (by omega) (by omega)
 obtain ⟨v4,s4,d1,d2,d3⟩:=Gv (n:=10) c3 (by omega) (by omega)
 have hv1:=a2.2.2 (by omega)
 have hv3:=c2.2.2 (by omega)
 have m:∀ {r:Aj×Bz} {C:Int},Hu r.2 C→C≤B+60→Hu r.2 (B+60):=fun hs hc=>hs.mono hc
 have j2:∀b:Bool,∃r,Sm (v1,s1) (f1,s2) (v3,s3) (v4,s4) b=some r∧Jd r.1∧Hu r.2 (B+60):=by
  intro b
  simp only [Sm]
  split
  ·obtain ⟨x,s5,x1,x2,x3⟩:=Gv (n:=60) d3 (by omega) (by omega)
   obtain ⟨g,s6,y1,y2,y3⟩:=gN x3 (by omega)
   have hx:=x2.2.2 (by omega)
   simp only [x1,y1,Option.bind_some]
   obtain ⟨r,r1,r2,r3⟩:=Qr (k:=4) (i:=0) (t:=0) (m:=0) (c:=x) (f:=g) y3 (by omega) (fun h=>by cases h) (fun h=>by cases h) (fun _=>by omega) y2
   exact ⟨r,r1,r2,r3.mono (by omega)⟩
  ·split
   ·obtain ⟨x,s5,x1,x2,x3⟩:=Gv (n:=4) d3 (by omega) (by omega)
    have hx:=x2.2.2 (by omega)
    have hx0:=x2.1
    obtain ⟨k,rfl⟩:∃k:Nat,x=k:=⟨x.toNat,by omega⟩
    have hk:k<([5,6,6,6]:List Int).length:=by simp; omega
    simp only [x1,Option.bind_some,Int.toNat_natCast]
    rw [Bx hk,List.getElem?_eq_getElem hk]
    simp only [Option.bind_some]
    have hval:([5,6,6,6]:List Int)[k]=5∨([5,6,6,6]:List Int)[k]=6:=by
     have:∀y∈([5,6,6,6]:List Int),y=5∨y=6:=by simp
     exact this _ (List.getElem_mem hk)
    obtain ⟨r,r1,r2,r3⟩:=Qr (k:=([5,6,6,6]:List Int)[k]) (i:=0) (t:=0) (m:=0) (c:=0) (f:=[]) x3 (by omega) (fun h=>by omega) (fun h=>by omega) (fun h=>by omega) Oc
    exact ⟨r,r1,r2,r3.mono (by omega)⟩
   ·have w1':IntKind.i64.wrap (1+v1)=1+v1:=wr ⟨by omega,by omega⟩
    have w2':IntKind.i64.wrap (1+v1+v3)=1+v1+v3:=wr ⟨by omega,by omega⟩
    simp only [w1',w2']
    obtain ⟨r,r1,r2,r3⟩:=Qr (k:=1) (i:=0) (t:=1+v1) (m:=1+v1+v3) (c:=0) (f:=f1) d3 (by omega) (fun _=>by omega) (fun h=>by cases h) (fun h=>by cases h) b2
    exact ⟨r,r1,r2,r3.mono (by omega)⟩
 simp only [AkY,a1,b1,c1,d1,Option.bind_some]
 split
 ·obtain ⟨x,s5,x1,x2,x3⟩:=Gv (n:=9) d3 (by omega) (by omega)
  obtain ⟨y,s6,y1,y2,y3⟩:=Gv (n:=12) x3 (by omega) (by omega)
  have hx:=x2.2.2 (by omega)
  have hy:=y2.2.2 (by omega)
  have w1':IntKind.i64.wrap (1+y)=1+y:=wr ⟨by omega,by omega⟩
  simp only [x1,y1,w1',Option.bind_some]
  obtain ⟨r,r1,r2,r3⟩:=Qr (k:=2) (i:=IntKind.i64.wrap (1+x)) (t:=1+y) (m:=0) (c:=0) (f:=[]) y3 (by omega) (fun h=>by cases h) (fun _=>by omega) (fun h=>by cases h) Oc
  exact ⟨r,r1,r2,r3.mono (by omega)⟩
 ·split
  ·obtain ⟨x,s5,x1,x2,x3⟩:=Gv (n:=9) d3 (by omega) (by omega)
   simp only [x1,Option.bind_some]
   obtain ⟨r,r1,r2,r3⟩:=Qr (k:=3) (i:=IntKind.i64.wrap (1+x)) (t:=0) (m:=0) (c:=0) (f:=[]) x3 (by omega) (fun h=>by cases h) (fun h=>by cases h) (fun h=>by cases h) Oc
   exact ⟨r,r1,r2,r3.mono (by omega)⟩
  ·split
   ·exact j2 _
   ·split
    ·exact j2 _
    ·exact j2 _
theorem zE (code:List UInt8) (hc:code.length≤1048576):∃l,g51 code=some l∧l.length≤120∧∀a∈l,Jd a:=by
 obtain ⟨s0,s1,s2⟩:=JL code hc
 have hw0:IntKind.i64.wrap (((s0.code_.length:Int)).tdiv 12)=((s0.code_.length / 12:Nat):Int):=sdv 12 (by have:=s2.1; omega)
 obtain ⟨r1,p1,p2⟩:∃r1,AkP s0 16=some r1∧(0≤r1∧r1≤16):=by
  simp only [AkP,hw0,Bs]
  have hw1:IntKind.i64.wrap (1+((s0.code_.length / 12:Nat):Int))=1+((s0.code_.length / 12:Nat):Int):=wr ⟨by omega,by have:=s2.1; omega⟩
  rw [hw1]
  exact ⟨_,rfl,by split<;>omega⟩
 have hw2:IntKind.i64.wrap (r1+3)=r1+3:=wr ⟨by omega,by omega⟩
 obtain ⟨v,s3,e1,e2,e3⟩:=Gv (n:=r1+3) s2 (by omega) (by omega)
 have hv:v≤18:=by have:=e2.2.2 (by omega); omega
 have hv0:=e2.1
 have open0:Jd (Aj.mk 6 0 0 0 0 ([]:List Int) 0):=by simp [Jd,bO,Zj]
 obtain ⟨q,q1,q2⟩:=Oe (step:=aS) (fun s=>∃k:Nat,s.2.1=(k:Int)∧k≤18∧s.1.length+2*k≤40∧(∀a∈s.1,Jd a)∧Hu (Bz.mk s.2.2.1 s.2.2.2.1 s.2.2.2.2) (4000-60*(k:Int))) (fun s=>s.2.1.toNat)
  (fun r=>∀a∈r.1,Jd a) ([],v,s3.code_,s3.at_,s3.Fv) ⟨v.toNat,by simp only; omega,by omega,by simp; omega,by simp,e3.mono (by omega)⟩ (by
  rintro ⟨L,_,cd,at_,sd⟩ ⟨k,rfl,hk18,hk,hL,hs⟩
  simp only at hk hs hL
  simp only [aS]
  by_cases h0:0<k
  ·rw [if_pos (decide_eq_true (by omega))]
   obtain ⟨x,x1,x2,x3⟩:=OH hs (by omega)
   simp only [x1,Option.bind_some]
   have hw:IntKind.i64.wrap ((k:Int)-1)=((k-1:Nat):Int):=by rw [wr ⟨by omega,by omega⟩]; omega
   rw [if_pos (by simp; omega)]
   simp only [aR,hw]
   have hL1:∀a∈L++[x.1],Jd a:=fun a ha=>by
    rcases List.mem_append.1 ha with ha | ha
    ·exact hL a ha
    ·simp only [List.mem_singleton] at ha; subst ha; exact x2
   split
   ·rw [if_pos (by simp; omega)]
    refine .inl ⟨_,rfl,⟨k-1,rfl,by omega,by simp; omega,fun a ha=>?_,x3.mono (by omega)⟩,by simp only; omega⟩
    rcases List.mem_append.1 ha with ha | ha
    ·exact hL1 a ha
    ·simp only [List.mem_singleton] at ha; subst ha; exact open0
   ·exact .inl ⟨_,rfl,⟨k-1,rfl,by omega,by simp; omega,hL1,x3.mono (by omega)⟩,by simp only; omega⟩
  ·rw [if_neg (by simp; omega)]
   exact .inr ⟨_,rfl,hL⟩)
 obtain ⟨L,cd,at_,sd⟩:=q
 simp only at q2
 simp only [g51,s1,g103,p1,hw2,e1,q1,Option.bind_some]
 have hmin:∃m:Nat,(if (120:Int)<(L.length:Int) then (120:Int) else (L.length:Int))=(m:Int)∧m≤L.length∧m≤120:=by
  split
  ·exact ⟨120,rfl,by omega,by omega⟩
  ·exact ⟨L.length,rfl,by omega,by omega⟩
 obtain ⟨m,m1,m2,m3⟩:=hmin
 have hs:=Tz L 0 m (by omega) m2
 rw [show ((0:Nat):Int)=0 from rfl] at hs
 rw [m1,hs]
 simp only [Option.bind_some]
 exact ⟨_,rfl,by simp; omega,fun a ha=>q2 a (List.mem_of_mem_take (List.mem_of_mem_drop ha))⟩
theorem rE {a:Aj} (h:Zj a.Cp∧0≤a.stop∧a.stop≤2):AkL a=some true:=by
 obtain ⟨⟨h1,h2⟩,h3,h4⟩:=h
 have e:∀x,0≤x∧x≤2→g56 x 0 2=some true:=fun x hx=>by simp [g56,hx.1,hx.2]
 have h:=Cz (step:=Sg a) (fun k=>(k:Int)) a.Cp.length (.inl ()) (fun k hk=>by
  simp only [Sg]
  rw [if_pos (decide_eq_true (by omega)),Bx hk]
  simp only [Option.bind_some,e _ (h2 _ (List.getElem_mem hk)),w1 (show k<4611686018427387904 by omega)]
  rfl) (by
  simp only [Sg]
  rw [if_neg (by simp)])
 have h':Ce (Sg a) 0=some (.inl ()):=h
 simp only [AkL]
 rw [decide_eq_false (show ¬(a.Cp.length:Int)>4096 by omega),e _ ⟨h3,h4⟩,h']
 rfl
theorem Vb {a:Aj} (h:Zj a.Cp∧0≤a.stop∧a.stop≤2):xB a=some true:=by
 obtain ⟨⟨h1,h2⟩,h3,h4⟩:=h
 have e:∀x,0≤x∧x≤2→bI x 0 2=some true:=fun x hx=>by simp [bI,hx.1,hx.2]
 have h:=JM a.Cp (fun z=>g88 z) (fun _=>true) (fun x hx=>by simp [g88,e x (h2 x hx)]) (by omega)
 have ha:a.Cp.all (fun _=>true)=true:=by simp
 simp only [xB,g87,Option.bind_some,h,e _ ⟨h3,h4⟩,ha]
 rw [decide_eq_true (show (a.Cp.length:Int)≤4096 by omega)]
 rfl
theorem inv0:yX (Ag.mk (Ak.mk 0 1 []) [] [] false):=by
 have tab0:Gr (Ak.mk 0 1 []):=⟨⟨by simp,⟨by simp,by simp⟩,by simp,fun k x hx=>by simp at hx⟩,by simp,by simp⟩
 exact ⟨⟨tab0.1,by simp,fun k x hx=>by simp at hx,fun k x hx=>by simp at hx,by simp,by simp⟩,tab0,by simp⟩
end Go.Ev
end
section
set_option maxHeartbeats 1000000
namespace Go.Ev
theorem tK:∀j:Fin 16,dv (Tv[j.val]'j.isLt)=(j.val:Int):=by decide
theorem AkH:∀i j:Fin 16,i.val<j.val→Tv[i.val]'i.isLt<Tv[j.val]'j.isLt:=by decide
theorem and15 (M:Nat) (h:M<9223372036854775808):Ym .i64 (M:Int) 15=((M%16:Nat):Int):=by
 unfold Ym
 have b1:(BitVec.ofInt IntKind.i64.bits (M:Int)).toNat=M:=by
  have:IntKind.i64.bits=64:=rfl
  rw [this,BitVec.ofInt_natCast,BitVec.toNat_ofNat]
  exact Nat.mod_eq_of_lt (by omega)
 have b2:(BitVec.ofInt IntKind.i64.bits 15).toNat=15:=by decide
 rw [BitVec.toNat_and,b1,b2]
 have h2:M &&& 15=M%16:=Nat.and_two_pow_sub_one_eq_mod M 4
 rw [h2]
 exact wr ⟨by omega,by omega⟩
theorem shr_at (N:Nat) (h:N<9223372036854775808) (i:Nat) (hi:i<16):Kc .i64 (N:Int) (60-4*(i:Int))=((N / 16^(15-i):Nat):Int):=by
 have e1:min (60-4*(i:Int)).toNat 64=4*(15-i):=by omega
 have e2:(2:Int)^(4*(15-i))=((16^(15-i):Nat):Int):=by
  rw [Int.pow_mul]
  simp
 have hle:N / 16^(15-i)≤N:=Nat.div_le_self _ _
 simp only [Kc,e1,e2]
 rw [Int.fdiv_eq_ediv_of_nonneg _ (Int.natCast_nonneg _),←Int.natCast_ediv]
theorem hx_at (N:Nat) (h:N<9223372036854775808) (i:Nat) (hi:i<16):hx (Kc .i64 (N:Int) (60-4*(i:Int)))=Tv[N / 16^(15-i)%16]'(Nat.mod_lt _ (by decide)):=by
 have hle:N / 16^(15-i)≤N:=Nat.div_le_self _ _
 unfold hx
 rw [shr_at N h i hi,and15 _ (by omega),Int.toNat_natCast,List.getElem?_eq_getElem (Nat.mod_lt _ (by decide):N / 16^(15-i)%16<Tv.length)]
 rfl
theorem nZ (N:Nat) (h:N<9223372036854775808) (i:Nat) (hi:i<(Cl (N:Int)).length):(Cl (N:Int))[i]=Tv[N / 16^(15-i)%16]'(Nat.mod_lt _ (by decide)):=by
 have hi16:i<16:=by simpa [Dt] using hi
 simp only [Cl,List.getElem_map,List.getElem_range]
 exact hx_at N h i hi16
theorem eP (N:Nat) (h:N<9223372036854775808) (i:Nat) (hi:i<(Cl (N:Int)).length):dv (Cl (N:Int))[i]=((N / 16^(15-i)%16:Nat):Int):=by
 rw [nZ N h i hi]
 exact tK ⟨N / 16^(15-i)%16,Nat.mod_lt _ (by decide)⟩
theorem kX (N:Nat) (h:N<9223372036854775808):fC (Cl (N:Int)):=by
 refine ⟨Dt _,fun k hk=>?_,fun h0=>?_⟩
 ·rw [eP N h k hk]; omega
 ·rw [eP N h 0 h0]
  have:N / 16^(15-0)<8:=by
   rw [Nat.div_lt_iff_lt_mul (by decide)]
   have:(8*16^(15-0):Nat)=9223372036854775808:=by decide
   omega
  omega
theorem oA (N:Nat) (h:N<9223372036854775808):Ju (Cl (N:Int))=N:=by
 have key:∀k,k≤16→Ju ((List.range k).map fun i:Nat=>hx (Kc .i64 (N:Int) (60-4*(i:Int))))=N / 16^(16-k):=by
  intro k
  induction k with
  | zero=>
   intro _
   have:N / 16^(16-0)=0:=Nat.div_eq_of_lt (by
    have:(16^(16-0):Nat)=18446744073709551616:=by decide
    omega)
   rw [this]
   rfl
  | succ k ih=>
   intro hk
   rw [Rt,Ze,ih (by omega),hx_at N h k (by omega)]
   have e:=tK ⟨N / 16^(15-k)%16,Nat.mod_lt _ (by decide)⟩
   simp only at e
   rw [e,Int.toNat_natCast]
   have e2:N / 16^(16-k)=N / 16^(15-k) / 16:=by
    rw [Nat.div_div_eq_div_mul,←Nat.pow_succ]
    congr 2; omega
   rw [e2,show 16-(k+1)=15-k by omega]
   omega
 have:=key 16 (Nat.le_refl _)
 simpa [Cl] using this
theorem dB {n:Int} (h:0≤n∧n≤9223372036854775807):fC (Cl n)∧(Ju (Cl n):Int)=n:=by
 obtain ⟨N,rfl⟩:=Int.eq_ofNat_of_zero_le h.1
 exact ⟨kX N (by omega),by rw [oA N (by omega)]⟩
theorem mZ (p a b:List UInt8):Op.bytesLess (p++a) (p++b)=Op.bytesLess a b:=by
 induction p with
 | nil=>rfl
 | cons x p ih=>
  simp only [List.cons_append,Op.bytesLess,ih]
  have:decide (x<x)=false:=decide_eq_false (UInt8.lt_irrefl x)
  simp [this]
theorem valF (l:List UInt8):∀a:Nat,l.foldl (fun n y=>n*16+(dv y).toNat) a=a*16^l.length+Ju l:=by
 induction l with
 | nil=>intro a; simp [Ju]
 | cons x l ih=>
  intro a
  simp only [List.foldl_cons,Ju,List.length_cons]
  rw [ih,ih (0*16+(dv x).toNat),Nat.pow_succ]
  simp only [Nat.zero_mul,Nat.zero_add]
  rw [Nat.add_mul,Nat.mul_assoc,Nat.mul_comm 16 (16^l.length),Nat.add_assoc]
theorem valC (x:UInt8) (l:List UInt8):Ju (x::l)=(dv x).toNat*16^l.length+Ju l:=by
 have:=valF l (dv x).toNat
 simpa [Ju] using this
theorem valT (l:List UInt8):Ju l<16^l.length:=by
 induction l with
 | nil=>simp [Ju]
 | cons x l ih=>
  rw [valC,List.length_cons,Nat.pow_succ]
  have:=tL x
  have h1:(dv x).toNat≤15:=by omega
  have h2:=Nat.mul_le_mul_right (16^l.length) h1
  omega
theorem HS {y:UInt8} (h:0≤dv y):∃j:Fin 16,y=Tv[j.val]'j.isLt∧dv y=(j.val:Int):=by
 have:=tL y
 have hk:(dv y).toNat<16:=by omega
 refine ⟨⟨(dv y).toNat,hk⟩,?_,by simp only; omega⟩
 have e:=HT y (dv y).toNat hk
 rw [decide_eq_true (show dv y=(((dv y).toNat:Nat):Int) by omega),beq_iff_eq] at e
 exact e.symm
theorem KD:∀(l1 l2:List UInt8),l1.length=l2.length→(∀y∈l1,0≤dv y)→(∀y∈l2,0≤dv y)→Ju l1<Ju l2→Op.bytesLess l1 l2=true:=by
 intro l1
 induction l1 with
 | nil=>
  intro l2 hl _ _ hv
  have:l2=[]:=List.eq_nil_of_length_eq_zero (by simpa using hl.symm)
  subst this
  simp [Ju] at hv
 | cons x l1 ih=>
  intro l2 hl h1 h2 hv
  cases l2 with
  | nil=>simp at hl
  | cons y l2=>
   have hl':l1.length=l2.length:=by simpa using hl
   obtain ⟨i,ei,di⟩:=HS (h1 x List.mem_cons_self)
   obtain ⟨j,ej,dj⟩:=HS (h2 y List.mem_cons_self)
   rw [valC,valC,hl',di,dj,Int.toNat_natCast,Int.toNat_natCast] at hv
   have b1:=valT l1
   have b2:=valT l2
   rw [hl'] at b1
   simp only [Op.bytesLess]
   rcases Nat.lt_trichotomy i.val j.val with hij | hij | hij
   ·have:x<y:=by rw [ei,ej]; exact AkH i j hij
    rw [decide_eq_true this]
    rfl
   ·have hxy:x=y:=by
     rw [ei,ej]
     congr 1
    rw [hij] at hv
    have:=ih l2 hl' (fun z hz=>h1 z (List.mem_cons_of_mem _ hz)) (fun z hz=>h2 z (List.mem_cons_of_mem _ hz)) (by omega)
    subst hxy
    simp [this]
   ·exfalso
    have h3:=Nat.mul_le_mul_right (16^l2.length) (show j.val+1≤i.val from hij)
    rw [Nat.add_mul,Nat.one_mul] at h3
    omega
theorem KC {a b:Int} (ha:0≤a) (hab:a<b) (hb:b≤9223372036854775807):Op.bytesLess (Cl a) (Cl b)=true:=by
 obtain ⟨g1,v1⟩:=dB (n:=a) ⟨ha,by omega⟩
 obtain ⟨g2,v2⟩:=dB (n:=b) ⟨by omega,hb⟩
 have all:∀ {s:List UInt8},fC s→∀y∈s,0≤dv y:=fun g y hy=>by
  obtain ⟨k,hk,rfl⟩:=List.getElem_of_mem hy
  exact g.2.1 k hk
 exact KD _ _ (by rw [g1.1,g2.1]) (all g1) (all g2) (by omega)
def uL (a b:Bd):Prop:=Op.bytesLess a.key b.key=true
theorem Pj {v:Ag} (h:Ec v):(Cc v).Pairwise uL:=by
 have hn:=h.tab.2.1
 unfold Cc
 rw [List.pairwise_append,List.pairwise_append]
 refine ⟨⟨?_,?_,fun x hx y hy=>?_⟩,List.pairwise_singleton _ _,fun x hx y hy=>?_⟩
 ·rw [List.pairwise_map]
  have:=Xf h.its
  rw [List.pairwise_map] at this
  refine this.imp_of_mem fun {a b} ha hb hab=>?_
  have m1:=h.its.mem (List.mem_map_of_mem ha)
  have m2:=h.its.mem (List.mem_map_of_mem hb)
  unfold uL Me
  rw [mZ]
  exact KC (by omega) hab (by omega)
 ·rw [List.pairwise_map,List.pairwise_iff_getElem]
  intro i j hi hj hij
  have m1:=(h.tab.at hi).1
  have m2:=(h.tab.at hj).1
  have:=h.tab.lt hj hij
  unfold uL Nf
  rw [mZ]
  exact KC (by omega) this (by omega)
 ·obtain ⟨a,_,rfl⟩:=List.mem_map.1 hx
  obtain ⟨b,_,rfl⟩:=List.mem_map.1 hy
  rfl
 ·simp only [List.mem_singleton] at hy
  subst hy
  rcases List.mem_append.1 hx with hx | hx
  ·obtain ⟨a,_,rfl⟩:=List.mem_map.1 hx
   rfl
  ·obtain ⟨a,_,rfl⟩:=List.mem_map.1 hx
   rfl
theorem iF {v:Ag} {x:Bd} (hx:x∈Cc v):Mx x=true:=by
 have hw:∀(b:Bool) (x y:List UInt8),x.length≤8→y.length≤8→(if b=true then x else y).length≤8:=fun b x y h1 h2=>Rw b h1 h2
 unfold Cc at hx
 unfold Mx
 rw [Bool.and_eq_true,decide_eq_true_eq,decide_eq_true_eq]
 rcases List.mem_append.1 hx with hx | hx
 ·rcases List.mem_append.1 hx with hx | hx
  ·obtain ⟨a,_,rfl⟩:=List.mem_map.1 hx
   have:=hw a.Ij wUndo MM (by decide) (by decide)
   simp only [Me,List.length_append,Dt,List.length_cons,List.length_nil]
   omega
  ·obtain ⟨a,_,rfl⟩:=List.mem_map.1 hx
   have:=hw a.Cg Xp oT (by decide) (by decide)
   simp only [Nf,List.length_append,Dt,List.length_cons,List.length_nil]
   omega
 ·simp only [List.mem_singleton] at hx
  subst hx
  have:=hw v.Ai Xq oU (by decide) (by decide)
  simp only [Uh,List.length_append,Dt,List.length_cons,List.length_nil]
  omega
theorem nR {v:Ag} (h:Ec v):Alx (Cc v)=some true:=by
 have hl:=iG v (Mn h)
 have hs:=sC (Cc v) (by omega)
 have hall:(List.range (Cc v).length).all (Ko (Cc v))=true:=by
  rw [List.all_eq_true]
  intro k hk
  rw [List.mem_range] at hk
  have hp:=Pj h
  rw [List.pairwise_iff_getElem] at hp
  simp only [Ko,List.getElem?_eq_getElem hk,Option.getD_some,iF (List.getElem_mem hk),Bool.true_and]
  by_cases h0:k=0
  ·simp [h0]
  ·rw [decide_eq_false h0,Bool.false_or,List.getElem?_eq_getElem (show k-1<(Cc v).length by omega)]
   exact hp (k-1) k (by omega) hk (by omega)
 rw [hall] at hs
 unfold Alx
 cases hx:Ce (Ss (Cc v)) 0 with
 | none=>rw [hx] at hs; cases hs
 | some r=>
  rw [hx] at hs
  simp only [Option.bind_some] at hs ⊢
  cases r with
  | inl u=>simp only [Option.some.injEq,decide_eq_true_eq]; omega
  | inr q=>simpa using hs
theorem LQ {n:Int} (h:0≤n∧n≤9223372036854775807):fL (Cl n)=some (n,[],true):=by
 obtain ⟨g,e⟩:=dB h
 have e1:(Cl n).take 16=Cl n:=List.take_of_length_le (by rw [Dt]; omega)
 have e2:(Cl n).drop 16=[]:=List.drop_eq_nil_of_le (by rw [Dt]; omega)
 rw [(Yz (Cl n) (by rw [Dt]; omega)).1 (by rw [e1]; exact g),e1,e2,e]
theorem iK {a b:Int} (ha:0≤a∧a≤9223372036854775807) (hb:0≤b∧b≤9223372036854775807) (w x y:List UInt8) (hw:w.length≤8):
  mQ ((Cl a++Cl b)++w) x y=some (a,b,w==x,bif (w==x) then true else (w==y)):=by
 obtain ⟨g1,e1⟩:=dB ha
 obtain ⟨g2,e2⟩:=dB hb
 have l1:=Dt a
 have l2:=Dt b
 have t1:((Cl a++Cl b)++w).take 16=Cl a:=by rw [List.append_assoc,List.take_append_of_le_length (by omega),List.take_of_length_le (by omega)]
 have d1:((Cl a++Cl b)++w).drop 16=Cl b++w:=by
  rw [List.append_assoc,show 16=(Cl a).length from l1.symm,List.drop_left]
 have t2:(((Cl a++Cl b)++w).drop 16).take 16=Cl b:=by rw [d1,List.take_append_of_le_length (by omega),List.take_of_length_le (by omega)]
 have d2:((Cl a++Cl b)++w).drop 32=w:=by
  rw [show 32=(Cl a++Cl b).length by simp [l1,l2],List.drop_left]
 have:=two_yes (a:=(Cl a++Cl b)++w) x y (by simp [l1,l2]; omega) ⟨by rw [t1]; exact g1,by rw [t2]; exact g2⟩
 rw [this,t1,t2,d2,e1,e2]
theorem take_i (w:Ag) (x:Ad) (hx:0≤x.Bb∧x.Bb≤9223372036854775807) (hl:w.Aa.length≤1000):fK w (Me x)=some (true,Ag.mk w.Ab (w.Aa++[x]) w.Ae w.Ai):=by
 have c1:aI (Me x).key Pq=some (Cl x.Bb,true):=by
  have:=tI (s:=(Me x).key) (w:=Pq) (by simp [Me])
  rw [this]
  simp [Me]
 simp only [fK,c1,Option.bind_some,if_true,LQ hx,Bs]
 rw [if_pos (by simp; omega)]
 have e1:((Me x).value==([117,110,100,111]:List UInt8))=x.Ij:=by
  unfold Me; cases x.Ij<;>rfl
 have e2:(bif x.Ij then true else ((Me x).value==([98,101,103,117,110]:List UInt8)))=true:=by
  unfold Me; cases x.Ij<;>rfl
 rw [e1,e2]
 rfl
theorem take_l (w:Ag) (x:Af) (h1:0≤x.id∧x.id≤9223372036854775807) (h2:0≤x.Bn∧x.Bn≤9223372036854775807) (h3:0≤x.cap∧x.cap≤9223372036854775807) (hl:w.Ab.Ac.length≤1000):
  fK w (Nf x)=some (true,Ag.mk (Ak.mk w.Ab.clock w.Ab.next (w.Ab.Ac++[x])) w.Aa w.Ae w.Ai):=by
 have c0:aI (Nf x).key Pq=some ((Nf x).key,false):=qD (by
  intro h
  have:=congrArg List.head? h
  simp [Nf] at this)
 have c1:aI (Nf x).key Zg=some (Cl x.id,true):=by
  have:=tI (s:=(Nf x).key) (w:=Zg) (by simp [Nf])
  rw [this]
  simp [Nf]
 have hw:(if x.Cg=true then Xp else oT).length≤8:=Rw _ (by decide) (by decide)
 have r2:=iK h2 h3 (if x.Cg=true then Xp else oT) Xp oT hw
 have r2':mQ (Nf x).value ([113,117,101,117,101,100]:List UInt8) ([108,105,118,101]:List UInt8)=some (x.Bn,x.cap,x.Cg,true):=by
  refine r2.trans ?_
  cases x.Cg<;>rfl
 simp only [fK,c0,c1,Option.bind_some,if_true,LQ h1,r2',Bs,Bool.false_eq_true,if_false]
 rw [if_pos (by simp; omega)]
 rfl
theorem take_v (w v:Ag) (h1:0≤v.Ab.clock∧v.Ab.clock≤9223372036854775807) (h2:0≤v.Ab.next∧v.Ab.next≤9223372036854775807):
  fK w (Uh v)=some (true,Ag.mk (Ak.mk v.Ab.clock v.Ab.next w.Ab.Ac) w.Aa w.Ae v.Ai):=by
 have c0:aI (Uh v).key Pq=some ((Uh v).key,false):=qD (show ¬sK.take Pq.length=Pq by decide)
 have c1:aI (Uh v).key Zg=some ((Uh v).key,false):=qD (show ¬sK.take Zg.length=Zg by decide)
 have hw:(if v.Ai=true then Xq else oU).length≤8:=Rw _ (by decide) (by decide)
 have r2:=iK h1 h2 (if v.Ai=true then Xq else oU) Xq oU hw
 have r2':mQ (Uh v).value ([115,101,97,108,101,100]:List UInt8) ([111,112,101,110]:List UInt8)=some (v.Ab.clock,v.Ab.next,v.Ai,true):=by
  refine r2.trans ?_
  cases v.Ai<;>rfl
 have ek:((Uh v).key==([118,97,117,108,116]:List UInt8))=true:=rfl
 simp only [fK,c0,c1,Option.bind_some,r2',Bs,Bool.false_eq_true,if_false,ek,cond_true]
def fB (v:Ag) (k:Nat):Ag:=Ag.mk (if k≤v.Aa.length+v.Ab.Ac.length then Ak.mk 0 0 (v.Ab.Ac.take (k-v.Aa.length)) else v.Ab) (v.Aa.take k) v.Ae (if k≤v.Aa.length+v.Ab.Ac.length then false else v.Ai)
theorem st_step {v:Ag} (h:yX v) (k:Nat) (hk:k<(Cc v).length):fK (fB v k) (Cc v)[k]=some (true,fB v (k+1)):=by
 have hl:(Cc v).length=v.Aa.length+v.Ab.Ac.length+1:=by simp [Cc]; omega
 have h40:=h.right.t
 have hi40:=h.right.i40
 have hn:=h.right.tab.2.1
 by_cases k1:k<v.Aa.length
 ·have e:(Cc v)[k]=Me v.Aa[k]:=by
   simp only [Cc]
   rw [List.getElem_append_left (by simp; omega),List.getElem_append_left (by simp; omega),List.getElem_map]
  have m:=h.right.its.mem (List.mem_map_of_mem (List.getElem_mem k1))
  rw [e,take_i _ _ (by omega) (by simp [fB]; omega)]
  unfold fB
  simp only [if_pos (show k≤v.Aa.length+v.Ab.Ac.length by omega),if_pos (show k+1≤v.Aa.length+v.Ab.Ac.length by omega),show k-v.Aa.length=0 by omega,show k+1-v.Aa.length=0 by omega,List.take_succ_eq_append_getElem k1]
 ·by_cases k2:k<v.Aa.length+v.Ab.Ac.length
  ·have hj:k-v.Aa.length<v.Ab.Ac.length:=by omega
   have e:(Cc v)[k]=Nf v.Ab.Ac[k-v.Aa.length]:=by
    simp only [Cc]
    rw [List.getElem_append_left (by simp; omega),List.getElem_append_right (by simp; omega),List.getElem_map]
    simp only [List.length_map]
   obtain ⟨a1,a2,a3,a4,a5⟩:=h.right.tab.at hj
   have hc:=h.tab.2.2 _ (List.getElem_mem hj)
   rw [e,take_l _ _ (by omega) (by omega) (by omega) (by simp only [fB]; rw [if_pos (by omega)]; simp; omega)]
   unfold fB
   simp only [if_pos (show k≤v.Aa.length+v.Ab.Ac.length by omega),if_pos (show k+1≤v.Aa.length+v.Ab.Ac.length by omega),show k+1-v.Aa.length=(k-v.Aa.length)+1 by omega,List.take_succ_eq_append_getElem hj,List.take_of_length_le (show v.Aa.length≤k by omega),List.take_of_length_le (show v.Aa.length≤k+1 by omega)]
  ·have hk3:k=v.Aa.length+v.Ab.Ac.length:=by omega
   have e:(Cc v)[k]=Uh v:=by
    simp only [Cc]
    rw [List.getElem_append_right (by simp; omega)]
    simp
   have hc:=h.right.tab.1
   have hc2:=h.tab.2.1
   rw [e,take_v _ _ ⟨hc,hc2⟩ (by omega)]
   unfold fB
   simp only [if_pos (show k≤v.Aa.length+v.Ab.Ac.length by omega),if_neg (show ¬k+1≤v.Aa.length+v.Ab.Ac.length by omega),List.take_of_length_le (show v.Aa.length≤k by omega),List.take_of_length_le (show v.Aa.length≤k+1 by omega),List.take_of_length_le (show v.Ab.Ac.length≤k-v.Aa.length by omega)]
theorem xX {v:Ag} (h:yX v):Ali (Cc v) v.Ae=some (v,0):=by
 have hr:=h.right
 have h40:=hr.t
 have hi40:=hr.i40
 have hn:=hr.tab.2.1
 have hl:=iG v (Mn hr)
 have ha80:=(Mn hr).2.2.1
 have hll:(Cc v).length=v.Aa.length+v.Ab.Ac.length+1:=by simp [Cc]; omega
 have hit:=Cz (step:=Sp (Cc v)) (fun k=>((k:Int),(fB v k).Ab.clock,(fB v k).Ab.next,(fB v k).Ab.Ac,(fB v k).Aa,(fB v k).Ae,(fB v k).Ai)) (Cc v).length (.inl (v.Ab.clock,v.Ab.next,v.Ab.Ac,v.Aa,v.Ae,v.Ai)) (fun k hk=>by
  simp only [Sp]
  rw [if_pos (decide_eq_true (by omega)),Bx hk]
  simp only [Option.bind_some]
  rw [show fK (Ag.mk (Ak.mk (fB v k).Ab.clock (fB v k).Ab.next (fB v k).Ab.Ac) (fB v k).Aa (fB v k).Ae (fB v k).Ai) (Cc v)[k]=_ from st_step h k hk]
  simp only [Option.bind_some]
  rw [if_neg (by simp),w1 (show k<4611686018427387904 by omega)]) (by
  simp only [Sp]
  rw [if_neg (by simp)]
  unfold fB
  simp only [if_neg (show ¬(Cc v).length≤v.Aa.length+v.Ab.Ac.length by omega),List.take_of_length_le (show v.Aa.length≤(Cc v).length by omega)])
 have h0:fB v 0=Ag.mk (Ak.mk 0 0 []) [] v.Ae false:=by
  unfold fB
  simp only [if_pos (show 0≤v.Aa.length+v.Ab.Ac.length by omega),Nat.zero_sub,List.take_zero]
 rw [h0] at hit
 have hit':Ce (Sp (Cc v)) (0,0,0,[],[],v.Ae,false)=some (.inl (v.Ab.clock,v.Ab.next,v.Ab.Ac,v.Aa,v.Ae,v.Ai)):=hit
 have e120:fH v.Ae=some v.Ae:=by unfold fH; rw [if_pos (by simp; omega)]
 have e48:g48 (Ag.mk (Ak.mk v.Ab.clock v.Ab.next v.Ab.Ac) v.Aa v.Ae v.Ai)=some true:=by
  have:=dE v (by omega) (by omega) (by omega) (by constructor<;>omega)
  rw [Kg (Mn hr)] at this
  exact this
 simp only [Ali,g321,g87,Option.bind_some]
 rw [decide_eq_true (show ((Cc v).length:Int)≤4096 by omega),decide_eq_true (show (v.Ae.length:Int)≤4096 by omega)]
 simp only [Bool.not_true,beq_self_eq_true,if_true,Option.bind_some,cond_false,Bool.false_eq_true,if_false,nR hr,e120,hit',e48]
theorem rX (t:Ak) (h:t.Ac.length≤1048576):g41 t t=some true:=by
 have hh:=To t.Ac (step:=cR t t) (fun k hk=>by
  simp only [cR]
  rw [if_pos (decide_eq_true (by omega)),Bx hk]
  simp only [Option.bind_some,Bs]
  rw [if_neg (by simp),w1 (show k<4611686018427387904 by omega)]) (by
  simp only [cR]
  rw [if_neg (by simp)])
 simp only [g41,Bs]
 rw [if_neg (by simp),hh]
 rfl
theorem yB (l:List Int) (hl:l.length≤1048576):g52 l l=some true:=by
 have h:=To l (step:=cU l l) (fun k hk=>by
  simp only [cU]
  rw [if_pos (decide_eq_true (by omega)),Bx hk]
  simp only [Option.bind_some]
  rw [if_neg (by simp),w1 (show k<4611686018427387904 by omega)]) (by
  simp only [cU]
  rw [if_neg (by simp)])
 unfold g52
 rw [if_neg (by simp),h]
 rfl
theorem rW (l:List Bd) (hl:l.length≤1048576):Alj l l=some true:=by
 have h:=To l (step:=Wf l l) (fun k hk=>by
  simp only [Wf]
  rw [if_pos (decide_eq_true (by omega)),Bx hk]
  simp only [Option.bind_some]
  rw [if_neg (by simp),w1 (show k<4611686018427387904 by omega)]) (by
  simp only [Wf]
  rw [if_neg (by simp)])
 unfold Alj
 rw [if_neg (by simp),h]
 rfl
theorem rY (v:Ag) (h1:v.Ab.Ac.length≤1048576) (h2:v.Aa.length≤1048576) (h3:v.Ae.length≤1048576):IP v v=some true:=by
 have h:=To v.Aa (step:=Wg v v) (fun k hk=>by
  simp only [Wg]
  rw [if_pos (decide_eq_true (by omega)),Bx hk]
  simp only [Option.bind_some]
  rw [if_neg (by simp),w1 (show k<4611686018427387904 by omega)]) (by
  simp only [Wg]
  rw [if_neg (by simp)])
 simp [IP,rX v.Ab h1,yB v.Ae h3,h,Bs]
end Go.Ev
end
section
set_option maxHeartbeats 1000000
namespace Go.Ev
theorem Zf {v:Ag} (hv:Ec v):g48 v=some true:=by
 have h1:=hv.t
 have h2:=hv.i40
 have h3:=hv.a
 have hn:=hv.tab.2.1
 have s2:=dE v (by omega) (by omega) (by omega) ⟨by omega,by omega⟩
 rwa [Kg (Mn hv)] at s2
theorem mG {A:List Int} {M:Int} (hA:Cx A 1 M) (hM:0≤M∧M≤1000000) (x:Int):(Bv A x false 0).2=0∧Cx (Bv A x false 0).1 1 M∧∀y,y∈(Bv A x false 0).1↔y∈A∧y≠x:=by
 have hl:=hA.len hM.1
 obtain ⟨c1,c2,c3,c4⟩:=Lv hA (by omega) x false 0 (fun h=>by cases h)
 rcases c4 with ⟨_,_,h⟩ | ⟨_,e,hm⟩
 ·cases h
 ·exact ⟨e,c3,fun y=>by simpa using hm y⟩
theorem drainL {a:Aj} (hf:∀k,Bf a k=0) (hs:a.stop≠2) {M:Int} (hM:0≤M∧M≤1000000):∀(r:List Af) (c:Nat) (L:List Af) (A:List Int),Cx A 1 M →
  (Dv a r c L A).2.2.2=false∧(∀z∈(Dv a r c L A).2.1,z∈L∧∀x∈r,x.Cg=true→z.id≠x.id)∧(∀y∈(Dv a r c L A).2.2.1,y∈A∧∀x∈r,x.Cg=true→y≠x.id)∧Cx (Dv a r c L A).2.2.1 1 M:=by
 intro r
 induction r with
 | nil=>intro c L A hA; exact ⟨rfl,fun z hz=>⟨hz,fun x hx=>by cases hx⟩,fun y hy=>⟨hy,fun x hx=>by cases hx⟩,hA⟩
 | cons x r ih=>
  intro c L A hA
  by_cases hq:x.Cg=true
  ·obtain ⟨c1,c2,c3⟩:=mG hA hM x.id
   have eR:Dv a (x::r) c L A=Dv a r (c+1) (L.filter (fun y=>y.id != x.id)) (Bv A x.id false 0).1:=by
    simp only [Dv,hq,if_true]
    rw [if_neg hs,hf c,c1]
    rfl
   rw [eR]
   obtain ⟨i1,i2,i3,i4⟩:=ih (c+1) (L.filter (fun y=>y.id != x.id)) _ c2
   refine ⟨i1,fun z hz=>?_,fun y hy=>?_,i4⟩
   ·obtain ⟨j1,j2⟩:=i2 z hz
    obtain ⟨k1,k2⟩:=List.mem_filter.1 j1
    refine ⟨k1,fun w hw hwq=>?_⟩
    rcases List.mem_cons.1 hw with rfl | hw
    ·simpa using k2
    ·exact j2 w hw hwq
   ·obtain ⟨j1,j2⟩:=i3 y hy
    obtain ⟨k1,k2⟩:=(c3 y).1 j1
    refine ⟨k1,fun w hw hwq=>?_⟩
    rcases List.mem_cons.1 hw with rfl | hw
    ·exact k2
    ·exact j2 w hw hwq
  ·have eR:Dv a (x::r) c L A=Dv a r c L A:=by simp only [Dv,hq,if_false]; rfl
   rw [eR]
   obtain ⟨i1,i2,i3,i4⟩:=ih c L A hA
   refine ⟨i1,fun z hz=>⟨(i2 z hz).1,fun w hw hwq=>?_⟩,fun y hy=>⟨(i3 y hy).1,fun w hw hwq=>?_⟩,i4⟩
   ·rcases List.mem_cons.1 hw with rfl | hw
    ·exact absurd hwq hq
    ·exact (i2 z hz).2 w hw hwq
   ·rcases List.mem_cons.1 hw with rfl | hw
    ·exact absurd hwq hq
    ·exact (i3 y hy).2 w hw hwq
theorem drainI {a:Aj} (hf:∀k,Bf a k=0) (hs:a.stop≠2) {M:Int} (hM:0≤M∧M≤1000000):∀(r:List Ad) (c:Nat) (L:List Ad) (A:List Int),Cx A 1 M →
  (Ee a r c L A).2.2.2=false∧(∀z∈(Ee a r c L A).2.1,z∈L∧∀x∈r,x.Ij=true→z.Bb≠x.Bb)∧(∀y∈(Ee a r c L A).2.2.1,y∈A∧∀x∈r,x.Ij=true→y≠x.Bb):=by
 intro r
 induction r with
 | nil=>intro c L A hA; exact ⟨rfl,fun z hz=>⟨hz,fun x hx=>by cases hx⟩,fun y hy=>⟨hy,fun x hx=>by cases hx⟩⟩
 | cons x r ih=>
  intro c L A hA
  by_cases hq:x.Ij=true
  ·obtain ⟨c1,c2,c3⟩:=mG hA hM x.Bb
   have eR:Ee a (x::r) c L A=Ee a r (c+1) (L.filter (fun y=>y.Bb != x.Bb)) (Bv A x.Bb false 0).1:=by
    simp only [Ee,hq,if_true]
    rw [if_neg hs,hf c,c1]
    rfl
   rw [eR]
   obtain ⟨i1,i2,i3⟩:=ih (c+1) (L.filter (fun y=>y.Bb != x.Bb)) _ c2
   refine ⟨i1,fun z hz=>?_,fun y hy=>?_⟩
   ·obtain ⟨j1,j2⟩:=i2 z hz
    obtain ⟨k1,k2⟩:=List.mem_filter.1 j1
    refine ⟨k1,fun w hw hwq=>?_⟩
    rcases List.mem_cons.1 hw with rfl | hw
    ·simpa using k2
    ·exact j2 w hw hwq
   ·obtain ⟨j1,j2⟩:=i3 y hy
    obtain ⟨k1,k2⟩:=(c3 y).1 j1
    refine ⟨k1,fun w hw hwq=>?_⟩
    rcases List.mem_cons.1 hw with rfl | hw
    ·exact k2
    ·exact j2 w hw hwq
  ·have eR:Ee a (x::r) c L A=Ee a r c L A:=by simp only [Ee,hq,if_false]; rfl
   rw [eR]
   obtain ⟨i1,i2,i3⟩:=ih c L A hA
   refine ⟨i1,fun z hz=>⟨(i2 z hz).1,fun w hw hwq=>?_⟩,fun y hy=>⟨(i3 y hy).1,fun w hw hwq=>?_⟩⟩
   ·rcases List.mem_cons.1 hw with rfl | hw
    ·exact absurd hwq hq
    ·exact (i2 z hz).2 w hw hwq
   ·rcases List.mem_cons.1 hw with rfl | hw
    ·exact absurd hwq hq
    ·exact (i3 y hy).2 w hw hwq
abbrev KY:Aj:=Aj.mk 6 0 0 0 0 [] 0
abbrev Gd:Aj:=Aj.mk 4 0 0 0 9223372036854775807 [] 0
def vB (v:Ag):Ag:=Ag.mk v.Ab v.Aa v.Ae false
theorem xV {v:Ag} (h:yX v):qV v KY=some (vB v,Am.mk 0 0,0)∧yX (vB v):=by
 have hr:=h.right
 have h1:=hr.t
 have h2:=hr.i40
 have h3:=hr.a
 have e:fM v KY=some (vB v,Am.mk 0 0):=by
  simp only [fM,rM (v:=v) (by omega) (by omega) (by omega),kG,Option.bind_some]
  cases hs:v.Ai<;>simp [vB]
 have ea:=Vb (a:=KY) ⟨Oc,by decide,by decide⟩
 refine ⟨?_,⟨⟨hr.tab,hr.i40,hr.acc,hr.its,hr.off,hr.nam⟩,h.tab,h.und⟩⟩
 simp only [qV,Zf hr,ea,Option.bind_some,e]
 rfl
theorem HW {v:Ag} (h:yX v) (hs:v.Ai=false):∃t r,qV v Gd=some (Ag.mk (Ak.mk 9223372036854775807 t []) [] [] false,r,0):=by
 have hr:=h.right
 have h1:=hr.t
 have h2:=hr.i40
 have h3:=hr.a
 have hn:=hr.tab.2.1
 have ea:=Vb (a:=Gd) ⟨Oc,by decide,by decide⟩
 have et:=iL Gd hr h.tab (by decide)
 have e:fM v Gd=some (Xl v Gd):=by
  simp only [fM,rM (v:=v) (by omega) (by omega) (by omega),kG,Option.bind_some,hs,et]
  simp
 have hT2:Gr (On v.Ab 9223372036854775807):=Xn h.tab _ (by decide)
 have hr2:Ec (Fk v Gd):=Ol hr hT2.1 rfl (Xm _ _) _
 have hnow:Do v.Ab 9223372036854775807=9223372036854775807:=by
  have:=h.tab.2.1
  unfold Do; split<;>omega
 have hq:∀z∈(On v.Ab 9223372036854775807).Ac,z.Cg=true:=fun z hz=>by
  have ha:=List.getElem_of_mem hz
  obtain ⟨k,hk,rfl⟩:=ha
  cases hb:(On v.Ab 9223372036854775807).Ac[k].Cg with
  | true=>rfl
  | false=>
   exfalso
   have h5:=(hT2.1.at hk).2.2.2.2 hb
   have h4:=(hT2.1.at hk).2.2.2.1
   have h6:=hT2.2.2 _ (List.getElem_mem hk)
   simp only [On,hnow] at h5 h4 h6
   omega
 have hf:∀k,Bf Gd k=0:=fun k=>by simp [Bf]
 obtain ⟨d1,d2,d3,d4⟩:=drainL (a:=Gd) hf (by decide) (M:=v.Ab.next-1) ⟨by omega,by omega⟩ (Fk v Gd).Ab.Ac 0 (Fk v Gd).Ab.Ac v.Ae hr.acc
 change (Cv (Fk v Gd) Gd).2.2.2=false at d1
 change ∀z∈(Cv (Fk v Gd) Gd).2.1,z∈(Fk v Gd).Ab.Ac∧∀x∈(Fk v Gd).Ab.Ac,x.Cg=true→z.id≠x.id at d2
 change ∀y∈(Cv (Fk v Gd) Gd).2.2.1,y∈v.Ae∧∀x∈(Fk v Gd).Ab.Ac,x.Cg=true→y≠x.id at d3
 change Cx (Cv (Fk v Gd) Gd).2.2.1 1 (v.Ab.next-1) at d4
 obtain ⟨f1,f2,f3⟩:=drainI (a:=Gd) hf (by decide) (M:=v.Ab.next-1) ⟨by omega,by omega⟩ v.Aa (Cv (Fk v Gd) Gd).1 v.Aa (Cv (Fk v Gd) Gd).2.2.1 d4
 change (Eh (Fk v Gd) Gd).2.2.2=false at f1
 change ∀z∈(Eh (Fk v Gd) Gd).2.1,z∈v.Aa∧∀x∈v.Aa,x.Ij=true→z.Bb≠x.Bb at f2
 change ∀y∈(Eh (Fk v Gd) Gd).2.2.1,y∈(Cv (Fk v Gd) Gd).2.2.1∧∀x∈v.Aa,x.Ij=true→y≠x.Bb at f3
 have n1:(Cv (Fk v Gd) Gd).2.1=[]:=List.eq_nil_iff_forall_not_mem.2 fun z hz=>by
  obtain ⟨m1,m2⟩:=d2 z hz
  exact m2 z m1 (hq z m1) rfl
 have n2:(Eh (Fk v Gd) Gd).2.1=[]:=List.eq_nil_iff_forall_not_mem.2 fun z hz=>by
  obtain ⟨m1,m2⟩:=f2 z hz
  exact m2 z m1 (h.und z m1) rfl
 have n3:(Eh (Fk v Gd) Gd).2.2.1=[]:=List.eq_nil_iff_forall_not_mem.2 fun y hy=>by
  obtain ⟨m1,m2⟩:=f3 y hy
  obtain ⟨m3,m4⟩:=d3 y m1
  rcases hr2.nam y m3 with ⟨z,hz,e⟩ | ⟨i,hi,e⟩
  ·exact m4 z hz (hq z hz) e.symm
  ·exact m2 i hi (h.und i hi) e.symm
 have ev:Fx (Fk v Gd) Gd=(Ag.mk (Ak.mk 9223372036854775807 v.Ab.next []) [] [] false,false):=by
  unfold Fx Lk
  rw [if_neg (by rw [d1]; decide),if_neg (by rw [f1]; decide),n1,n2,n3]
  simp only [Fk,On,hnow,hs]
 have etv:Xl v Gd=(Ag.mk (Ak.mk 9223372036854775807 v.Ab.next []) [] [] false,Am.mk 0 0):=by
  unfold Xl
  rw [if_neg (by decide),ev]
  rfl
 refine ⟨v.Ab.next,Am.mk 0 0,?_⟩
 simp only [qV,Zf hr,ea,Option.bind_some,e,etv]
 rfl
theorem LE {v:Ag} (h:Ec v):Ame v=some (0,0):=by
 have h1:=h.t
 have h2:=h.i40
 have h3:=h.a
 have hn:=h.tab.2.1
 have e1:=IL v.Ab (by omega) (show I64 v.Ab.next from ⟨by omega,by omega⟩)
 rw [Kg h.tab] at e1
 obtain ⟨q,q1,q2⟩:=oD v (by omega) (by omega) (by omega)
 rw [Kg (Mn h).2.2.2.2.2.2] at q2
 have q3:q.2=false:=by simpa using q2
 have ha80:=(Mn h).2.2.1
 simp only [Ame,e1,g460,g87,q1,Option.bind_some]
 rw [decide_eq_true (show (v.Aa.length:Int)≤4096 by omega),decide_eq_true (show (v.Ae.length:Int)≤4096 by omega)]
 simp [q3]
end Go.Ev
end
section
set_option maxHeartbeats 1000000
namespace Go.Ev
theorem zH {l:List Bd} {c:Ar} (h:∀p∈l,gY p.key c.key=true) (hg:c.Li=false):Ou l c=l++[Bd.mk c.key c.value]:=by
 have hc:Kx l c.key=l.length:=by
  unfold Kx
  clear hg
  induction l with
  | nil=>rfl
  | cons p r ih=>
   rw [List.takeWhile_cons,if_pos (h p (by simp)),List.length_cons,ih fun x hx=>h x (by simp [hx])]
   rfl
 have hh:Tw l c.key=false:=by
  unfold Tw
  rw [hc,List.drop_length]
 unfold Ou
 rw [hc,hh,hg,List.take_length]
 simp
abbrev HK (p:Bd):Ar:=Ar.mk p.key p.value false
abbrev Tt (ps:List Bd):List (List Ar):=ps.map fun p=>[HK p]
theorem Nr {ps:List Bd} (hs:ps.Pairwise uL):∀k,k≤ps.length→Ff (Tt (ps.take k))=ps.take k
 | 0,_=>by simp [Ff]
 | k+1,hk=>by
  have hk':k<ps.length:=hk
  rw [List.take_succ_eq_append_getElem hk',show Tt (ps.take k++[ps[k]])=Tt (ps.take k)++[[HK ps[k]]] by rw [Tt,List.map_append]; rfl,Lj,Nr hs k (by omega)]
  show Ou (ps.take k) (HK ps[k])=_
  rw [zH (fun p hp=>?_) rfl]
  obtain ⟨j,hj,rfl⟩:=List.getElem_of_mem hp
  rw [List.length_take] at hj
  rw [List.getElem_take]
  exact (List.pairwise_iff_getElem.1 hs) j k (by omega) hk' (by omega)
theorem rN {v:Ag} {p:Bd} (h:p∈Cc v):Nk (HK p):=by
 have h1:=iF h
 simp only [Mx,Bool.and_eq_true,decide_eq_true_eq] at h1
 exact ⟨by simp only; omega,by simp only; omega,fun h=>by cases h⟩
theorem gR {v:Ag} (h:Ec v) (hn:(Cc v).length≤100) (k:Nat) (hk:k≤(Cc v).length):Ps (Tt ((Cc v).take k)):=by
 have hr:∀b∈Tt ((Cc v).take k),Qg b:=fun b hb=>by
  obtain ⟨p,hp,rfl⟩:=List.mem_map.1 hb
  exact ⟨by simp,fun c hc=>by rw [List.mem_singleton] at hc; rw [hc]; exact rN (List.mem_of_mem_take hp)⟩
 refine ⟨by simp; omega,hr,fun j hj=>?_,fun q hq=>?_⟩
 ·rw [List.length_map,List.length_take] at hj
  rw [←List.map_take,List.take_take,Nr (Pj h) _ (by omega),List.length_take]
  omega
 ·obtain ⟨b,hb,rfl⟩:=List.mem_map.1 hq
  have h1:=hr b hb
  have h2:=cM b h1.2
  obtain ⟨p,_,rfl⟩:=List.mem_map.1 hb
  simp only [List.length_singleton] at h2
  omega
abbrev Kd:List UInt8:=[0,9,1,2,3]
theorem tG (l:List Aw) (F:List Bool) (b N:List UInt8) (hl:∀s∈l,bT s) (hg:∀s∈l,∀i,32*s.at_.toNat≤i→i<32*s.at_.toNat+32→gt s.data (i-32*s.at_.toNat)=gt N i):
  ∀k,k≤l.length→∃K:Nat→Bool,∀i,gt (jE l F b k) i=if K (i / 32) then gt N i else gt b i
 | 0,_=>⟨fun _=>false,fun i=>by simp [jE]⟩
 | k+1,hk=>by
  have hk':k<l.length:=hk
  obtain ⟨K,ih⟩:=tG l F b N hl hg k (by omega)
  unfold jE
  split
  ·refine ⟨fun s=>decide (s=l[k].at_.toNat) || K s,fun i=>?_⟩
   rw [List.getElem?_eq_getElem hk']
   have hs:=hl _ (List.getElem_mem hk')
   simp only [Option.getD_some]
   rw [JQ _ _ _ _ hs.2]
   by_cases c:32*l[k].at_.toNat≤i∧i<32*l[k].at_.toNat+32
   ·have:i / 32=l[k].at_.toNat:=by omega
    rw [if_pos c,hg _ (List.getElem_mem hk') i c.1 c.2]
    simp [this]
   ·have:i / 32≠l[k].at_.toNat:=by omega
    rw [if_neg c,ih]
    simp [this]
  ·exact ⟨K,ih⟩
theorem HR:∀a b c:Bool,cE [0,9,if a then 1 else 0,if b then 2 else 0,if c then 3 else 0,0,0,0,0,0]≠0:=by decide +kernel
theorem kA (b:List UInt8) (k n:Nat) (h:k+n≤b.length):(b.drop k).take n=(List.range n).map fun i=>gt b (k+i):=by
 apply List.ext_getElem
 ·simp; omega
 ·intro i h1 h2
  simp only [List.length_map,List.length_range] at h2
  simp only [List.getElem_take,List.getElem_drop,List.getElem_map,List.getElem_range]
  unfold gt
  rw [List.getElem?_eq_getElem (by omega)]
  rfl
theorem KR (b:List UInt8) (n:Nat) (a1 a2 a3 a4:Bool) (h0:gt b n=0) (h1:gt b (n+1)=if a1 then 9 else 0) (h2:gt b (n+2)=if a2 then 1 else 0) (h3:gt b (n+3)=if a3 then 2 else 0) (h4:gt b (n+4)=if a4 then 3 else 0)
  (hz:∀i,5≤i→gt b (n+i)=0):kO b n=none:=by
 unfold kO
 by_cases c1:n+2≤b.length
 rotate_left
 ·rw [if_neg c1]
 rw [if_pos c1]
 have e2:(b.drop n).take 2=[0,if a1 then 9 else 0]:=by
  rw [kA b n 2 c1]
  show [gt b (n+0),gt b (n+1)]=_
  rw [Nat.add_zero,h0,h1]
 rw [e2]
 cases a1
 ·rw [if_neg (by simp [Mo])]
 ·have hv:Mo [0,if true=true then (9:UInt8) else 0]=9:=by decide
  rw [hv]
  by_cases c2:n+9+5≤b.length
  rotate_left
  ·rw [if_neg (fun h=>c2 h.2)]
  rw [if_pos ⟨by omega,c2⟩]
  have e3:(b.drop n).take (9+1)=[0,9,if a2 then 1 else 0,if a3 then 2 else 0,if a4 then 3 else 0,0,0,0,0,0]:=by
   rw [kA b n 10 (by omega)]
   show [gt b (n+0),gt b (n+1),gt b (n+2),gt b (n+3),gt b (n+4),gt b (n+5),gt b (n+6),gt b (n+7),gt b (n+8),gt b (n+9)]=_
   rw [Nat.add_zero,h0,h1,h2,h3,h4,hz 5 (by omega),hz 6 (by omega),hz 7 (by omega),hz 8 (by omega),hz 9 (by omega)]
   rfl
  have e4:(b.drop (n+9+1)).take 4=[0,0,0,0]:=by
   rw [kA b (n+9+1) 4 (by omega)]
   show [gt b (n+10+0),gt b (n+10+1),gt b (n+10+2),gt b (n+10+3)]=_
   have z:=fun i=>hz (10+i) (by omega)
   have z0:=z 0; have z1:=z 1; have z2:=z 2; have z3:=z 3
   simp only [←Nat.add_assoc] at z0 z1 z2 z3
   rw [z0,z1,z2,z3]
  rw [e3,e4]
  have h0':Mo [0,0,0,0]=0:=by decide
  rw [h0',if_neg (HR a2 a3 a4)]
theorem yC (L:List (List UInt8)) (R:List UInt8) (hL:∀p∈L,p.length≤2000) (hb:(Aq L).length+R.length≤1048576) (hn:kO (Aq L++R) (Aq L).length=none):
  fJ (Aq L++R)=some (L,(((Aq L).length:Nat):Int)):=by
 have hcount:∀M:List (List UInt8),6*M.length≤(Aq M).length:=by
  intro M
  induction M with
  | nil=>simp [Aq]
  | cons p r ih=>rw [show p::r=[p]++r from rfl,Dd,Fo]; simp; omega
 have hlen:∀k,(Aq (L.take k)).length≤(Aq L).length:=fun k=>by
  conv=>rhs; rw [←List.take_append_drop k L,Dd]
  simp
 have h:=Mf (step:=Km (Aq L++R)) (fun k=>(L.take k,(((Aq (L.take k)).length:Nat):Int))) L.length (fun k hk=>by
  have h1:=hlen k
  have h2:=hcount (L.take k)
  rw [Tp _ (by simp; omega) _ _ (by omega) (by omega)]
  have eb:Aq L++R=Aq (L.take k)++(Ed L[k]++(Aq (L.drop (k+1))++R)):=by
   conv=>lhs; rw [←List.take_append_drop k L,Dd,List.drop_eq_getElem_cons hk,show L[k]::L.drop (k+1)=[L[k]]++L.drop (k+1) from rfl,Dd,Fo]
   simp only [List.append_assoc]
  rw [eb,iE _ _ _ (hL _ (List.getElem_mem hk)),List.take_succ_eq_append_getElem hk,Dd,Fo]
  simp only [List.length_append,frameB_len]
  congr 4)
 have h2:=hcount L
 have he:=Tp (Aq L++R) (by simp; omega) L (Aq L).length (by omega) (by omega)
 rw [hn] at he
 have h':Ce (Km (Aq L++R)) ([],0)=some (L,(((Aq L).length:Nat):Int)):=by
  have h0:Ce (Km (Aq L++R)) ([],0)=Ce (Km (Aq L++R)) (L.take L.length,(((Aq (L.take L.length)).length:Nat):Int)):=h
  rw [h0,List.take_length]
  exact Ea he
 simp only [fJ,h',Option.bind_some]
theorem yK {bs:List (List Ar)} (h:Ps bs) {d:Ay} (hd:Nv (bs.map Fs) d) (F:List Bool) (hF:F.length≤4096) (hc:(Aq (bs.map Fs)).length+5≤4096):
  (Dq d (Aq (bs.map Fs)).length Kd).Av.length≤4096∧∃a,IN (Dq d (Aq (bs.map Fs)).length Kd) F=some (a,0)∧AlH a=some (Ff bs,0):=by
 have hL:=h.short
 generalize hLL:bs.map Fs=L at *
 have hw0:d.Av=[]:=hd.1
 have hwl:(Dq d (Aq L).length Kd).Av.length≤4096:=by
  unfold Dq
  split
  ·simp [hw0]
  ·simp only [List.length_append,Zc,hw0,List.length_nil,List.length_cons]; omega
 refine ⟨hwl,?_⟩
 have hok:=Zh _ hd.ok _ Kd hc hwl
 have hwaiting:(Dq d (Aq L).length Kd).Av=Ja (oZ (Eg d) (Aq L).length Kd) ((Aq L).length / 32) (((Aq L).length+Kd.length-1) / 32+1-(Aq L).length / 32):=by
  unfold Dq
  rw [if_neg (by simp)]
  simp [hw0]
 have hheld:(Dq d (Aq L).length Kd).held=d.held:=by unfold Dq; split<;>rfl
 have hcl:=jF _ F (Dq d (Aq L).length Kd).held hok.2.2.2 hok.1 hok.2.1 _ (Nat.le_refl _)
 have hrb:Eg d=d.held:=hd.read
 have hblen:=hd.2.2.1
 have hbl:(Aq L).length≤d.held.length:=by
  obtain ⟨_,_,_,m,h4⟩:=hd
  rw [h4]; simp
 obtain ⟨_,_,_,mm,hz⟩:=hd
 have hold:∀i,gt d.held i=gt (Aq L) i:=fun i=>by rw [hz,mV]
 have hnew:∀i,gt (oZ d.held (Aq L).length Kd) i=if i<(Aq L).length then gt (Aq L) i else gt Kd (i-(Aq L).length):=fun i=>by
  unfold oZ
  rw [JP _ _ _ (by rw [padB_len]; omega),kB]
  by_cases c:i<(Aq L).length
  ·rw [if_pos c,if_neg (by omega),hold]
  ·rw [if_neg c]
   by_cases c2:i<(Aq L).length+Kd.length
   ·rw [if_pos ⟨by omega,c2⟩]
   ·rw [if_neg (fun hh=>c2 hh.2),hold]
    unfold gt
    rw [List.getElem?_eq_none (by omega),List.getElem?_eq_none (by simp only [List.length_cons,List.length_nil] at c2 ⊢; omega)]
 obtain ⟨K,hK⟩:=tG _ F (Dq d (Aq L).length Kd).held (oZ d.held (Aq L).length Kd) hok.2.2.2 (fun s hs i c1 c2=>by
  rw [hwaiting,hrb] at hs
  simp only [Ja,List.mem_map,List.mem_range'_1] at hs
  obtain ⟨j,⟨hj1,hj2⟩,rfl⟩:=hs
  simp only [Int.toNat_natCast] at c1 c2 ⊢
  rw [JO _ _ _ (by omega)]
  congr 1; omega) _ (Nat.le_refl _)
 have c1:=Ale _ hok F hF
 generalize hcr:jE (Dq d (Aq L).length Kd).Av F (Dq d (Aq L).length Kd).held (Dq d (Aq L).length Kd).Av.length=cr at *
 rw [hheld] at hcl hK
 have hgt:∀i,gt cr i=if i<(Aq L).length then gt (Aq L) i else if K (i / 32) then gt Kd (i-(Aq L).length) else 0:=fun i=>by
  rw [hK,hnew,hold]
  by_cases c:i<(Aq L).length
  ·simp [c]
  ·have:gt (Aq L) i=0:=by unfold gt; rw [List.getElem?_eq_none (by omega)]; rfl
   simp [c,this]
 have hpre:=sF cr (Aq L) (by omega) (fun i hi=>by rw [hgt,if_pos hi])
 have hj:∀i,gt cr ((Aq L).length+i)=if K (((Aq L).length+i) / 32) then gt Kd i else 0:=fun i=>by
  rw [hgt,if_neg (by omega),Nat.add_sub_cancel_left]
 have hno:kO (Aq L++cr.drop (Aq L).length) (Aq L).length=none:=by
  rw [←hpre]
  refine KR cr _ (K (((Aq L).length+1) / 32)) (K (((Aq L).length+2) / 32)) (K (((Aq L).length+3) / 32)) (K (((Aq L).length+4) / 32)) ?_ (hj 1) (hj 2) (hj 3) (hj 4) (fun i hi=>?_)
  ·have:=hj 0
   rw [Nat.add_zero] at this
   rw [this]; split<;>rfl
  ·rw [hj]
   have:gt Kd i=0:=by unfold gt; rw [List.getElem?_eq_none (by simp; omega)]; rfl
   rw [this]; split<;>rfl
 have hsc:=yC L (cr.drop (Aq L).length) hL (by simp; omega) hno
 rw [←hpre] at hsc
 have hcrok:Mq (Ay.mk cr []):=⟨hcl.1,hcl.2.1,by simp,by simp⟩
 have hrd:fI (Ay.mk cr [])=some cr:=Sq _ hcrok
 have hl:=gS h hrd (by rw [hLL]; exact hsc)
 refine ⟨_,c1,?_⟩
 simp only [AlH,So _ hcrok,Option.bind_some,hl]
 rfl
end Go.Ev
end
section
set_option maxHeartbeats 1000000
namespace Go.Ev
theorem oP (acts:List Aj) (hl:acts.length≤120) (h:∀a∈acts,Jd a):∀(n k:Nat) (R:List Am) (v:Ag),k+n=acts.length→R.length=k→yX v →
  ∃R' w,Ce (cT acts) (R,(k:Int),v.Ab.clock,v.Ab.next,v.Ab.Ac,v.Aa,v.Ae,v.Ai)=some (.inl (R',w.Ab.clock,w.Ab.next,w.Ab.Ac,w.Aa,w.Ae,w.Ai)) ∧
   Ce (Wq acts) (R,(k:Int),v.Ab.clock,v.Ab.next,v.Ab.Ac,v.Aa,v.Ae,v.Ai)=some (R',w.Ab.clock,w.Ab.next,w.Ab.Ac,w.Aa,w.Ae,w.Ai)∧yX w
 | 0,k,R,v,hk,hR,hv=>by
  refine ⟨R,v,Ea ?_,Ea ?_,hv⟩
  ·simp only [cT]; rw [if_neg (by simp; omega)]
  ·simp only [Wq]; rw [if_neg (by simp; omega)]
 | n+1,k,R,v,hk,hR,hv=>by
  have hlt:k<acts.length:=by omega
  have ha:=h _ (List.getElem_mem hlt)
  have hcl:acts[k].clock≤9223372036854775807∨acts[k].kind≠4:=by
   by_cases hk:acts[k].kind=4
   ·exact .inl (ha.1.2.2.1 hk)
   ·exact .inr hk
  obtain ⟨r,x1,x2,x3⟩:=sA hv.right hv.tab acts[k] hcl
  obtain ⟨R',w,y1,y2,y3⟩:=oP acts hl h n (k+1) (R++[r.2]) r.1 (by omega) (by simp; omega) (x3.2.2 hv.und ha.1)
  refine ⟨R',w,?_,?_,y3⟩
  ·rw [Dw,y1]
   simp only [cT]
   rw [if_pos (decide_eq_true (by omega)),Bx hlt]
   simp only [Option.bind_some,rE ha.2,Bool.not_true,Bool.false_eq_true,if_false]
   rw [show ID (Ag.mk (Ak.mk v.Ab.clock v.Ab.next v.Ab.Ac) v.Aa v.Ae v.Ai) acts[k]=some r from x1]
   simp only [Option.bind_some]
   rw [if_pos (by simp; omega),w1 (show k<4611686018427387904 by omega)]
  ·rw [Dw,y2]
   simp only [Wq]
   rw [if_pos (decide_eq_true (by omega)),Bx hlt]
   simp only [Option.bind_some]
   rw [show fM (Ag.mk (Ak.mk v.Ab.clock v.Ab.next v.Ab.Ac) v.Aa v.Ae v.Ai) acts[k]=some r from x2]
   simp only [Option.bind_some]
   rw [if_pos (by simp; omega),w1 (show k<4611686018427387904 by omega)]
theorem MI (acts:List Aj) (hl:acts.length≤120) (h:∀a∈acts,Jd a):∃w R,g50 acts=some (w,R,0)∧Amd acts=some (w,R,0)∧yX w:=by
 obtain ⟨R,w,e1,e2,hw⟩:=oP acts hl h acts.length 0 [] (Ag.mk (Ak.mk 0 1 []) [] [] false) (by omega) rfl inv0
 have ec:cP (Ag.mk (Ak.mk w.Ab.clock w.Ab.next w.Ab.Ac) w.Aa w.Ae w.Ai)=some w:=Sc (v:=w) (by have:=hw.right.t; omega) (by have:=hw.right.i40; omega) (by have:=hw.right.a; omega)
 dsimp only at e1 e2
 rw [show ((0:Nat):Int)=0 from rfl] at e1 e2
 refine ⟨w,R,?_,?_,hw⟩
 ·simp only [g50]
  rw [if_neg (by simp; omega),if_neg (by simp; omega),e1]
  simp only [Option.bind_some,ec]
 ·simp only [Amd,g455,Option.bind_some]
  rw [decide_eq_true (show (acts.length:Int)≤4096 by omega),decide_eq_false (show ¬(acts.length:Int)>120 by omega),Amg acts _ (fun _=>true) (fun x hx=>Vb (h x hx).2) (by omega)]
  have ha:acts.all (fun _=>true)=true:=by simp
  simp only [ha,Bool.not_true,Bool.false_eq_true,if_false,Option.bind_some,g458,e2]
theorem wV {L:List (List UInt8)} {d:Ay} (h:Nv L d) (hw:(Aq L).length+5≤4096→(Dq d (Aq L).length Kd).Av.length≤4096):
  wU d (((Aq L).length:Nat):Int) Kd=if (Aq L).length+5≤4096 then some (Dq d (Aq L).length Kd,0) else some (Ay.mk [] [],9):=by
 have hl:=h.len
 by_cases c:(Aq L).length+5≤4096
 ·rw [if_pos c]
  exact Alc d h.ok _ Kd c (hw c)
 ·rw [if_neg c]
  have e1:=tS (Aq L).length Kd.length (by omega) (by simp)
  rw [decide_eq_false (show ¬(Aq L).length+Kd.length≤4096 from c)] at e1
  have e2:qM Kd=some true:=Alk _ (by simp)
  simp only [wU,e2,So d h.ok,Option.bind_some,IQ,e1,Bool.not_true,Bool.not_false,Bool.false_eq_true,if_false,if_true]
theorem sD (L:List (List UInt8)) (n:Int) (hb:(Aq L).length≤4096):Ce (Tc (L,n)) (0,0)=some (((Aq L).length:Nat):Int):=by
 have hlen:∀k,(Aq (L.take k)).length≤(Aq L).length:=fun k=>by
  conv=>rhs; rw [←List.take_append_drop k L,Dd]
  simp
 have hcount:∀M:List (List UInt8),6*M.length≤(Aq M).length:=by
  intro M
  induction M with
  | nil=>simp [Aq]
  | cons p r ih=>rw [show p::r=[p]++r from rfl,Dd,Fo]; simp; omega
 have hc:=hcount L
 have h:=Cz (step:=Tc (L,n)) (fun k=>((((Aq (L.take k)).length:Nat):Int),(k:Int))) L.length (((Aq L).length:Nat):Int) (fun k hk=>by
  have h1:=hlen k
  have h2:=hlen (k+1)
  have e0:(Aq (L.take (k+1))).length=(Aq (L.take k)).length+(L[k].length+6):=by
   rw [List.take_succ_eq_append_getElem hk,Dd,Fo]; simp
  simp only [Tc]
  rw [if_pos (decide_eq_true (by omega)),Bx hk]
  simp only [Option.bind_some,Int.toNat_natCast,List.getElem?_eq_getElem hk]
  have e1:IntKind.i64.wrap ((L[k].length:Int)+6)=((L[k].length+6:Nat):Int):=by rw [wr ⟨by omega,by omega⟩]; omega
  have e2:IntKind.i64.wrap ((((Aq (L.take k)).length:Nat):Int)+((L[k].length+6:Nat):Int))=(((Aq (L.take (k+1))).length:Nat):Int):=by rw [e0,wr ⟨by omega,by omega⟩]; omega
  rw [e1,e2,w1 (show k<4611686018427387904 by omega)]) (by
  simp only [Tc]
  rw [if_neg (by simp),List.take_length])
 simpa [Aq] using h
theorem AkE {v:Ag} (h:Ec v) (hn:(Cc v).length≤100):∃r,Ce (Wp (Cc v,0)) (0,([]:List UInt8),([]:List Aw))=some r ∧
  (r = .inr true∨∃a b,r = .inl (a,b)∧Nv ((Tt (Cc v)).map Fs) (Ay.mk a b)):=by
 generalize hps:Cc v=ps at *
 have hfit:∀k,k≤ps.length→Ps (Tt (ps.take k)):=fun k hk=>by
  have:=gR h (by rw [hps]; exact hn) k (by rw [hps]; exact hk)
  rwa [hps] at this
 obtain ⟨r,r1,r2⟩:=Oe (step:=Wp (ps,0)) (fun s=>∃k:Nat,s.1=(k:Int)∧k≤ps.length∧Nv ((Tt (ps.take k)).map Fs) (Ay.mk s.2.1 s.2.2)) (fun s=>(ps.length-s.1).toNat)
  (fun r=>r = .inr true∨∃a b,r = .inl (a,b)∧Nv ((Tt ps).map Fs) (Ay.mk a b)) (0,([]:List UInt8),([]:List Aw)) ⟨0,rfl,by omega,rfl,by simp,by simp,0,by simp [Aq]⟩ (by
  rintro ⟨_,a,b⟩ ⟨k,rfl,hk,hd⟩
  simp only at hd
  simp only [Wp]
  by_cases h0:k<ps.length
  ·rw [if_pos (decide_eq_true (by omega)),Bx h0]
   simp only [Option.bind_some,Int.toNat_natCast,List.getElem?_eq_getElem h0]
   have e:Tt (ps.take (k+1))=Tt (ps.take k)++[[HK ps[k]]]:=by rw [List.take_succ_eq_append_getElem h0,Tt,List.map_append]; rfl
   have hf:=hfit (k+1) h0
   rw [e] at hf
   rcases IW hf hd with ⟨d',e1,e2⟩ | ⟨d',e1⟩
   ·rw [show qR (Ay.mk a b) [Ar.mk ps[k].key ps[k].value false]=_ from e1]
    simp only [Option.bind_some]
    rw [if_neg (by decide),if_neg (by decide),w1 (show k<4611686018427387904 by omega)]
    refine .inl ⟨_,rfl,⟨k+1,rfl,h0,?_⟩,by simp only; omega⟩
    rw [e]
    exact e2
   ·rw [show qR (Ay.mk a b) [Ar.mk ps[k].key ps[k].value false]=_ from e1]
    simp only [Option.bind_some]
    rw [if_pos (by decide)]
    exact .inr ⟨_,rfl,.inl rfl⟩
  ·rw [if_neg (by simp; omega)]
   have:k=ps.length:=by omega
   subst this
   rw [List.take_length] at hd
   exact .inr ⟨_,rfl,.inr ⟨a,b,rfl,hd⟩⟩)
 exact ⟨r,r1,r2⟩
theorem Iu {α β:Type} {x:Option α} {f:α→Option β} {a:α} {r:Option β} (h:x=some a) (h2:f a=r):x.bind f=r:=by rw [h]; exact h2
theorem pU {α β:Type} {x:α} {f:α→Option β} {r:Option β} (h2:f x=r):Bs x f=r:=h2
theorem ifN {c:Bool} {a b r:Option Bool} (h:c=false) (h2:b=r):(if c=true then a else b)=r:=by rw [h]; exact h2
theorem ifY {c:Bool} {a b r:Option Bool} (h:c=true) (h2:a=r):(if c=true then a else b)=r:=by rw [h]; exact h2
theorem JA (code more:List UInt8) (_:KW Rn code) (_:KW Rn more):g433 code more=some true:=by
 unfold g433
 refine pU ?_
 by_cases h:code.length>1048576∨more.length>1048576
 ·refine ifY ?_ rfl
  rcases h with h | h
  ·rw [decide_eq_true (show (code.length:Int)>1048576 by omega)]; rfl
  ·rw [decide_eq_true (show (more.length:Int)>1048576 by omega)]; cases decide ((code.length:Int)>1048576)<;>rfl
 refine ifN (by rw [decide_eq_false (show ¬(code.length:Int)>1048576 by omega),decide_eq_false (show ¬(more.length:Int)>1048576 by omega)]; rfl) ?_
 obtain ⟨l,l1,l2,l3⟩:=zE code (by omega)
 obtain ⟨v,R,e1,e2,hv⟩:=MI l l2 l3
 have hr:=hv.right
 have h40:=hr.t
 have hi40:=hr.i40
 have hn:=hr.tab.2.1
 have ha:=hr.a
 have s2:=Zf hr
 have p2:Alh v=some (Cc v,0):=by
  simp only [Alh,s2,Option.bind_some,rO v (by omega) (by omega)]
  rfl
 have hpl:(Cc v).length≤100:=by simp [Cc]; omega
 have hsame:=rY v (by omega) (by omega) (by omega)
 refine Iu l1 ?_
 refine Iu e2 ?_
 refine Iu l1 ?_
 refine Iu e1 ?_
 refine Iu p2 ?_
 refine Iu (a:=true) hsame ?_
 refine pU ?_
 refine ifN rfl ?_
 obtain ⟨r,r1,r2⟩:=AkE hr hpl
 refine Iu r1 ?_
 rcases r2 with rfl | ⟨a,b,rfl,hd⟩
 ·rfl
 have hfit:Ps (Tt (Cc v)):=by have:=gR hr hpl (Cc v).length (Nat.le_refl _); rwa [List.take_length] at this
 have hst:Ff (Tt (Cc v))=Cc v:=by have:=Nr (Pj hr) (Cc v).length (Nat.le_refl _); rwa [List.take_length] at this
 refine Iu (IM hd hfit.short) ?_
 refine Iu (sD _ _ hd.len) ?_
 obtain ⟨F,f1,f2⟩:=Alg more (by omega)
 have ht:=fun hc=>yK hfit hd F (by omega) hc
 have hg:=wV hd fun hc=>(ht hc).1
 by_cases c:(Aq ((Tt (Cc v)).map Fs)).length+5≤4096
 rotate_left
 ·rw [if_neg c] at hg
  refine Iu hg ?_
  exact ifY rfl rfl
 rw [if_pos c] at hg
 obtain ⟨_,z,z1,z2⟩:=ht c
 rw [hst] at z2
 have o1:=LE hr
 obtain ⟨o2,o3⟩:=xV hv
 obtain ⟨t,q,o4⟩:=HW o3 rfl
 have hz:=rW (Cc v) (by omega)
 refine Iu hg ?_
 refine ifN rfl ?_
 refine Iu f1 ?_
 refine Iu z1 ?_
 refine Iu z2 ?_
 refine Iu (xX hv) ?_
 refine Iu (a:=true) hz ?_
 refine Iu (a:=true) hsame ?_
 refine pU ?_
 refine ifN rfl ?_
 refine Iu o1 ?_
 refine Iu o2 ?_
 refine Iu o4 ?_
 rfl
end Go.Ev
end
