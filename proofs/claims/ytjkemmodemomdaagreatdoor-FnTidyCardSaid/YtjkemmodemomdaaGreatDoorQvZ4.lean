/- A function's end; the soundness of the small machine. -/
import Derived.Test.YtjkemmodemomdaaGreatDoorQvZ3
set_option linter.all false
namespace Go.Ev
open Go.RowKit
variable {φ:Bz} {m m' m0 m1 m2:M} {w w' w0:World} {A:Fr} {nt:Nat} {S S' S1:St} {a:Act} {P:Program}
def Om (TS:List Nat) (t:Nat):Option Nat:=match TS[t%32]? with
 | some T=>bif Nat.beq t (tg T (t%32)) then some T else none
 | none=>none
theorem Sl {TS:List Nat} {i T:Nat} (h:TS[i]? = some T) (hi:i<32):Om TS (tg T i)=some T:=by
 unfold Om
 rw [Xb T hi,h]
 have:Nat.beq (tg T i) (tg T i)=true:=Nat.beq_refl _
 simp only [this,cond_true]
theorem Qt {TS:List Nat} {t T:Nat} (h:Om TS t=some T):∃i,i<32∧TS[i]? = some T∧t=tg T i:=by
 unfold Om at h
 split at h
 ·rename_i T' hT
  cases hb:Nat.beq t (tg T' (t%32)) with
  | true=>
   rw [hb] at h
   cases h
   exact ⟨_,Nat.mod_lt _ (by decide),hT,Nat.eq_of_beq_eq_true hb⟩
  | false=>rw [hb] at h; cases h
 ·cases h
def Cs (m:M) (TS NB:List Nat):M:=
 ⟨m.A,
  fun k t=>if Au≤t then m.blk k t else if k then (NB[t]?).bind (m.blk true) else (Om TS t).bind (m.blk false),
  fun t j c=>if Au≤t then m.nst t j c else (Om TS t).bind fun T=>m.nst T j c⟩
theorem Oo:∀(l:List V),Bn (Fe l)=true∧∀t∈Fe l,t<Au
 | []=>⟨rfl,by simp [Fe]⟩
 | c::r=>by
  have ih:=Oo r
  cases c with
  | own t off sz es=>
   simp only [Fe]
   split
   ·exact ih
   ·rename_i hc
    simp only [Bool.or_eq_true,decide_eq_true_eq,not_or,Nat.not_le] at hc
    refine ⟨?_,fun x hx=>?_⟩
    ·simp only [Bn,Bool.and_eq_true,ih.1,and_true]
     refine List.all_eq_true.2 fun x hx=>?_
     have:x≠t:=by rintro rfl; exact hc.2 (by simpa using hx)
     simpa using this
    ·rcases List.mem_cons.1 hx with rfl | hx
     ·exact hc.1
     ·exact ih.2 x hx
  | _=>exact ih
theorem Mf:∀(l:List V),Bn (Cw l)=true∧∀t∈Cw l,t<Au
 | []=>⟨rfl,by simp [Cw]⟩
 | c::r=>by
  have ih:=Mf r
  cases c with
  | ptr t k=>
   simp only [Cw]
   split
   ·exact ih
   ·rename_i hc
    simp only [Bool.or_eq_true,decide_eq_true_eq,not_or,Nat.not_le] at hc
    refine ⟨?_,fun x hx=>?_⟩
    ·simp only [Bn,Bool.and_eq_true,ih.1,and_true]
     refine List.all_eq_true.2 fun x hx=>?_
     have:x≠t:=by rintro rfl; exact hc.2 (by simpa using hx)
     simpa using this
    ·rcases List.mem_cons.1 hx with rfl | hx
     ·exact hc.1
     ·exact ih.2 x hx
  | _=>exact ih
section
variable {TS NB:List Nat}
theorem Gs {k:Bool} {t b:Nat} (h:(Cs m TS NB).blk k t=some b):∃T,m.blk k T=some b∧((Au≤t∧T=t)∨(t<Au∧∃i,(if k then NB else TS)[i]? = some T∧t=if k then i else tg T i)):=by
 simp only [Cs] at h
 split at h
 ·rename_i ht
  exact ⟨t,h,.inl ⟨ht,rfl⟩⟩
 ·rename_i ht
  cases k
  ·simp only [Bool.false_eq_true,if_false] at h ⊢
   cases hl:Om TS t with
   | none=>rw [hl] at h; cases h
   | some T=>
    rw [hl] at h
    obtain ⟨i,h1,h2,h3⟩:=Qt hl
    exact ⟨T,h,.inr ⟨by omega,i,h2,h3⟩⟩
  ·simp only [if_true] at h ⊢
   cases hl:NB[t]? with
   | none=>rw [hl] at h; cases h
   | some T=>rw [hl] at h; exact ⟨T,h,.inr ⟨by omega,t,hl,rfl⟩⟩
theorem Gq {t j c b:Nat} (h:(Cs m TS NB).nst t j c=some b):∃T,m.nst T j c=some b∧((Au≤t∧T=t)∨(t<Au∧∃i,TS[i]? = some T∧t=tg T i)):=by
 simp only [Cs] at h
 split at h
 ·rename_i ht
  exact ⟨t,h,.inl ⟨ht,rfl⟩⟩
 ·rename_i ht
  cases hl:Om TS t with
  | none=>rw [hl] at h; cases h
  | some T=>
   rw [hl] at h
   obtain ⟨i,h1,h2,h3⟩:=Qt hl
   exact ⟨T,h,.inr ⟨by omega,i,h2,h3⟩⟩
theorem Ob {b:Nat} (h:(Cs m TS NB).avoid b):m.avoid b:=by
 rcases h with h | ⟨k,t,h⟩ | ⟨t,j,c,h⟩
 ·exact .inl h
 ·obtain ⟨T,h1,_⟩:=Gs h
  exact .inr (.inl ⟨k,T,h1⟩)
 ·obtain ⟨T,h1,_⟩:=Gq h
  exact .inr (.inr ⟨T,j,c,h1⟩)
theorem Zm {e T:Nat} (h:TS[e]? = some T) (hl:TS.length<33):(Cs m TS NB).blk false (tg T e)=m.blk false T:=by
 have:=(List.getElem?_eq_some_iff.1 h).1
 have h2:=qO T (e:=e) (by omega)
 simp only [Cs,Bool.false_eq_true,if_false]
 rw [if_neg (by simp only [Au]; omega),Sl h (by omega)]
 rfl
theorem Wq {e T:Nat} (h:TS[e]? = some T) (hl:TS.length<33) (j c:Nat):(Cs m TS NB).nst (tg T e) j c=m.nst T j c:=by
 have:=(List.getElem?_eq_some_iff.1 h).1
 have h2:=qO T (e:=e) (by omega)
 simp only [Cs]
 rw [if_neg (by simp only [Au]; omega),Sl h (by omega)]
 rfl
theorem Sb {e T:Nat} (h:NB[e]? = some T) (hl:NB.length<33):(Cs m TS NB).blk true e=m.blk true T:=by
 have:=(List.getElem?_eq_some_iff.1 h).1
 simp only [Cs,if_true]
 rw [if_neg (by simp only [Au]; omega),h]
 rfl
theorem Gr {k:Bool} {t:Nat} (h:Au≤t):(Cs m TS NB).blk k t=m.blk k t:=by
 simp only [Cs]
 rw [if_pos h]
theorem Il {t:Nat} (h:Au≤t) (j c:Nat):(Cs m TS NB).nst t j c=m.nst t j c:=by
 simp only [Cs]
 rw [if_pos h]
theorem Zl (hin:∀k t k' t' b,m.blk k t=some b→m.blk k' t'=some b→k=k'∧t=t') (hT:Bn TS=true) (hN:Bn NB=true)
  (hT2:∀t∈TS,t<Au) (hN2:∀t∈NB,t<Au):
  ∀k t k' t' b,(Cs m TS NB).blk k t=some b→(Cs m TS NB).blk k' t'=some b→k=k'∧t=t':=by
 intro k t k' t' b h1 h2
 obtain ⟨T,g1,g2⟩:=Gs h1
 obtain ⟨T',g3,g4⟩:=Gs h2
 obtain ⟨rfl,rfl⟩:=hin _ _ _ _ _ g1 g3
 refine ⟨rfl,?_⟩
 have hlt:∀ {x:Nat},(if k then NB else TS)[x]? = some T→T<Au:=fun {x} hx=>by
  cases k
  ·exact hT2 T (List.mem_of_getElem? hx)
  ·exact hN2 T (List.mem_of_getElem? hx)
 rcases g2 with ⟨p1,rfl⟩ | ⟨p1,i,p2,p3⟩<;>rcases g4 with ⟨q1,q2⟩ | ⟨q1,i',q2,q3⟩
 ·exact q2
 ·have:=hlt q2; omega
 ·subst q2; have:=hlt p2; omega
 ·cases k
  ·have:=Dx hT p2 q2
   subst this
   rw [p3,q3]
  ·have:=Dx hN p2 q2
   subst this
   rw [p3,q3]
theorem nE {w0:World} {A:Fr} (L:Lay w0 A m w) (hT:Bn TS=true) (hT2:∀t∈TS,t<Au) {mb:M} (hA:∀b,A.ext b→mb.held b) (hp:∀T j c,Au≤T→A.npin T j c=mb.nst T j c):pW w0 mb (Cs m TS NB) w:=by
 refine ⟨fun T j c T' j' c' b h1 h2=>?_,fun T j c k t b h1 h2=>?_,fun T j c b h1=>?_,fun T j c h1=>by rw [Il h1,L.n.pin _ _ _ h1,hp _ _ _ h1],fun T j c b cur e x h1 h2=>?_⟩
 ·obtain ⟨X,g1,g2⟩:=Gq h1
  obtain ⟨X',g3,g4⟩:=Gq h2
  obtain ⟨rfl,rfl,rfl⟩:=L.n.inj _ _ _ _ _ _ _ g1 g3
  refine ⟨?_,rfl,rfl⟩
  rcases g2 with ⟨p1,rfl⟩ | ⟨p1,i,p2,p3⟩<;>rcases g4 with ⟨q1,q2⟩ | ⟨q1,i',q2,q3⟩
  ·exact q2
  ·have:=hT2 _ (List.mem_of_getElem? q2); omega
  ·subst q2; have:=hT2 _ (List.mem_of_getElem? p2); omega
  ·have:=Dx hT p2 q2
   subst this
   rw [p3,q3]
 ·obtain ⟨X,g1,g2⟩:=Gq h1
  obtain ⟨X',g3,g4⟩:=Gs h2
  exact L.n.dis _ _ _ _ _ _ g1 g3
 ·obtain ⟨X,g1,g2⟩:=Gq h1
  have:=L.n.bnd _ _ _ _ g1
  exact ⟨this.1,this.2.1.imp id (hA b),this.2.2⟩
 ·obtain ⟨X,g1,g2⟩:=Gq h1
  exact L.n.ones _ _ _ _ _ _ _ g1 h2
theorem dS (TS NB:List Nat):Cg (My TS NB):=by
 refine ⟨rfl,fun c h1 h2 h3=>?_⟩
 cases c with
 | own t off sz es=>
  simp only [My]
  split
  ·simp
  ·split<;>simp
 | ptr t k=>
  simp only [My]
  split
  ·simp
  ·split<;>simp
 | agg cs=>exact absurd rfl (h1 cs)
 | tup vs=>exact absurd rfl (h2 vs)
 | may b v=>exact absurd rfl (h3 b v)
 | _=>simp [My,Gi,Iw]
theorem Pf {t e off sz:Nat} {es:List (List V)} {v:Value} (hro:RO φ m w t off sz es v) (hb:(Cs m TS NB).blk false e=m.blk false t) (hd:Az e=Az t) (hn:∀j c,(Cs m TS NB).nst e j c=m.nst t j c):RO φ (Cs m TS NB) w e off sz es v:=by
 rcases hro with h1 | h1 | ⟨b,cap,cur,ty,h1,h2,h3,h4,h5,h6,h7,h8,h9⟩ | ⟨b,es',ents,clock,h1,h2,h3,h4,h5,h6,h7⟩
 ·exact .inl h1
 ·exact .inr (.inl h1)
 rotate_right
 ·exact .inr (.inr (.inr ⟨b,es',ents,clock,h1,h2,h3,h4,by rw [hb]; exact h5,h6,h7⟩))
 ·refine .inr (.inr (.inl ⟨b,cap,cur,ty,by rw [hb]; exact h1,h2,h3,h4,h5,h6,h7,h8,fun j y k c' g1 g2=>?_⟩))
  obtain ⟨u,k1,k2,k3⟩:=h9 j y k c' g1 g2
  refine ⟨u,k1,k2,?_⟩
  rcases k3 with ⟨k3,k4⟩ | ⟨k3,s',e',k4,k5⟩
  ·exact .inl ⟨k3.mono (Nat.le_refl _) (fun _ _ _=>rfl) (fun b _ hn hh=>hn (Ob hh)),by rw [hd]; exact k4⟩
  ·exact .inr ⟨by rw [hd]; exact k3,s',e',k4,by rw [hn]; exact k5⟩
theorem Ys (hT:TS.length<33) (hN:NB.length<33) {c:V} {v:Value} (h:RC φ m w c v):RC φ (Cs m TS NB) w (My TS NB c) v:=by
 have hav:∀b,b<w.heap.size→¬m.avoid b→¬(Cs m TS NB).avoid b:=fun b _ hn hh=>hn (Ob hh)
 have rp:∀ {t e k:Nat},RP m t k v→(Cs m TS NB).blk true e=m.blk true t→RP (Cs m TS NB) e k v:=by
  rintro t e k ⟨b,hb,rfl⟩ he
  exact ⟨b,by rw [he]; exact hb,rfl⟩
 have bs:∀ {c0:V},RD φ w m.avoid c0 v→RC φ (Cs m TS NB) w (Gi c0) v:=fun hd=>Eu (Mc (hd.mono (Nat.le_refl _) (fun _ _ _=>rfl) hav))
 cases c with
 | own t off sz es=>
  simp only [My]
  split
  ·rename_i ht
   exact Pf h (Gr ht) rfl (Il ht)
  ·cases hp:Ds t TS 0 with
   | none=>trivial
   | some e=>
    obtain ⟨j,h1,h2⟩:=Ej hp
    rw [Nat.zero_add] at h1
    subst h1
    have hlt:e<32:=by have:=(List.getElem?_eq_some_iff.1 h2).1; omega
    exact Pf h (Zm h2 hT) (Xy t hlt) (Wq h2 hT)
 | ptr t k=>
  simp only [My]
  split
  ·rename_i ht
   exact rp h (Gr ht)
  ·cases hp:Ds t NB 0 with
   | none=>trivial
   | some e=>
    obtain ⟨j,h1,h2⟩:=Ej hp
    rw [Nat.zero_add] at h1
    subst h1
    exact rp h (Sb h2 hN)
 | clo f caps=>
  obtain ⟨fid,vs,g1,rfl,g3,g4⟩:=h
  refine ⟨fid,vs,g1,rfl,by simpa using g3,fun i c0 v k1 k2=>?_⟩
  simp only [List.getElem?_map,Option.map_eq_some_iff] at k1
  obtain ⟨c1,k1,rfl⟩:=k1
  have hq:=g4 i c1 v k1 k2
  have hd:RD φ w (Cs m TS NB).avoid (Iw c1) v:=by
   rcases Jg hq with ⟨T,k,rfl,hp⟩ | ⟨_,hd⟩
   ·exact .undef _ hp.one
   ·exact (Jf hd).mono (Nat.le_refl _) (fun _ _ _=>rfl) hav
  cases c1<;>exact hd
 | optr T sz j k=>trivial
 | nrow T j c sz es=>trivial
 | undef=>trivial
 | agg x1=>trivial
 | tup x1=>trivial
 | may x1 x2=>trivial
 | int x1 x2=>exact bs (c0:=.int x1 x2) h
 | bool x1=>exact bs (c0:=.bool x1) h
 | str x1=>exact bs (c0:=.str x1) h
 | lst x1 x2=>exact bs (c0:=.lst x1 x2) h
 | iptr x1=>exact bs (c0:=.iptr x1) h
end
theorem De:∀(n:Nat),(On n).length=n
 | 0=>rfl
 | n+1=>by simp [On,De n]
theorem Jw:∀ {n i:Nat},i<n→(On n)[i]? = some (Au+i)
 | n+1,i,h=>by
  simp only [On]
  by_cases e:i<n
  ·rw [List.getElem?_append_left (by rw [De]; exact e)]
   exact Jw e
  ·have:i=n:=by omega
   subst this
   rw [List.getElem?_append_right (by rw [De]; exact Nat.le_refl _),De]
   simp
theorem Of {S:St}:∀ {l:List Nat} {css:List (List V)},Io S l=some css→∀ {i:Nat} {cs:List V},css[i]? = some cs→∃t,l[i]? = some t∧look S.bx t=some cs
 | [],css,h,i,cs,hi=>by
  simp only [Io,Option.some.injEq] at h
  subst h
  simp at hi
 | t::r,css,h,i,cs,hi=>by
  simp only [Io] at h
  split at h
  ·rename_i c cr h1 h2
   cases h
   cases i with
   | zero=>simp at hi; subst hi; exact ⟨t,rfl,h1⟩
   | succ i=>
    obtain ⟨t',h3,h4⟩:=Of h2 (i:=i) (cs:=cs) (by simpa using hi)
    exact ⟨t',by simpa using h3,h4⟩
  ·cases h
theorem Na {S:St}:∀ {k:Nat} {l:List (Nat×Nat×List (List V))},Mz S k l→∀ {i off sz:Nat} {es:List (List V)},l[i]? = some (off,sz,es) →
  S.findR (k+i)=some (off,es)∧∀e∈es,e.length=sz
 | k,(o,s,e)::r,h,i,off,sz,es,hi=>by
  cases i with
  | zero=>
   simp only [List.getElem?_cons_zero,Option.some.injEq,Prod.mk.injEq] at hi
   obtain ⟨rfl,rfl,rfl⟩:=hi
   exact h.1
  | succ i=>
   have:=Na h.2 (i:=i) (by simpa using hi)
   rw [show k+1+i=k+(i+1) from by omega] at this
   exact this
 | k,[],h,i,off,sz,es,hi=>by simp at hi
theorem oY {g:Lj} {t:Dh} {v:V} {val:Value} (hp:Lay w ⟨m0.A,m0.held,m0.blk,m0.nst⟩ m w')
  (h:Aw φ w ⟨m0.A,m0.held,m0.blk,m0.nst⟩ nt m S a w') (hv:RT φ m w' v val) (ht:Rd S v g.bx.length t):
  ∃m',aU φ w m0 g t val m' w':=by
 unfold Rd at ht
 dsimp only at ht
 split at ht
 ·rename_i css hcss
  obtain ⟨hless,hr,hbx,hrw⟩:=ht
  generalize hTS:Fe (v.flat++css.flatten)=TS at *
  generalize hNB:Cw v.flat=NB at *
  have s1:=Oo (v.flat++css.flatten)
  have s2:=Mf v.flat
  rw [hTS] at s1; rw [hNB] at s2
  have l1:=Eo hless TS.length (by simp)
  have l2:=Eo hless NB.length (by simp)
  refine ⟨Cs m TS NB,hp.hA,Zl hp.inj s1.1 s2.1 s1.2 s2.2,fun k T b hb=>?_,fun k T hT=>?_,hp.lies,?_,fun i cs hi=>?_,fun i off sz es hi=>?_,fun T b cur e x hb hw=>by
   obtain ⟨T',h1,_⟩:=Gs hb
   exact hp.ones T' b cur e x h1 hw,nE hp s1.1 s1.2 (fun _ h=>h) (fun _ _ _ _=>rfl)⟩
  ·obtain ⟨T',h1,_⟩:=Gs hb
   exact hp.bnd _ _ _ h1
  ·rw [Gr hT]
   exact hp.pin k T hT
  ·rw [←hr,Hh _ _ (Bt hv)]
   exact RT.mapT (dS TS NB) hv fun c x _ hx=>Ys l1 l2 hx
  ·rw [←hbx,Hd] at hi
   simp only [Option.map_eq_some_iff] at hi
   obtain ⟨cs0,hi,rfl⟩:=hi
   obtain ⟨T,h1,h2⟩:=Of hcss hi
   obtain ⟨b,cur,e,g1,g2,g3⟩:=h.rb h2
   have cells:∀ {n:Nat},(Cs m TS NB).blk true n=m.blk true T→RB φ (Cs m TS NB) w' n (cs0.map (My TS NB)):=by
    intro n hn
    refine ⟨b,cur,e,by rw [hn]; exact g1,g2,fun j c hj=>?_⟩
    simp only [List.getElem?_map,Option.map_eq_some_iff] at hj
    obtain ⟨c0,hj,rfl⟩:=hj
    obtain ⟨u,k1,k2,k3⟩:=g3 j c0 hj
    exact ⟨u,k1,Ys l1 l2 k2,k3⟩
   by_cases hlt:i<g.bx.length
   ·rw [if_pos hlt]
    rw [List.getElem?_append_left (by rw [De]; exact hlt),Jw hlt] at h1
    obtain rfl:=Option.some.inj h1
    exact cells (Gr (Nat.le_add_right _ _))
   ·rw [if_neg hlt]
    rw [List.getElem?_append_right (by rw [De]; omega),De] at h1
    exact cells (Sb h1 l2)
  ·obtain ⟨h1,h2⟩:=Na hrw hi
   rw [Nat.zero_add] at h1
   unfold St.findR at h1
   split at h1
   ·rename_i y hy
    cases h1
    obtain ⟨sz',_,val',h3⟩:=h.find hy
    exact ⟨h2,sz',val',.inl (Pf h3 (Gr (by simp only [Au]; omega)) rfl (Il (by simp only [Au]; omega)))⟩
   ·obtain ⟨sz',_,val',h3⟩:=h.find h1
    exact ⟨h2,sz',val',.inr (Pf h3 (Gr (by simp only [Au]; omega)) rfl (Il (by simp only [Au]; omega)))⟩
 ·exact ht.elim
theorem Qi:∀ {l:List V} {k t:Nat} {v:V},look (Lb l k) t=some v→∃i,t=k+i∧l[i]? = some v
 | x::r,k,t,v,h=>by
  simp only [Lb,look] at h
  split at h
  ·rename_i e
   exact ⟨0,by omega,by simpa using h⟩
  ·obtain ⟨i,h1,h2⟩:=Qi h
   exact ⟨i+1,by omega,by simpa using h2⟩
 | [],_,_,_,h=>by simp [Lb,look] at h
theorem Qj:∀ {l:List (List V)} {k t:Nat} {v:List V},look (Lc l k) t=some v→∃i,t=k+i∧l[i]? = some v
 | x::r,k,t,v,h=>by
  simp only [Lc,look] at h
  split at h
  ·rename_i e
   exact ⟨0,by omega,by simpa using h⟩
  ·obtain ⟨i,h1,h2⟩:=Qj h
   exact ⟨i+1,by omega,by simpa using h2⟩
 | [],_,_,_,h=>by simp [Lc,look] at h
theorem Og {f:Nat→Nat}:∀ {l:List V} {k t:Nat} {c:Int},look (Lp f l k) t=some c→∃i T off sz es,t=k+i∧l[i]? = some (.own T off (sz+1) es)∧c=Fj+(f t:Int)
 | [],_,_,_,h=>by simp [Lp,look] at h
 | x::r,k,t,c,h=>by
  have rest:look (Lp f r (k+1)) t=some c→∃i T off sz es,t=k+i∧(x::r)[i]? = some (.own T off (sz+1) es)∧c=Fj+(f t:Int):=fun h=>by
   obtain ⟨i,T,off,sz,es,h1,h2,h3⟩:=Og h
   exact ⟨i+1,T,off,sz,es,by omega,by simpa using h2,h3⟩
  unfold Lp at h
  split at h
  ·rename_i e; cases e
  ·rename_i e; cases e
   simp only [look] at h
   split at h
   ·rename_i e
    subst e
    exact ⟨0,_,_,_,_,by omega,rfl,(Option.some.inj h).symm⟩
   ·exact rest h
  ·rename_i e; cases e
   exact rest h
def bW:Value→Nat
 | .slice _ _ c=>c
 | _=>0
theorem cD {fn:Func} {xf:Es} {fid:Nat} (hcomp:Km P φ fn=some xf) (hfn:P.funcs[fid]? = some fn) {g:Lj} {t:Dh} (h:Yy (By P φ) xf g t):
  Nf P fid∧∀(w:World) (m:M) (vals:List Value),xA φ w m g vals→Calls P fid vals.toArray w fun e w'=>∃x m',e = .returned x∧aU φ w m g t x m' w':=by
 unfold Km at hcomp
 split at hcomp
 ·rename_i c rs hb hrs
  split at hcomp
  ·cases hcomp
  rename_i hcnd
  simp only [Bool.or_eq_true,decide_eq_true_eq,not_or,Nat.not_lt,Bool.not_eq_true] at hcnd
  cases hcomp
  refine ⟨⟨fn,hfn,hcnd.2,by rw [hb]; rfl⟩,fun w m vals pre=>?_⟩
  obtain ⟨hnt,hW⟩:=h
  dsimp only at hnt hW
  have hsz:vals.length≤fn.ntmps:=by rw [pre.len]; exact hnt
  refine calls_of_wp hfn hb ?_
  have hrel:∀cs:List (Nat×Int),(∀k c,look cs k=some c→∃x,vals[k]? = some x∧Nv x c)→Aw φ w ⟨m.A,m.held,m.blk,m.nst⟩ fn.ntmps m ⟨Lb g.args 0,Lc g.bx Au,cs⟩ { tmps:=vals.toArray++Array.replicate (fn.ntmps-vals.toArray.size) undef,defers:=[] } w:=by
   intro cs hcs0
   refine ⟨⟨rfl,pre.hAlt.1,pre.inj,fun k t b hb=>⟨(pre.bnd _ _ _ hb).1,.inr (.inl ⟨k,t,hb⟩),(pre.bnd _ _ _ hb).2⟩,fun _ _ _=>rfl,Hk.refl _ w,pre.ones,pre.n.inj,pre.n.dis,fun T j c b hb=>⟨(pre.n.bnd _ _ _ _ hb).1,.inr (.inr ⟨T,j,c,hb⟩),(pre.n.bnd _ _ _ _ hb).2⟩,fun _ _ _ _=>rfl,pre.n.ones⟩,⟨hcnd.1,pre.hAlt.2⟩,by simp; omega,rfl,fun T v hv=>?_,fun T cs hcs=>?_,fun k c hk=>?_⟩
   ·obtain ⟨i,h1,h2⟩:=Qi hv
    rw [Nat.zero_add] at h1
    subst h1
    have hi:T<vals.length:=by rw [pre.len]; exact (List.getElem?_eq_some_iff.1 h2).1
    have hx:vals[T]? = some vals[T]:=List.getElem?_eq_getElem hi
    have hrt:=pre.args T v _ h2 hx
    have e:(vals.toArray++Array.replicate (fn.ntmps-vals.toArray.size) undef).getD T undef=vals[T]:=by
     rw [Array.getD_eq_getD_getElem?,Array.getElem?_append_left (by simpa using hi)]
     simp [hi]
    dsimp only
    rw [e]
    exact Gw (Bt hrt) hrt
   ·obtain ⟨i,h1,h2⟩:=Qj hcs
    subst h1
    exact pre.bx i cs h2
   ·obtain ⟨x,h1,h2⟩:=hcs0 k c hk
    obtain ⟨hi,rfl⟩:=List.getElem?_eq_some_iff.1 h1
    have e:(vals.toArray++Array.replicate (fn.ntmps-vals.toArray.size) undef).getD k undef=vals[k]:=by
     rw [Array.getD_eq_getD_getElem?,Array.getElem?_append_left (by simpa using hi)]
     simp [hi]
    dsimp only
    rw [e]
    exact h2
  have hcap:∀(k t off sz:Nat) (es:List (List V)),g.args[k]? = some (.own t off sz es)→sz≠0→∃x ad cap,vals[k]? = some x∧x = .slice ad es.length cap∧es.length≤cap∧(off=0→cap≤9223372036854775807)∧(0<cap→ad≠none):=by
   intro k t off sz es hk hz
   have hi:k<vals.length:=by rw [pre.len]; exact (List.getElem?_eq_some_iff.1 hk).1
   have hx:vals[k]? = some vals[k]:=List.getElem?_eq_getElem hi
   have hro:=Dd (pre.args k _ _ hk hx)
   obtain ⟨ad,cap,g1,g2,g3⟩:=hro.slice hz
   refine ⟨_,ad,cap,hx,g1,g2,fun h0=>?_,fun hp hn=>by have:=(g3 hn).2; omega⟩
   rcases hro with ⟨_,_,e⟩ | ⟨e,_⟩ | ⟨b,cap',cur,E,_,e,_,_,_,e6,_⟩ | ⟨_,_,_,_,_,e,_⟩
   rotate_right
   ·exact absurd e hz
   ·rw [g1] at e; simp only [Value.slice.injEq] at e; omega
   ·exact absurd h0 e
   ·rw [g1] at e; cases e
    have:maxLen=9223372036854775807:=rfl
    omega
  obtain ⟨cs,hcs,hW⟩:∃cs:List (Nat×Int),(∀k c,look cs k=some c→∃x,vals[k]? = some x∧Nv x c)∧W (By P φ) (Jl P φ fn.ntmps c) (FQ rs g.bx.length t) ⟨Lb g.args 0,Lc g.bx Au,cs⟩:=by
   rcases hW with hW | hW
   ·exact ⟨[],fun _ _ hh=>(by simp [look] at hh),hW⟩
   ·refine ⟨_,fun k c hk=>?_,hW (fun k=>bW (vals[k]?.getD undef)) fun k t off sz es hk hz=>?_⟩
    ·obtain ⟨i,T,off,sz,es,rfl,h2,rfl⟩:=Og hk
     rw [Nat.zero_add]
     obtain ⟨x,ad,cap,x1,rfl,x3,x4,x5⟩:=hcap i T off (sz+1) es h2 (by omega)
     refine ⟨_,x1,ad,es.length,cap,rfl,?_⟩
     rw [x1]
     simp only [Option.getD_some,bW,Wv]
     exact ⟨Int.le_refl _,fun hh=>x5 (by omega),fun _=>by omega⟩
    ·obtain ⟨x,ad,cap,x1,rfl,x3,x4,x5⟩:=hcap k t off sz es hk hz
     rw [x1]
     exact ⟨x3,x4⟩
  have hrel:=hrel cs hcs
  refine Sv c hW hrel fun e S' m' a' w' hq h'=>?_
  have fin:(∃S1,Fg S' S1∧Xo rs g.bx.length t S1)→a'.defers=[]∧∃v,(results fn a'.tmps).run P w' = .ok v w'∧∃x m'',(Ending.returned v) = .returned x∧aU φ w m g t x m'' w':=by
   rintro ⟨S1,hfg,hret⟩
   obtain ⟨m1,h'⟩:=h'.fg hfg
   unfold Xo at hret
   split at hret
   ·rename_i v hv
    obtain ⟨val,h1,h2⟩:=Wz hrs h' hv
    obtain ⟨m'',h3⟩:=oY h'.toLay h' h2 hret
    exact ⟨h'.defers,val,h1,val,m'',rfl,h3⟩
   ·exact hret.elim
  cases e with
  | normal=>exact fin hq
  | exit id=>exact hq.elim
  | ret=>exact fin hq
 ·cases hcomp
def rY (P:Program) (φ:Bz) (T:Nat→Option Es):Prop:=∀f xf,T f=some xf→∀fid,look φ fid=some f→∃fn,P.funcs[fid]? = some fn∧Km P φ fn=some xf
theorem Xc {T:Nat→Option Es} (hT:rY P φ T) {f:Nat} {xf:Es} (hf:T f=some xf) {g:Lj} {t:Dh} (h:Yy (By P φ) xf g t):By P φ f g t:=by
 intro fid hfid
 obtain ⟨fn,h1,h2⟩:=hT f xf hf fid hfid
 exact cD h2 h1 h
end Go.Ev
