/- A function's end; the soundness of the small machine. -/
import Derived.Test.YtdmclbbhhcpjfaaQvZ3
set_option linter.all false
namespace Go.Ev
open Go.RowKit
variable {φ:By} {m m' m0 m1 m2:M} {w w' w0:World} {A:Fr} {nt:Nat} {S S' S1:St} {a:Act} {P:Program}
def Re (TS:List Nat) (t:Nat):Option Nat:=match TS[t%32]? with
 | some T=>bif Nat.beq t (tg T (t%32)) then some T else none
 | none=>none
theorem Vx {TS:List Nat} {i T:Nat} (h:TS[i]? = some T) (hi:i<32):Re TS (tg T i)=some T:=by
 unfold Re
 rw [aJ T hi,h]
 have:Nat.beq (tg T i) (tg T i)=true:=Nat.beq_refl _
 simp only [this,cond_true]
theorem Tz {TS:List Nat} {t T:Nat} (h:Re TS t=some T):∃i,i<32∧TS[i]? = some T∧t=tg T i:=by
 unfold Re at h
 split at h
 ·rename_i T' hT
  cases hb:Nat.beq t (tg T' (t%32)) with
  | true=>
   rw [hb] at h
   cases h
   exact ⟨_,Nat.mod_lt _ (by decide),hT,Nat.eq_of_beq_eq_true hb⟩
  | false=>rw [hb] at h; cases h
 ·cases h
def Cs (m:M) (TS NB:List Nat):M:=
 ⟨m.A,
  fun k t=>if Am≤t then m.blk k t else if k then (NB[t]?).bind (m.blk true) else (Re TS t).bind (m.blk false),
  fun t j c=>if Am≤t then m.nst t j c else (Re TS t).bind fun T=>m.nst T j c⟩
theorem Rg:∀(l:List V),Ba (Fo l)=true∧∀t∈Fo l,t<Am
 | []=>⟨rfl,by simp [Fo]⟩
 | c::r=>by
  have ih:=Rg r
  cases c with
  | own t off sz es=>
   simp only [Fo]
   split
   ·exact ih
   ·rename_i hc
    simp only [Bool.or_eq_true,decide_eq_true_eq,not_or,Nat.not_le] at hc
    refine ⟨?_,fun x hx=>?_⟩
    ·simp only [Ba,Bool.and_eq_true,ih.1,and_true]
     refine List.all_eq_true.2 fun x hx=>?_
     have:x≠t:=by rintro rfl; exact hc.2 (by simpa using hx)
     simpa using this
    ·rcases List.mem_cons.1 hx with rfl | hx
     ·exact hc.1
     ·exact ih.2 x hx
  | _=>exact ih
theorem Np:∀(l:List V),Ba (Cx l)=true∧∀t∈Cx l,t<Am
 | []=>⟨rfl,by simp [Cx]⟩
 | c::r=>by
  have ih:=Np r
  cases c with
  | ptr t k=>
   simp only [Cx]
   split
   ·exact ih
   ·rename_i hc
    simp only [Bool.or_eq_true,decide_eq_true_eq,not_or,Nat.not_le] at hc
    refine ⟨?_,fun x hx=>?_⟩
    ·simp only [Ba,Bool.and_eq_true,ih.1,and_true]
     refine List.all_eq_true.2 fun x hx=>?_
     have:x≠t:=by rintro rfl; exact hc.2 (by simpa using hx)
     simpa using this
    ·rcases List.mem_cons.1 hx with rfl | hx
     ·exact hc.1
     ·exact ih.2 x hx
  | _=>exact ih
section
variable {TS NB:List Nat}
theorem Gy {k:Bool} {t b:Nat} (h:(Cs m TS NB).blk k t=some b):∃T,m.blk k T=some b∧((Am≤t∧T=t)∨(t<Am∧∃i,(if k then NB else TS)[i]? = some T∧t=if k then i else tg T i)):=by
 simp only [Cs] at h
 split at h
 ·rename_i ht
  exact ⟨t,h,.inl ⟨ht,rfl⟩⟩
 ·rename_i ht
  cases k
  ·simp only [Bool.false_eq_true,if_false] at h ⊢
   cases hl:Re TS t with
   | none=>rw [hl] at h; cases h
   | some T=>
    rw [hl] at h
    obtain ⟨i,h1,h2,h3⟩:=Tz hl
    exact ⟨T,h,.inr ⟨by omega,i,h2,h3⟩⟩
  ·simp only [if_true] at h ⊢
   cases hl:NB[t]? with
   | none=>rw [hl] at h; cases h
   | some T=>rw [hl] at h; exact ⟨T,h,.inr ⟨by omega,t,hl,rfl⟩⟩
theorem Gw {t j c b:Nat} (h:(Cs m TS NB).nst t j c=some b):∃T,m.nst T j c=some b∧((Am≤t∧T=t)∨(t<Am∧∃i,TS[i]? = some T∧t=tg T i)):=by
 simp only [Cs] at h
 split at h
 ·rename_i ht
  exact ⟨t,h,.inl ⟨ht,rfl⟩⟩
 ·rename_i ht
  cases hl:Re TS t with
  | none=>rw [hl] at h; cases h
  | some T=>
   rw [hl] at h
   obtain ⟨i,h1,h2,h3⟩:=Tz hl
   exact ⟨T,h,.inr ⟨by omega,i,h2,h3⟩⟩
theorem Qu {b:Nat} (h:(Cs m TS NB).avoid b):m.avoid b:=by
 rcases h with h | ⟨k,t,h⟩ | ⟨t,j,c,h⟩
 ·exact .inl h
 ·obtain ⟨T,h1,_⟩:=Gy h
  exact .inr (.inl ⟨k,T,h1⟩)
 ·obtain ⟨T,h1,_⟩:=Gw h
  exact .inr (.inr ⟨T,j,c,h1⟩)
theorem dF {e T:Nat} (h:TS[e]? = some T) (hl:TS.length<33):(Cs m TS NB).blk false (tg T e)=m.blk false T:=by
 have:=(List.getElem?_eq_some_iff.1 h).1
 have h2:=EH T (e:=e) (by omega)
 simp only [Cs,Bool.false_eq_true,if_false]
 rw [if_neg (by simp only [Am]; omega),Vx h (by omega)]
 rfl
theorem Zs {e T:Nat} (h:TS[e]? = some T) (hl:TS.length<33) (j c:Nat):(Cs m TS NB).nst (tg T e) j c=m.nst T j c:=by
 have:=(List.getElem?_eq_some_iff.1 h).1
 have h2:=EH T (e:=e) (by omega)
 simp only [Cs]
 rw [if_neg (by simp only [Am]; omega),Vx h (by omega)]
 rfl
theorem Vj {e T:Nat} (h:NB[e]? = some T) (hl:NB.length<33):(Cs m TS NB).blk true e=m.blk true T:=by
 have:=(List.getElem?_eq_some_iff.1 h).1
 simp only [Cs,if_true]
 rw [if_neg (by simp only [Am]; omega),h]
 rfl
theorem Gx {k:Bool} {t:Nat} (h:Am≤t):(Cs m TS NB).blk k t=m.blk k t:=by
 simp only [Cs]
 rw [if_pos h]
theorem Je {t:Nat} (h:Am≤t) (j c:Nat):(Cs m TS NB).nst t j c=m.nst t j c:=by
 simp only [Cs]
 rw [if_pos h]
theorem dE (hin:∀k t k' t' b,m.blk k t=some b→m.blk k' t'=some b→k=k'∧t=t') (hT:Ba TS=true) (hN:Ba NB=true)
  (hT2:∀t∈TS,t<Am) (hN2:∀t∈NB,t<Am):
  ∀k t k' t' b,(Cs m TS NB).blk k t=some b→(Cs m TS NB).blk k' t'=some b→k=k'∧t=t':=by
 intro k t k' t' b h1 h2
 obtain ⟨T,g1,g2⟩:=Gy h1
 obtain ⟨T',g3,g4⟩:=Gy h2
 obtain ⟨rfl,rfl⟩:=hin _ _ _ _ _ g1 g3
 refine ⟨rfl,?_⟩
 have hlt:∀ {x:Nat},(if k then NB else TS)[x]? = some T→T<Am:=fun {x} hx=>by
  cases k
  ·exact hT2 T (List.mem_of_getElem? hx)
  ·exact hN2 T (List.mem_of_getElem? hx)
 rcases g2 with ⟨p1,rfl⟩ | ⟨p1,i,p2,p3⟩<;>rcases g4 with ⟨q1,q2⟩ | ⟨q1,i',q2,q3⟩
 ·exact q2
 ·have:=hlt q2; omega
 ·subst q2; have:=hlt p2; omega
 ·cases k
  ·have:=Ef hT p2 q2
   subst this
   rw [p3,q3]
  ·have:=Ef hN p2 q2
   subst this
   rw [p3,q3]
theorem BB {w0:World} {A:Fr} (L:Lay w0 A m w) (hT:Ba TS=true) (hT2:∀t∈TS,t<Am) {mb:M} (hA:∀b,A.ext b→mb.held b) (hp:∀T j c,Am≤T→A.npin T j c=mb.nst T j c):DU w0 mb (Cs m TS NB) w:=by
 refine ⟨fun T j c T' j' c' b h1 h2=>?_,fun T j c k t b h1 h2=>?_,fun T j c b h1=>?_,fun T j c h1=>by rw [Je h1,L.n.pin _ _ _ h1,hp _ _ _ h1],fun T j c b cur e x h1 h2=>?_⟩
 ·obtain ⟨X,g1,g2⟩:=Gw h1
  obtain ⟨X',g3,g4⟩:=Gw h2
  obtain ⟨rfl,rfl,rfl⟩:=L.n.inj _ _ _ _ _ _ _ g1 g3
  refine ⟨?_,rfl,rfl⟩
  rcases g2 with ⟨p1,rfl⟩ | ⟨p1,i,p2,p3⟩<;>rcases g4 with ⟨q1,q2⟩ | ⟨q1,i',q2,q3⟩
  ·exact q2
  ·have:=hT2 _ (List.mem_of_getElem? q2); omega
  ·subst q2; have:=hT2 _ (List.mem_of_getElem? p2); omega
  ·have:=Ef hT p2 q2
   subst this
   rw [p3,q3]
 ·obtain ⟨X,g1,g2⟩:=Gw h1
  obtain ⟨X',g3,g4⟩:=Gy h2
  exact L.n.dis _ _ _ _ _ _ g1 g3
 ·obtain ⟨X,g1,g2⟩:=Gw h1
  have:=L.n.bnd _ _ _ _ g1
  exact ⟨this.1,this.2.1.imp id (hA b),this.2.2⟩
 ·obtain ⟨X,g1,g2⟩:=Gw h1
  exact L.n.ones _ _ _ _ _ _ _ g1 h2
theorem lL (TS NB:List Nat):Cc (Pe TS NB):=by
 refine ⟨rfl,fun c h1 h2 h3=>?_⟩
 cases c with
 | own t off sz es=>
  simp only [Pe]
  split
  ·simp
  ·split<;>simp
 | ptr t k=>
  simp only [Pe]
  split
  ·simp
  ·split<;>simp
 | agg cs=>exact absurd rfl (h1 cs)
 | tup vs=>exact absurd rfl (h2 vs)
 | may b v=>exact absurd rfl (h3 b v)
 | _=>simp [Pe,Gq,Jw]
theorem Sc {t e off sz:Nat} {es:List (List V)} {v:Value} (hro:RO φ m w t off sz es v) (hb:(Cs m TS NB).blk false e=m.blk false t) (hd:Aq e=Aq t) (hn:∀j c,(Cs m TS NB).nst e j c=m.nst t j c):RO φ (Cs m TS NB) w e off sz es v:=by
 rcases hro with h1 | h1 | ⟨b,cap,cur,ty,h1,h2,h3,h4,h5,h6,h7,h8,h9⟩ | ⟨b,es',ents,clock,h1,h2,h3,h4,h5,h6,h7⟩
 ·exact .inl h1
 ·exact .inr (.inl h1)
 rotate_right
 ·exact .inr (.inr (.inr ⟨b,es',ents,clock,h1,h2,h3,h4,by rw [hb]; exact h5,h6,h7⟩))
 ·refine .inr (.inr (.inl ⟨b,cap,cur,ty,by rw [hb]; exact h1,h2,h3,h4,h5,h6,h7,h8,fun j y k c' g1 g2=>?_⟩))
  obtain ⟨u,k1,k2,k3⟩:=h9 j y k c' g1 g2
  refine ⟨u,k1,k2,?_⟩
  rcases k3 with ⟨k3,k4⟩ | ⟨k3,s',e',k4,k5⟩
  ·exact .inl ⟨k3.mono (Nat.le_refl _) (fun _ _ _=>rfl) (fun b _ hn hh=>hn (Qu hh)),by rw [hd]; exact k4⟩
  ·exact .inr ⟨by rw [hd]; exact k3,s',e',k4,by rw [hn]; exact k5⟩
theorem cE (hT:TS.length<33) (hN:NB.length<33) {c:V} {v:Value} (h:RC φ m w c v):RC φ (Cs m TS NB) w (Pe TS NB c) v:=by
 have hav:∀b,b<w.heap.size→¬m.avoid b→¬(Cs m TS NB).avoid b:=fun b _ hn hh=>hn (Qu hh)
 have rp:∀ {t e k:Nat},RP m t k v→(Cs m TS NB).blk true e=m.blk true t→RP (Cs m TS NB) e k v:=by
  rintro t e k ⟨b,hb,rfl⟩ he
  exact ⟨b,by rw [he]; exact hb,rfl⟩
 have bs:∀ {c0:V},RD φ w m.avoid c0 v→RC φ (Cs m TS NB) w (Gq c0) v:=fun hd=>Fe (Nl (hd.mono (Nat.le_refl _) (fun _ _ _=>rfl) hav))
 cases c with
 | own t off sz es=>
  simp only [Pe]
  split
  ·rename_i ht
   exact Sc h (Gx ht) rfl (Je ht)
  ·cases hp:Ds t TS 0 with
   | none=>trivial
   | some e=>
    obtain ⟨j,h1,h2⟩:=Eu hp
    rw [Nat.zero_add] at h1
    subst h1
    have hlt:e<32:=by have:=(List.getElem?_eq_some_iff.1 h2).1; omega
    exact Sc h (dF h2 hT) (bG t hlt) (Zs h2 hT)
 | ptr t k=>
  simp only [Pe]
  split
  ·rename_i ht
   exact rp h (Gx ht)
  ·cases hp:Ds t NB 0 with
   | none=>trivial
   | some e=>
    obtain ⟨j,h1,h2⟩:=Eu hp
    rw [Nat.zero_add] at h1
    subst h1
    exact rp h (Vj h2 hN)
 | clo f caps=>
  obtain ⟨fid,vs,g1,rfl,g3,g4⟩:=h
  refine ⟨fid,vs,g1,rfl,by simpa using g3,fun i c0 v k1 k2=>?_⟩
  simp only [List.getElem?_map,Option.map_eq_some_iff] at k1
  obtain ⟨c1,k1,rfl⟩:=k1
  have hq:=g4 i c1 v k1 k2
  have hd:RD φ w (Cs m TS NB).avoid (Jw c1) v:=by
   rcases Kc hq with ⟨T,k,rfl,hp⟩ | ⟨_,hd⟩
   ·exact .undef _ hp.one
   ·exact (Kb hd).mono (Nat.le_refl _) (fun _ _ _=>rfl) hav
  cases c1<;>exact hd
 | optr T sz j k=>trivial
 | nrow T j c sz es=>trivial
 | undef=>trivial
 | agg x1=>trivial
 | tup x1=>trivial
 | may x1 x2=>trivial
 | int x1 x2=>exact bs (c0:=.int x1 x2) h
 | bool x1=>exact bs (c0:=.bool x1) h
 | str x1=>exact bs (c0:=.str x1) h
 | lst x1 x2=>exact bs (c0:=.lst x1 x2) h
 | iptr x1=>exact bs (c0:=.iptr x1) h
end
theorem Df:∀(n:Nat),(Rf n).length=n
 | 0=>rfl
 | n+1=>by simp [Rf,Df n]
theorem Ks:∀ {n i:Nat},i<n→(Rf n)[i]? = some (Am+i)
 | n+1,i,h=>by
  simp only [Rf]
  by_cases e:i<n
  ·rw [List.getElem?_append_left (by rw [Df]; exact e)]
   exact Ks e
  ·have:i=n:=by omega
   subst this
   rw [List.getElem?_append_right (by rw [Df]; exact Nat.le_refl _),Df]
   simp
theorem Qz {S:St}:∀ {l:List Nat} {css:List (List V)},Ji S l=some css→∀ {i:Nat} {cs:List V},css[i]? = some cs→∃t,l[i]? = some t∧look S.bx t=some cs
 | [],css,h,i,cs,hi=>by
  simp only [Ji,Option.some.injEq] at h
  subst h
  simp at hi
 | t::r,css,h,i,cs,hi=>by
  simp only [Ji] at h
  split at h
  ·rename_i c cr h1 h2
   cases h
   cases i with
   | zero=>simp at hi; subst hi; exact ⟨t,rfl,h1⟩
   | succ i=>
    obtain ⟨t',h3,h4⟩:=Qz h2 (i:=i) (cs:=cs) (by simpa using hi)
    exact ⟨t',by simpa using h3,h4⟩
  ·cases h
theorem Ph {S:St}:∀ {k:Nat} {l:List (Nat×Nat×List (List V))},Pg S k l→∀ {i off sz:Nat} {es:List (List V)},l[i]? = some (off,sz,es) →
  S.findR (k+i)=some (off,es)∧∀e∈es,e.length=sz
 | k,(o,s,e)::r,h,i,off,sz,es,hi=>by
  cases i with
  | zero=>
   simp only [List.getElem?_cons_zero,Option.some.injEq,Prod.mk.injEq] at hi
   obtain ⟨rfl,rfl,rfl⟩:=hi
   exact h.1
  | succ i=>
   have:=Ph h.2 (i:=i) (by simpa using hi)
   rw [show k+1+i=k+(i+1) from by omega] at this
   exact this
 | k,[],h,i,off,sz,es,hi=>by simp at hi
theorem CX {g:Md} {t:De} {v:V} {val:Value} (hp:Lay w ⟨m0.A,m0.held,m0.blk,m0.nst⟩ m w')
  (h:Ar φ w ⟨m0.A,m0.held,m0.blk,m0.nst⟩ nt m S a w') (hv:RT φ m w' v val) (ht:Ul S v g.bx.length t):
  ∃m',fC φ w m0 g t val m' w':=by
 unfold Ul at ht
 dsimp only at ht
 split at ht
 ·rename_i css hcss
  obtain ⟨hless,hr,hbx,hrw⟩:=ht
  generalize hTS:Fo (v.flat++css.flatten)=TS at *
  generalize hNB:Cx v.flat=NB at *
  have s1:=Rg (v.flat++css.flatten)
  have s2:=Np v.flat
  rw [hTS] at s1; rw [hNB] at s2
  have l1:=Fb hless TS.length (by simp)
  have l2:=Fb hless NB.length (by simp)
  refine ⟨Cs m TS NB,hp.hA,dE hp.inj s1.1 s2.1 s1.2 s2.2,fun k T b hb=>?_,fun k T hT=>?_,hp.lies,?_,fun i cs hi=>?_,fun i off sz es hi=>?_,fun T b cur e x hb hw=>by
   obtain ⟨T',h1,_⟩:=Gy hb
   exact hp.ones T' b cur e x h1 hw,BB hp s1.1 s1.2 (fun _ h=>h) (fun _ _ _ _=>rfl)⟩
  ·obtain ⟨T',h1,_⟩:=Gy hb
   exact hp.bnd _ _ _ h1
  ·rw [Gx hT]
   exact hp.pin k T hT
  ·rw [←hr,Hr _ _ (Bk hv)]
   exact RT.mapT (lL TS NB) hv fun c x _ hx=>cE l1 l2 hx
  ·rw [←hbx,Hn] at hi
   simp only [Option.map_eq_some_iff] at hi
   obtain ⟨cs0,hi,rfl⟩:=hi
   obtain ⟨T,h1,h2⟩:=Qz hcss hi
   obtain ⟨b,cur,e,g1,g2,g3⟩:=h.rb h2
   have cells:∀ {n:Nat},(Cs m TS NB).blk true n=m.blk true T→RB φ (Cs m TS NB) w' n (cs0.map (Pe TS NB)):=by
    intro n hn
    refine ⟨b,cur,e,by rw [hn]; exact g1,g2,fun j c hj=>?_⟩
    simp only [List.getElem?_map,Option.map_eq_some_iff] at hj
    obtain ⟨c0,hj,rfl⟩:=hj
    obtain ⟨u,k1,k2,k3⟩:=g3 j c0 hj
    exact ⟨u,k1,cE l1 l2 k2,k3⟩
   by_cases hlt:i<g.bx.length
   ·rw [if_pos hlt]
    rw [List.getElem?_append_left (by rw [Df]; exact hlt),Ks hlt] at h1
    obtain rfl:=Option.some.inj h1
    exact cells (Gx (Nat.le_add_right _ _))
   ·rw [if_neg hlt]
    rw [List.getElem?_append_right (by rw [Df]; omega),Df] at h1
    exact cells (Vj h1 l2)
  ·obtain ⟨h1,h2⟩:=Ph hrw hi
   rw [Nat.zero_add] at h1
   unfold St.findR at h1
   split at h1
   ·rename_i y hy
    cases h1
    obtain ⟨sz',_,val',h3⟩:=h.find hy
    exact ⟨h2,sz',val',.inl (Sc h3 (Gx (by simp only [Am]; omega)) rfl (Je (by simp only [Am]; omega)))⟩
   ·obtain ⟨sz',_,val',h3⟩:=h.find h1
    exact ⟨h2,sz',val',.inr (Sc h3 (Gx (by simp only [Am]; omega)) rfl (Je (by simp only [Am]; omega)))⟩
 ·exact ht.elim
theorem Tj:∀ {l:List V} {k t:Nat} {v:V},look (Mi l k) t=some v→∃i,t=k+i∧l[i]? = some v
 | x::r,k,t,v,h=>by
  simp only [Mi,look] at h
  split at h
  ·rename_i e
   exact ⟨0,by omega,by simpa using h⟩
  ·obtain ⟨i,h1,h2⟩:=Tj h
   exact ⟨i+1,by omega,by simpa using h2⟩
 | [],_,_,_,h=>by simp [Mi,look] at h
theorem Tl:∀ {l:List (List V)} {k t:Nat} {v:List V},look (Mj l k) t=some v→∃i,t=k+i∧l[i]? = some v
 | x::r,k,t,v,h=>by
  simp only [Mj,look] at h
  split at h
  ·rename_i e
   exact ⟨0,by omega,by simpa using h⟩
  ·obtain ⟨i,h1,h2⟩:=Tl h
   exact ⟨i+1,by omega,by simpa using h2⟩
 | [],_,_,_,h=>by simp [Mj,look] at h
theorem Ra {f:Nat→Nat}:∀ {l:List V} {k t:Nat} {c:Int},look (Mv f l k) t=some c→∃i T off sz es,t=k+i∧l[i]? = some (.own T off (sz+1) es)∧c=Fd+(f t:Int)
 | [],_,_,_,h=>by simp [Mv,look] at h
 | x::r,k,t,c,h=>by
  have rest:look (Mv f r (k+1)) t=some c→∃i T off sz es,t=k+i∧(x::r)[i]? = some (.own T off (sz+1) es)∧c=Fd+(f t:Int):=fun h=>by
   obtain ⟨i,T,off,sz,es,h1,h2,h3⟩:=Ra h
   exact ⟨i+1,T,off,sz,es,by omega,by simpa using h2,h3⟩
  unfold Mv at h
  split at h
  ·rename_i e; cases e
  ·rename_i e; cases e
   simp only [look] at h
   split at h
   ·rename_i e
    subst e
    exact ⟨0,_,_,_,_,by omega,rfl,(Option.some.inj h).symm⟩
   ·exact rest h
  ·rename_i e; cases e
   exact rest h
def jE:Value→Nat
 | .slice _ _ c=>c
 | _=>0
theorem jN {fn:Func} {xf:Er} {fid:Nat} (hcomp:Lk P φ fn=some xf) (hfn:P.funcs[fid]? = some fn) {g:Md} {t:De} (h:cP (Bv P φ) xf g t):
  Pp P fid∧∀(w:World) (m:M) (vals:List Value),LL φ w m g vals→Calls P fid vals.toArray w fun e w'=>∃x m',e = .returned x∧fC φ w m g t x m' w':=by
 unfold Lk at hcomp
 split at hcomp
 ·rename_i c rs hb hrs
  split at hcomp
  ·cases hcomp
  rename_i hcnd
  simp only [Bool.or_eq_true,decide_eq_true_eq,not_or,Nat.not_lt,Bool.not_eq_true] at hcnd
  cases hcomp
  refine ⟨⟨fn,hfn,hcnd.2,by rw [hb]; rfl⟩,fun w m vals pre=>?_⟩
  obtain ⟨hnt,hW⟩:=h
  dsimp only at hnt hW
  have hsz:vals.length≤fn.ntmps:=by rw [pre.len]; exact hnt
  refine calls_of_wp hfn hb ?_
  have hrel:∀cs:List (Nat×Int),(∀k c,look cs k=some c→∃x,vals[k]? = some x∧Nk x c)→Ar φ w ⟨m.A,m.held,m.blk,m.nst⟩ fn.ntmps m ⟨Mi g.args 0,Mj g.bx Am,cs⟩ { tmps:=vals.toArray++Array.replicate (fn.ntmps-vals.toArray.size) undef,defers:=[] } w:=by
   intro cs hcs0
   refine ⟨⟨rfl,pre.hAlt,pre.inj,fun k t b hb=>⟨(pre.bnd _ _ _ hb).1,.inr (.inl ⟨k,t,hb⟩),(pre.bnd _ _ _ hb).2⟩,fun _ _ _=>rfl,Hd.refl _ w,pre.ones,pre.n.inj,pre.n.dis,fun T j c b hb=>⟨(pre.n.bnd _ _ _ _ hb).1,.inr (.inr ⟨T,j,c,hb⟩),(pre.n.bnd _ _ _ _ hb).2⟩,fun _ _ _ _=>rfl,pre.n.ones⟩,hcnd.1,by simp; omega,rfl,fun T v hv=>?_,fun T cs hcs=>?_,fun k c hk=>?_⟩
   ·obtain ⟨i,h1,h2⟩:=Tj hv
    rw [Nat.zero_add] at h1
    subst h1
    have hi:T<vals.length:=by rw [pre.len]; exact (List.getElem?_eq_some_iff.1 h2).1
    have hx:vals[T]? = some vals[T]:=List.getElem?_eq_getElem hi
    have hrt:=pre.args T v _ h2 hx
    have e:(vals.toArray++Array.replicate (fn.ntmps-vals.toArray.size) undef).getD T undef=vals[T]:=by
     rw [Array.getD_eq_getD_getElem?,Array.getElem?_append_left (by simpa using hi)]
     simp [hi]
    dsimp only
    rw [e]
    exact He (Bk hrt) hrt
   ·obtain ⟨i,h1,h2⟩:=Tl hcs
    subst h1
    exact pre.bx i cs h2
   ·obtain ⟨x,h1,h2⟩:=hcs0 k c hk
    obtain ⟨hi,rfl⟩:=List.getElem?_eq_some_iff.1 h1
    have e:(vals.toArray++Array.replicate (fn.ntmps-vals.toArray.size) undef).getD k undef=vals[k]:=by
     rw [Array.getD_eq_getD_getElem?,Array.getElem?_append_left (by simpa using hi)]
     simp [hi]
    dsimp only
    rw [e]
    exact h2
  have hcap:∀(k t off sz:Nat) (es:List (List V)),g.args[k]? = some (.own t off sz es)→sz≠0→∃x ad cap,vals[k]? = some x∧x = .slice ad es.length cap∧es.length≤cap∧(off=0→cap≤9223372036854775807)∧(0<cap→ad≠none):=by
   intro k t off sz es hk hz
   have hi:k<vals.length:=by rw [pre.len]; exact (List.getElem?_eq_some_iff.1 hk).1
   have hx:vals[k]? = some vals[k]:=List.getElem?_eq_getElem hi
   have hro:=Ct (pre.args k _ _ hk hx)
   obtain ⟨ad,cap,g1,g2,g3⟩:=hro.slice hz
   refine ⟨_,ad,cap,hx,g1,g2,fun h0=>?_,fun hp hn=>by have:=(g3 hn).2; omega⟩
   rcases hro with ⟨_,_,e⟩ | ⟨e,_⟩ | ⟨b,cap',cur,E,_,e,_,_,_,e6,_⟩ | ⟨_,_,_,_,_,e,_⟩
   rotate_right
   ·exact absurd e hz
   ·rw [g1] at e; simp only [Value.slice.injEq] at e; omega
   ·exact absurd h0 e
   ·rw [g1] at e; cases e
    have:maxLen=9223372036854775807:=rfl
    omega
  obtain ⟨cs,hcs,hW⟩:∃cs:List (Nat×Int),(∀k c,look cs k=some c→∃x,vals[k]? = some x∧Nk x c)∧W (Bv P φ) (Kg P φ fn.ntmps c) (FQ rs g.bx.length t) ⟨Mi g.args 0,Mj g.bx Am,cs⟩:=by
   rcases hW with hW | hW
   ·exact ⟨[],fun _ _ hh=>(by simp [look] at hh),hW⟩
   ·refine ⟨_,fun k c hk=>?_,hW (fun k=>jE (vals[k]?.getD undef)) fun k t off sz es hk hz=>?_⟩
    ·obtain ⟨i,T,off,sz,es,rfl,h2,rfl⟩:=Ra hk
     rw [Nat.zero_add]
     obtain ⟨x,ad,cap,x1,rfl,x3,x4,x5⟩:=hcap i T off (sz+1) es h2 (by omega)
     refine ⟨_,x1,ad,es.length,cap,rfl,?_⟩
     rw [x1]
     simp only [Option.getD_some,jE,Zy]
     exact ⟨Int.le_refl _,fun hh=>x5 (by omega),fun _=>by omega⟩
    ·obtain ⟨x,ad,cap,x1,rfl,x3,x4,x5⟩:=hcap k t off sz es hk hz
     rw [x1]
     exact ⟨x3,x4⟩
  have hrel:=hrel cs hcs
  refine Wi c hW hrel fun e S' m' a' w' hq h'=>?_
  have fin:(∃S1,Fg S' S1∧aX rs g.bx.length t S1)→a'.defers=[]∧∃v,(results fn a'.tmps).run P w' = .ok v w'∧∃x m'',(Ending.returned v) = .returned x∧fC φ w m g t x m'' w':=by
   rintro ⟨S1,hfg,hret⟩
   obtain ⟨m1,h'⟩:=h'.fg hfg
   unfold aX at hret
   split at hret
   ·rename_i v hv
    obtain ⟨val,h1,h2⟩:=aF hrs h' hv
    obtain ⟨m'',h3⟩:=CX h'.toLay h' h2 hret
    exact ⟨h'.defers,val,h1,val,m'',rfl,h3⟩
   ·exact hret.elim
  cases e with
  | normal=>exact fin hq
  | exit id=>exact hq.elim
  | ret=>exact fin hq
 ·cases hcomp
def FW (P:Program) (φ:By) (T:Nat→Option Er):Prop:=∀f xf,T f=some xf→∀fid,look φ fid=some f→∃fn,P.funcs[fid]? = some fn∧Lk P φ fn=some xf
theorem aK {T:Nat→Option Er} (hT:FW P φ T) {f:Nat} {xf:Er} (hf:T f=some xf) {g:Md} {t:De} (h:cP (Bv P φ) xf g t):Bv P φ f g t:=by
 intro fid hfid
 obtain ⟨fn,h1,h2⟩:=hT f xf hf fid hfid
 exact jN h2 h1 h
end Go.Ev
