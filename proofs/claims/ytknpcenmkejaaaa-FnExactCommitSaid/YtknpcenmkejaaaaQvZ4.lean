/- A function's end; the soundness of the small machine. -/
import Derived.Test.YtknpcenmkejaaaaQvZ3
set_option linter.all false
namespace Go.Ev
open Go.RowKit
variable {φ:Cz} {m m' m0 m1 m2:M} {w w' w0:World} {A:Fr} {nt:Nat} {S S' S1:St} {a:Act} {P:Program}
def Ue (TS:List Nat) (t:Nat):Option Nat:=match TS[t%32]? with
 | some T=>bif Nat.beq t (tg T (t%32)) then some T else none
 | none=>none
theorem Zw {TS:List Nat} {i T:Nat} (h:TS[i]? = some T) (hi:i<32):Ue TS (tg T i)=some T:=by
 unfold Ue
 rw [gK T hi,h]
 have:Nat.beq (tg T i) (tg T i)=true:=Nat.beq_refl _
 simp only [this,cond_true]
theorem Xm {TS:List Nat} {t T:Nat} (h:Ue TS t=some T):∃i,i<32∧TS[i]? = some T∧t=tg T i:=by
 unfold Ue at h
 split at h
 ·rename_i T' hT
  cases hb:Nat.beq t (tg T' (t%32)) with
  | true=>
   rw [hb] at h
   cases h
   exact ⟨_,Nat.mod_lt _ (by decide),hT,Nat.eq_of_beq_eq_true hb⟩
  | false=>rw [hb] at h; cases h
 ·cases h
def Dw (m:M) (TS NB:List Nat):M:=
 ⟨m.A,
  fun k t=>if Bd≤t then m.blk k t else if k then (NB[t]?).bind (m.blk true) else (Ue TS t).bind (m.blk false),
  fun t j c=>if Bd≤t then m.nst t j c else (Ue TS t).bind fun T=>m.nst T j c⟩
theorem Ug:∀(l:List V),Bu (Hf l)=true∧∀t∈Hf l,t<Bd
 | []=>⟨rfl,by simp [Hf]⟩
 | c::r=>by
  have ih:=Ug r
  cases c with
  | own t off sz es=>
   simp only [Hf]
   split
   ·exact ih
   ·rename_i hc
    simp only [Bool.or_eq_true,decide_eq_true_eq,not_or,Nat.not_le] at hc
    refine ⟨?_,fun x hx=>?_⟩
    ·simp only [Bu,Bool.and_eq_true,ih.1,and_true]
     refine List.all_eq_true.2 fun x hx=>?_
     have:x≠t:=by rintro rfl; exact hc.2 (by simpa using hx)
     simpa using this
    ·rcases List.mem_cons.1 hx with rfl | hx
     ·exact hc.1
     ·exact ih.2 x hx
  | _=>exact ih
theorem Qj:∀(l:List V),Bu (Ee l)=true∧∀t∈Ee l,t<Bd
 | []=>⟨rfl,by simp [Ee]⟩
 | c::r=>by
  have ih:=Qj r
  cases c with
  | ptr t k=>
   simp only [Ee]
   split
   ·exact ih
   ·rename_i hc
    simp only [Bool.or_eq_true,decide_eq_true_eq,not_or,Nat.not_le] at hc
    refine ⟨?_,fun x hx=>?_⟩
    ·simp only [Bu,Bool.and_eq_true,ih.1,and_true]
     refine List.all_eq_true.2 fun x hx=>?_
     have:x≠t:=by rintro rfl; exact hc.2 (by simpa using hx)
     simpa using this
    ·rcases List.mem_cons.1 hx with rfl | hx
     ·exact hc.1
     ·exact ih.2 x hx
  | _=>exact ih
section
variable {TS NB:List Nat}
theorem Iq {k:Bool} {t b:Nat} (h:(Dw m TS NB).blk k t=some b):∃T,m.blk k T=some b∧((Bd≤t∧T=t)∨(t<Bd∧∃i,(if k then NB else TS)[i]? = some T∧t=if k then i else tg T i)):=by
 simp only [Dw] at h
 split at h
 ·rename_i ht
  exact ⟨t,h,.inl ⟨ht,rfl⟩⟩
 ·rename_i ht
  cases k
  ·simp only [Bool.false_eq_true,if_false] at h ⊢
   cases hl:Ue TS t with
   | none=>rw [hl] at h; cases h
   | some T=>
    rw [hl] at h
    obtain ⟨i,h1,h2,h3⟩:=Xm hl
    exact ⟨T,h,.inr ⟨by omega,i,h2,h3⟩⟩
  ·simp only [if_true] at h ⊢
   cases hl:NB[t]? with
   | none=>rw [hl] at h; cases h
   | some T=>rw [hl] at h; exact ⟨T,h,.inr ⟨by omega,t,hl,rfl⟩⟩
theorem Io {t j c b:Nat} (h:(Dw m TS NB).nst t j c=some b):∃T,m.nst T j c=some b∧((Bd≤t∧T=t)∨(t<Bd∧∃i,TS[i]? = some T∧t=tg T i)):=by
 simp only [Dw] at h
 split at h
 ·rename_i ht
  exact ⟨t,h,.inl ⟨ht,rfl⟩⟩
 ·rename_i ht
  cases hl:Ue TS t with
  | none=>rw [hl] at h; cases h
  | some T=>
   rw [hl] at h
   obtain ⟨i,h1,h2,h3⟩:=Xm hl
   exact ⟨T,h,.inr ⟨by omega,i,h2,h3⟩⟩
theorem Tu {b:Nat} (h:(Dw m TS NB).avoid b):m.avoid b:=by
 rcases h with h | ⟨k,t,h⟩ | ⟨t,j,c,h⟩
 ·exact .inl h
 ·obtain ⟨T,h1,_⟩:=Iq h
  exact .inr (.inl ⟨k,T,h1⟩)
 ·obtain ⟨T,h1,_⟩:=Io h
  exact .inr (.inr ⟨T,j,c,h1⟩)
theorem lC {e T:Nat} (h:TS[e]? = some T) (hl:TS.length<33):(Dw m TS NB).blk false (tg T e)=m.blk false T:=by
 have:=(List.getElem?_eq_some_iff.1 h).1
 have h2:=tg_lt T (e:=e) (by omega)
 simp only [Dw,Bool.false_eq_true,if_false]
 rw [if_neg (by simp only [Bd]; omega),Zw h (by omega)]
 rfl
theorem fD {e T:Nat} (h:TS[e]? = some T) (hl:TS.length<33) (j c:Nat):(Dw m TS NB).nst (tg T e) j c=m.nst T j c:=by
 have:=(List.getElem?_eq_some_iff.1 h).1
 have h2:=tg_lt T (e:=e) (by omega)
 simp only [Dw]
 rw [if_neg (by simp only [Bd]; omega),Zw h (by omega)]
 rfl
theorem Zf {e T:Nat} (h:NB[e]? = some T) (hl:NB.length<33):(Dw m TS NB).blk true e=m.blk true T:=by
 have:=(List.getElem?_eq_some_iff.1 h).1
 simp only [Dw,if_true]
 rw [if_neg (by simp only [Bd]; omega),h]
 rfl
theorem Ip {k:Bool} {t:Nat} (h:Bd≤t):(Dw m TS NB).blk k t=m.blk k t:=by
 simp only [Dw]
 rw [if_pos h]
theorem Lg {t:Nat} (h:Bd≤t) (j c:Nat):(Dw m TS NB).nst t j c=m.nst t j c:=by
 simp only [Dw]
 rw [if_pos h]
theorem lB (hin:∀k t k' t' b,m.blk k t=some b→m.blk k' t'=some b→k=k'∧t=t') (hT:Bu TS=true) (hN:Bu NB=true)
  (hT2:∀t∈TS,t<Bd) (hN2:∀t∈NB,t<Bd):
  ∀k t k' t' b,(Dw m TS NB).blk k t=some b→(Dw m TS NB).blk k' t'=some b→k=k'∧t=t':=by
 intro k t k' t' b h1 h2
 obtain ⟨T,g1,g2⟩:=Iq h1
 obtain ⟨T',g3,g4⟩:=Iq h2
 obtain ⟨rfl,rfl⟩:=hin _ _ _ _ _ g1 g3
 refine ⟨rfl,?_⟩
 have hlt:∀ {x:Nat},(if k then NB else TS)[x]? = some T→T<Bd:=fun {x} hx=>by
  cases k
  ·exact hT2 T (List.mem_of_getElem? hx)
  ·exact hN2 T (List.mem_of_getElem? hx)
 rcases g2 with ⟨p1,rfl⟩ | ⟨p1,i,p2,p3⟩<;>rcases g4 with ⟨q1,q2⟩ | ⟨q1,i',q2,q3⟩
 ·exact q2
 ·have:=hlt q2; omega
 ·subst q2; have:=hlt p2; omega
 ·cases k
  ·have:=Fu hT p2 q2
   subst this
   rw [p3,q3]
  ·have:=Fu hN p2 q2
   subst this
   rw [p3,q3]
theorem VY {w0:World} {A:Fr} (L:Lay w0 A m w) (hT:Bu TS=true) (hT2:∀t∈TS,t<Bd) {mb:M} (hA:∀b,A.ext b→mb.held b) (hp:∀T j c,Bd≤T→A.npin T j c=mb.nst T j c):ZU w0 mb (Dw m TS NB) w:=by
 refine ⟨fun T j c T' j' c' b h1 h2=>?_,fun T j c k t b h1 h2=>?_,fun T j c b h1=>?_,fun T j c h1=>by rw [Lg h1,L.n.pin _ _ _ h1,hp _ _ _ h1],fun T j c b cur e x h1 h2=>?_⟩
 ·obtain ⟨X,g1,g2⟩:=Io h1
  obtain ⟨X',g3,g4⟩:=Io h2
  obtain ⟨rfl,rfl,rfl⟩:=L.n.inj _ _ _ _ _ _ _ g1 g3
  refine ⟨?_,rfl,rfl⟩
  rcases g2 with ⟨p1,rfl⟩ | ⟨p1,i,p2,p3⟩<;>rcases g4 with ⟨q1,q2⟩ | ⟨q1,i',q2,q3⟩
  ·exact q2
  ·have:=hT2 _ (List.mem_of_getElem? q2); omega
  ·subst q2; have:=hT2 _ (List.mem_of_getElem? p2); omega
  ·have:=Fu hT p2 q2
   subst this
   rw [p3,q3]
 ·obtain ⟨X,g1,g2⟩:=Io h1
  obtain ⟨X',g3,g4⟩:=Iq h2
  exact L.n.dis _ _ _ _ _ _ g1 g3
 ·obtain ⟨X,g1,g2⟩:=Io h1
  have:=L.n.bnd _ _ _ _ g1
  exact ⟨this.1,this.2.1.imp id (hA b),this.2.2⟩
 ·obtain ⟨X,g1,g2⟩:=Io h1
  exact L.n.ones _ _ _ _ _ _ _ g1 h2
theorem uI (TS NB:List Nat):Df (Ry TS NB):=by
 refine ⟨rfl,fun c h1 h2 h3=>?_⟩
 cases c with
 | own t off sz es=>
  simp only [Ry]
  split
  ·simp
  ·split<;>simp
 | ptr t k=>
  simp only [Ry]
  split
  ·simp
  ·split<;>simp
 | agg cs=>exact absurd rfl (h1 cs)
 | tup vs=>exact absurd rfl (h2 vs)
 | may b v=>exact absurd rfl (h3 b v)
 | _=>simp [Ry,If,Ly]
theorem Vm {t e off sz:Nat} {es:List (List V)} {v:Value} (hro:RO φ m w t off sz es v) (hb:(Dw m TS NB).blk false e=m.blk false t) (hd:Bh e=Bh t) (hn:∀j c,(Dw m TS NB).nst e j c=m.nst t j c):RO φ (Dw m TS NB) w e off sz es v:=by
 rcases hro with h1 | h1 | ⟨b,cap,cur,ty,h1,h2,h3,h4,h5,h6,h7,h8,h9⟩ | ⟨b,es',ents,clock,h1,h2,h3,h4,h5,h6,h7⟩
 ·exact .inl h1
 ·exact .inr (.inl h1)
 rotate_right
 ·exact .inr (.inr (.inr ⟨b,es',ents,clock,h1,h2,h3,h4,by rw [hb]; exact h5,h6,h7⟩))
 ·refine .inr (.inr (.inl ⟨b,cap,cur,ty,by rw [hb]; exact h1,h2,h3,h4,h5,h6,h7,h8,fun j y k c' g1 g2=>?_⟩))
  obtain ⟨u,k1,k2,k3⟩:=h9 j y k c' g1 g2
  refine ⟨u,k1,k2,?_⟩
  rcases k3 with ⟨k3,k4⟩ | ⟨k3,s',e',k4,k5⟩
  ·exact .inl ⟨k3.mono (Nat.le_refl _) (fun _ _ _=>rfl) (fun b _ hn hh=>hn (Tu hh)),by rw [hd]; exact k4⟩
  ·exact .inr ⟨by rw [hd]; exact k3,s',e',k4,by rw [hn]; exact k5⟩
theorem jR (hT:TS.length<33) (hN:NB.length<33) {c:V} {v:Value} (h:RC φ m w c v):RC φ (Dw m TS NB) w (Ry TS NB c) v:=by
 have hav:∀b,b<w.heap.size→¬m.avoid b→¬(Dw m TS NB).avoid b:=fun b _ hn hh=>hn (Tu hh)
 have rp:∀ {t e k:Nat},RP m t k v→(Dw m TS NB).blk true e=m.blk true t→RP (Dw m TS NB) e k v:=by
  rintro t e k ⟨b,hb,rfl⟩ he
  exact ⟨b,by rw [he]; exact hb,rfl⟩
 have bs:∀ {c0:V},RD φ w m.avoid c0 v→RC φ (Dw m TS NB) w (If c0) v:=fun hd=>Gu (Qg (hd.mono (Nat.le_refl _) (fun _ _ _=>rfl) hav))
 cases c with
 | own t off sz es=>
  simp only [Ry]
  split
  ·rename_i ht
   exact Vm h (Ip ht) rfl (Lg ht)
  ·cases hp:Fd t TS 0 with
   | none=>trivial
   | some e=>
    obtain ⟨j,h1,h2⟩:=Gj hp
    rw [Nat.zero_add] at h1
    subst h1
    have hlt:e<32:=by have:=(List.getElem?_eq_some_iff.1 h2).1; omega
    exact Vm h (lC h2 hT) (iJ t hlt) (fD h2 hT)
 | ptr t k=>
  simp only [Ry]
  split
  ·rename_i ht
   exact rp h (Ip ht)
  ·cases hp:Fd t NB 0 with
   | none=>trivial
   | some e=>
    obtain ⟨j,h1,h2⟩:=Gj hp
    rw [Nat.zero_add] at h1
    subst h1
    exact rp h (Zf h2 hN)
 | clo f caps=>
  obtain ⟨fid,vs,g1,rfl,g3,g4⟩:=h
  refine ⟨fid,vs,g1,rfl,by simpa using g3,fun i c0 v k1 k2=>?_⟩
  simp only [List.getElem?_map,Option.map_eq_some_iff] at k1
  obtain ⟨c1,k1,rfl⟩:=k1
  have hq:=g4 i c1 v k1 k2
  have hd:RD φ w (Dw m TS NB).avoid (Ly c1) v:=by
   rcases Mf hq with ⟨T,k,rfl,hp⟩ | ⟨_,hd⟩
   ·exact .undef _ hp.one
   ·exact (Me hd).mono (Nat.le_refl _) (fun _ _ _=>rfl) hav
  cases c1<;>exact hd
 | optr T sz j k=>trivial
 | nrow T j c sz es=>trivial
 | undef=>trivial
 | agg x1=>trivial
 | tup x1=>trivial
 | may x1 x2=>trivial
 | int x1 x2=>exact bs (c0:=.int x1 x2) h
 | bool x1=>exact bs (c0:=.bool x1) h
 | str x1=>exact bs (c0:=.str x1) h
 | lst x1 x2=>exact bs (c0:=.lst x1 x2) h
 | iptr x1=>exact bs (c0:=.iptr x1) h
end
theorem Es:∀(n:Nat),(Uf n).length=n
 | 0=>rfl
 | n+1=>by simp [Uf,Es n]
theorem Mx:∀ {n i:Nat},i<n→(Uf n)[i]? = some (Bd+i)
 | n+1,i,h=>by
  simp only [Uf]
  by_cases e:i<n
  ·rw [List.getElem?_append_left (by rw [Es]; exact e)]
   exact Mx e
  ·have:i=n:=by omega
   subst this
   rw [List.getElem?_append_right (by rw [Es]; exact Nat.le_refl _),Es]
   simp
theorem Tz {S:St}:∀ {l:List Nat} {css:List (List V)},Ll S l=some css→∀ {i:Nat} {cs:List V},css[i]? = some cs→∃t,l[i]? = some t∧look S.bx t=some cs
 | [],css,h,i,cs,hi=>by
  simp only [Ll,Option.some.injEq] at h
  subst h
  simp at hi
 | t::r,css,h,i,cs,hi=>by
  simp only [Ll] at h
  split at h
  ·rename_i c cr h1 h2
   cases h
   cases i with
   | zero=>simp at hi; subst hi; exact ⟨t,rfl,h1⟩
   | succ i=>
    obtain ⟨t',h3,h4⟩:=Tz h2 (i:=i) (cs:=cs) (by simpa using hi)
    exact ⟨t',by simpa using h3,h4⟩
  ·cases h
theorem Sa {S:St}:∀ {k:Nat} {l:List (Nat×Nat×List (List V))},Rz S k l→∀ {i off sz:Nat} {es:List (List V)},l[i]? = some (off,sz,es) →
  S.findR (k+i)=some (off,es)∧∀e∈es,e.length=sz
 | k,(o,s,e)::r,h,i,off,sz,es,hi=>by
  cases i with
  | zero=>
   simp only [List.getElem?_cons_zero,Option.some.injEq,Prod.mk.injEq] at hi
   obtain ⟨rfl,rfl,rfl⟩:=hi
   exact h.1
  | succ i=>
   have:=Sa h.2 (i:=i) (by simpa using hi)
   rw [show k+1+i=k+(i+1) from by omega] at this
   exact this
 | k,[],h,i,off,sz,es,hi=>by simp at hi
theorem YY {g:Ow} {t:Ep} {v:V} {val:Value} (hp:Lay w ⟨m0.A,m0.held,m0.blk,m0.nst⟩ m w')
  (h:Bm φ w ⟨m0.A,m0.held,m0.blk,m0.nst⟩ nt m S a w') (hv:RT φ m w' v val) (ht:Yb S v g.bx.length t):
  ∃m',nD φ w m0 g t val m' w':=by
 unfold Yb at ht
 dsimp only at ht
 split at ht
 ·rename_i css hcss
  obtain ⟨hless,hr,hbx,hrw⟩:=ht
  generalize hTS:Hf (v.flat++css.flatten)=TS at *
  generalize hNB:Ee v.flat=NB at *
  have s1:=Ug (v.flat++css.flatten)
  have s2:=Qj v.flat
  rw [hTS] at s1; rw [hNB] at s2
  have l1:=Gp hless TS.length (by simp)
  have l2:=Gp hless NB.length (by simp)
  refine ⟨Dw m TS NB,hp.hA,lB hp.inj s1.1 s2.1 s1.2 s2.2,fun k T b hb=>?_,fun k T hT=>?_,hp.lies,?_,fun i cs hi=>?_,fun i off sz es hi=>?_,fun T b cur e x hb hw=>by
   obtain ⟨T',h1,_⟩:=Iq hb
   exact hp.ones T' b cur e x h1 hw,VY hp s1.1 s1.2 (fun _ h=>h) (fun _ _ _ _=>rfl)⟩
  ·obtain ⟨T',h1,_⟩:=Iq hb
   exact hp.bnd _ _ _ h1
  ·rw [Ip hT]
   exact hp.pin k T hT
  ·rw [←hr,Jl _ _ (Ck hv)]
   exact RT.mapT (uI TS NB) hv fun c x _ hx=>jR l1 l2 hx
  ·rw [←hbx,Jh] at hi
   simp only [Option.map_eq_some_iff] at hi
   obtain ⟨cs0,hi,rfl⟩:=hi
   obtain ⟨T,h1,h2⟩:=Tz hcss hi
   obtain ⟨b,cur,e,g1,g2,g3⟩:=h.rb h2
   have cells:∀ {n:Nat},(Dw m TS NB).blk true n=m.blk true T→RB φ (Dw m TS NB) w' n (cs0.map (Ry TS NB)):=by
    intro n hn
    refine ⟨b,cur,e,by rw [hn]; exact g1,g2,fun j c hj=>?_⟩
    simp only [List.getElem?_map,Option.map_eq_some_iff] at hj
    obtain ⟨c0,hj,rfl⟩:=hj
    obtain ⟨u,k1,k2,k3⟩:=g3 j c0 hj
    exact ⟨u,k1,jR l1 l2 k2,k3⟩
   by_cases hlt:i<g.bx.length
   ·rw [if_pos hlt]
    rw [List.getElem?_append_left (by rw [Es]; exact hlt),Mx hlt] at h1
    obtain rfl:=Option.some.inj h1
    exact cells (Ip (Nat.le_add_right _ _))
   ·rw [if_neg hlt]
    rw [List.getElem?_append_right (by rw [Es]; omega),Es] at h1
    exact cells (Zf h1 l2)
  ·obtain ⟨h1,h2⟩:=Sa hrw hi
   rw [Nat.zero_add] at h1
   unfold St.findR at h1
   split at h1
   ·rename_i y hy
    cases h1
    obtain ⟨sz',_,val',h3⟩:=h.find hy
    exact ⟨h2,sz',val',.inl (Vm h3 (Ip (by simp only [Bd]; omega)) rfl (Lg (by simp only [Bd]; omega)))⟩
   ·obtain ⟨sz',_,val',h3⟩:=h.find h1
    exact ⟨h2,sz',val',.inr (Vm h3 (Ip (by simp only [Bd]; omega)) rfl (Lg (by simp only [Bd]; omega)))⟩
 ·exact ht.elim
theorem Xb:∀ {l:List V} {k t:Nat} {v:V},look (Pb l k) t=some v→∃i,t=k+i∧l[i]? = some v
 | x::r,k,t,v,h=>by
  simp only [Pb,look] at h
  split at h
  ·rename_i e
   exact ⟨0,by omega,by simpa using h⟩
  ·obtain ⟨i,h1,h2⟩:=Xb h
   exact ⟨i+1,by omega,by simpa using h2⟩
 | [],_,_,_,h=>by simp [Pb,look] at h
theorem Xc:∀ {l:List (List V)} {k t:Nat} {v:List V},look (Pc l k) t=some v→∃i,t=k+i∧l[i]? = some v
 | x::r,k,t,v,h=>by
  simp only [Pc,look] at h
  split at h
  ·rename_i e
   exact ⟨0,by omega,by simpa using h⟩
  ·obtain ⟨i,h1,h2⟩:=Xc h
   exact ⟨i+1,by omega,by simpa using h2⟩
 | [],_,_,_,h=>by simp [Pc,look] at h
theorem Ua {f:Nat→Nat}:∀ {l:List V} {k t:Nat} {c:Int},look (Pp f l k) t=some c→∃i T off sz es,t=k+i∧l[i]? = some (.own T off (sz+1) es)∧c=Ei+(f t:Int)
 | [],_,_,_,h=>by simp [Pp,look] at h
 | x::r,k,t,c,h=>by
  have rest:look (Pp f r (k+1)) t=some c→∃i T off sz es,t=k+i∧(x::r)[i]? = some (.own T off (sz+1) es)∧c=Ei+(f t:Int):=fun h=>by
   obtain ⟨i,T,off,sz,es,h1,h2,h3⟩:=Ua h
   exact ⟨i+1,T,off,sz,es,by omega,by simpa using h2,h3⟩
  unfold Pp at h
  split at h
  ·rename_i e; cases e
  ·rename_i e; cases e
   simp only [look] at h
   split at h
   ·rename_i e
    subst e
    exact ⟨0,_,_,_,_,by omega,rfl,(Option.some.inj h).symm⟩
   ·exact rest h
  ·rename_i e; cases e
   exact rest h
def rN:Value→Nat
 | .slice _ _ c=>c
 | _=>0
theorem sB {fn:Func} {xf:Dl} {fid:Nat} (hcomp:Np P φ fn=some xf) (hfn:P.funcs[fid]? = some fn) {g:Ow} {t:Ep} (h:kG (Cy P φ) xf g t):
  Si P fid∧∀(w:World) (m:M) (vals:List Value),Pre φ w m g vals→Calls P fid vals.toArray w fun e w'=>∃x m',e = .returned x∧nD φ w m g t x m' w':=by
 unfold Np at hcomp
 split at hcomp
 ·rename_i c rs hb hrs
  split at hcomp
  ·cases hcomp
  rename_i hcnd
  simp only [Bool.or_eq_true,decide_eq_true_eq,not_or,Nat.not_lt,Bool.not_eq_true] at hcnd
  cases hcomp
  refine ⟨⟨fn,hfn,hcnd.2,by rw [hb]; rfl⟩,fun w m vals pre=>?_⟩
  obtain ⟨hnt,hW⟩:=h
  dsimp only at hnt hW
  have hsz:vals.length≤fn.ntmps:=by rw [pre.len]; exact hnt
  refine calls_of_wp hfn hb ?_
  have hrel:∀cs:List (Nat×Int),(∀k c,look cs k=some c→∃x,vals[k]? = some x∧Qf x c)→Bm φ w ⟨m.A,m.held,m.blk,m.nst⟩ fn.ntmps m ⟨Pb g.args 0,Pc g.bx Bd,cs⟩ { tmps:=vals.toArray++Array.replicate (fn.ntmps-vals.toArray.size) undef,defers:=[] } w:=by
   intro cs hcs0
   refine ⟨⟨rfl,pre.hAlt,pre.inj,fun k t b hb=>⟨(pre.bnd _ _ _ hb).1,.inr (.inl ⟨k,t,hb⟩),(pre.bnd _ _ _ hb).2⟩,fun _ _ _=>rfl,Iu.refl _ w,pre.ones,pre.n.inj,pre.n.dis,fun T j c b hb=>⟨(pre.n.bnd _ _ _ _ hb).1,.inr (.inr ⟨T,j,c,hb⟩),(pre.n.bnd _ _ _ _ hb).2⟩,fun _ _ _ _=>rfl,pre.n.ones⟩,hcnd.1,by simp; omega,rfl,fun T v hv=>?_,fun T cs hcs=>?_,fun k c hk=>?_⟩
   ·obtain ⟨i,h1,h2⟩:=Xb hv
    rw [Nat.zero_add] at h1
    subst h1
    have hi:T<vals.length:=by rw [pre.len]; exact (List.getElem?_eq_some_iff.1 h2).1
    have hx:vals[T]? = some vals[T]:=List.getElem?_eq_getElem hi
    have hrt:=pre.args T v _ h2 hx
    have e:(vals.toArray++Array.replicate (fn.ntmps-vals.toArray.size) undef).getD T undef=vals[T]:=by
     rw [Array.getD_eq_getD_getElem?,Array.getElem?_append_left (by simpa using hi)]
     simp [hi]
    dsimp only
    rw [e]
    exact Iv (Ck hrt) hrt
   ·obtain ⟨i,h1,h2⟩:=Xc hcs
    subst h1
    exact pre.bx i cs h2
   ·obtain ⟨x,h1,h2⟩:=hcs0 k c hk
    obtain ⟨hi,rfl⟩:=List.getElem?_eq_some_iff.1 h1
    have e:(vals.toArray++Array.replicate (fn.ntmps-vals.toArray.size) undef).getD k undef=vals[k]:=by
     rw [Array.getD_eq_getD_getElem?,Array.getElem?_append_left (by simpa using hi)]
     simp [hi]
    dsimp only
    rw [e]
    exact h2
  have hcap:∀(k t off sz:Nat) (es:List (List V)),g.args[k]? = some (.own t off sz es)→sz≠0→∃x ad cap,vals[k]? = some x∧x = .slice ad es.length cap∧es.length≤cap∧(off=0→cap≤9223372036854775807)∧(0<cap→ad≠none):=by
   intro k t off sz es hk hz
   have hi:k<vals.length:=by rw [pre.len]; exact (List.getElem?_eq_some_iff.1 hk).1
   have hx:vals[k]? = some vals[k]:=List.getElem?_eq_getElem hi
   have hro:=Dx (pre.args k _ _ hk hx)
   obtain ⟨ad,cap,g1,g2,g3⟩:=hro.slice hz
   refine ⟨_,ad,cap,hx,g1,g2,fun h0=>?_,fun hp hn=>by have:=(g3 hn).2; omega⟩
   rcases hro with ⟨_,_,e⟩ | ⟨e,_⟩ | ⟨b,cap',cur,E,_,e,_,_,_,e6,_⟩ | ⟨_,_,_,_,_,e,_⟩
   rotate_right
   ·exact absurd e hz
   ·rw [g1] at e; simp only [Value.slice.injEq] at e; omega
   ·exact absurd h0 e
   ·rw [g1] at e; cases e
    have:maxLen=9223372036854775807:=rfl
    omega
  obtain ⟨cs,hcs,hW⟩:∃cs:List (Nat×Int),(∀k c,look cs k=some c→∃x,vals[k]? = some x∧Qf x c)∧W (Cy P φ) (Ml P φ fn.ntmps c) (FQ rs g.bx.length t) ⟨Pb g.args 0,Pc g.bx Bd,cs⟩:=by
   rcases hW with hW | hW
   ·exact ⟨[],fun _ _ hh=>(by simp [look] at hh),hW⟩
   ·refine ⟨_,fun k c hk=>?_,hW (fun k=>rN (vals[k]?.getD undef)) fun k t off sz es hk hz=>?_⟩
    ·obtain ⟨i,T,off,sz,es,rfl,h2,rfl⟩:=Ua hk
     rw [Nat.zero_add]
     obtain ⟨x,ad,cap,x1,rfl,x3,x4,x5⟩:=hcap i T off (sz+1) es h2 (by omega)
     refine ⟨_,x1,ad,es.length,cap,rfl,?_⟩
     rw [x1]
     simp only [Option.getD_some,rN,bH]
     exact ⟨Int.le_refl _,fun hh=>x5 (by omega),fun _=>by omega⟩
    ·obtain ⟨x,ad,cap,x1,rfl,x3,x4,x5⟩:=hcap k t off sz es hk hz
     rw [x1]
     exact ⟨x3,x4⟩
  have hrel:=hrel cs hcs
  refine aN c hW hrel fun e S' m' a' w' hq h'=>?_
  have fin:(∃S1,Fg S' S1∧gZ rs g.bx.length t S1)→a'.defers=[]∧∃v,(results fn a'.tmps).run P w' = .ok v w'∧∃x m'',(Ending.returned v) = .returned x∧nD φ w m g t x m'' w':=by
   rintro ⟨S1,hfg,hret⟩
   obtain ⟨m1,h'⟩:=h'.fg hfg
   unfold gZ at hret
   split at hret
   ·rename_i v hv
    obtain ⟨val,h1,h2⟩:=gG hrs h' hv
    obtain ⟨m'',h3⟩:=YY h'.toLay h' h2 hret
    exact ⟨h'.defers,val,h1,val,m'',rfl,h3⟩
   ·exact hret.elim
  cases e with
  | normal=>exact fin hq
  | exit id=>exact hq.elim
  | ret=>exact fin hq
 ·cases hcomp
def Tied (P:Program) (φ:Cz) (T:Nat→Option Dl):Prop:=∀f xf,T f=some xf→∀fid,look φ fid=some f→∃fn,P.funcs[fid]? = some fn∧Np P φ fn=some xf
theorem gL {T:Nat→Option Dl} (hT:Tied P φ T) {f:Nat} {xf:Dl} (hf:T f=some xf) {g:Ow} {t:Ep} (h:kG (Cy P φ) xf g t):Cy P φ f g t:=by
 intro fid hfid
 obtain ⟨fn,h1,h2⟩:=hT f xf hf fid hfid
 exact sB h2 h1 h
end Go.Ev
