/- The state behind freezing, behind writes to boxes and rows. -/
import Derived.Test.YtjkemmodemomdaaGreatDoorQvS3
set_option linter.all false
namespace Go.Ev
open Go.RowKit
variable {φ:Bz} {m m':M} {w w' w0:World} {A:Fr} {nt:Nat} {S S':St} {a:Act}
theorem Hl {v:V} (h:∀cs,v ≠ .agg cs):v.cells=[v]:=by
 cases v with
 | agg cs=>exact absurd rfl (h cs)
 | _=>rfl
theorem Sx (v:V):(∃cs,v = .agg cs)∨∀cs,v ≠ .agg cs:=by
 cases v with
 | agg cs=>exact .inl ⟨cs,rfl⟩
 | _=>exact .inr (by simp)
theorem Pp {f:V→V} (hf:Cg f) {v:V} (h1:∀vs,v ≠ .tup vs) (h2:∀b x,v ≠ .may b x):(Ev.mapW f v).cells=v.cells.map f:=by
 rcases Sx v with ⟨cs,rfl⟩ | h
 ·rfl
 ·have e:Ev.mapW f v=f v:=by
   cases v with
   | agg cs=>exact absurd rfl (h cs)
   | _=>rfl
  rw [e,Hl h,Hl (hf.cell v h h1 h2).1]
  rfl
theorem Rt {v:V} {val:Value} (h:RW φ m w v val):(∀vs,v ≠ .tup vs)∧(∀b x,v ≠ .may b x):=by
 cases v with
 | tup vs=>exact h.elim
 | may b x=>exact h.elim
 | _=>exact ⟨by simp,by simp⟩
theorem Vd {f:V→V} (hf:Cg f) {v c:V} {val:Value} (hr:RT φ m w v val) (hc:c∈v.flat1):f c∈(Ev.mapT f v).flat1:=by
 by_cases ht:∃vs,v = .tup vs
 ·obtain ⟨vs,rfl⟩:=ht
  obtain ⟨arr,h1,h2,h3⟩:=hr
  have key:∀vs:List V,(∀x∈vs,(∀us,x ≠ .tup us)∧(∀b u,x ≠ .may b u))→c∈cellsL vs→f c∈cellsL (vs.map (Ev.mapW f)):=by
   intro vs
   induction vs with
   | nil=>intro _ h; cases h
   | cons x r ih=>
    intro hx h
    simp only [cellsL,List.mem_append,List.map_cons] at h ⊢
    rcases h with h | h
    ·left
     rw [Pp hf (hx x (by simp)).1 (hx x (by simp)).2]
     exact List.mem_map_of_mem h
    ·exact .inr (ih (fun y hy=>hx y (by simp [hy])) h)
  refine key vs (fun x hx=>?_) hc
  obtain ⟨i,hi,hxi⟩:=List.getElem_of_mem hx
  have hlt:i<arr.length:=by rw [h2]; exact hi
  exact Rt (h3 i x arr[i] (by rw [List.getElem?_eq_getElem hi,hxi]) (List.getElem?_eq_getElem hlt))
 ·have hw:=Me (fun vs h=>ht ⟨vs,h⟩) hr
  obtain ⟨n1,n2⟩:=Rt hw
  have e1:v.flat1=v.cells:=by
   cases v with
   | tup vs=>exact absurd rfl (n1 vs)
   | _=>rfl
  have e2:Ev.mapT f v=Ev.mapW f v:=by
   cases v with
   | tup vs=>exact absurd rfl (n1 vs)
   | _=>rfl
  have e3:(Ev.mapW f v).flat1=(Ev.mapW f v).cells:=by
   have:=(Oj hf n1 n2).1
   generalize Ev.mapW f v=u at this
   cases u with
   | tup vs=>exact absurd rfl (this vs)
   | _=>rfl
  rw [e2,e3,Pp hf n1 n2]
  rw [e1] at hc
  exact List.mem_map_of_mem hc
theorem dA {f:V→V} (hf:Cg f) {v c:V} {val:Value} (hr:RV φ m w v val) (hc:c∈v.flat):
  f c∈(Ft f v).flat∨(∃b x,v = .may b x∧b=false):=by
 by_cases hm:∃b x,v = .may b x
 ·obtain ⟨b,x,rfl⟩:=hm
  cases b with
  | false=>exact .inr ⟨false,x,rfl,rfl⟩
  | true=>
   rw [Qm]
   exact .inl (Vd hf (hr.1 rfl) hc)
 ·have hn:∀b x,v ≠ .may b x:=fun b x h=>hm ⟨b,x,h⟩
  have hr':RT φ m w v val:=by
   cases v with
   | may b x=>exact absurd rfl (hn b x)
   | _=>exact hr
  have e1:v.flat=v.flat1:=by
   cases v with
   | may b x=>exact absurd rfl (hn b x)
   | _=>rfl
  rw [Hh f v hn]
  have hn2:=Oi hf hn
  have:=Vd hf hr' (e1 ▸ hc)
  left
  generalize Ev.mapT f v=u at *
  cases u with
  | may b x=>exact absurd rfl (hn2 b x)
  | _=>exact this
theorem Aw.mapDrop (h:Aw φ w0 A nt m S a w) {f:V→V} (hf:Cg f) {T:Nat} (m':M) (w':World)
  (hc:∀c x,Dp T (f c)=true→RC φ m w c x→RC φ m' w' (f c) x)
  (hb:∀t b,m.blk true t=some b→m'.blk true t=some b∧w'.heap[b]? = w.heap[b]?)
  (L:Lay w0 A m' w'):
  Aw φ w0 A nt m' ((S.map f).drop T) a w':=by
 refine ⟨L,h.hnt,h.size,h.defers,fun t v hv=>?_,fun t cs hcs=>?_,h.cp⟩
 ·rcases Fd hv with rfl | ⟨h1,h2⟩
  ·exact Cy
  ·obtain ⟨v0,h3,rfl⟩:=Gd h1
   have h4:=h.env t v0 h3
   by_cases hm:∃x,v0 = .may false x
   ·obtain ⟨x,rfl⟩:=hm
    rw [Qm]
    exact ⟨fun hh=>by simp at hh,h4.2⟩
   ·refine RV.map hf h4 fun c x hcm hx=>hc c x ?_ hx
    rcases dA hf h4 hcm with h5 | ⟨b,x,h5,h6⟩
    ·exact List.all_eq_true.1 h2 _ h5
    ·subst h6; exact absurd ⟨x,h5⟩ hm
 ·obtain ⟨cs1,h1,rfl⟩:=Db hcs
  obtain ⟨cs0,h2,rfl⟩:=Hg h1
  obtain ⟨b,cur,e,g1,g2,g3⟩:=h.rb h2
  refine ⟨b,cur,e,(hb t b g1).1,by rw [(hb t b g1).2]; exact g2,fun i c hi=>?_⟩
  have hlt:i<cs0.length:=by
   have:=(List.getElem?_eq_some_iff.1 hi).1
   rw [Ee] at this
   simpa using this
  obtain ⟨v,g4,g5,g6⟩:=g3 i cs0[i] (List.getElem?_eq_getElem hlt)
  rcases In hi with rfl | ⟨g7,g8⟩
  ·exact ⟨v,g4,trivial,g6⟩
  ·simp only [List.getElem?_map,List.getElem?_eq_getElem hlt,Option.map_some,Option.some.injEq] at g7
   subst g7
   exact ⟨v,g4,hc _ _ g8 g5,g6⟩
theorem Aw.mapAll (h:Aw φ w0 A nt m S a w) {f:V→V} (hf:Cg f) (m':M) (w':World)
  (hc:∀c x,RC φ m w c x→RC φ m' w' (f c) x)
  (hb:∀t b,m.blk true t=some b→m'.blk true t=some b∧w'.heap[b]? = w.heap[b]?)
  (L:Lay w0 A m' w'):
  Aw φ w0 A nt m' (S.map f) a w':=by
 refine ⟨L,h.hnt,h.size,h.defers,fun t v hv=>?_,fun t cs hcs=>?_,h.cp⟩
 ·obtain ⟨v0,h3,rfl⟩:=Gd hv
  exact RV.map hf (h.env t v0 h3) fun c x _ hx=>hc c x hx
 ·obtain ⟨cs0,h2,rfl⟩:=Hg hcs
  obtain ⟨b,cur,e,g1,g2,g3⟩:=h.rb h2
  refine ⟨b,cur,e,(hb t b g1).1,by rw [(hb t b g1).2]; exact g2,fun i c hi=>?_⟩
  simp only [List.getElem?_map,Option.map_eq_some_iff] at hi
  obtain ⟨c0,h4,rfl⟩:=hi
  obtain ⟨v,g4,g5,g6⟩:=g3 i c0 h4
  exact ⟨v,g4,hc _ _ g5,g6⟩
theorem Tt (h:Aw φ w0 A nt m S a w) (T:Nat):∀k t k' t' b,(m.set false T none).blk k t=some b→(m.set false T none).blk k' t'=some b→k=k'∧t=t':=by
 intro k t k' t' b h1 h2
 by_cases e1:k=false∧t=T
 ·obtain ⟨rfl,rfl⟩:=e1; rw [Bv] at h1; cases h1
 ·by_cases e2:k'=false∧t'=T
  ·obtain ⟨rfl,rfl⟩:=e2; rw [Bv] at h2; cases h2
  ·rw [Bd e1] at h1; rw [Bd e2] at h2; exact h.inj _ _ _ _ _ h1 h2
theorem cF {T:Nat} {c:V} (h:Dp T (Ev.frz T c)=true):∀sz j k,c ≠ .optr T sz j k:=by
 intro sz j k e
 subst e
 simp [Ev.frz,Dp,Eg] at h
theorem cE {T:Nat} {c:V} (h:Dp T (Ev.frz T c)=true):∀j k sz es,c ≠ .nrow T j k sz es:=by
 intro j k sz es e
 subst e
 simp [Ev.frz,Dp,Eg] at h
theorem Vz.frz {w0:World} {A:Fr} (h:Vz w0 A m w) (T:Nat) (hT:T<Au):Vz w0 A (m.frz T) w:=by
 refine ⟨fun T1 j c T2 j' c' b h1 h2=>h.inj _ _ _ _ _ _ _ (Gm h1).2 (Gm h2).2,fun T1 j c k t b h1 h2=>?_,fun T1 j c b h1=>h.bnd _ _ _ _ (Gm h1).2,fun T1 j c h1=>?_,fun T1 j c b cur e x h1 h2=>h.ones _ _ _ _ _ _ _ (Gm h1).2 h2⟩
 ·rw [Du] at h2
  by_cases e:k=false∧t=T
  ·obtain ⟨rfl,rfl⟩:=e; rw [Bv] at h2; cases h2
  ·rw [Bd e] at h2; exact h.dis _ _ _ _ _ _ (Gm h1).2 h2
 ·rw [Nr (by omega)]; exact h.pin _ _ _ h1
theorem Aw.none_lay (h:Aw φ w0 A nt m S a w) (T:Nat) (hT:T<Au):Lay w0 A (m.frz T) w:=by
 refine ⟨h.hA,h.hAlt,Tt h T,fun k t b hb=>?_,fun k t h1=>?_,h.lies,fun t b cur e x hb hw=>?_,h.n.frz T hT⟩
 ·rw [Du] at hb
  by_cases e:k=false∧t=T
  ·obtain ⟨rfl,rfl⟩:=e; rw [Bv] at hb; cases hb
  ·rw [Bd e] at hb; exact h.bnd _ _ _ hb
 ·rw [Du,Bd (by rintro ⟨_,rfl⟩; omega)]
  exact h.pin k t h1
 ·rw [Du] at hb
  by_cases e1:t=T
  ·subst e1; rw [Bv] at hb; cases hb
  ·rw [Bd (by rintro ⟨_,hh⟩; exact e1 hh)] at hb; exact h.ones t b cur e x hb hw
theorem Aw.freeze (h:Aw φ w0 A nt m S a w) (T:Nat):Aw φ w0 A nt (if T<Au then m.frz T else m) (S.freeze T) a w:=by
 unfold St.freeze
 by_cases hT:T<Au
 ·rw [if_pos hT,if_pos hT]
  exact h.mapDrop (nH T) _ w (fun c x hn hx=>RC.frz h hx (cF hn) (cE hn)) (fun t b hb=>⟨by rw [Du,Bd (by simp)]; exact hb,rfl⟩) (h.none_lay T hT)
 ·rw [if_neg hT,if_neg hT]
  exact h.drop T
structure NF (m m':M) (l:List Nat):Prop where
 sub:∀T j c b,m'.nst T j c=some b→m.nst T j c=some b∧(T∈l→¬T<Au)
 keep:∀T j c,T∉l→m'.nst T j c=m.nst T j c
theorem Aw.freezes (h:Aw φ w0 A nt m S a w):∀(l:List Nat),∃m',Aw φ w0 A nt m' (S.freezes l) a w∧m'.A=m.A ∧
  (∀t,m'.blk true t=m.blk true t)∧(∀t∈l,t<Au→m'.blk false t=none)∧(∀t b,m'.blk false t=some b→m.blk false t=some b) ∧
  (∀t,t∉l→m'.blk false t=m.blk false t)∧NF m m' l:=by
 intro l
 induction l generalizing S m with
 | nil=>exact ⟨m,h,rfl,fun _=>rfl,by simp,fun _ _ hb=>hb,fun _ _=>rfl,fun _ _ _ _ hb=>⟨hb,by simp⟩,fun _ _ _ _=>rfl⟩
 | cons T r ih=>
  have hf:=h.freeze T
  by_cases hT:T<Au
  ·rw [if_pos hT] at hf
   obtain ⟨m',h1,h2,h3,h4,h5,h6,h7⟩:=ih hf
   refine ⟨m',h1,by rw [h2]; rfl,fun t=>by rw [h3,Du,Bd (by simp)],fun t ht ht0=>?_,fun t b hb=>?_,fun t ht=>?_,fun t j c b hb=>?_,fun t j c ht=>?_⟩
   ·cases ht with
    | head=>
     cases hb:m'.blk false T with
     | none=>rfl
     | some b=>
      have:=h5 T b hb
      rw [Du,Bv] at this; cases this
    | tail _ ht=>exact h4 t ht ht0
   ·have:=h5 t b hb
    rw [Du] at this
    by_cases e:t=T
    ·subst e; rw [Bv] at this; cases this
    ·rwa [Bd (by simp [e])] at this
   ·simp only [List.mem_cons,not_or] at ht
    rw [h6 t ht.2,Du,Bd (by simp [ht.1])]
   ·have q:=h7.sub _ _ _ _ hb
    have q2:=Gm q.1
    refine ⟨q2.2,fun hm=>?_⟩
    cases hm with
    | head=>exact absurd rfl q2.1
    | tail _ hm=>exact q.2 hm
   ·simp only [List.mem_cons,not_or] at ht
    rw [h7.keep _ _ _ ht.2,Nr ht.1]
  ·rw [if_neg hT] at hf
   obtain ⟨m',h1,h2,h3,h4,h5,h6,h7⟩:=ih hf
   refine ⟨m',h1,h2,h3,fun t ht ht0=>?_,h5,fun t ht=>?_,fun t j c b hb=>?_,fun t j c ht=>?_⟩
   ·cases ht with
    | head=>exact absurd ht0 hT
    | tail _ ht=>exact h4 t ht ht0
   ·simp only [List.mem_cons,not_or] at ht
    exact h6 t ht.2
   ·have q:=h7.sub _ _ _ _ hb
    refine ⟨q.1,fun hm=>?_⟩
    cases hm with
    | head=>exact hT
    | tail _ hm=>exact q.2 hm
   ·simp only [List.mem_cons,not_or] at ht
    exact h7.keep _ _ _ ht.2
def M.sw (m:M) (t t':Nat):M:={ A:=m.A,blk:=fun k x=>if k=false then m.blk false (Mb t t' x) else m.blk k x,nst:=fun x=>m.nst (Mb t t' x) }
theorem Fh (t t' x:Nat):Mb t t' (Mb t t' x)=x:=by
 unfold Mb
 by_cases h1:x=t
 ·subst h1
  rw [if_pos rfl]
  by_cases h2:t'=x
  ·rw [if_pos h2,h2]
  ·rw [if_neg h2,if_pos rfl]
 ·by_cases h2:x=t'
  ·subst h2
   rw [if_neg h1,if_pos rfl,if_pos rfl]
  ·rw [if_neg h1,if_neg h2,if_neg h1,if_neg h2]
theorem M.sw_avoid (m:M) (t t' b:Nat):(m.sw t t').avoid b↔m.avoid b:=by
 unfold M.avoid
 constructor
 ·rintro (h | ⟨k,x,h⟩ | ⟨x,j,c,h⟩)
  ·exact .inl h
  ·cases k with
   | false=>exact .inr (.inl ⟨false,_,h⟩)
   | true=>exact .inr (.inl ⟨true,_,h⟩)
  ·exact .inr (.inr ⟨_,_,_,h⟩)
 ·rintro (h | ⟨k,x,h⟩ | ⟨x,j,c,h⟩)
  ·exact .inl h
  ·cases k with
   | false=>exact .inr (.inl ⟨false,Mb t t' x,by show m.blk false _=_; rw [Fh]; exact h⟩)
   | true=>exact .inr (.inl ⟨true,x,h⟩)
  ·exact .inr (.inr ⟨Mb t t' x,j,c,by show m.nst _ _ _=_; rw [Fh]; exact h⟩)
theorem RD.swap {v:V} {val:Value} {t t':Nat} (h:RD φ w m.avoid v val):RD φ w (m.sw t t').avoid v val:=
 h.mono (Nat.le_refl _) (fun _ _ _=>rfl) (fun b _ ha hh=>ha ((m.sw_avoid t t' b).1 hh))
theorem RE.swap {x J k:Nat} {c:V} {val:Value} {t t':Nat} (hd:Az x=Az (Mb t t' x)) (h:RE φ m w x J k c val):RE φ (m.sw t t') w (Mb t t' x) J k c val:=by
 rcases h with ⟨h1,h2⟩ | ⟨h1,sz,es,h2,h3⟩
 ·exact .inl ⟨h1.swap,by rw [←hd]; exact h2⟩
 ·exact .inr ⟨by rw [←hd]; exact h1,sz,es,h2,by show RN φ w (m.nst _ _ _) sz es val; rw [Fh]; exact h3⟩
theorem RO.swap {x off sz:Nat} {es:List (List V)} {val:Value} {t t':Nat} (hd:Az x=Az (Mb t t' x)∨es=[]) (h:RO φ m w x off sz es val):RO φ (m.sw t t') w (Mb t t' x) off sz es val:=by
 rcases h with h | h | ⟨b,cap,cur,e,h1,h2,h3,h4,h5,h6,h7,h8,h9⟩ | ⟨b,es',ents,clock,h1,h2,h3,h4,h5,h6,h7⟩
 ·exact .inl h
 ·exact .inr (.inl h)
 ·refine .inr (.inr (.inl ⟨b,cap,cur,e,by show m.blk false _=_; rw [Fh]; exact h1,h2,h3,h4,h5,h6,h7,h8,fun j e k c g1 g2=>?_⟩))
  obtain ⟨v,g3,g4,g5⟩:=h9 j e k c g1 g2
  rcases hd with hd | rfl
  ·exact ⟨v,g3,g4,g5.swap hd⟩
  ·simp at g1
 ·exact .inr (.inr (.inr ⟨b,es',ents,clock,h1,h2,h3,h4,by show m.blk false _=_; rw [Fh]; exact h5,h6,h7⟩))
theorem RP.swap {x k:Nat} {val:Value} {t t':Nat} (h:RP m x k val):RP (m.sw t t') x k val:=h
theorem RC.swap {c:V} {val:Value} {t t':Nat} (h:RC φ m w c val):RC φ (m.sw t t') w (fH t t' c) val:=by
 cases c with
 | own x off sz es=>
  simp only [fH]
  cases hd:(Az x==Az (Mb t t' x)) || es.isEmpty with
  | false=>trivial
  | true=>
   simp only [Bool.or_eq_true,beq_iff_eq,List.isEmpty_iff] at hd
   exact RO.swap hd h
 | nrow x j c sz es=>
  simp only [fH]
  cases hd:Az x==Az (Mb t t' x) with
  | false=>trivial
  | true=>
   simp only [beq_iff_eq] at hd
   exact ⟨by rw [←hd]; exact h.1,by show RN φ w (m.nst _ _ _) sz es val; rw [Fh]; exact h.2⟩
 | ptr x k=>exact RP.swap h
 | optr x sz j k=>
  simp only [fH]
  cases hd:Az x==Az (Mb t t' x) with
  | false=>trivial
  | true=>
   obtain ⟨b,hb,rfl⟩:=h
   exact ⟨b,by show m.blk false _=_; rw [Fh]; exact hb,rfl⟩
 | clo f caps=>
  obtain ⟨fid,vs,h1,h2,h3,h4⟩:=h
  refine ⟨fid,vs,h1,h2,h3,fun i c v g1 g2=>?_⟩
  have h5:=h4 i c v g1 g2
  cases c with
  | ptr t k=>exact RP.swap h5
  | _=>exact RD.swap h5
 | undef=>trivial
 | _=>exact RD.swap h
theorem pD (t t':Nat):Cg (fH t t'):=by
 refine ⟨rfl,fun c h1 h2 h3=>?_⟩
 cases c with
 | agg cs=>exact absurd rfl (h1 cs)
 | tup vs=>exact absurd rfl (h2 vs)
 | may b v=>exact absurd rfl (h3 b v)
 | own x off sz es=>simp only [fH]; cases (Az x==Az (Mb t t' x)) || es.isEmpty<;>simp
 | optr x sz j k=>simp only [fH]; cases Az x==Az (Mb t t' x)<;>simp
 | nrow x j c sz es=>simp only [fH]; cases Az x==Az (Mb t t' x)<;>simp
 | _=>simp [fH]
theorem Aw.swap (h:Aw φ w0 A nt m S a w) {t t':Nat} (ht:t<Au) (ht':t'<Au):Aw φ w0 A nt (m.sw t t') (S.swap t t') a w:=by
 refine h.mapAll (pD t t') _ w (fun c x hx=>hx.swap) (fun t b hb=>⟨hb,rfl⟩) ?_
 have inv:∀k x b,(m.sw t t').blk k x=some b→∃y,m.blk k y=some b∧(k=false→y=Mb t t' x)∧(k=true→y=x):=by
  intro k x b hb
  cases k with
  | false=>exact ⟨_,hb,fun _=>rfl,fun h=>nomatch h⟩
  | true=>exact ⟨_,hb,(fun h=>nomatch h),fun _=>rfl⟩
 refine ⟨h.hA,h.hAlt,fun k x k' x' b h1 h2=>?_,fun k x b hb=>?_,fun k x h1=>?_,h.lies,fun x b cur e z hb hw=>?_,⟨fun T1 j c T2 j' c' b h1 h2=>?_,fun T1 j c k x b h1 h2=>?_,fun T1 j c b h1=>h.n.bnd _ _ _ _ h1,fun T1 j c h1=>?_,fun T1 j c b cur e x h1 h2=>h.n.ones _ _ _ _ _ _ _ h1 h2⟩⟩
 ·obtain ⟨y,g1,g2,g3⟩:=inv _ _ _ h1
  obtain ⟨y',g4,g5,g6⟩:=inv _ _ _ h2
  obtain ⟨rfl,rfl⟩:=h.inj _ _ _ _ _ g1 g4
  refine ⟨rfl,?_⟩
  cases k with
  | false=>have:=(g2 rfl).symm.trans (g5 rfl); rw [←Fh t t' x,this,Fh]
  | true=>exact (g3 rfl).symm.trans (g6 rfl)
 ·obtain ⟨y,g1,_⟩:=inv _ _ _ hb
  exact h.bnd _ _ _ g1
 ·cases k with
  | false=>
   show m.blk false (Mb t t' x)=_
   have:Mb t t' x=x:=by unfold Mb; rw [if_neg (by omega),if_neg (by omega)]
   rw [this]; exact h.pin _ _ h1
  | true=>exact h.pin _ _ h1
 ·exact h.ones _ b cur e z hb hw
 ·obtain ⟨q1,q2,q3⟩:=h.n.inj _ _ _ _ _ _ _ h1 h2
  exact ⟨by rw [←Fh t t' T1,q1,Fh],q2,q3⟩
 ·obtain ⟨y,g1,_⟩:=inv _ _ _ h2
  exact h.n.dis _ _ _ _ _ _ h1 g1
 ·show m.nst (Mb t t' T1) j c=_
  have:Mb t t' T1=T1:=by unfold Mb; rw [if_neg (by omega),if_neg (by omega)]
  rw [this]; exact h.n.pin _ _ _ h1
theorem Aw.swaps (h:Aw φ w0 A nt m S a w):∀(rs:List (Nat×Nat)),eE rs=true→∃m',Aw φ w0 A nt m' (S.swaps rs) a w:=by
 intro rs
 induction rs generalizing S m with
 | nil=>exact fun _=>⟨m,h⟩
 | cons p r ih=>
  intro hr
  simp only [eE,Bool.and_eq_true,decide_eq_true_eq] at hr
  exact ih (h.swap hr.1.1 hr.1.2) hr.2
theorem RC.closeFrz (h:Aw φ w0 A nt m S a w) {l:List Nat} {m':M} (hA:m'.A=m.A) (h3:∀t,m'.blk true t=m.blk true t)
  (h4:∀t∈l,t<Au→m'.blk false t=none) (h5:∀t b,m'.blk false t=some b→m.blk false t=some b) (h7:NF m m' l)
  {c:V} {val:Value} (hr:RC φ m w c val) (hp:He c=false) (ht:∀t off sz es,c = .own t off sz es→t∈l):
  RD φ w m'.avoid (Cj c) val:=by
 have hav:∀b,b<w.heap.size→¬m.avoid b→¬m'.avoid b:=fun b _ ha=>by
  rintro (hh | ⟨k,t,hb⟩ | ⟨t,j,c,hb⟩)
  ·exact ha (.inl (hA ▸ hh))
  ·cases k
   ·exact ha (.inr (.inl ⟨false,t,h5 t b hb⟩))
   ·exact ha (.inr (.inl ⟨true,t,by rw [←h3]; exact hb⟩))
  ·exact ha (.inr (.inr ⟨t,j,c,(h7.sub _ _ _ _ hb).1⟩))
 cases c with
 | own t off sz es=>
  simp only [Cj]
  split
  case isFalse=>exact .undef _ (RC.one hr (by simp))
  rename_i htp
  refine RO.closed h hr hav (fun b hb=>?_) fun j c b hb=>?_
  rotate_left
  ·rintro (hh | ⟨k,t',hb'⟩ | ⟨t',j',c',hb'⟩)
   ·exact (h.n.bnd _ _ _ _ hb).2.2 (hA ▸ hh)
   ·cases k
    ·exact h.n.dis _ _ _ _ _ _ hb (h5 t' b hb')
    ·rw [h3] at hb'
     exact h.n.dis _ _ _ _ _ _ hb hb'
   ·have q:=h7.sub _ _ _ _ hb'
    obtain ⟨rfl,_⟩:=h.n.inj _ _ _ _ _ _ _ q.1 hb
    exact q.2 (ht _ _ _ _ rfl) htp
  rintro (hh | ⟨k,t',hb'⟩ | ⟨t',j,c,hb'⟩)
  ·exact (h.bnd _ _ _ hb).2.2 (hA ▸ hh)
  rotate_left
  ·exact h.n.dis _ _ _ _ _ _ (h7.sub _ _ _ _ hb').1 hb
  ·cases k
   ·have:=h.inj _ _ _ _ _ (h5 t' b hb') hb
    obtain ⟨_,rfl⟩:=this
    rw [h4 _ (ht _ _ _ _ rfl) htp] at hb'
    cases hb'
   ·rw [h3] at hb'
    have:=h.inj _ _ _ _ _ hb' hb
    simp at this
 | int x1 x2=>exact RD.mono (φ:=φ) hr (Nat.le_refl _) (fun _ _ _=>rfl) hav
 | bool x1=>exact RD.mono (φ:=φ) hr (Nat.le_refl _) (fun _ _ _=>rfl) hav
 | str x1=>exact RD.mono (φ:=φ) hr (Nat.le_refl _) (fun _ _ _=>rfl) hav
 | lst x1 x2=>exact RD.mono (φ:=φ) hr (Nat.le_refl _) (fun _ _ _=>rfl) hav
 | iptr x1=>exact RD.mono (φ:=φ) hr (Nat.le_refl _) (fun _ _ _=>rfl) hav
 | _=>simp [He] at hp
end Go.Ev
