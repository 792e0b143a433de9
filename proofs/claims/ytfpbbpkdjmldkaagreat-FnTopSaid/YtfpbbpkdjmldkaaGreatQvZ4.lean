/- A function's end; the soundness of the small machine. -/
import Derived.Test.YtfpbbpkdjmldkaaGreatQvZ3
set_option linter.all false
namespace Go.Ev
open Go.RowKit
variable {φ:Fa} {m m' m0 m1 m2:M} {w w' w0:World} {A:Fr} {nt:Nat} {S S' S1:St} {a:Act} {P:Program}
def Hx (m:M) (TS NB:List Nat):M:=
 ⟨m.A,
  fun k t=>if Di≤t then m.blk k t else if k then (NB[t]?).bind (m.blk true) else (TS[t]?).bind (m.blk false)⟩
theorem aA:∀(l:List V),Fh (Jq l)=true∧∀t∈Jq l,t<Di
 | []=>⟨rfl,by simp [Jq]⟩
 | c::r=>by
  have ih:=aA r
  cases c with
  | own t off sz es=>
   simp only [Jq]
   split
   ·exact ih
   ·rename_i hc
    simp only [Bool.or_eq_true,decide_eq_true_eq,not_or,Nat.not_le] at hc
    refine ⟨?_,fun x hx=>?_⟩
    ·simp only [Fh,Bool.and_eq_true,ih.1,and_true]
     refine List.all_eq_true.2 fun x hx=>?_
     have:x≠t:=by rintro rfl; exact hc.2 (by simpa using hx)
     simpa using this
    ·rcases List.mem_cons.1 hx with rfl | hx
     ·exact hc.1
     ·exact ih.2 x hx
  | _=>exact ih
theorem Vu:∀(l:List V),Fh (Gf l)=true∧∀t∈Gf l,t<Di
 | []=>⟨rfl,by simp [Gf]⟩
 | c::r=>by
  have ih:=Vu r
  cases c with
  | ptr t k=>
   simp only [Gf]
   split
   ·exact ih
   ·rename_i hc
    simp only [Bool.or_eq_true,decide_eq_true_eq,not_or,Nat.not_le] at hc
    refine ⟨?_,fun x hx=>?_⟩
    ·simp only [Fh,Bool.and_eq_true,ih.1,and_true]
     refine List.all_eq_true.2 fun x hx=>?_
     have:x≠t:=by rintro rfl; exact hc.2 (by simpa using hx)
     simpa using this
    ·rcases List.mem_cons.1 hx with rfl | hx
     ·exact hc.1
     ·exact ih.2 x hx
  | _=>exact ih
section
variable {TS NB:List Nat}
theorem Ob {k:Bool} {t b:Nat} (h:(Hx m TS NB).blk k t=some b):∃T,m.blk k T=some b∧((Di≤t∧T=t)∨(t<Di∧(if k then NB else TS)[t]? = some T)):=by
 simp only [Hx] at h
 split at h
 ·rename_i ht
  exact ⟨t,h,.inl ⟨ht,rfl⟩⟩
 ·rename_i ht
  cases k
  ·simp only [Bool.false_eq_true,if_false] at h ⊢
   cases hl:TS[t]? with
   | none=>rw [hl] at h; cases h
   | some T=>rw [hl] at h; exact ⟨T,h,.inr ⟨by omega,rfl⟩⟩
  ·simp only [if_true] at h ⊢
   cases hl:NB[t]? with
   | none=>rw [hl] at h; cases h
   | some T=>rw [hl] at h; exact ⟨T,h,.inr ⟨by omega,rfl⟩⟩
theorem Zo {b:Nat} (h:(Hx m TS NB).avoid b):m.avoid b:=by
 rcases h with h | ⟨k,t,h⟩
 ·exact .inl h
 ·obtain ⟨T,h1,_⟩:=Ob h
  exact .inr ⟨k,T,h1⟩
theorem wM {e T:Nat} (h:TS[e]? = some T) (hl:TS.length<65):(Hx m TS NB).blk false e=m.blk false T:=by
 have:=(List.getElem?_eq_some_iff.1 h).1
 simp only [Hx,Bool.false_eq_true,if_false]
 rw [if_neg (by simp only [Di]; omega),h]
 rfl
theorem gM {e T:Nat} (h:NB[e]? = some T) (hl:NB.length<65):(Hx m TS NB).blk true e=m.blk true T:=by
 have:=(List.getElem?_eq_some_iff.1 h).1
 simp only [Hx,if_true]
 rw [if_neg (by simp only [Di]; omega),h]
 rfl
theorem Oa {k:Bool} {t:Nat} (h:Di≤t):(Hx m TS NB).blk k t=m.blk k t:=by
 simp only [Hx]
 rw [if_pos h]
theorem wL (hin:∀k t k' t' b,m.blk k t=some b→m.blk k' t'=some b→k=k'∧t=t') (hT:Fh TS=true) (hN:Fh NB=true)
  (hT2:∀t∈TS,t<Di) (hN2:∀t∈NB,t<Di):
  ∀k t k' t' b,(Hx m TS NB).blk k t=some b→(Hx m TS NB).blk k' t'=some b→k=k'∧t=t':=by
 intro k t k' t' b h1 h2
 obtain ⟨T,g1,g2⟩:=Ob h1
 obtain ⟨T',g3,g4⟩:=Ob h2
 obtain ⟨rfl,rfl⟩:=hin _ _ _ _ _ g1 g3
 refine ⟨rfl,?_⟩
 have hlt:∀ {x:Nat},(if k then NB else TS)[x]? = some T→T<Di:=fun {x} hx=>by
  cases k
  ·exact hT2 T (List.mem_of_getElem? hx)
  ·exact hN2 T (List.mem_of_getElem? hx)
 rcases g2 with ⟨p1,rfl⟩ | ⟨p1,p2⟩<;>rcases g4 with ⟨q1,q2⟩ | ⟨q1,q2⟩
 ·exact q2
 ·have:=hlt q2; omega
 ·subst q2; have:=hlt p2; omega
 ·cases k
  ·exact Kf hT p2 q2
  ·exact Kf hN p2 q2
theorem LS (TS NB:List Nat):Fl (Xi TS NB):=by
 refine ⟨rfl,fun c h1 h2 h3=>?_⟩
 cases c with
 | own t off sz es=>
  simp only [Xi]
  split
  ·simp
  ·split<;>simp
 | ptr t k=>
  simp only [Xi]
  split
  ·simp
  ·split<;>simp
 | agg cs=>exact absurd rfl (h1 cs)
 | tup vs=>exact absurd rfl (h2 vs)
 | may b v=>exact absurd rfl (h3 b v)
 | _=>simp [Xi,Lb,Pu]
theorem kS {t e off sz:Nat} {es:List (List V)} {v:Value} (hro:RO φ m w t off sz es v) (hb:(Hx m TS NB).blk false e=m.blk false t):RO φ (Hx m TS NB) w e off sz es v:=by
 rcases hro with h1 | h1 | ⟨b,cap,cur,ty,h1,h2,h3,h4,h5,h6,h7,h8,h9⟩ | ⟨b,es',ents,clock,h1,h2,h3,h4,h5,h6,h7⟩
 ·exact .inl h1
 ·exact .inr (.inl h1)
 rotate_right
 ·exact .inr (.inr (.inr ⟨b,es',ents,clock,h1,h2,h3,h4,by rw [hb]; exact h5,h6,h7⟩))
 ·refine .inr (.inr (.inl ⟨b,cap,cur,ty,by rw [hb]; exact h1,h2,h3,h4,h5,h6,h7,h8,fun j y k c' g1 g2=>?_⟩))
  obtain ⟨u,k1,k2,k3⟩:=h9 j y k c' g1 g2
  exact ⟨u,k1,k2,k3.mono (Nat.le_refl _) (fun _ _ _=>rfl) (fun b _ hn hh=>hn (Zo hh))⟩
theorem vE (hT:TS.length<65) (hN:NB.length<65) {c:V} {v:Value} (h:RC φ m w c v):RC φ (Hx m TS NB) w (Xi TS NB c) v:=by
 have hav:∀b,b<w.heap.size→¬m.avoid b→¬(Hx m TS NB).avoid b:=fun b _ hn hh=>hn (Zo hh)
 have rp:∀ {t e k:Nat},RP m t k v→(Hx m TS NB).blk true e=m.blk true t→RP (Hx m TS NB) e k v:=by
  rintro t e k ⟨b,hb,rfl⟩ he
  exact ⟨b,by rw [he]; exact hb,rfl⟩
 have bs:∀ {c0:V},RD φ w m.avoid c0 v→RC φ (Hx m TS NB) w (Lb c0) v:=fun hd=>Jf (Vq (hd.mono (Nat.le_refl _) (fun _ _ _=>rfl) hav))
 cases c with
 | own t off sz es=>
  simp only [Xi]
  split
  ·rename_i ht
   exact kS h (Oa ht)
  ·cases hp:Hq t TS 0 with
   | none=>trivial
   | some e=>
    obtain ⟨j,h1,h2⟩:=Is hp
    rw [Nat.zero_add] at h1
    subst h1
    exact kS h (wM h2 hT)
 | ptr t k=>
  simp only [Xi]
  split
  ·rename_i ht
   exact rp h (Oa ht)
  ·cases hp:Hq t NB 0 with
   | none=>trivial
   | some e=>
    obtain ⟨j,h1,h2⟩:=Is hp
    rw [Nat.zero_add] at h1
    subst h1
    exact rp h (gM h2 hN)
 | clo f caps=>
  obtain ⟨fid,vs,g1,rfl,g3,g4⟩:=h
  refine ⟨fid,vs,g1,rfl,by simpa using g3,fun i c0 v k1 k2=>?_⟩
  simp only [List.getElem?_map,Option.map_eq_some_iff] at k1
  obtain ⟨c1,k1,rfl⟩:=k1
  have hq:=g4 i c1 v k1 k2
  have hd:RD φ w (Hx m TS NB).avoid (Pu c1) v:=by
   rcases Qe hq with ⟨T,k,rfl,hp⟩ | ⟨_,hd⟩
   ·exact .undef _ hp.one
   ·exact (Qd hd).mono (Nat.le_refl _) (fun _ _ _=>rfl) hav
  cases c1<;>exact hd
 | optr T sz j k=>trivial
 | undef=>trivial
 | agg x1=>trivial
 | tup x1=>trivial
 | may x1 x2=>trivial
 | int x1 x2=>exact bs (c0:=.int x1 x2) h
 | bool x1=>exact bs (c0:=.bool x1) h
 | str x1=>exact bs (c0:=.str x1) h
 | lst x1 x2=>exact bs (c0:=.lst x1 x2) h
 | iptr x1=>exact bs (c0:=.iptr x1) h
end
theorem Gw:∀(n:Nat),(Zz n).length=n
 | 0=>rfl
 | n+1=>by simp [Zz,Gw n]
theorem Ra:∀ {n i:Nat},i<n→(Zz n)[i]? = some (Di+i)
 | n+1,i,h=>by
  simp only [Zz]
  by_cases e:i<n
  ·rw [List.getElem?_append_left (by rw [Gw]; exact e)]
   exact Ra e
  ·have:i=n:=by omega
   subst this
   rw [List.getElem?_append_right (by rw [Gw]; exact Nat.le_refl _),Gw]
   simp
theorem Zs {S:St}:∀ {l:List Nat} {css:List (List V)},Pc S l=some css→∀ {i:Nat} {cs:List V},css[i]? = some cs→∃t,l[i]? = some t∧look S.bx t=some cs
 | [],css,h,i,cs,hi=>by
  simp only [Pc,Option.some.injEq] at h
  subst h
  simp at hi
 | t::r,css,h,i,cs,hi=>by
  simp only [Pc] at h
  split at h
  ·rename_i c cr h1 h2
   cases h
   cases i with
   | zero=>simp at hi; subst hi; exact ⟨t,rfl,h1⟩
   | succ i=>
    obtain ⟨t',h3,h4⟩:=Zs h2 (i:=i) (cs:=cs) (by simpa using hi)
    exact ⟨t',by simpa using h3,h4⟩
  ·cases h
theorem Xk {S:St}:∀ {k:Nat} {l:List (Nat×Nat×List (List V))},Xj S k l→∀ {i off sz:Nat} {es:List (List V)},l[i]? = some (off,sz,es) →
  S.find (2097152+(k+i))=some (off,es)∧∀e∈es,e.length=sz
 | k,(o,s,e)::r,h,i,off,sz,es,hi=>by
  cases i with
  | zero=>
   simp only [List.getElem?_cons_zero,Option.some.injEq,Prod.mk.injEq] at hi
   obtain ⟨rfl,rfl,rfl⟩:=hi
   exact h.1
  | succ i=>
   have:=Xk h.2 (i:=i) (by simpa using hi)
   rw [show k+1+i=k+(i+1) from by omega] at this
   exact this
 | k,[],h,i,off,sz,es,hi=>by simp at hi
theorem post_of {g:Tr} {t:Gs} {v:V} {val:Value} (hp:Lay w ⟨m0.A,fun b=>∃k t,m0.blk k t=some b,m0.blk⟩ m w')
  (h:Da φ w ⟨m0.A,fun b=>∃k t,m0.blk k t=some b,m0.blk⟩ nt m S a w') (hv:RT φ m w' v val) (ht:eU S v g.bx.length t):
  ∃m',zC φ w m0 g t val m' w':=by
 unfold eU at ht
 dsimp only at ht
 split at ht
 ·rename_i css hcss
  obtain ⟨hless,hr,hbx,hrw⟩:=ht
  generalize hTS:Jq (v.flat++css.flatten)=TS at *
  generalize hNB:Gf v.flat=NB at *
  have s1:=aA (v.flat++css.flatten)
  have s2:=Vu v.flat
  rw [hTS] at s1; rw [hNB] at s2
  have l1:=Ln hless TS.length (by simp)
  have l2:=Ln hless NB.length (by simp)
  refine ⟨Hx m TS NB,hp.hA,wL hp.inj s1.1 s2.1 s1.2 s2.2,fun k T b hb=>?_,fun k T hT=>?_,hp.lies,?_,fun i cs hi=>?_,fun i off sz es hi=>?_,fun T b cur e x hb hw=>by
   obtain ⟨T',h1,_⟩:=Ob hb
   exact hp.ones T' b cur e x h1 hw⟩
  ·obtain ⟨T',h1,_⟩:=Ob hb
   exact hp.bnd _ _ _ h1
  ·rw [Oa hT]
   exact hp.pin k T hT
  ·rw [←hr,Mh _ _ (Et hv)]
   exact RT.mapT (LS TS NB) hv fun c x _ hx=>vE l1 l2 hx
  ·rw [←hbx,Mc] at hi
   simp only [Option.map_eq_some_iff] at hi
   obtain ⟨cs0,hi,rfl⟩:=hi
   obtain ⟨T,h1,h2⟩:=Zs hcss hi
   obtain ⟨b,cur,e,g1,g2,g3⟩:=h.rb h2
   have cells:∀ {n:Nat},(Hx m TS NB).blk true n=m.blk true T→RB φ (Hx m TS NB) w' n (cs0.map (Xi TS NB)):=by
    intro n hn
    refine ⟨b,cur,e,by rw [hn]; exact g1,g2,fun j c hj=>?_⟩
    simp only [List.getElem?_map,Option.map_eq_some_iff] at hj
    obtain ⟨c0,hj,rfl⟩:=hj
    obtain ⟨u,k1,k2,k3⟩:=g3 j c0 hj
    exact ⟨u,k1,vE l1 l2 k2,k3⟩
   by_cases hlt:i<g.bx.length
   ·rw [if_pos hlt]
    rw [List.getElem?_append_left (by rw [Gw]; exact hlt),Ra hlt] at h1
    obtain rfl:=Option.some.inj h1
    exact cells (Oa (Nat.le_add_right _ _))
   ·rw [if_neg hlt]
    rw [List.getElem?_append_right (by rw [Gw]; omega),Gw] at h1
    exact cells (gM h1 l2)
  ·obtain ⟨h1,h2⟩:=Xk hrw hi
   rw [Nat.zero_add] at h1
   obtain ⟨sz',_,val',h3⟩:=h.find h1
   exact ⟨h2,sz',val',kS h3 (Oa (by simp only [Di]; omega))⟩
 ·exact ht.elim
theorem dN:∀ {l:List V} {k t:Nat} {v:V},look (Qn l k) t=some v→∃i,t=k+i∧l[i]? = some v
 | x::r,k,t,v,h=>by
  simp only [Qn,look] at h
  split at h
  ·rename_i e
   exact ⟨0,by omega,by simpa using h⟩
  ·obtain ⟨i,h1,h2⟩:=dN h
   exact ⟨i+1,by omega,by simpa using h2⟩
 | [],_,_,_,h=>by simp [Qn,look] at h
theorem dO:∀ {l:List (List V)} {k t:Nat} {v:List V},look (Qo l k) t=some v→∃i,t=k+i∧l[i]? = some v
 | x::r,k,t,v,h=>by
  simp only [Qo,look] at h
  split at h
  ·rename_i e
   exact ⟨0,by omega,by simpa using h⟩
  ·obtain ⟨i,h1,h2⟩:=dO h
   exact ⟨i+1,by omega,by simpa using h2⟩
 | [],_,_,_,h=>by simp [Qo,look] at h
theorem Zt {f:Nat→Nat}:∀ {l:List V} {k t:Nat} {c:Int},look (Qk f l k) t=some c→∃i T off sz es,t=k+i∧l[i]? = some (.own T off (sz+1) es)∧c=Es+(f t:Int)
 | [],_,_,_,h=>by simp [Qk,look] at h
 | x::r,k,t,c,h=>by
  have rest:look (Qk f r (k+1)) t=some c→∃i T off sz es,t=k+i∧(x::r)[i]? = some (.own T off (sz+1) es)∧c=Es+(f t:Int):=fun h=>by
   obtain ⟨i,T,off,sz,es,h1,h2,h3⟩:=Zt h
   exact ⟨i+1,T,off,sz,es,by omega,by simpa using h2,h3⟩
  unfold Qk at h
  split at h
  ·rename_i e; cases e
  ·rename_i e; cases e
   simp only [look] at h
   split at h
   ·rename_i e
    subst e
    exact ⟨0,_,_,_,_,by omega,rfl,(Option.some.inj h).symm⟩
   ·exact rest h
  ·rename_i e; cases e
   exact rest h
def HJ:Value→Nat
 | .slice _ _ c=>c
 | _=>0
theorem IB {fn:Func} {xf:De} {fid:Nat} (hcomp:Sb P φ fn=some xf) (hfn:P.funcs[fid]? = some fn) {g:Tr} {t:Gs} (h:pB (Ek P φ) xf g t):
  Xv P fid∧∀(w:World) (m:M) (vals:List Value),Pre φ w m g vals→Calls P fid vals.toArray w fun e w'=>∃x m',e = .returned x∧zC φ w m g t x m' w':=by
 unfold Sb at hcomp
 split at hcomp
 ·rename_i c rs hb hrs
  split at hcomp
  ·cases hcomp
  rename_i hcnd
  simp only [Bool.or_eq_true,decide_eq_true_eq,not_or,Nat.not_lt,Bool.not_eq_true] at hcnd
  cases hcomp
  refine ⟨⟨fn,hfn,hcnd.2,by rw [hb]; rfl⟩,fun w m vals pre=>?_⟩
  obtain ⟨hnt,hW⟩:=h
  dsimp only at hnt hW
  have hsz:vals.length≤fn.ntmps:=by rw [pre.len]; exact hnt
  refine calls_of_wp hfn hb ?_
  have hrel:∀cs:List (Nat×Int),(∀k c,look cs k=some c→∃x,vals[k]? = some x∧Zi x c)→Da φ w ⟨m.A,fun b=>∃k t,m.blk k t=some b,m.blk⟩ fn.ntmps m ⟨Qn g.args 0,Qo g.bx Di,cs⟩ { tmps:=vals.toArray++Array.replicate (fn.ntmps-vals.toArray.size) undef,defers:=[] } w:=by
   intro cs hcs0
   refine ⟨⟨rfl,pre.hAlt,pre.inj,fun k t b hb=>⟨(pre.bnd _ _ _ hb).1,.inr ⟨k,t,hb⟩,(pre.bnd _ _ _ hb).2⟩,fun _ _ _=>rfl,Nj.refl _ w,pre.ones⟩,hcnd.1,by simp; omega,rfl,fun T v hv=>?_,fun T cs hcs=>?_,fun k c hk=>?_⟩
   ·obtain ⟨i,h1,h2⟩:=dN hv
    rw [Nat.zero_add] at h1
    subst h1
    have hi:T<vals.length:=by rw [pre.len]; exact (List.getElem?_eq_some_iff.1 h2).1
    have hx:vals[T]? = some vals[T]:=List.getElem?_eq_getElem hi
    have hrt:=pre.args T v _ h2 hx
    have e:(vals.toArray++Array.replicate (fn.ntmps-vals.toArray.size) undef).getD T undef=vals[T]:=by
     rw [Array.getD_eq_getD_getElem?,Array.getElem?_append_left (by simpa using hi)]
     simp [hi]
    dsimp only
    rw [e]
    exact Nw (Et hrt) hrt
   ·obtain ⟨i,h1,h2⟩:=dO hcs
    subst h1
    exact pre.bx i cs h2
   ·obtain ⟨x,h1,h2⟩:=hcs0 k c hk
    obtain ⟨hi,rfl⟩:=List.getElem?_eq_some_iff.1 h1
    have e:(vals.toArray++Array.replicate (fn.ntmps-vals.toArray.size) undef).getD k undef=vals[k]:=by
     rw [Array.getD_eq_getD_getElem?,Array.getElem?_append_left (by simpa using hi)]
     simp [hi]
    dsimp only
    rw [e]
    exact h2
  have hcap:∀(k t off sz:Nat) (es:List (List V)),g.args[k]? = some (.own t off sz es)→sz≠0→∃x ad cap,vals[k]? = some x∧x = .slice ad es.length cap∧es.length≤cap∧(off=0→cap≤9223372036854775807)∧(0<cap→ad≠none):=by
   intro k t off sz es hk hz
   have hi:k<vals.length:=by rw [pre.len]; exact (List.getElem?_eq_some_iff.1 hk).1
   have hx:vals[k]? = some vals[k]:=List.getElem?_eq_getElem hi
   have hro:=Gl (pre.args k _ _ hk hx)
   obtain ⟨ad,cap,g1,g2,g3⟩:=hro.slice hz
   refine ⟨_,ad,cap,hx,g1,g2,fun h0=>?_,fun hp hn=>by have:=(g3 hn).2; omega⟩
   rcases hro with ⟨_,_,e⟩ | ⟨e,_⟩ | ⟨b,cap',cur,E,_,e,_,_,_,e6,_⟩ | ⟨_,_,_,_,_,e,_⟩
   rotate_right
   ·exact absurd e hz
   ·rw [g1] at e; simp only [Value.slice.injEq] at e; omega
   ·exact absurd h0 e
   ·rw [g1] at e; cases e
    have:maxLen=9223372036854775807:=rfl
    omega
  obtain ⟨cs,hcs,hW⟩:∃cs:List (Nat×Int),(∀k c,look cs k=some c→∃x,vals[k]? = some x∧Zi x c)∧W (Ek P φ) (Qi P φ fn.ntmps c) (FQ rs g.bx.length t) ⟨Qn g.args 0,Qo g.bx Di,cs⟩:=by
   rcases hW with hW | hW
   ·exact ⟨[],fun _ _ hh=>(by simp [look] at hh),hW⟩
   ·refine ⟨_,fun k c hk=>?_,hW (fun k=>HJ (vals[k]?.getD undef)) fun k t off sz es hk hz=>?_⟩
    ·obtain ⟨i,T,off,sz,es,rfl,h2,rfl⟩:=Zt hk
     rw [Nat.zero_add]
     obtain ⟨x,ad,cap,x1,rfl,x3,x4,x5⟩:=hcap i T off (sz+1) es h2 (by omega)
     refine ⟨_,x1,ad,es.length,cap,rfl,?_⟩
     rw [x1]
     simp only [Option.getD_some,HJ,Yo]
     exact ⟨Int.le_refl _,fun hh=>x5 (by omega),fun _=>by omega⟩
    ·obtain ⟨x,ad,cap,x1,rfl,x3,x4,x5⟩:=hcap k t off sz es hk hz
     rw [x1]
     exact ⟨x3,x4⟩
  have hrel:=hrel cs hcs
  refine iW c hW hrel fun e S' m' a' w' hq h'=>?_
  have fin:(∃S1,Fg S' S1∧sT rs g.bx.length t S1)→a'.defers=[]∧∃v,(results fn a'.tmps).run P w' = .ok v w'∧∃x m'',(Ending.returned v) = .returned x∧zC φ w m g t x m'' w':=by
   rintro ⟨S1,hfg,hret⟩
   obtain ⟨m1,h'⟩:=h'.fg hfg
   unfold sT at hret
   split at hret
   ·rename_i v hv
    obtain ⟨val,h1,h2⟩:=rU hrs h' hv
    obtain ⟨m'',h3⟩:=post_of h'.toLay h' h2 hret
    exact ⟨h'.defers,val,h1,val,m'',rfl,h3⟩
   ·exact hret.elim
  cases e with
  | normal=>exact fin hq
  | exit id=>exact hq.elim
  | ret=>exact fin hq
 ·cases hcomp
def Tied (P:Program) (φ:Fa) (T:Nat→Option De):Prop:=∀f xf,T f=some xf→∀fid,look φ fid=some f→∃fn,P.funcs[fid]? = some fn∧Sb P φ fn=some xf
theorem sH {T:Nat→Option De} (hT:Tied P φ T) {f:Nat} {xf:De} (hf:T f=some xf) {g:Tr} {t:Gs} (h:pB (Ek P φ) xf g t):Ek P φ f g t:=by
 intro fid hfid
 obtain ⟨fn,h1,h2⟩:=hT f xf hf fid hfid
 exact IB h2 h1 h
end Go.Ev
