/- The state behind a call; calls. -/
import Derived.Test.YtfpbbpkdjmldkaaGreatQvX3
set_option linter.all false
namespace Go.Ev
open Go.RowKit
variable {φ:Fa} {m m' m0 m1 m2:M} {w w' w0:World} {A:Fr} {nt:Nat} {S S' S1:St} {a:Act} {P:Program}
variable {o:Oper} {K:St→Prop} {Q:Exit→Act→World→Prop} {C:Ba}
theorem dM:∀ {X:List Nat} {S:St} {t:Nat} {v:V},look (S.drops X).env t=some v→v = .undef∨(look S.env t=some v∧∀T∈X,v.no T=true)
 | [],S,t,v,h=>.inr ⟨h,by simp⟩
 | T::r,S,t,v,h=>by
  rcases dM (S:=S.drop T) h with rfl | ⟨h1,h2⟩
  ·exact .inl rfl
  ·rcases Jn h1 with rfl | ⟨h3,h4⟩
   ·exact .inl rfl
   ·exact .inr ⟨h3,fun T' hT=>by
     cases hT with
     | head=>exact h4
     | tail _ hT=>exact h2 T' hT⟩
theorem Wy:∀ {X:List Nat} {S:St} {t:Nat} {cs:List V},look (S.drops X).bx t=some cs →
  ∃cs0,look S.bx t=some cs0∧∀(i:Nat) (c:V),cs[i]? = some c→(c = .undef∧i<cs0.length)∨(cs0[i]? = some c∧∀T∈X,Jh T c=true)
 | [],S,t,cs,h=>⟨cs,h,fun i c hi=>.inr ⟨hi,by simp⟩⟩
 | T::r,S,t,cs,h=>by
  obtain ⟨cs1,h1,h2⟩:=Wy (S:=S.drop T) h
  obtain ⟨cs0,h3,rfl⟩:=Gt h1
  refine ⟨cs0,h3,fun i c hi=>?_⟩
  rcases h2 i c hi with ⟨rfl,h4⟩ | ⟨h4,h5⟩
  ·rw [If] at h4
   exact .inl ⟨rfl,h4⟩
  ·have hl:=(List.getElem?_eq_some_iff.1 h4).1
   rw [If] at hl
   rcases Pa h4 with rfl | ⟨h6,h7⟩
   ·exact .inl ⟨rfl,hl⟩
   ·exact .inr ⟨h6,fun T' hT=>by
     cases hT with
     | head=>exact h7
     | tail _ hT=>exact h5 T' hT⟩
theorem nX (rw_:List (Nat×Nat×List (List V))) (c:V):fR [] rw_ c=c:=by cases c<;>rfl
theorem mapV_id {f:V→V} (hf:∀c,f c=c) (v:V):Hd f v=v:=by
 have h1:∀l:List V,l.map f=l:=fun l=>by
  have:f=id:=funext hf
  simp [this]
 have h2:∀l:List V,l.map (mapW f)=l:=fun l=>by
  have:mapW f=id:=funext fun x=>by
   cases x<;>simp [mapW,h1,hf]
  rw [this]; simp
 cases v with
 | agg cs=>simp [Hd,h1]
 | tup vs=>show V.tup (vs.map (mapW f))=_; rw [h2]
 | may b x=>
  cases x with
  | agg cs=>simp [Hd,h1]
  | tup vs=>show V.may b (V.tup (vs.map (mapW f)))=_; rw [h2]
  | _=>simp [Hd,hf]
 | _=>simp [Hd,hf]
theorem xN {LR:List Nat} {rw_:List (Nat×Nat×List (List V))} {t:Nat} {v:V} (h:look (S.rows LR rw_).env t=some v):
  ∃v0,look S.env t=some v0∧v=Hd (fR LR rw_) v0:=by
 unfold St.rows at h
 split at h
 ·exact ⟨v,h,(mapV_id (nX rw_) v).symm⟩
 ·exact Nd h
theorem nB {LR:List Nat} {rw_:List (Nat×Nat×List (List V))} {t:Nat} {cs:List V} (h:look (S.rows LR rw_).bx t=some cs):
  ∃cs0,look S.bx t=some cs0∧cs=cs0.map (fR LR rw_):=by
 unfold St.rows at h
 split at h
 ·refine ⟨cs,h,?_⟩
  have:fR [] rw_=id:=funext (nX rw_)
  simp [this]
 ·exact Pd h
theorem Yf (f:V→V):∀(L:List Nat) (q:List (List V)) (S:St),(S.boxes f L q).env=S.env
 | [],_,_=>rfl
 | T::r,cs::q,S=>by simp only [St.boxes]; exact Yf f r q _
 | T::r,[],S=>by simp only [St.boxes]; exact Yf f r [] _
theorem Ve {f:V→V} {t:Nat} {cs:List V}:∀ {L:List Nat} {q:List (List V)} {S:St},look (S.boxes f L q).bx t=some cs →
  (∃i:Nat,L[i]? = some t∧cs=((q[i]?).getD []).map f)∨(t∉L∧look S.bx t=some cs)
 | [],_,_,h=>.inr ⟨by simp,h⟩
 | T::r,c::q,S,h=>by
  simp only [St.boxes] at h
  rcases Ve h with ⟨i,h1,h2⟩ | ⟨h1,h2⟩
  ·exact .inl ⟨i+1,by simpa using h1,by simpa using h2⟩
  ·simp only [St.setBx,Ig] at h2
   split at h2
   ·rename_i e
    exact .inl ⟨0,by simp [e],by simpa using (Option.some.inj h2).symm⟩
   ·rename_i e
    exact .inr ⟨by simp [h1,Ne.symm e],h2⟩
 | T::r,[],S,h=>by
  simp only [St.boxes] at h
  rcases Ve h with ⟨i,h1,h2⟩ | ⟨h1,h2⟩
  ·exact .inl ⟨i+1,by simpa using h1,by simpa using h2⟩
  ·simp only [St.setBx,Ig] at h2
   split at h2
   ·rename_i e
    exact .inl ⟨0,by simp [e],by simpa using (Option.some.inj h2).symm⟩
   ·rename_i e
    exact .inr ⟨by simp [h1,Ne.symm e],h2⟩
theorem LV (LR:List Nat) (rw_:List (Nat×Nat×List (List V))):Fl (fR LR rw_):=by
 refine ⟨rfl,fun c h1 h2 h3=>?_⟩
 cases c with
 | own t off sz es=>
  simp only [fR]
  split
  ·simp
  ·split
   ·split<;>simp
   ·simp
 | agg cs=>exact absurd rfl (h1 cs)
 | tup vs=>exact absurd rfl (h2 vs)
 | may b v=>exact absurd rfl (h3 b v)
 | _=>simp [fR]
theorem vV (d nn:Nat) (LB LR:List Nat):Fl (Hv d nn LB LR):=by
 refine ⟨rfl,fun c h1 h2 h3=>?_⟩
 cases c with
 | own t off sz es=>
  simp only [Hv]
  split
  ·simp
  ·split
   ·simp
   ·split<;>simp
 | ptr t k=>
  simp only [Hv]
  split
  ·simp
  ·split
   ·simp
   ·split<;>simp
 | agg cs=>exact absurd rfl (h1 cs)
 | tup vs=>exact absurd rfl (h2 vs)
 | may b v=>exact absurd rfl (h3 b v)
 | _=>simp [Hv,Lb,Pu]
theorem mD:∀(X:List Nat) (S:St),(S.drops X).cp=S.cp
 | [],_=>rfl
 | T::r,S=>mD r (S.drop T)
theorem AkF {LR:List Nat} {rw_:List (Nat×Nat×List (List V))} (S:St):(S.rows LR rw_).cp=S.cp:=by
 unfold St.rows; split<;>rfl
theorem cD {f:V→V}:∀(l:List Nat) (q:List (List V)) (S:St),(S.boxes f l q).cp=S.cp
 | [],_,_=>rfl
 | T::r,cs::q,S=>cD r q (S.setBx T (cs.map f))
 | T::r,[],S=>cD r [] (S.setBx T [])
theorem Da.back {LB LR LM:List Nat} {fz:Bool} {d:Nat} {g:Tr} {t:Gs} {x:Value} (h:Da φ w0 A nt m1 S1 a w) (B:Nt φ w0 A w w' m1 m' LB LR LM fz d g t x)
  (hLB:∀T∈LB,∃b cur e,m1.blk true T=some b∧w.heap[b]? = some (.cells cur e (0,0))):
  Da φ w0 A nt (Ez m1 m' d (t.newB d LB.length) (t.newR d) LM)
   ((((S1.drops (LM++(t.newR d++t.newB d LB.length))).rows LR t.rw).boxes (Hv d (t.bx.length-LB.length) LB LR) (LB++t.newB d LB.length) t.bx)) a w':=by
 refine ⟨B.lay,h.hnt,h.size,h.defers,fun T v hv=>?_,fun T cs hcs=>?_,fun k c hk=>by
  rw [cD,AkF,mD] at hk
  exact h.cp k c hk⟩
 ·rw [Yf] at hv
  obtain ⟨v0,h1,rfl⟩:=xN hv
  rcases dM h1 with rfl | ⟨h2,h3⟩
  ·exact Hk
  ·exact RV.map (LV LR t.rw) (h.env T v0 h2) fun c y hc hy=>B.old hy fun T' hT'=>List.all_eq_true.1 (h3 T' hT') c hc
 ·rcases Ve hcs with ⟨i,h1,rfl⟩ | ⟨h1,h2⟩
  ·cases hq:t.bx[i]? with
   | some cs=>
    have hb:=B.post.bx i cs hq
    rw [B.gb] at hb
    simp only [Option.getD_some]
    have cells:∀ {e:Nat},RB φ m' w' e cs→(Ez m1 m' d (t.newB d LB.length) (t.newR d) LM).blk true T=m'.blk true e →
      RB φ (Ez m1 m' d (t.newB d LB.length) (t.newR d) LM) w' T (cs.map (Hv d (t.bx.length-LB.length) LB LR)):=by
     rintro e ⟨b,cur,ty,k1,k2,k3⟩ he
     refine ⟨b,cur,ty,by rw [he]; exact k1,k2,fun j c hj=>?_⟩
     simp only [List.getElem?_map,Option.map_eq_some_iff] at hj
     obtain ⟨c0,hj,rfl⟩:=hj
     obtain ⟨v,p1,p2,p3⟩:=k3 j c0 hj
     exact ⟨v,p1,B.new p2 (List.mem_append.2 (.inr (List.mem_flatten.2 ⟨cs,List.mem_of_getElem? hq,List.mem_of_getElem? hj⟩))),p3⟩
    by_cases hi:i<LB.length
    ·rw [if_pos hi] at hb
     rw [List.getElem?_append_left hi] at h1
     refine cells hb ?_
     rw [B.pinB h1,B.mmB (fun hm=>Lu B.apB T (List.mem_of_getElem? h1) hm)]
    ·rw [if_neg hi] at hb
     rw [List.getElem?_append_right (by omega)] at h1
     have hlt:=(List.getElem?_eq_some_iff.1 h1).1
     rw [Gs.newB,Ht] at hlt
     rw [Gs.newB,Qz hlt] at h1
     obtain rfl:=Option.some.inj h1
     refine cells hb ?_
     have hm:64*d+(i-LB.length)∈t.newB d LB.length:=Ti.2 ⟨_,hlt,rfl⟩
     simp [Ez,hm]
   | none=>
    have hi:i<LB.length:=by
     have h3:=(List.getElem?_eq_some_iff.1 h1).1
     have h4:=List.getElem?_eq_none_iff.1 hq
     rw [List.length_append,Gs.newB,Ht] at h3
     omega
    rw [List.getElem?_append_left hi] at h1
    have hmem:=List.mem_of_getElem? h1
    obtain ⟨b,cur,e,k1,k2⟩:=hLB T hmem
    obtain ⟨cur',k3,_⟩:=B.post.lies.shape b cur e (0,0) (B.L.bnd _ _ _ k1).1 k2
    exact ⟨b,cur',e,by rw [B.mmB (fun hm=>Lu B.apB T hmem hm)]; exact k1,k3,by simp⟩
  ·obtain ⟨cs1,h3,rfl⟩:=nB h2
   obtain ⟨cs0,h4,h5⟩:=Wy h3
   obtain ⟨b,cur,e,k1,k2,k3⟩:=h.rb h4
   have n1:T∉t.newB d LB.length:=fun hm=>h1 (List.mem_append.2 (.inr hm))
   have n2:T∉LB:=fun hm=>h1 (List.mem_append.2 (.inl hm))
   refine ⟨b,cur,e,by rw [B.mmB n1]; exact k1,?_,fun j c hj=>?_⟩
   ·rw [B.post.lies.block b (h.bnd _ _ _ k1).1]
    ·exact k2
    ·rintro ⟨k',t',hb⟩
     obtain ⟨T',h6,h7⟩:=Ei hb
     obtain ⟨rfl,rfl⟩:=h.inj _ _ _ _ _ k1 h6
     rcases h7 with ⟨_,h7⟩ | ⟨h7,_⟩
     ·exact n2 h7
     ·simp at h7
   ·simp only [List.getElem?_map,Option.map_eq_some_iff] at hj
    obtain ⟨c0,hj,rfl⟩:=hj
    rcases h5 j c0 hj with ⟨rfl,hl⟩ | ⟨h6,h7⟩
    ·obtain ⟨v,p1,_,p3⟩:=k3 j cs0[j] (List.getElem?_eq_getElem hl)
     exact ⟨v,p1,trivial,p3⟩
    ·obtain ⟨v,p1,p2,p3⟩:=k3 j c0 h6
     exact ⟨v,p1,B.old p2 h7,p3⟩
theorem tC {f fid:Nat} {args:List V} {vals:List Value} {d:Option Nat} (h:Da φ w0 A nt m S a w) (hd:∀x,d=some x→x<nt) (hf:look φ fid=some f)
  (hlen:vals.length=args.length) (hv:∀(i:Nat) (v:V) (x:Value),args[i]? = some v→vals[i]? = some x→RT φ m w v x)
  (hw:oS (Ek P φ) f args d S K):Xv P fid∧Calls P fid vals.toArray w fun e w'=>∃x,e = .returned x∧Nx φ w0 A nt K (a.put d x) w':=by
 obtain ⟨hu,LB,LR,LM,fz,t,⟨hB,hR,hM,hLB⟩,⟨hc,apB,apR⟩,hfl,hC,hK⟩:=hw
 obtain ⟨hE,hcall⟩:=hC fid hf
 refine ⟨hE,?_⟩
 have hcnt:=Ln hc (t.bx.length-LB.length) (by simp)
 have hlm:=Ln hc LM.length (by simp)
 obtain ⟨m1,h1,H⟩:=h.hands LB LR LM (S.frzTags args LB LR LM) fz (fun t ht=>(Rg.1 ht).2) hlm
 refine (hcall w _ vals (LI h h1 H hlen hv hu hB hR hLB)).mono fun e w' hh=>?_
 obtain ⟨x,m',rfl,post⟩:=hh
 refine ⟨x,rfl,?_⟩
 have hd64:64*d.getD 0+64≤Di:=by
  have:=h.hnt
  cases d with
  | none=>simp [Di]
  | some d=>
   have h2:=hd d rfl
   have h3:d<16000:=Nat.lt_of_lt_of_le h2 this
   simp only [Option.getD_some,Di]
   omega
 have B:Nt φ w0 A w w' m1 m' LB LR LM fz (d.getD 0) (S.give args LB LR LM fz) t x:=
  ⟨h1.toLay,post,by simp [St.give,Wx,Ww],hB,hR,hM,hcnt,hlm,apB,apR,hd64,hfl⟩
 have hR':=Da.back h1 B fun T hT=>by
  have hsome:=List.all_eq_true.1 hLB T hT
  obtain ⟨cs,hcs⟩:=Option.isSome_iff_exists.1 hsome
  obtain ⟨b,cur,e,g1,g2,_⟩:=h.rb hcs
  obtain ⟨i,hi⟩:=List.getElem?_of_mem hT
  refine ⟨b,cur,e,?_,g2⟩
  have:=H.box i T hi
  rw [Sa hi] at this
  rw [this]; exact g1
 have hres:RT φ (Ez m1 m' (d.getD 0) (t.newB (d.getD 0) LB.length) (t.newR (d.getD 0)) LM) w' (mapT (Hv (d.getD 0) (t.bx.length-LB.length) LB LR) t.r) x:=by
  refine RT.mapT (vV _ _ _ _) post.res fun c y hc hy=>B.new hy (List.mem_append.2 (.inl ?_))
  have hn:=Et post.res
  cases hr:t.r with
  | may b v=>exact absurd hr (hn b v)
  | _=>rw [hr] at hc; exact hc
 refine ⟨_,_,hK,hR'.put hd ?_⟩
 rw [Mh _ _ (Et post.res)]
 exact Nw (Et hres) hres
end Go.Ev
