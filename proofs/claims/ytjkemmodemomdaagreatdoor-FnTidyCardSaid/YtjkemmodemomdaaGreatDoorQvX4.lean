/- The state behind a call; calls. -/
import Derived.Test.YtjkemmodemomdaaGreatDoorQvX3
set_option linter.all false
namespace Go.Ev
open Go.RowKit
variable {φ:Bz} {m m' m0 m1 m2:M} {w w' w0:World} {A:Fr} {nt:Nat} {S S' S1:St} {a:Act} {P:Program}
variable {o:Oper} {K:St→Prop} {Q:Exit→Act→World→Prop} {C:Bb}
theorem Vm (rw_:List (Nat×Nat×List (List V))) (c:V):Ow [] rw_ c=c:=by cases c<;>rfl
theorem Zt {LR:List Nat} {rw_:List (Nat×Nat×List (List V))} {t:Nat} {v:V} (h:look (S.rows LR rw_).env t=some v):
  ∃v0,look S.env t=some v0∧v=Ft (Ow LR rw_) v0:=by
 unfold St.rows at h
 split at h
 ·exact ⟨v,h,(oQ (Vm rw_) v).symm⟩
 ·exact Gd h
theorem Va {LR:List Nat} {rw_:List (Nat×Nat×List (List V))} {t:Nat} {cs:List V} (h:look (S.rows LR rw_).bx t=some cs):
  ∃cs0,look S.bx t=some cs0∧cs=cs0.map (Ow LR rw_):=by
 unfold St.rows at h
 split at h
 ·refine ⟨cs,h,?_⟩
  have:Ow [] rw_=id:=funext (Vm rw_)
  simp [this]
 ·exact Hg h
theorem Np (f:V→V):∀(L:List Nat) (q:List (List V)) (S:St),(S.boxes f L q).env=S.env
 | [],_,_=>rfl
 | T::r,cs::q,S=>by simp only [St.boxes]; exact Np f r q _
 | T::r,[],S=>by simp only [St.boxes]; exact Np f r [] _
theorem Lw {f:V→V} {t:Nat} {cs:List V}:∀ {L:List Nat} {q:List (List V)} {S:St},look (S.boxes f L q).bx t=some cs →
  (∃i:Nat,L[i]? = some t∧cs=((q[i]?).getD []).map f)∨(t∉L∧look S.bx t=some cs)
 | [],_,_,h=>.inr ⟨by simp,h⟩
 | T::r,c::q,S,h=>by
  simp only [St.boxes] at h
  rcases Lw h with ⟨i,h1,h2⟩ | ⟨h1,h2⟩
  ·exact .inl ⟨i+1,by simpa using h1,by simpa using h2⟩
  ·simp only [St.setBx,Ef] at h2
   split at h2
   ·rename_i e
    exact .inl ⟨0,by simp [e],by simpa using (Option.some.inj h2).symm⟩
   ·rename_i e
    exact .inr ⟨by simp [h1,Ne.symm e],h2⟩
 | T::r,[],S,h=>by
  simp only [St.boxes] at h
  rcases Lw h with ⟨i,h1,h2⟩ | ⟨h1,h2⟩
  ·exact .inl ⟨i+1,by simpa using h1,by simpa using h2⟩
  ·simp only [St.setBx,Ef] at h2
   split at h2
   ·rename_i e
    exact .inl ⟨0,by simp [e],by simpa using (Option.some.inj h2).symm⟩
   ·rename_i e
    exact .inr ⟨by simp [h1,Ne.symm e],h2⟩
theorem dW (LR:List Nat) (rw_:List (Nat×Nat×List (List V))):Cg (Ow LR rw_):=by
 refine ⟨rfl,fun c h1 h2 h3=>?_⟩
 cases c with
 | own t off sz es=>
  simp only [Ow]
  split
  ·simp
  ·split
   ·split<;>simp
   ·simp
 | nrow t j c s es=>simp only [Ow]; cases LR.contains t<;>simp
 | agg cs=>exact absurd rfl (h1 cs)
 | tup vs=>exact absurd rfl (h2 vs)
 | may b v=>exact absurd rfl (h3 b v)
 | _=>simp [Ow]
theorem Zc (d nn:Nat) (LB LR:List Nat):Cg (Ek d nn LB LR):=by
 refine ⟨rfl,fun c h1 h2 h3=>?_⟩
 cases c with
 | own t off sz es=>
  simp only [Ek]
  split
  ·simp
  ·split
   ·simp
   ·split<;>simp
 | ptr t k=>
  simp only [Ek]
  split
  ·simp
  ·split
   ·simp
   ·split<;>simp
 | agg cs=>exact absurd rfl (h1 cs)
 | tup vs=>exact absurd rfl (h2 vs)
 | may b v=>exact absurd rfl (h3 b v)
 | _=>simp [Ek,Gi,Iw]
theorem Uo:∀(X:List Nat) (S:St),(S.drops X).cp=S.cp
 | [],_=>rfl
 | T::r,S=>Uo r (S.drop T)
theorem nB {LR:List Nat} {rw_:List (Nat×Nat×List (List V))} (S:St):(S.rows LR rw_).cp=S.cp:=by
 unfold St.rows; split<;>rfl
theorem Pq {f:V→V}:∀(l:List Nat) (q:List (List V)) (S:St),(S.boxes f l q).cp=S.cp
 | [],_,_=>rfl
 | T::r,cs::q,S=>Pq r q (S.setBx T (cs.map f))
 | T::r,[],S=>Pq r [] (S.setBx T [])
theorem Aw.back {LB LR LM:List Nat} {fz:Bool} {d:Nat} {g:Lj} {t:Dh} {x:Value} (h:Aw φ w0 A nt m1 S1 a w) (B:Fi φ w0 A w w' m1 m' LB LR LM fz d g t x)
  (hLB:∀T∈LB,∃b cur e,m1.blk true T=some b∧w.heap[b]? = some (.cells cur e (0,0))):
  Aw φ w0 A nt (Bk m1 m' d (t.newB d LB.length) (t.newR d) LM)
   ((((S1.drops (LM++(t.newR d++t.newB d LB.length))).rows LR t.rw).boxes (Ek d (t.bx.length-LB.length) LB LR) (LB++t.newB d LB.length) t.bx)) a w':=by
 refine ⟨B.lay,h.hnt,h.size,h.defers,fun T v hv=>?_,fun T cs hcs=>?_,fun k c hk=>by
  rw [Pq,nB,Uo] at hk
  exact h.cp k c hk⟩
 ·rw [Np] at hv
  obtain ⟨v0,h1,rfl⟩:=Zt hv
  rcases Ly h1 with rfl | ⟨h2,h3⟩
  ·exact Cy
  ·exact RV.map (dW LR t.rw) (h.env T v0 h2) fun c y hc hy=>B.old hy fun T' hT'=>List.all_eq_true.1 (h3 T' hT') c hc
 ·rcases Lw hcs with ⟨i,h1,rfl⟩ | ⟨h1,h2⟩
  ·cases hq:t.bx[i]? with
   | some cs=>
    have hb:=B.post.bx i cs hq
    rw [B.gb] at hb
    simp only [Option.getD_some]
    have cells:∀ {e:Nat},RB φ m' w' e cs→(Bk m1 m' d (t.newB d LB.length) (t.newR d) LM).blk true T=m'.blk true e →
      RB φ (Bk m1 m' d (t.newB d LB.length) (t.newR d) LM) w' T (cs.map (Ek d (t.bx.length-LB.length) LB LR)):=by
     rintro e ⟨b,cur,ty,k1,k2,k3⟩ he
     refine ⟨b,cur,ty,by rw [he]; exact k1,k2,fun j c hj=>?_⟩
     simp only [List.getElem?_map,Option.map_eq_some_iff] at hj
     obtain ⟨c0,hj,rfl⟩:=hj
     obtain ⟨v,p1,p2,p3⟩:=k3 j c0 hj
     exact ⟨v,p1,B.new p2 (List.mem_append.2 (.inr (List.mem_flatten.2 ⟨cs,List.mem_of_getElem? hq,List.mem_of_getElem? hj⟩))),p3⟩
    by_cases hi:i<LB.length
    ·rw [if_pos hi] at hb
     rw [List.getElem?_append_left hi] at h1
     refine cells hb ?_
     rw [B.pinB h1,B.mmB (fun hm=>Gy B.apB T (List.mem_of_getElem? h1) hm)]
    ·rw [if_neg hi] at hb
     rw [List.getElem?_append_right (by omega)] at h1
     have hlt:=(List.getElem?_eq_some_iff.1 h1).1
     rw [Dh.newB,Dw] at hlt
     rw [Dh.newB,Jv hlt] at h1
     obtain rfl:=Option.some.inj h1
     refine cells hb ?_
     have hm:64*d+(i-LB.length)∈t.newB d LB.length:=Ks.2 ⟨_,hlt,rfl⟩
     simp [Bk,hm]
   | none=>
    have hi:i<LB.length:=by
     have h3:=(List.getElem?_eq_some_iff.1 h1).1
     have h4:=List.getElem?_eq_none_iff.1 hq
     rw [List.length_append,Dh.newB,Dw] at h3
     omega
    rw [List.getElem?_append_left hi] at h1
    have hmem:=List.mem_of_getElem? h1
    obtain ⟨b,cur,e,k1,k2⟩:=hLB T hmem
    obtain ⟨cur',k3,_⟩:=B.post.lies.shape b cur e (0,0) (B.L.bnd _ _ _ k1).1 k2
    exact ⟨b,cur',e,by rw [B.mmB (fun hm=>Gy B.apB T hmem hm)]; exact k1,k3,by simp⟩
  ·obtain ⟨cs1,h3,rfl⟩:=Va h2
   obtain ⟨cs0,h4,h5⟩:=Ip h3
   obtain ⟨b,cur,e,k1,k2,k3⟩:=h.rb h4
   have n1:T∉t.newB d LB.length:=fun hm=>h1 (List.mem_append.2 (.inr hm))
   have n2:T∉LB:=fun hm=>h1 (List.mem_append.2 (.inl hm))
   refine ⟨b,cur,e,by rw [B.mmB n1]; exact k1,?_,fun j c hj=>?_⟩
   ·rw [B.post.lies.block b (h.bnd _ _ _ k1).1]
    ·exact k2
    ·rintro (⟨k',t',hb⟩ | ⟨T',j',c',hb⟩)
     rotate_left
     ·obtain ⟨i,X,rfl,_,_,hb⟩:=Bl hb
      exact h.n.dis _ _ _ _ _ _ hb k1
     obtain ⟨T',h6,h7⟩:=Bh hb
     obtain ⟨rfl,rfl⟩:=h.inj _ _ _ _ _ k1 h6
     rcases h7 with ⟨_,h7⟩ | ⟨h7,_⟩
     ·exact n2 h7
     ·simp at h7
   ·simp only [List.getElem?_map,Option.map_eq_some_iff] at hj
    obtain ⟨c0,hj,rfl⟩:=hj
    rcases h5 j c0 hj with ⟨rfl,hl⟩ | ⟨h6,h7⟩
    ·obtain ⟨v,p1,_,p3⟩:=k3 j cs0[j] (List.getElem?_eq_getElem hl)
     exact ⟨v,p1,trivial,p3⟩
    ·obtain ⟨v,p1,p2,p3⟩:=k3 j c0 h6
     exact ⟨v,p1,B.old p2 h7,p3⟩
theorem Xv {f fid:Nat} {args:List V} {vals:List Value} {d:Option Nat} (h:Aw φ w0 A nt m S a w) (hd:∀x,d=some x→x<nt) (hf:look φ fid=some f)
  (hlen:vals.length=args.length) (hv:∀(i:Nat) (v:V) (x:Value),args[i]? = some v→vals[i]? = some x→RT φ m w v x)
  (hw:Vw (By P φ) f args d S K):Nf P fid∧Calls P fid vals.toArray w fun e w'=>∃x,e = .returned x∧Nx φ w0 A nt K (a.put d x) w':=by
 obtain ⟨hu,LB,LR,LM,fz,t,⟨hB,hR,hM,hLB⟩,⟨hc,apB,apR⟩,hfl,hC,hK⟩:=hw
 obtain ⟨hE,hcall⟩:=hC fid hf
 refine ⟨hE,?_⟩
 have hcnt:=Eo hc (t.bx.length-LB.length) (by simp)
 have hlm:=Eo hc LM.length (by simp)
 have hlr:=Eo hc LR.length (by simp)
 obtain ⟨m1,h1,H⟩:=h.hands LB LR LM (S.frzTags args LB LR LM) fz (fun t ht=>(Jz.1 ht).2) hlm hlr
 refine (hcall w _ vals (dM h h1 H hlen hv hu hB hR hLB)).mono fun e w' hh=>?_
 obtain ⟨x,m',rfl,post⟩:=hh
 refine ⟨x,rfl,?_⟩
 have hd64:64*d.getD 0+64≤Au:=by
  have:=h.hnt.1
  cases d with
  | none=>simp [Au]
  | some d=>
   have h2:=hd d rfl
   have h3:d<16000:=Nat.lt_of_lt_of_le h2 this
   simp only [Option.getD_some,Au]
   omega
 have B:Fi φ w0 A w w' m1 m' LB LR LM fz (d.getD 0) (S.give args LB LR LM fz) t x:=
  ⟨h1.toLay,post,by simp [St.give,Mr,Mq],hB,hR,hM,by omega,hlm,hlr,apB,apR,hd64,hfl⟩
 have hR':=Aw.back h1 B fun T hT=>by
  have hsome:=List.all_eq_true.1 hLB T hT
  obtain ⟨cs,hcs⟩:=Option.isSome_iff_exists.1 hsome
  obtain ⟨b,cur,e,g1,g2,_⟩:=h.rb hcs
  obtain ⟨i,hi⟩:=List.getElem?_of_mem hT
  refine ⟨b,cur,e,?_,g2⟩
  have:=H.box i T hi
  rw [Kl hi] at this
  rw [this]; exact g1
 have hres:RT φ (Bk m1 m' (d.getD 0) (t.newB (d.getD 0) LB.length) (t.newR (d.getD 0)) LM) w' (mapT (Ek (d.getD 0) (t.bx.length-LB.length) LB LR) t.r) x:=by
  refine RT.mapT (Zc _ _ _ _) post.res fun c y hc hy=>B.new hy (List.mem_append.2 (.inl ?_))
  have hn:=Bt post.res
  cases hr:t.r with
  | may b v=>exact absurd hr (hn b v)
  | _=>rw [hr] at hc; exact hc
 refine ⟨_,_,hK,hR'.put hd ?_⟩
 rw [Hh _ _ (Bt post.res)]
 exact Gw (Bt hres) hres
theorem Sf {T j c sz:Nat} {es:List (List V)}:∀ {args us:List V},cN T j c sz es args us→us.length=args.length∧∀(i:Nat) (u:V),us[i]? = some u→∃v,args[i]? = some v∧((v = .nrow T j c sz es∧u = .own 2097152 0 sz es)∨(u=v∧scal v=true∧As v=false))
 | [],[],_=>⟨rfl,by simp⟩
 | v::r,u::q,h=>by
  obtain ⟨h1,h2⟩:=h
  obtain ⟨h3,h4⟩:=Sf h2
  refine ⟨by simp [h3],fun i x hi=>?_⟩
  cases i with
  | zero=>simp at hi; subst hi; exact ⟨v,rfl,h1⟩
  | succ i=>simpa using h4 i x (by simpa using hi)
 | [],_::_,h=>h.elim
 | _::_,[],h=>h.elim
theorem Xn {v:V} {x:Value} (h1:scal v=true) (h2:As v=false) (h:RT φ m w v x):RT φ m' w' v x:=by
 cases v with
 | int k n=>exact ⟨Ed (φ:=φ) rfl h.1,h.2⟩
 | bool b=>exact ⟨Ed (φ:=φ) rfl h.1,h.2⟩
 | str s=>exact ⟨Ed (φ:=φ) rfl h.1,h.2⟩
 | undef=>simp [As] at h2
 | _=>simp [scal] at h1
theorem eM (T s0 j c:Nat) (x:V):Cg (Vv T s0 j c x):=by
 refine ⟨rfl,fun c h1 h2 h3=>?_⟩
 cases c with
 | own t off s es=>simp only [Vv]; split<;>first | (split<;>simp) | simp
 | nrow t j k s es=>simp only [Vv]; split<;>simp
 | agg cs=>exact absurd rfl (h1 cs)
 | tup vs=>exact absurd rfl (h2 vs)
 | may b v=>exact absurd rfl (h3 b v)
 | _=>simp [Vv]
theorem bV {f fid:Nat} {args:List V} {vals:List Value} {d:Option Nat} (h:Aw φ w0 A nt m S a w) (hd:∀x,d=some x→x<nt) (hf:look φ fid=some f)
  (hlen:vals.length=args.length) (hv:∀(i:Nat) (v:V) (x:Value),args[i]? = some v→vals[i]? = some x→RT φ m w v x)
  (hw:eN (By P φ) f args d S K):Nf P fid∧Calls P fid vals.toArray w fun e w'=>∃x,e = .returned x∧Nx φ w0 A nt K (a.put d x) w':=by
 obtain ⟨T,s0,j,c,sz,es,es',us,r,hus,hz,hl,hes,hsr,hur,hdT,⟨off0,es0,hf1,hf2,hf4,hf3⟩,hC,hK⟩:=hw
 obtain ⟨hE,hcall⟩:=hC fid hf
 obtain ⟨hul,hug⟩:=Sf hus
 refine ⟨hE,?_⟩
 let m0:M:=⟨fun _=>False,fun k t=>if k=false∧t=2097152 then m.nst T j c else none,fun _ _ _=>none⟩
 have m0b:∀ {k:Bool} {t b:Nat},m0.blk k t=some b→k=false∧t=2097152∧m.nst T j c=some b:=by
  intro k t b hb
  simp only [m0] at hb
  split at hb
  ·rename_i e; exact ⟨e.1,e.2,hb⟩
  ·cases hb
 have held:∀ {b:Nat},m0.held b→m.nst T j c=some b:=by
  rintro b (⟨k,t,hb⟩ | ⟨_,_,_,hb⟩)
  ·exact (m0b hb).2.2
  ·cases hb
 have htb:Ni φ w m0.held:=fun b k hk=>by
  obtain ⟨q1,q2,e,x,q3⟩:=h.hnt.2 b k hk
  refine ⟨Nat.lt_of_lt_of_le q1 h.lies.size,fun hh=>?_,e,x,by rw [h.lies.block b q1 q2]; exact q3⟩
  rcases (h.n.bnd _ _ _ _ (held hh)).2.1 with g | g
  ·omega
  ·exact q2 g
 have hpre:xA φ w m0 ⟨us,[]⟩ vals:=by
  refine ⟨⟨fun b hb=>hb.elim,htb⟩,fun k t k' t' b h1 h2=>?_,fun k t b hb=>⟨(h.n.bnd _ _ _ _ (m0b hb).2.2).1,fun hh=>hh⟩,by rw [hlen]; exact hul.symm,fun i v x hi hx=>?_,fun i cs hi=>by simp at hi,fun t b cur e x hb hw=>h.n.ones _ _ _ _ _ _ _ (m0b hb).2.2 hw,⟨fun _ _ _ _ _ _ _ h=>absurd h (by simp [m0]),fun _ _ _ _ _ _ h=>absurd h (by simp [m0]),fun _ _ _ _ h=>absurd h (by simp [m0]),fun _ _ _ _ _ _ _ h=>absurd h (by simp [m0])⟩⟩
  ·obtain ⟨rfl,rfl,_⟩:=m0b h1
   obtain ⟨rfl,rfl,_⟩:=m0b h2
   exact ⟨rfl,rfl⟩
  ·obtain ⟨v0,h1,h2⟩:=hug i v hi
   have h3:=hv i v0 x h1 hx
   rcases h2 with ⟨rfl,rfl⟩ | ⟨rfl,h4,h5⟩
   ·have h4:RN φ w (m.nst T j c) sz es x:=h3.1.2
    refine ⟨?_,fun _=>h4.val⟩
    rcases h4 with ⟨rfl,rfl⟩ | ⟨b,cap,cur,e,g1,g2,g3,g4,g5,g6,g7,g8,g9⟩
    ·exact .inl ⟨rfl,rfl,rfl⟩
    ·refine .inr (.inr (.inl ⟨b,cap,cur,e,by simp [m0,g1],by simpa using g2,g3,g4,by simpa using g5,by simpa using g6,g7,fun y hy=>(g8 y hy).1,fun j y k c k1 k2=>?_⟩))
     obtain ⟨v,k3,k4,k5⟩:=g9 j y k c k1 k2
     exact ⟨v,by simpa using k3,k4,.of (Ed (List.all_eq_true.1 (g8 y (List.mem_of_getElem? k1)).2 c (List.mem_of_getElem? k2)) k5) rfl⟩
   ·exact Xn h4 h5 h3
 refine (hcall w m0 vals hpre).mono fun e w' hh=>?_
 obtain ⟨x,m',rfl,post⟩:=hh
 refine ⟨x,rfl,?_⟩
 have hs:w.heap.size≤w'.heap.size:=post.lies.size
 have hkeep:∀b,b<w.heap.size→m.nst T j c≠some b→w'.heap[b]? = w.heap[b]? := fun b hb hn=>post.lies.block b hb fun hh=>hn (held hh)
 have hblk:∀ {k:Bool} {t b:Nat},m.blk k t=some b→w'.heap[b]? = w.heap[b]? := fun hb=>hkeep _ (h.bnd _ _ _ hb).1 fun hn=>h.n.dis _ _ _ _ _ _ hn hb
 have hpin:m'.blk false 2097152=m.nst T j c:=by rw [post.pin _ _ (by decide)]; simp [m0]
 have hpin2:m'.blk false 2097184=none:=by rw [post.pin _ _ (by decide)]; simp [m0]
 have K0:Dz m m w w' (fun k t=>¬(k=false∧t=T)):=by
  refine ⟨hs,fun b hb ha=>⟨hkeep b hb fun hn=>ha (.inr (.inr ⟨_,_,_,hn⟩)),ha⟩,fun k t b _ hb=>⟨hb,fun _=>hblk hb⟩,fun T' j' c' b hp hb=>⟨hb,hkeep b (h.n.bnd _ _ _ _ hb).1 fun hn=>hp ⟨rfl,?_⟩⟩⟩
  exact (h.n.inj _ _ _ _ _ _ _ hb hn).1
 have hlies:Hk A.ext w0 w':=by
  have L1:=h.lies
  have L2:=post.lies
  refine ⟨L2.os.trans L1.os,⟨L2.tape.1.trans L1.tape.1,Nat.le_trans L1.tape.2 L2.tape.2⟩,L2.output.trans L1.output,Nat.le_trans L1.size L2.size,fun k hk hE=>?_,fun k cur e fr hk h1=>?_⟩
  ·rw [L2.block k (Nat.lt_of_lt_of_le hk L1.size),L1.block k hk hE]
   intro hb
   rcases (h.n.bnd _ _ _ _ (held hb)).2.1 with h3 | h3
   ·omega
   ·exact hE h3
  ·obtain ⟨c1,h2,h3⟩:=L1.shape k cur e fr hk h1
   obtain ⟨c2,h4,h5⟩:=L2.shape k c1 e fr (Nat.lt_of_lt_of_le hk L1.size) h2
   exact ⟨c2,h4,h5.trans h3⟩
 have L':Lay w0 A m w':=by
  refine ⟨h.hA,h.hAlt,h.inj,fun k t b hb=>⟨Nat.lt_of_lt_of_le (h.bnd _ _ _ hb).1 hs,(h.bnd _ _ _ hb).2⟩,h.pin,hlies,fun t b cur e x hb hw=>h.ones t b cur e x hb (by rw [←hblk hb]; exact hw),h.n.inj,h.n.dis,fun T' j' c' b hb=>⟨Nat.lt_of_lt_of_le (h.n.bnd _ _ _ _ hb).1 hs,(h.n.bnd _ _ _ _ hb).2⟩,h.n.pin,fun T' j' c' b cur e x hb hw=>?_⟩
  by_cases hn:m.nst T j c=some b
  ·exact post.ones 2097152 b cur e x (by rw [hpin]; exact hn) hw
  ·rw [hkeep b (h.n.bnd _ _ _ _ hb).1 hn] at hw
   exact h.n.ones _ _ _ _ _ _ _ hb hw
 have hnew:∀v,RN φ w (m.nst T j c) sz es v→RN φ w' (m.nst T j c) sz es' v:=by
  intro v hr
  have hes0:es=[]→es'=[]:=fun e=>List.eq_nil_of_length_eq_zero (by rw [hl,e]; rfl)
  rcases hr with ⟨h1,h2⟩ | ⟨b,cap,cur,e,g1,g2,g3,g4,g5,g6,g7,g8,g9⟩
  ·exact .inl ⟨hes0 h1,h2⟩
  ·obtain ⟨cur',k1,k2⟩:=post.lies.shape b cur e (0,0) (h.n.bnd _ _ _ _ g1).1 g3
   have hu:∀y∈es',y.length=sz∧y.all scal=true:=fun y hy=>by
    have:=List.all_eq_true.1 hes y hy
    simp only [Bool.and_eq_true] at this
    exact ⟨Nat.eq_of_beq_eq_true this.1,this.2⟩
   refine .inr ⟨b,cap,cur',e,g1,by rw [hl]; exact g2,k1,by rw [hl]; exact g4,by rw [k2]; exact g5,g6,⟨g7.1,fun i v hi=>post.ones 2097152 b cur' e _ (by rw [hpin]; exact g1) k1 i v hi⟩,hu,fun q y k c0 y1 y2=>?_⟩
   obtain ⟨q1,sz',val,q2⟩:=post.rw 0 0 sz es' rfl
   have fin:∀ {n:Nat},n=2097152∨n=2097184→RO φ m' w' n 0 sz' es' val→∃v,cur'[q*sz+k]? = some v∧v.oneCell'=true∧RD φ w' (fun _=>False) c0 v:=by
    intro n hn hro
    rcases hro with ⟨_,rfl,_⟩ | ⟨h1,_⟩ | ⟨b2,cap2,cur2,e2,z1,z2,z3,z4,z5,z6,z7,z8,z9⟩ | ⟨b2,es2,ents2,clock2,z1,z2,z3,z4,z5,z6,z7⟩
    ·simp at y1
    ·exact absurd rfl h1
    ·rcases hn with rfl | rfl
     ·rw [hpin,g1] at z1
      obtain rfl:=Option.some.inj z1
      rw [k1] at z3
      simp only [Option.some.injEq,Obj.cells.injEq,and_true] at z3
      obtain ⟨rfl,rfl⟩:=z3
      have hs2:sz'=sz:=by rw [←z8 y (List.mem_of_getElem? y1),(hu y (List.mem_of_getElem? y1)).1]
      subst hs2
      obtain ⟨v,p1,p2,p3⟩:=z9 q y k c0 y1 y2
      rw [Nat.zero_add] at p1
      refine ⟨v,p1,p2,?_⟩
      have hsc:=List.all_eq_true.1 (hu y (List.mem_of_getElem? y1)).2 c0 (List.mem_of_getElem? y2)
      rcases p3 with ⟨p3,_⟩ | ⟨_,s',e',p4,_⟩
      ·exact Ed hsc p3
      ·rw [p4] at hsc; simp [scal] at hsc
     ·rw [hpin2] at z1; cases z1
    ·rcases hn with rfl | rfl
     ·rw [hpin,g1] at z5
      obtain rfl:=Option.some.inj z5
      rw [k1] at z6; cases z6
     ·rw [hpin2] at z5; cases z5
   rcases q2 with q2 | q2
   ·exact fin (.inl rfl) q2
   ·exact fin (.inr rfl) q2
 have hjl:j-off0<es0.length:=by
  rcases Nat.lt_or_ge (j-off0) es0.length with h1 | h1
  ·exact h1
  ·rw [List.getD_eq_getElem?_getD,List.getElem?_eq_none h1] at hf3; simp at hf3
 have hj0:off0+(j-off0)=j:=by omega
 obtain ⟨sz0,hsz0,val0,hro0⟩:=h.find hf1
 have hlink:∃b cur e,m.blk false T=some b∧w.heap[b]? = some (.cells cur e (0,0))∧sz0=s0∧∃v,cur[j*sz0+c]? = some v∧v.oneCell'=true∧RN φ w (m.nst T j c) sz es v:=by
  rcases hro0 with ⟨_,rfl,_⟩ | ⟨_,rfl,_⟩ | ⟨b,cap,cur,e,g1,g2,g3,g4,g5,g6,g7,g8,g9⟩ | ⟨_,_,_,_,_,g1,_⟩
  ·simp at hjl
  ·simp at hjl
  ·have he:es0[j-off0]? = some (es0.getD (j-off0) []):=by rw [List.getD_eq_getElem?_getD,List.getElem?_eq_getElem hjl]; rfl
   obtain ⟨v,k1,k2,k3⟩:=g9 _ _ c _ he hf3
   rw [hj0] at k1 k3
   refine ⟨b,cur,e,g1,g3,?_,v,k1,k2,?_⟩
   ·rw [←g8 _ (List.mem_of_getElem? he)]; exact hf4
   ·rcases k3 with ⟨_,k4⟩ | ⟨_,s',e',k4,k5⟩
    ·have:=k4 hdT; simp [scal] at this
    ·cases k4; exact k5
  ·exact absurd g1 hsz0
 obtain ⟨β,cur0,E0,l1,l2,l3,v0,l6,l7,l8⟩:=hlink
 have hcell:∀ {J q:Nat} {c1:V} {v:Value},¬(J=j∧q=c)→RE φ m w T J q c1 v→RE φ m w' T J q c1 v:=by
  intro J q c1 v hne hr
  rcases hr with ⟨g1,g2⟩ | ⟨g1,s,e,g2,g3⟩
  ·exact .inl ⟨K0.rd g1,g2⟩
  ·refine .inr ⟨g1,s,e,g2,g3.mono fun b hb=>⟨hb,hkeep b (h.n.bnd _ _ _ _ hb).1 fun hn=>hne ?_⟩⟩
   obtain ⟨_,e1,e2⟩:=h.n.inj _ _ _ _ _ _ _ hb hn
   exact ⟨e1,e2⟩
 have hrel:Aw φ w0 A nt m (S.map (Vv T s0 j c (.lst sz es'))) a w':=by
  refine h.mapAll (eM T s0 j c _) m w' (fun c1 x1 hx=>?_) (fun t b hb=>⟨hb,hblk hb⟩) L'
  cases c1 with
  | own t off s es1=>
   simp only [Vv]
   split
   ·rename_i e1
    subst e1
    split
    rotate_left
    ·trivial
    rename_i hss
    rcases hx with ⟨h1,rfl,h2⟩ | ⟨h1,rfl,h2⟩ | ⟨b,cap,cur,e,g1,g2,g3,g4,g5,g6,g7,g8,g9⟩ | ⟨b,_,_,_,_,_,_,_,g1,g2,_⟩
    ·exact .inl ⟨h1,rfl,h2⟩
    ·exact .inr (.inl ⟨h1,rfl,h2⟩)
    rotate_left
    ·rw [l1] at g1; cases g1
     rw [l2] at g2; cases g2
    ·rw [l1] at g1
     obtain rfl:=Option.some.inj g1
     rw [l2] at g3
     simp only [Option.some.injEq,Obj.cells.injEq,and_true] at g3
     obtain ⟨rfl,rfl⟩:=g3
     have hlen:(eC off j c (.lst sz es') es1).length=es1.length:=by simp [eC]
     have hget:∀i:Nat,(eC off j c (.lst sz es') es1)[i]? = (es1[i]?).map fun e=>if off+i=j then e.set c (.lst sz es') else e:=by
      intro i; simp [eC,List.getElem?_mapIdx]
     refine .inr (.inr (.inl ⟨β,cap,cur0,E0,l1,by rw [hlen]; exact g2,by rw [hblk l1]; exact l2,by rw [hlen]; exact g4,g5,g6,g7,fun y hy=>?_,fun i y k c2 y1 y2=>?_⟩))
     ·obtain ⟨i,hi⟩:=List.getElem?_of_mem hy
      rw [hget] at hi
      obtain ⟨e0,h10,rfl⟩:=Option.map_eq_some_iff.1 hi
      split
      ·rw [List.length_set]; exact g8 _ (List.mem_of_getElem? h10)
      ·exact g8 _ (List.mem_of_getElem? h10)
     ·rw [hget] at y1
      obtain ⟨e0,h10,rfl⟩:=Option.map_eq_some_iff.1 y1
      have he0:=g8 _ (List.mem_of_getElem? h10)
      by_cases e2:off+i=j
      ·rw [if_pos e2] at y2
       by_cases e3:k=c
       ·subst e3
        have hk:k<e0.length:=by
         have:=(List.getElem?_eq_some_iff.1 y2).1
         rwa [List.length_set] at this
        rw [List.getElem?_set_self hk] at y2
        cases y2
        rw [e2,hss,←l3]
        exact ⟨v0,l6,l7,.inr ⟨hdT,sz,es',rfl,hnew v0 l8⟩⟩
       ·rw [List.getElem?_set_ne (Ne.symm e3)] at y2
        obtain ⟨v,p1,p2,p3⟩:=g9 i e0 k c2 h10 y2
        exact ⟨v,p1,p2,hcell (fun hh=>e3 hh.2) p3⟩
      ·rw [if_neg e2] at y2
       obtain ⟨v,p1,p2,p3⟩:=g9 i e0 k c2 h10 y2
       exact ⟨v,p1,p2,hcell (fun hh=>e2 hh.1) p3⟩
   ·rename_i e1
    exact K0.rc (c:=.own t off s es1) (fun k t' hs hh=>e1 (hs.2.symm.trans hh.2)) hx
  | nrow t j' k s es1=>
   simp only [Vv]
   split
   ·trivial
   ·rename_i e1
    exact K0.rc (c:=.nrow t j' k s es1) (fun k t' hs hh=>e1 (hs.2.symm.trans hh.2)) hx
  | optr t s j k=>exact hx
  | ptr t k=>exact hx
  | clo f caps=>exact K0.rc (c:=.clo f caps) (fun k' t' hs hh=>by rw [hs.1] at hh; simp at hh) hx
  | int x1 x2=>exact K0.rc (c:=.int x1 x2) (fun k t hs=>hs.elim) hx
  | bool x1=>exact K0.rc (c:=.bool x1) (fun k t hs=>hs.elim) hx
  | str x1=>exact K0.rc (c:=.str x1) (fun k t hs=>hs.elim) hx
  | lst x1 x2=>exact K0.rc (c:=.lst x1 x2) (fun k t hs=>hs.elim) hx
  | iptr x1=>exact K0.rc (c:=.iptr x1) (fun k t hs=>hs.elim) hx
  | agg x1=>exact K0.rc (c:=.agg x1) (fun k t hs=>hs.elim) hx
  | tup x1=>exact K0.rc (c:=.tup x1) (fun k t hs=>hs.elim) hx
  | may x1 x2=>exact K0.rc (c:=.may x1 x2) (fun k t hs=>hs.elim) hx
  | undef=>trivial
 refine ⟨m,_,hK,hrel.put hd ?_⟩
 have hrt:RT φ m w' r x:=Xn hsr hur post.res
 exact Gw (Bt hrt) hrt
end Go.Ev
