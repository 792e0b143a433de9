/- New boxes and rows; freezing; writes to boxes and rows. -/
import Derived.Test.YtjkemmodemomdaaGreatDoorQvS2
set_option linter.all false
namespace Go.Ev
open Go.RowKit
variable {φ:Bz} {m m':M} {w w' w0:World} {A:Fr} {nt:Nat} {S S':St} {a:Act}
theorem RD.one {av:Nat→Prop} {v:V} {val:Value} (h:RD φ w av v val):val.oneCell'=true:=by
 cases h<;>first | rfl | assumption
theorem RO.one {t off sz:Nat} {es:List (List V)} {val:Value} (h:RO φ m w t off sz es val):val.oneCell'=true:=by
 rcases h with ⟨_,_,rfl⟩ | ⟨_,_,a,c,rfl⟩ | ⟨b,cap,cur,e,_,rfl,_⟩ | ⟨_,_,_,_,_,_,_,rfl,_⟩<;>rfl
theorem RC.one {c:V} {val:Value} (h:RC φ m w c val) (hc:c ≠ .undef):val.oneCell'=true:=by
 cases c with
 | own t off sz es=>exact RO.one h
 | ptr t k=>obtain ⟨b,_,rfl⟩:=h; rfl
 | optr t sz j k=>obtain ⟨b,_,rfl⟩:=h; rfl
 | nrow T j c sz es=>exact h.2.val
 | clo f caps=>obtain ⟨fid,vs,_,rfl,_⟩:=h; rfl
 | undef=>exact absurd rfl hc
 | _=>exact RD.one h
theorem Aw.newBox (h:Aw φ w0 A nt m S a w) (T:Nat) (hT:T<Au) (cs:List V) (arr:Array Value) (E:TypeId)
  (hc:∀(i:Nat) (c:V),cs[i]? = some c→Dp T c=true∧∃v,arr[i]? = some v∧RC φ m w c v∧v.oneCell'=true):
  Aw φ w0 A nt (m.set true T (some w.heap.size)) ((S.drop T).setBx T cs) a (w.alloc (.cells arr E)):=by
 have hold:∀b,b<w.heap.size→(w.alloc (.cells arr E)).heap[b]? = w.heap[b]? := fun b hb=>heap_alloc_old w _ b hb
 have K:=h.fresh_keep (w':=w.alloc (.cells arr E)) true T w.heap.size (Nat.le_refl _) (by simp) hold
 refine h.drop_keep (T:=T) K (fun k t ht=>fun hh=>ht hh.2) (fun t ds hds=>?_) rfl (h.fresh_lay true T _ (Nat.le_refl _) (by simp) hT (by simp) (h.lies.alloc _) hold (fun hh=>nomatch hh))
 simp only [St.setBx,Ef] at hds
 by_cases e:T=t
 ·subst e
  simp only [if_true,Option.some.injEq] at hds
  subst hds
  refine .inl ⟨w.heap.size,arr,E,Bv _ _ _,heap_alloc_new w _,fun i c hi=>?_⟩
  obtain ⟨h1,v,h2,h3,h4⟩:=hc i c hi
  exact ⟨v,h2,K.rc (fun k t hs=>fun hh=>Dq h1 hs hh.2) h3,h4⟩
 ·simp only [e,if_false] at hds
  obtain ⟨cs0,h1,h2⟩:=Db hds
  refine .inr ⟨cs0,h1,h2,fun hh=>e hh.2.symm,fun b hb=>hold b (h.bnd _ _ _ hb).1⟩
theorem Ib {sz:Nat} {es:List (List V)} {arr:Array Value} {R:V→Value→Prop} (hsz:0<sz) (hn:es.length*sz=arr.size) (he:∀e∈es,e.length=sz)
  (hc:∀(j:Nat) (e:List V) (k:Nat) (c:V),es[j]? = some e→e[k]? = some c→∃v,arr[j*sz+k]? = some v∧v.oneCell'=true∧R c v):
  0<sz∧∀(i:Nat) (v:Value),arr[i]? = some v→v.oneCell'=true:=by
 refine ⟨hsz,fun i v hi=>?_⟩
 have hlt:=(Array.getElem?_eq_some_iff.1 hi).1
 have hmod:i%sz<sz:=Nat.mod_lt _ hsz
 have hdiv:i / sz*sz+i%sz=i:=by rw [Nat.mul_comm]; exact Nat.div_add_mod i sz
 have hj:i / sz<es.length:=(Nat.div_lt_iff_lt_mul hsz).2 (by omega)
 have hk:i%sz<(es[i / sz]).length:=by rw [he _ (List.getElem_mem hj)]; exact hmod
 obtain ⟨v',q1,q2,_⟩:=hc (i / sz) _ (i%sz) _ (List.getElem?_eq_getElem hj) (List.getElem?_eq_getElem hk)
 rw [hdiv,hi] at q1
 cases q1; exact q2
theorem Aw.newRow (h:Aw φ w0 A nt m S a w) (T:Nat) (hT:T<Au) (sz cap:Nat) (es:List (List V)) (arr:Array Value) (E:TypeId)
  (hsz:0<sz∧∀(i:Nat) (v:Value),arr[i]? = some v→v.oneCell'=true) (hl:es.length≤cap) (hcap:cap*sz=arr.size) (hm:cap≤maxLen) (he:∀e∈es,e.length=sz)
  (hc:∀(j:Nat) (e:List V) (k:Nat) (c:V),es[j]? = some e→e[k]? = some c→∃v,arr[j*sz+k]? = some v∧v.oneCell'=true∧RD φ w m.avoid c v) (hth:Az T=true→∀(j:Nat) (e:List V) (k:Nat) (c:V),es[j]? = some e→e[k]? = some c→scal c=true∨(∃s,c = .lst s []∧arr[j*sz+k]? = some (.slice none 0 0))):
  Aw φ w0 A nt (m.set false T (some w.heap.size)) (S.drop T) a (w.alloc (.cells arr E)) ∧
  RO φ (m.set false T (some w.heap.size)) (w.alloc (.cells arr E)) T 0 sz es (.slice (some ⟨w.heap.size,0,none⟩) es.length cap):=by
 have hold:∀b,b<w.heap.size→(w.alloc (.cells arr E)).heap[b]? = w.heap[b]? := fun b hb=>heap_alloc_old w _ b hb
 have K:=h.fresh_keep (w':=w.alloc (.cells arr E)) false T w.heap.size (Nat.le_refl _) (by simp) hold
 constructor
 ·refine h.drop_keep (T:=T) K (fun k t ht=>fun hh=>ht hh.2) (fun t ds hds=>?_) rfl (h.fresh_lay false T _ (Nat.le_refl _) (by simp) hT (by simp) (h.lies.alloc _) hold (fun _ cur e x hw=>by
   rw [heap_alloc_new w _] at hw
   cases hw
   exact hsz.2))
  obtain ⟨cs0,h1,h2⟩:=Db hds
  exact .inr ⟨cs0,h1,h2,fun hh=>by simp at hh,fun b hb=>hold b (h.bnd _ _ _ hb).1⟩
 ·refine .inr (.inr (.inl ⟨w.heap.size,cap,arr,E,Bv _ _ _,by simp,heap_alloc_new w _,hl,by simpa using hcap,by simpa using hm,hsz,he,fun j e k c h1 h2=>?_⟩))
  obtain ⟨v,h3,h4,h5⟩:=hc j e k c h1 h2
  refine ⟨v,by simpa using h3,h4,?_⟩
  cases hd:Az T with
  | false=>exact .of (K.rd h5) hd
  | true=>
   rcases hth hd j e k c h1 h2 with h6 | ⟨s,rfl,h6⟩
   ·exact .sc (K.rd h5) h6
   ·rw [h3] at h6
    cases h6
    exact .inr ⟨hd,s,[],rfl,.inl ⟨rfl,rfl⟩⟩
theorem Ed {av av':Nat→Prop} {c:V} {v:Value} (hs:scal c=true) (h:RD φ w av c v):RD φ w' av' c v:=by
 cases h with
 | int k n=>exact .int k n
 | bool b=>exact .bool b
 | str s=>exact .str s
 | undef _ h=>exact .undef _ h
 | _=>simp [scal] at hs
theorem RN.closed {o:Option Nat} {sz:Nat} {es:List (List V)} {val:Value} (hr:RN φ w o sz es val) {av:Nat→Prop} (hb:∀b,o=some b→b<w.heap.size) (ha:∀b,o=some b→¬av b):RD φ w av (.lst sz es) val:=by
 rcases hr with ⟨rfl,rfl⟩ | ⟨b,cap,cur,e,h1,rfl,h3,h4,h5,h6,h7,h8,h9⟩
 ·exact .nil _
 ·refine .lst sz es b 0 cap (fun j k=>(cur[j*sz+k]?).getD undef) (hb b h1) (ha b h1) h4 (fun j e hj=>(h8 e (List.mem_of_getElem? hj)).1) ?_ ?_
  ·intro j e k c g1 g2
   obtain ⟨v,g3,_,_⟩:=h9 j e k c g1 g2
   rw [cell_of_row w b _ cur _ _ h3,Nat.zero_add,g3]
   rfl
  ·intro j e k c g1 g2
   obtain ⟨v,g3,_,g5⟩:=h9 j e k c g1 g2
   simp only [g3,Option.getD_some]
   exact Ed (List.all_eq_true.1 (h8 e (List.mem_of_getElem? g1)).2 c (List.mem_of_getElem? g2)) g5
def M.frz (m:M) (T:Nat):M:={ m.set false T none with nst:=fun t j c=>if t=T then none else m.nst t j c }
theorem Gm {T t j c b:Nat} (h:(m.frz T).nst t j c=some b):t≠T∧m.nst t j c=some b:=by
 simp only [M.frz] at h
 split at h
 ·cases h
 ·rename_i e; exact ⟨e,h⟩
theorem Nr {T t j c:Nat} (h:t≠T):(m.frz T).nst t j c=m.nst t j c:=by simp [M.frz,h]
theorem Du (T:Nat):(m.frz T).blk=(m.set false T none).blk:=rfl
theorem RO.closed (h:Aw φ w0 A nt m S a w) {t off sz:Nat} {es:List (List V)} {val:Value} (hr:RO φ m w t off sz es val) {av:Nat→Prop}
  (hav:∀b,b<w.heap.size→¬m.avoid b→¬av b) (ht:∀b,m.blk false t=some b→¬av b) (hn:∀j c b,m.nst t j c=some b→¬av b):RD φ w av (.lst sz es) val:=by
 rcases hr with ⟨_,rfl,rfl⟩ | ⟨_,rfl,a,c,rfl⟩ | ⟨b,cap,cur,e,h1,rfl,h3,h4,h5,h6,h7,h8,h9⟩ | ⟨b,es',ents,clock,_,rfl,rfl,rfl,h1,h3,h4⟩
 ·exact .nil _
 ·exact .emp _ _ _
 ·refine .lst sz es b (off*sz) cap (fun j k=>(cur[(off+j)*sz+k]?).getD undef) (h.bnd _ _ _ h1).1 (ht b h1) h4 (fun j e hj=>h8 e (List.mem_of_getElem? hj)) ?_ ?_
  ·intro j e k c g1 g2
   obtain ⟨v,g3,_,_⟩:=h9 j e k c g1 g2
   have e1:off*sz+j*sz+k=(off+j)*sz+k:=by rw [Nat.add_mul]
   rw [cell_of_row w b _ cur _ _ h3,e1,g3]
   rfl
  ·intro j e k c g1 g2
   obtain ⟨v,g3,_,g5⟩:=h9 j e k c g1 g2
   simp only [g3,Option.getD_some]
   rcases g5 with ⟨g5,_⟩ | ⟨_,sz',es',rfl,g5⟩
   ·exact g5.mono (Nat.le_refl _) (fun _ _ _=>rfl) hav
   ·exact g5.closed (fun b hb=>(h.n.bnd _ _ _ _ hb).1) (hn _ _)
 ·exact .mp es' b ents clock (h.bnd _ _ _ h1).1 (ht b h1) h3 h4
theorem RC.frz (h:Aw φ w0 A nt m S a w) {T:Nat} {c:V} {val:Value} (hr:RC φ m w c val) (hn:∀sz j k,c ≠ .optr T sz j k) (hn2:∀j k sz es,c ≠ .nrow T j k sz es):
  RC φ (m.frz T) w (Ev.frz T c) val:=by
 have hav:∀b,b<w.heap.size→¬m.avoid b→¬(m.frz T).avoid b:=fun b _ ha=>by
  rintro (hA | ⟨k,t,hb⟩ | ⟨t,j,c,hb⟩)
  ·exact ha (.inl hA)
  rotate_left
  ·exact ha (.inr (.inr ⟨t,j,c,(Gm hb).2⟩))
  rw [Du] at hb
  ·by_cases e:k=false∧t=T
   ·obtain ⟨rfl,rfl⟩:=e; rw [Bv] at hb; cases hb
   ·rw [Bd e] at hb; exact ha (.inr (.inl ⟨k,t,hb⟩))
 have K:Dz m (m.frz T) w w (fun k t=>¬(k=false∧t=T)):=
  ⟨Nat.le_refl _,fun b hb ha=>⟨rfl,hav b hb ha⟩,fun k t b hp hb=>⟨by rw [Du,Bd hp]; exact hb,fun _=>rfl⟩,fun t j c b hp hb=>⟨by rw [Nr fun e=>hp ⟨rfl,e⟩]; exact hb,rfl⟩⟩
 cases c with
 | own t off sz es=>
  simp only [Ev.frz]
  by_cases e:t=T
  ·subst e
   simp only [if_true]
   refine RO.closed h hr hav (fun b hb=>?_) fun j c b hb=>?_
   rotate_left
   ·rintro (hA | ⟨k',t',hb'⟩ | ⟨t',j',c',hb'⟩)
    ·exact (h.n.bnd _ _ _ _ hb).2.2 hA
    ·rw [Du] at hb'
     by_cases e2:k'=false∧t'=t
     ·obtain ⟨rfl,rfl⟩:=e2; rw [Bv] at hb'; cases hb'
     ·rw [Bd e2] at hb'; exact h.n.dis _ _ _ _ _ _ hb hb'
    ·have q:=Gm hb'
     exact q.1 (h.n.inj _ _ _ _ _ _ _ q.2 hb).1
   rintro (hA | ⟨k',t',hb'⟩ | ⟨t',j',c',hb'⟩)
   ·exact (h.bnd _ _ _ hb).2.2 hA
   rotate_left
   ·exact h.n.dis _ _ _ _ _ _ (Gm hb').2 hb
   ·rw [Du] at hb'
    by_cases e2:k'=false∧t'=t
    ·obtain ⟨rfl,rfl⟩:=e2; rw [Bv] at hb'; cases hb'
    ·rw [Bd e2] at hb'; exact e2 ((h.inj _ _ _ _ _ hb' hb))
  ·simp only [e,if_false]
   exact K.rc (c:=.own t off sz es) (fun k t' hs hh=>e (hs.2.symm.trans hh.2)) hr
 | optr t sz j k=>exact K.rc (c:=.optr t sz j k) (fun k' t' hs hh=>hn sz j k (by rw [←hh.2,hs.2])) hr
 | nrow t j k sz es=>exact K.rc (c:=.nrow t j k sz es) (fun k' t' hs hh=>hn2 j k sz es (by rw [←hh.2,hs.2])) hr
 | ptr t k=>exact K.rc (c:=.ptr t k) (fun k' t' hs hh=>by rw [hs.1] at hh; simp at hh) hr
 | clo f caps=>exact K.rc (c:=.clo f caps) (fun k' t' hs hh=>by rw [hs.1] at hh; simp at hh) hr
 | int x1 x2=>exact K.rc (c:=.int x1 x2) (fun k t hs=>hs.elim) hr
 | bool x1=>exact K.rc (c:=.bool x1) (fun k t hs=>hs.elim) hr
 | str x1=>exact K.rc (c:=.str x1) (fun k t hs=>hs.elim) hr
 | lst x1 x2=>exact K.rc (c:=.lst x1 x2) (fun k t hs=>hs.elim) hr
 | iptr x1=>exact K.rc (c:=.iptr x1) (fun k t hs=>hs.elim) hr
 | agg x1=>exact K.rc (c:=.agg x1) (fun k t hs=>hs.elim) hr
 | tup x1=>exact K.rc (c:=.tup x1) (fun k t hs=>hs.elim) hr
 | may x1 x2=>exact K.rc (c:=.may x1 x2) (fun k t hs=>hs.elim) hr
 | undef=>trivial
theorem aJ (c:V):c = .undef∨c ≠ .undef:=by cases c<;>simp
theorem RW.map {f:V→V} {v:V} {val:Value} (hf:f .undef = .undef) (hr:RW φ m w v val)
  (ha:∀c x,c∈v.cells→RC φ m w c x→RC φ m' w' (f c) x)
  (hk:∀c,(∀cs,c ≠ .agg cs)→(∀vs,c ≠ .tup vs)→(∀b v,c ≠ .may b v)→(∀cs,f c ≠ .agg cs)∧(∀vs,f c ≠ .tup vs)∧(∀b v,f c ≠ .may b v)):
  RW φ m' w' (Ev.mapW f v) val:=by
 have hcell:∀c,(∀x,RC φ m w c x→RC φ m' w' (f c) x)→(∀cs,c ≠ .agg cs)→(∀vs,c ≠ .tup vs)→(∀b v,c ≠ .may b v)→RC φ m w c val→(c ≠ .undef→val.oneCell'=true)→RW φ m' w' (f c) val:=by
  intro c h0 h1 h2 h3 h4 h5
  obtain ⟨g1,g2,g3⟩:=hk c h1 h2 h3
  have h6:=h0 val h4
  generalize hfc:f c=d at *
  have h7:d ≠ .undef→val.oneCell'=true:=fun hd=>by
   rcases aJ c with rfl | hc
   ·exact absurd (hfc.symm.trans hf) hd
   ·exact h5 hc
  cases d with
  | agg cs=>exact absurd rfl (g1 cs)
  | tup vs=>exact absurd rfl (g2 vs)
  | may b v=>exact absurd rfl (g3 b v)
  | _=>exact ⟨h6,h7⟩
 cases v with
 | agg cs=>
  obtain ⟨arr,h1,h2,h3⟩:=hr
  refine ⟨arr,h1,by simpa using h2,fun i c x hi hx=>?_⟩
  simp only [List.getElem?_map,Option.map_eq_some_iff] at hi
  obtain ⟨c0,hc0,rfl⟩:=hi
  exact ⟨ha _ _ (List.mem_of_getElem? hc0) (h3 i c0 x hc0 hx).1,(h3 i c0 x hc0 hx).2⟩
 | tup vs=>exact hr.elim
 | may b v=>exact hr.elim
 | int x1 x2=>exact hcell _ (fun x hx=>ha _ x (by simp [V.cells]) hx) (by simp) (by simp) (by simp) hr.1 hr.2
 | bool x1=>exact hcell _ (fun x hx=>ha _ x (by simp [V.cells]) hx) (by simp) (by simp) (by simp) hr.1 hr.2
 | str x1=>exact hcell _ (fun x hx=>ha _ x (by simp [V.cells]) hx) (by simp) (by simp) (by simp) hr.1 hr.2
 | lst x1 x2=>exact hcell _ (fun x hx=>ha _ x (by simp [V.cells]) hx) (by simp) (by simp) (by simp) hr.1 hr.2
 | own x1 x2 x3 x4=>exact hcell _ (fun x hx=>ha _ x (by simp [V.cells]) hx) (by simp) (by simp) (by simp) hr.1 hr.2
 | ptr x1 x2=>exact hcell _ (fun x hx=>ha _ x (by simp [V.cells]) hx) (by simp) (by simp) (by simp) hr.1 hr.2
 | iptr x1=>exact hcell _ (fun x hx=>ha _ x (by simp [V.cells]) hx) (by simp) (by simp) (by simp) hr.1 hr.2
 | nrow x1 x2 x3 x4 x5=>exact hcell _ (fun x hx=>ha _ x (by simp [V.cells]) hx) (by simp) (by simp) (by simp) hr.1 hr.2
 | optr x1 x2 x3 x4=>exact hcell _ (fun x hx=>ha _ x (by simp [V.cells]) hx) (by simp) (by simp) (by simp) hr.1 hr.2
 | clo x1 x2=>exact hcell _ (fun x hx=>ha _ x (by simp [V.cells]) hx) (by simp) (by simp) (by simp) hr.1 hr.2
 | undef=>exact hcell _ (fun x hx=>ha _ x (by simp [V.cells]) hx) (by simp) (by simp) (by simp) hr.1 hr.2
structure Cg (f:V→V):Prop where
 undef:f .undef = .undef
 cell:∀c,(∀cs,c ≠ .agg cs)→(∀vs,c ≠ .tup vs)→(∀b v,c ≠ .may b v)→(∀cs,f c ≠ .agg cs)∧(∀vs,f c ≠ .tup vs)∧(∀b v,f c ≠ .may b v)
theorem RW.mapW {f:V→V} (hf:Cg f) {v:V} {val:Value} (hr:RW φ m w v val)
  (ha:∀c x,c∈v.cells→RC φ m w c x→RC φ m' w' (f c) x):RW φ m' w' (Ev.mapW f v) val:=by
 exact RW.map hf.undef hr ha hf.cell
theorem Oj {f:V→V} (hf:Cg f) {v:V} (h1:∀vs,v ≠ .tup vs) (h2:∀b x,v ≠ .may b x):
  (∀vs,Ev.mapW f v ≠ .tup vs)∧(∀b x,Ev.mapW f v ≠ .may b x):=by
 cases v with
 | agg cs=>exact ⟨by simp [Ev.mapW],by simp [Ev.mapW]⟩
 | tup vs=>exact absurd rfl (h1 vs)
 | may b x=>exact absurd rfl (h2 b x)
 | _=>exact ⟨(hf.cell _ (by simp) (by simp) (by simp)).2.1,(hf.cell _ (by simp) (by simp) (by simp)).2.2⟩
def mapT (f:V→V):V→V
 | .tup vs=>.tup (vs.map (mapW f))
 | v=>mapW f v
theorem Fx {v:V} {val:Value} (h:RW φ m w v val):RT φ m w v val:=by
 cases v with
 | tup vs=>exact h.elim
 | _=>exact h
theorem Me {v:V} {val:Value} (h1:∀vs,v ≠ .tup vs) (h:RT φ m w v val):RW φ m w v val:=by
 cases v with
 | tup vs=>exact absurd rfl (h1 vs)
 | _=>exact h
theorem RT.mapT {f:V→V} (hf:Cg f) {v:V} {val:Value} (hr:RT φ m w v val)
  (ha:∀c x,c∈v.flat1→RC φ m w c x→RC φ m' w' (f c) x):RT φ m' w' (mapT f v) val:=by
 have hother:∀v,(∀vs,v ≠ .tup vs)→(∀c x,c∈v.flat1→RC φ m w c x→RC φ m' w' (f c) x)→RT φ m w v val→RT φ m' w' (Ev.mapW f v) val:=by
  intro v h1 h2 h3
  have h4:=Me h1 h3
  refine Fx (RW.mapW hf h4 fun c x hc hx=>h2 c x ?_ hx)
  cases v with
  | tup vs=>exact absurd rfl (h1 vs)
  | agg cs=>exact hc
  | _=>simpa [V.flat1,V.cells] using hc
 cases v with
 | tup vs=>
  obtain ⟨arr,h1,h2,h3⟩:=hr
  refine ⟨arr,h1,by simpa using h2,fun i x y hi hy=>?_⟩
  simp only [List.getElem?_map,Option.map_eq_some_iff] at hi
  obtain ⟨x0,hx0,rfl⟩:=hi
  exact RW.mapW hf (h3 i x0 y hx0 hy) fun c z hc hz=>ha c z (Qo (List.mem_of_getElem? hx0) hc) hz
 | _=>exact hother _ (by simp) ha hr
theorem Oi {f:V→V} (hf:Cg f) {v:V} (h1:∀b x,v ≠ .may b x):∀b x,Ev.mapT f v ≠ .may b x:=by
 by_cases ht:∃vs,v = .tup vs
 ·obtain ⟨vs,rfl⟩:=ht
  simp [Ev.mapT]
 ·have e:Ev.mapT f v=Ev.mapW f v:=by
   cases v with
   | tup vs=>exact absurd ⟨vs,rfl⟩ ht
   | _=>rfl
  rw [e]
  exact (Oj hf (fun vs h=>ht ⟨vs,h⟩) h1).2
theorem Qm (f:V→V) (b:Bool) (v:V):Ft f (.may b v) = .may b (mapT f v):=by
 cases v<;>rfl
theorem Hh (f:V→V) (v:V) (h:∀b x,v ≠ .may b x):Ft f v=mapT f v:=by
 cases v with
 | may b x=>exact absurd rfl (h _ _)
 | _=>rfl
theorem Gw {v:V} {val:Value} (h1:∀b x,v ≠ .may b x) (h:RT φ m w v val):RV φ m w v val:=by
 cases v with
 | may b x=>exact absurd rfl (h1 b x)
 | _=>exact h
theorem RV.map {f:V→V} (hf:Cg f) {v:V} {val:Value} (hr:RV φ m w v val)
  (ha:∀c x,c∈v.flat→RC φ m w c x→RC φ m' w' (f c) x):RV φ m' w' (Ft f v) val:=by
 have hother:∀v,(∀b x,v ≠ .may b x)→v.flat=v.flat1→(∀c x,c∈v.flat→RC φ m w c x→RC φ m' w' (f c) x)→RT φ m w v val→RV φ m' w' (Ft f v) val:=by
  intro v h1 h2 h3 h4
  rw [Hh f v h1]
  exact Gw (Oi hf h1) (RT.mapT hf h4 fun c x hc hx=>h3 c x (by rw [h2]; exact hc) hx)
 cases v with
 | may b v=>
  rw [Qm]
  exact ⟨fun hb=>RT.mapT hf (hr.1 hb) ha,hr.2⟩
 | _=>exact hother _ (by simp) rfl ha hr
theorem nH (T:Nat):Cg (Ev.frz T):=by
 refine ⟨rfl,fun c h1 h2 h3=>?_⟩
 cases c with
 | own t off sz es=>simp only [Ev.frz]; split<;>simp
 | agg cs=>exact absurd rfl (h1 cs)
 | tup vs=>exact absurd rfl (h2 vs)
 | may b v=>exact absurd rfl (h3 b v)
 | _=>simp [Ev.frz]
theorem Gd {f:V→V} {x:Nat} {v:V}:∀ {l:List (Nat×V)},look (Ql f l) x=some v→∃v0,look l x=some v0∧v=Ft f v0
 | [],h=>by simp [Ql,look] at h
 | (b,u)::r,h=>by
  simp only [Ql,look] at h ⊢
  by_cases e:b=x
  ·simp only [e,if_true,Option.some.injEq] at h ⊢
   exact ⟨u,rfl,h.symm⟩
  ·simp only [e,if_false] at h ⊢
   exact Gd h
theorem Hg {f:V→V} {x:Nat} {cs:List V}:∀ {l:List (Nat×List V)},look (Vb f l) x=some cs→∃cs0,look l x=some cs0∧cs=cs0.map f
 | [],h=>by simp [Vb,look] at h
 | (b,u)::r,h=>by
  simp only [Vb,look] at h ⊢
  by_cases e:b=x
  ·simp only [e,if_true,Option.some.injEq] at h ⊢
   exact ⟨u,rfl,h.symm⟩
  ·simp only [e,if_false] at h ⊢
   exact Hg h
end Go.Ev
