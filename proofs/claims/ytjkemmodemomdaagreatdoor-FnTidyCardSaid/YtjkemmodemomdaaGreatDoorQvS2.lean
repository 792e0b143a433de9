/- What becomes of the machine's state when the memory changes: forgetting, freezing, new rows and boxes, writes. -/
import Derived.Test.YtjkemmodemomdaaGreatDoorQvS
set_option linter.all false
namespace Go.Ev
open Go.RowKit
variable {φ:Bz} {m m':M} {w w' w0:World} {A:Fr} {nt:Nat} {S S':St} {a:Act}
theorem Gk {t:Nat} {c:V} (h:Eg t c=true) {k:Bool} {t':Nat} (hs:Hj k t' c) (hc:∀f cs,c ≠ .clo f cs):t'≠t:=by
 cases c with
 | own x1 _ _ _=>obtain ⟨_,rfl⟩:=hs; simpa [Eg] using h
 | ptr x1 _=>obtain ⟨_,rfl⟩:=hs; simpa [Eg] using h
 | optr x1 _ _ _=>obtain ⟨_,rfl⟩:=hs; simpa [Eg] using h
 | nrow x1 _ _ _ _=>obtain ⟨_,rfl⟩:=hs; simpa [Eg] using h
 | clo f cs=>exact absurd rfl (hc f cs)
 | _=>exact hs.elim
theorem Dq {t:Nat} {c:V} (h:Dp t c=true) {k:Bool} {t':Nat} (hs:Hj k t' c):t'≠t:=by
 cases c with
 | clo f cs=>
  obtain ⟨_,k',hm⟩:=hs
  have:=List.all_eq_true.1 h _ hm
  simpa [Eg] using this
 | own x1 x2 x3 x4=>exact Gk (c:=.own x1 x2 x3 x4) h hs (by intros; simp)
 | ptr x1 x2=>exact Gk (c:=.ptr x1 x2) h hs (by intros; simp)
 | optr x1 x2 x3 x4=>exact Gk (c:=.optr x1 x2 x3 x4) h hs (by intros; simp)
 | nrow x1 x2 x3 x4 x5=>exact Gk (c:=.nrow x1 x2 x3 x4 x5) h hs (by intros; simp)
 | _=>exact hs.elim
theorem Zu {v:V} {k:Bool} {t:Nat} (hs:Ph k t v):∃c∈v.cells,Hj k t c:=by
 cases v with
 | agg cs=>exact hs
 | int x1 x2=>exact ⟨.int x1 x2,by simp [V.cells],hs⟩
 | bool x1=>exact ⟨.bool x1,by simp [V.cells],hs⟩
 | str x1=>exact ⟨.str x1,by simp [V.cells],hs⟩
 | lst x1 x2=>exact ⟨.lst x1 x2,by simp [V.cells],hs⟩
 | own x1 x2 x3 x4=>exact ⟨.own x1 x2 x3 x4,by simp [V.cells],hs⟩
 | ptr x1 x2=>exact ⟨.ptr x1 x2,by simp [V.cells],hs⟩
 | iptr x1=>exact ⟨.iptr x1,by simp [V.cells],hs⟩
 | optr x1 x2 x3 x4=>exact ⟨.optr x1 x2 x3 x4,by simp [V.cells],hs⟩
 | nrow x1 x2 x3 x4 x5=>exact ⟨.nrow x1 x2 x3 x4 x5,by simp [V.cells],hs⟩
 | tup x1=>exact ⟨.tup x1,by simp [V.cells],hs⟩
 | clo x1 x2=>exact ⟨.clo x1 x2,by simp [V.cells],hs⟩
 | may x1 x2=>exact ⟨.may x1 x2,by simp [V.cells],hs⟩
 | undef=>exact ⟨.undef,by simp [V.cells],hs⟩
theorem Qo {vs:List V} {v c:V} (h:v∈vs) (hc:c∈v.cells):c∈cellsL vs:=by
 induction vs with
 | nil=>cases h
 | cons x r ih=>
  simp only [cellsL,List.mem_append]
  cases h with
  | head=>exact .inl hc
  | tail _ h=>exact .inr (ih h)
theorem Cr {v:V} {k:Bool} {t:Nat} (hs:Pg k t v):∃c∈v.flat1,Hj k t c:=by
 cases v with
 | tup vs=>
  obtain ⟨x,hx,hs⟩:=hs
  obtain ⟨c,hc,hs⟩:=Zu hs
  exact ⟨c,Qo hx hc,hs⟩
 | agg cs=>exact hs
 | int x1 x2=>exact ⟨.int x1 x2,by simp [V.flat1],hs⟩
 | bool x1=>exact ⟨.bool x1,by simp [V.flat1],hs⟩
 | str x1=>exact ⟨.str x1,by simp [V.flat1],hs⟩
 | lst x1 x2=>exact ⟨.lst x1 x2,by simp [V.flat1],hs⟩
 | own x1 x2 x3 x4=>exact ⟨.own x1 x2 x3 x4,by simp [V.flat1],hs⟩
 | ptr x1 x2=>exact ⟨.ptr x1 x2,by simp [V.flat1],hs⟩
 | iptr x1=>exact ⟨.iptr x1,by simp [V.flat1],hs⟩
 | optr x1 x2 x3 x4=>exact ⟨.optr x1 x2 x3 x4,by simp [V.flat1],hs⟩
 | nrow x1 x2 x3 x4 x5=>exact ⟨.nrow x1 x2 x3 x4 x5,by simp [V.flat1],hs⟩
 | clo x1 x2=>exact ⟨.clo x1 x2,by simp [V.flat1],hs⟩
 | may x1 x2=>exact ⟨.may x1 x2,by simp [V.flat1],hs⟩
 | undef=>exact ⟨.undef,by simp [V.flat1],hs⟩
theorem cZ {v:V} {k:Bool} {t:Nat} (hs:Tu k t v):∃c∈v.flat,Hj k t c:=by
 cases v with
 | may b v=>exact Cr (v:=v) hs
 | tup vs=>exact Cr (v:=.tup vs) hs
 | agg cs=>exact hs
 | int x1 x2=>exact Cr (v:=.int x1 x2) hs
 | bool x1=>exact Cr (v:=.bool x1) hs
 | str x1=>exact Cr (v:=.str x1) hs
 | lst x1 x2=>exact Cr (v:=.lst x1 x2) hs
 | own x1 x2 x3 x4=>exact Cr (v:=.own x1 x2 x3 x4) hs
 | ptr x1 x2=>exact Cr (v:=.ptr x1 x2) hs
 | iptr x1=>exact Cr (v:=.iptr x1) hs
 | optr x1 x2 x3 x4=>exact Cr (v:=.optr x1 x2 x3 x4) hs
 | nrow x1 x2 x3 x4 x5=>exact Cr (v:=.nrow x1 x2 x3 x4 x5) hs
 | clo x1 x2=>exact Cr (v:=.clo x1 x2) hs
 | undef=>exact Cr (v:=.undef) hs
theorem V.no_spec {t:Nat} {v:V} (h:v.no t=true) {k:Bool} {t':Nat} (hs:Tu k t' v):t'≠t:=by
 obtain ⟨c,hc,hs⟩:=cZ hs
 exact Dq (List.all_eq_true.1 h _ hc) hs
theorem Fd {t x:Nat} {v:V}:∀ {l:List (Nat×V)},look (Kn t l) x=some v→v = .undef∨(look l x=some v∧v.no t=true)
 | [],h=>by simp [Kn,look] at h
 | (b,u)::r,h=>by
  simp only [Kn,look] at h ⊢
  by_cases e:b=x
  ·simp only [e,if_true,Option.some.injEq] at h ⊢
   unfold Ya at h
   split at h
   ·rename_i hn; subst h; exact .inr ⟨rfl,hn⟩
   ·exact .inl h.symm
  ·simp only [e,if_false] at h ⊢
   exact Fd h
theorem In {t:Nat} {c:V}:∀ {cs:List V} {i:Nat},(Ht t cs)[i]? = some c→c = .undef∨(cs[i]? = some c∧Dp t c=true)
 | [],i,h=>by simp [Ht] at h
 | x::r,0,h=>by
  simp only [Ht,List.getElem?_cons_zero,Option.some.injEq] at h ⊢
  unfold qD at h
  split at h
  ·rename_i hn; subst h; exact .inr ⟨rfl,hn⟩
  ·exact .inl h.symm
 | x::r,i+1,h=>by
  simp only [Ht,List.getElem?_cons_succ] at h ⊢
  exact In h
theorem Db {t x:Nat} {cs:List V}:∀ {l:List (Nat×List V)},look (Pu t l) x=some cs→∃cs0,look l x=some cs0∧cs=Ht t cs0
 | [],h=>by simp [Pu,look] at h
 | (b,u)::r,h=>by
  simp only [Pu,look] at h ⊢
  by_cases e:b=x
  ·simp only [e,if_true,Option.some.injEq] at h ⊢
   exact ⟨u,rfl,h.symm⟩
  ·simp only [e,if_false] at h ⊢
   exact Db h
theorem Aw.notA (h:Aw φ w0 A nt m S a w) {b:Nat} (hb:w0.heap.size≤b):¬m.A b:=fun hA=>by
 have:=h.hAlt b (h.hA ▸ hA); omega
def RB (φ:Bz) (m:M) (w:World) (t:Nat) (cs:List V):Prop:=
 ∃b cur e,m.blk true t=some b∧w.heap[b]? = some (.cells cur e (0,0)) ∧
  ∀(i:Nat) (c:V),cs[i]? = some c→∃v,cur[i]? = some v∧RC φ m w c v∧v.oneCell'=true
theorem Dz.rb {p:Bool→Nat→Prop} (K:Dz m m' w w' p) {t:Nat} {cs cs':List V} (hp:p true t)
  (hb:∀b,m.blk true t=some b→w'.heap[b]? = w.heap[b]?)
  (hc:∀(i:Nat) (c:V),cs'[i]? = some c→(c = .undef∧i<cs.length)∨(cs[i]? = some c∧∀k t,Hj k t c→p k t))
  (h:RB φ m w t cs):RB φ m' w' t cs':=by
 obtain ⟨b,cur,e,h1,h2,h3⟩:=h
 refine ⟨b,cur,e,(K.own true t b hp h1).1,by rw [hb b h1]; exact h2,fun i c hi=>?_⟩
 rcases hc i c hi with ⟨rfl,hl⟩ | ⟨h4,h5⟩
 ·obtain ⟨v,h6,_,h7⟩:=h3 i cs[i] (List.getElem?_eq_getElem hl)
  exact ⟨v,h6,trivial,h7⟩
 ·obtain ⟨v,h6,h7,h8⟩:=h3 i c h4
  exact ⟨v,h6,K.rc h5 h7,h8⟩
theorem Ee {t:Nat}:∀(cs:List V),(Ht t cs).length=cs.length
 | []=>rfl
 | _::r=>by simp [Ht,Ee r]
theorem Aw.rb (h:Aw φ w0 A nt m S a w) {t:Nat} {cs:List V} (hl:look S.bx t=some cs):RB φ m w t cs:=h.bx t cs hl
theorem Cy {val:Value}:RV φ m w .undef val:=⟨trivial,fun h=>absurd rfl h⟩
theorem Aw.drop_keep (h:Aw φ w0 A nt m S a w) {p:Bool→Nat→Prop} {T:Nat} (K:Dz m m' w w' p) (hp:∀k t,t≠T→p k t)
  (hpb:∀t cs,look S'.bx t=some cs→RB φ m' w' t cs∨∃cs0,look S.bx t=some cs0∧cs=Ht T cs0∧p true t∧∀b,m.blk true t=some b→w'.heap[b]? = w.heap[b]?)
  (hE:S'.env=Kn T S.env) (L:Lay w0 A m' w') (hC:S'.cp=S.cp:=by rfl):Aw φ w0 A nt m' S' a w':=by
 refine ⟨L,h.hnt,h.size,h.defers,fun t v hv=>?_,fun t cs hcs=>?_,by rw [hC]; exact h.cp⟩
 ·rw [hE] at hv
  rcases Fd hv with rfl | ⟨h1,h2⟩
  ·exact Cy
  ·exact K.rv (fun k t' hs=>hp k t' (V.no_spec h2 hs)) (h.env t v h1)
 ·rcases hpb t cs hcs with h1 | ⟨cs0,h1,rfl,h2,h3⟩
  ·exact h1
  ·refine K.rb h2 h3 (fun i c hi=>?_) (h.rb h1)
   rcases In hi with rfl | ⟨h4,h5⟩
   ·refine .inl ⟨rfl,?_⟩
    have:=(List.getElem?_eq_some_iff.1 hi).1
    rwa [Ee] at this
   ·exact .inr ⟨h4,fun k t' hs=>hp k t' (Dq h5 hs)⟩
theorem Dz.refl (p:Bool→Nat→Prop):Dz m m w w p:=⟨Nat.le_refl _,fun _ _ h=>⟨rfl,h⟩,fun _ _ _ _ h=>⟨h,fun _=>rfl⟩,fun _ _ _ _ _ h=>⟨h,rfl⟩⟩
theorem Aw.drop (h:Aw φ w0 A nt m S a w) (T:Nat):Aw φ w0 A nt m (S.drop T) a w:=
 h.drop_keep (Dz.refl fun _ _=>True) (fun _ _ _=>trivial) (fun _ _ hcs=>by
  obtain ⟨cs0,h1,h2⟩:=Db hcs
  exact .inr ⟨cs0,h1,h2,trivial,fun _ _=>rfl⟩) rfl h.toLay
theorem Aw.drops (h:Aw φ w0 A nt m S a w):∀(l:List Nat),Aw φ w0 A nt m (S.drops l) a w:=by
 intro l
 induction l generalizing S with
 | nil=>exact h
 | cons t r ih=>exact ih (h.drop t)
theorem Aw.wk (h:Aw φ w0 A nt m S a w) (hk:Le S S'):Aw φ w0 A nt m S' a w:=
 ⟨h.toLay,h.hnt,h.size,h.defers,fun t v hv=>h.env t v (hk.1 t v hv),fun t cs hcs=>h.bx t cs (hk.2.1 t cs hcs),fun k c hc=>by
  have own:∀ {k t off sz:Nat} {es:List (List V)},look S.env k=some (.own t off sz es)→es≠[]→sz≠0→∃b cap cur e,m.blk false t=some b∧a.tmps.getD k undef = .slice (some ⟨b,off*sz,none⟩) es.length cap ∧
    w.heap[b]? = some (.cells cur e (0,0))∧es.length≤cap∧(off+cap)*sz=cur.size∧0<sz:=fun hl hne hz=>by
   have h1:=h.env _ _ hl
   have h2:RO φ m w _ _ _ _ _:=h1.1
   rcases h2 with ⟨_,h3,_⟩ | ⟨_,h3,_⟩ | ⟨b,cap,cur,e,g1,g2,g3,g4,g5,_,g6,_⟩ | ⟨_,_,_,_,_,h3,_⟩
   ·exact absurd h3 hne
   ·exact absurd h3 hne
   ·exact ⟨b,cap,cur,e,g1,g2,g3,g4,g5,g6.1⟩
   ·exact absurd h3 hz
  rcases hk.2.2 k c hc with ⟨c',h1,h2⟩ | ⟨t,off,sz,es,h1,h2,h3,h3x,hz⟩ | ⟨k',c',t,sz,off,es,off',es',h1,h2,h3,h4,h5,hz,h6⟩
  ·obtain ⟨p,len,cap,e1,e2,e3,e4⟩:=h.cp k c' h1
   rcases h2 with rfl | ⟨h2,h3⟩
   ·exact ⟨p,len,cap,e1,e2,e3,e4⟩
   ·rw [←Pe h2] at h3
    have h5:=Pe h2
    exact ⟨p,len,cap,e1,by omega,fun hh=>e3 (by omega),fun hh=>by omega⟩
  ·obtain ⟨b,cap,cur,e,g1,g2,g3,g4,g5,g6⟩:=own h1 h2 hz
   have h5:=Pe h3x
   exact ⟨_,_,cap,g2,by omega,fun _=>by simp,fun hh=>by omega⟩
  ·obtain ⟨b,cap,cur,e,g1,g2,g3,g4,g5,g6⟩:=own h4 h5 hz
   obtain ⟨b',cap',cur',e',g1',g2',g3',g4',g5',g6'⟩:=own h2 h3 hz
   obtain ⟨p,len,cap2,e1,e2,e3,e4⟩:=h.cp k' c' h1
   rw [g2'] at e1
   cases e1
   rw [g1] at g1'; cases g1'
   rw [g3] at g3'; cases g3'
   have hh:(off+cap)*sz=(off'+cap')*sz:=by rw [g5,g5']
   have:=Nat.eq_of_mul_eq_mul_right g6 hh
   rcases h6 with ⟨q1,q2⟩ | ⟨rfl,rfl⟩
   ·have h5:=Pe q1
    exact ⟨_,_,cap,g2,by omega,fun _=>by simp,fun hh=>by omega⟩
   ·obtain rfl:cap=cap':=by omega
    exact ⟨_,_,cap,g2,e2,fun _=>by simp,e4⟩⟩
def M.set (m:M) (k:Bool) (t:Nat) (b:Option Nat):M:=
 { m with blk:=fun k' t'=>if k'=k∧t'=t then b else m.blk k' t' }
theorem Bv (k:Bool) (t:Nat) (b:Option Nat):(m.set k t b).blk k t=b:=by simp [M.set]
theorem Bd {k k':Bool} {t t':Nat} {b:Option Nat} (h:¬(k'=k∧t'=t)):(m.set k t b).blk k' t'=m.blk k' t':=by simp [M.set,h]
theorem Aw.fresh_inj (h:Aw φ w0 A nt m S a w) (k:Bool) (t n:Nat) (hn:w.heap.size≤n):
  ∀k1 t1 k2 t2 b,(m.set k t (some n)).blk k1 t1=some b→(m.set k t (some n)).blk k2 t2=some b→k1=k2∧t1=t2:=by
 intro k1 t1 k2 t2 b h1 h2
 by_cases e1:k1=k∧t1=t<;>by_cases e2:k2=k∧t2=t
 ·exact ⟨e1.1.trans e2.1.symm,e1.2.trans e2.2.symm⟩
 ·rw [Bd e2] at h2
  obtain ⟨rfl,rfl⟩:=e1
  rw [Bv] at h1
  obtain rfl:=Option.some.inj h1
  have:=(h.bnd _ _ _ h2).1; omega
 ·rw [Bd e1] at h1
  obtain ⟨rfl,rfl⟩:=e2
  rw [Bv] at h2
  obtain rfl:=Option.some.inj h2
  have:=(h.bnd _ _ _ h1).1; omega
 ·rw [Bd e1] at h1; rw [Bd e2] at h2
  exact h.inj _ _ _ _ _ h1 h2
theorem Aw.fresh_keep (h:Aw φ w0 A nt m S a w) (k:Bool) (t n:Nat) (hn:w.heap.size≤n) (hs:w.heap.size≤w'.heap.size)
  (hw:∀b,b<w.heap.size→w'.heap[b]? = w.heap[b]?):Dz m (m.set k t (some n)) w w' (fun k' t'=>¬(k'=k∧t'=t)):=by
 refine ⟨hs,fun b hb ha=>⟨hw b hb,?_⟩,fun k' t' b hp hb=>⟨by rw [Bd hp]; exact hb,fun _=>hw b (h.bnd _ _ _ hb).1⟩,fun T j c b _ hb=>⟨hb,hw b (h.n.bnd _ _ _ _ hb).1⟩⟩
 rintro (hA | ⟨k',t',hb'⟩ | hb')
 ·exact ha (.inl hA)
 rotate_left
 ·exact ha (.inr (.inr hb'))
 ·by_cases e:k'=k∧t'=t
  ·obtain ⟨rfl,rfl⟩:=e
   rw [Bv] at hb'
   obtain rfl:=Option.some.inj hb'
   omega
  ·rw [Bd e] at hb'
   exact ha (.inr (.inl ⟨k',t',hb'⟩))
theorem Hk.alloc {E:Nat→Prop} (h:Hk E w0 w) (o:Obj):Hk E w0 (w.alloc o):=
 ⟨h.os,h.tape,h.output,by have:=h.size; simp; omega,fun k hk hE=>by rw [heap_alloc_old w o k (Nat.lt_of_lt_of_le hk h.size)]; exact h.block k hk hE,
  fun k cur e fr hk h1=>by rw [heap_alloc_old w o k (Nat.lt_of_lt_of_le hk h.size)]; exact h.shape k cur e fr hk h1⟩
theorem Hk.drew {E:Nat→Prop} (h:Hk E w0 w):Hk E w0 w.drew:=⟨h.os,⟨h.tape.1,Nat.le_succ_of_le h.tape.2⟩,h.output,h.size,h.block,h.shape⟩
theorem Aw.fresh_lay (h:Aw φ w0 A nt m S a w) (k:Bool) (t n:Nat) (hn:w.heap.size≤n) (hn':n<w'.heap.size) (ht:t<Au)
  (hs:w.heap.size≤w'.heap.size) (hl:Hk A.ext w0 w') (hold:∀b,b<w.heap.size→w'.heap[b]? = w.heap[b]?)
  (ho:k=false→∀(cur:Array Value) (e:TypeId) (x:Nat×Nat),w'.heap[n]? = some (.cells cur e x)→∀(i:Nat) (v:Value),cur[i]? = some v→v.oneCell'=true):Lay w0 A (m.set k t (some n)) w':=by
 refine ⟨h.hA,h.hAlt,h.fresh_inj k t n hn,fun k1 t1 b hb=>?_,fun k1 t1 h1=>?_,hl,fun t1 b cur e x hb hw=>?_,h.n.move rfl rfl hs (fun k1 t1 b hb=>?_) fun T j c b hb=>hold b (h.n.bnd _ _ _ _ hb).1⟩
 rotate_right
 ·by_cases e:k1=k∧t1=t
  ·obtain ⟨rfl,rfl⟩:=e
   rw [Bv] at hb
   obtain rfl:=Option.some.inj hb
   exact .inr hn
  ·rw [Bd e] at hb
   exact .inl ⟨_,_,hb⟩
 ·by_cases e:k1=k∧t1=t
  ·obtain ⟨rfl,rfl⟩:=e
   rw [Bv] at hb
   obtain rfl:=Option.some.inj hb
   exact ⟨hn',.inl (Nat.le_trans h.lies.size hn),h.notA (Nat.le_trans h.lies.size hn)⟩
  ·rw [Bd e] at hb
   have:=h.bnd _ _ _ hb
   exact ⟨by omega,this.2⟩
 ·rw [Bd (by rintro ⟨_,rfl⟩; omega)]
  exact h.pin k1 t1 h1
 ·by_cases e1:false=k∧t1=t
  ·obtain ⟨rfl,rfl⟩:=e1
   rw [Bv] at hb
   obtain rfl:=Option.some.inj hb
   exact ho rfl cur e x hw
  ·rw [Bd e1] at hb
   rw [hold b (h.bnd _ _ _ hb).1] at hw
   exact h.ones t1 b cur e x hb hw
end Go.Ev
