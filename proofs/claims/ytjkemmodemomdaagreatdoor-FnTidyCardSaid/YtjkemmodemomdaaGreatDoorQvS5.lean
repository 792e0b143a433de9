/- Writes to boxes and to owned rows; appending; draws. -/
import Derived.Test.YtjkemmodemomdaaGreatDoorQvS4
set_option linter.all false
namespace Go.Ev
open Go.RowKit
variable {φ:Bz} {m m':M} {w w' w0:World} {A:Fr} {nt:Nat} {S S':St} {a:Act}
theorem Lay.move (L:Lay w0 A m w) (hs:w.heap.size≤w'.heap.size) (hl:Hk A.ext w0 w') (ho:Uf m w') (hn:∀T j c b,m.nst T j c=some b→w'.heap[b]? = w.heap[b]?):Lay w0 A m w':=
 ⟨L.hA,L.hAlt,L.inj,fun k t b hb=>⟨Nat.lt_of_lt_of_le (L.bnd k t b hb).1 hs,(L.bnd k t b hb).2⟩,L.pin,hl,ho,L.n.move rfl rfl hs (fun k t b hb=>.inl ⟨k,t,hb⟩) hn⟩
theorem Aw.world (h:Aw φ w0 A nt m S a w) (w':World) (hs:w.heap.size≤w'.heap.size) (hw:∀b,b<w.heap.size→w'.heap[b]? = w.heap[b]?)
  (hb:Hk A.ext w0 w'):Aw φ w0 A nt m S a w':=by
 have K:Dz m m w w' (fun _ _=>True):=⟨hs,fun b hb ha=>⟨hw b hb,ha⟩,fun k t b _ hb=>⟨hb,fun _=>hw b (h.bnd _ _ _ hb).1⟩,fun T j c b _ hb=>⟨hb,hw b (h.n.bnd _ _ _ _ hb).1⟩⟩
 refine ⟨h.toLay.move hs hb (fun t b cur e x hb hc=>h.ones t b cur e x hb (by rw [←hw b (h.bnd _ _ _ hb).1]; exact hc)) (fun T j c b hb=>hw b (h.n.bnd _ _ _ _ hb).1),h.hnt,h.size,h.defers,fun t v hv=>K.rv (fun _ _ _=>trivial) (h.env t v hv),fun t cs hcs=>?_,h.cp⟩
 exact K.rb trivial (fun b hb=>hw b (h.bnd _ _ _ hb).1) (fun i c hi=>.inr ⟨hi,fun _ _ _=>trivial⟩) (h.rb hcs)
theorem Aw.drew (h:Aw φ w0 A nt m S a w):Aw φ w0 A nt m S a w.drew:=h.world _ (Nat.le_refl _) (fun _ _=>rfl) h.lies.drew
theorem Bp {β:Nat} (cur':Array Value) (b:Nat) (h:b≠β):(w.setRow β cur').heap[b]? = w.heap[b]? := by
 simp [World.setRow,Array.getElem?_modify,Ne.symm h]
theorem Gv {β:Nat} {cur:Array Value} {E:TypeId} (cur':Array Value) (h:w.heap[β]? = some (.cells cur E (0,0))):
  (w.setRow β cur').heap[β]? = some (.cells cur' E (0,0)):=by
 simp [World.setRow,Array.getElem?_modify,h]
theorem Hk.setRow {E:Nat→Prop} {β:Nat} {cur cur':Array Value} {ty:TypeId} (h:Hk E w0 w) (hβ:w0.heap.size≤β∨E β) (hw:w.heap[β]? = some (.cells cur ty (0,0)))
  (hs:cur'.size=cur.size):Hk E w0 (w.setRow β cur'):=by
 refine ⟨h.os,h.tape,h.output,by simpa using h.size,fun k hk hE=>?_,fun k c e fr hk h1=>?_⟩
 ·rw [Bp cur' k (by rintro rfl; rcases hβ with h1 | h1; omega; exact hE h1)]
  exact h.block k hk hE
 ·obtain ⟨c1,h2,h3⟩:=h.shape k c e fr hk h1
  by_cases e1:k=β
  ·subst e1
   rw [hw] at h2
   simp only [Option.some.injEq,Obj.cells.injEq] at h2
   obtain ⟨rfl,rfl,rfl⟩:=h2
   exact ⟨cur',Gv cur' hw,by rw [hs,h3]⟩
  ·exact ⟨c1,by rw [Bp cur' k e1]; exact h2,h3⟩
theorem Lay.nstRow (L:Lay w0 A m w) {k:Bool} {T β:Nat} (hβ:m.blk k T=some β) (cur':Array Value):∀T j c b,m.nst T j c=some b→(w.setRow β cur').heap[b]? = w.heap[b]? := fun T j c b hb=>
 Bp cur' b fun e=>by subst e; exact L.n.dis _ _ _ _ _ _ hb hβ
theorem Lay.onesBox (L:Lay w0 A m w) {T β:Nat} (hβ:m.blk true T=some β) (cur':Array Value):Uf m (w.setRow β cur'):=fun t b cur e x hb hc=>by
 have hne:b≠β:=fun e=>by
  subst e
  have:=L.inj _ _ _ _ _ hb hβ
  simp at this
 rw [Bp cur' b hne] at hc
 exact L.ones t b cur e x hb hc
theorem Lay.onesRow (L:Lay w0 A m w) {T β:Nat} (_:m.blk false T=some β) {cur:Array Value} {E:TypeId} (hw:w.heap[β]? = some (.cells cur E (0,0))) {cur':Array Value}
  (h:∀(i:Nat) (v:Value),cur'[i]? = some v→v.oneCell'=true):Uf m (w.setRow β cur'):=fun t b c e x hb hc=>by
 by_cases hne:b=β
 ·subst hne
  rw [Gv cur' hw] at hc
  cases hc
  exact h
 ·rw [Bp cur' b hne] at hc
  exact L.ones t b c e x hb hc
theorem Aw.boxWrite (h:Aw φ w0 A nt m S a w) {T:Nat} {β:Nat} {cur:Array Value} {E:TypeId} (hβ:m.blk true T=some β)
  (hw:w.heap[β]? = some (.cells cur E (0,0))) (cs:List V) (cur':Array Value) (hs:cur'.size=cur.size)
  (hc:∀(i:Nat) (c:V),cs[i]? = some c→∃v,cur'[i]? = some v∧RC φ m w c v∧v.oneCell'=true):
  Aw φ w0 A nt m (S.setBx T cs) a (w.setRow β cur'):=by
 have hbd:=h.bnd _ _ _ hβ
 have K:Dz m m w (w.setRow β cur') (fun _ _=>True):=by
  refine ⟨by simp,fun b hb ha=>⟨Bp cur' b fun e=>ha (e ▸ .inr (.inl ⟨true,T,hβ⟩)),ha⟩,fun k t b _ hb=>⟨hb,fun hk=>Bp cur' b fun e=>?_⟩,fun T j c b _ hb=>⟨hb,h.toLay.nstRow hβ cur' T j c b hb⟩⟩
  subst e; subst hk
  have:=h.inj _ _ _ _ _ hb hβ
  simp at this
 refine ⟨h.toLay.move (by simp) (h.lies.setRow hbd.2.1 hw hs) (h.toLay.onesBox hβ cur') (h.toLay.nstRow hβ cur'),h.hnt,h.size,h.defers,fun t v hv=>K.rv (fun _ _ _=>trivial) (h.env t v hv),fun t ds hds=>?_,h.cp⟩
 simp only [St.setBx,Ef] at hds
 by_cases e:T=t
 ·subst e
  simp only [if_true,Option.some.injEq] at hds
  subst hds
  refine ⟨β,cur',E,hβ,Gv cur' hw,fun i c hi=>?_⟩
  obtain ⟨v,h1,h2,h3⟩:=hc i c hi
  exact ⟨v,h1,K.rc (fun _ _ _=>trivial) h2,h3⟩
 ·simp only [e,if_false] at hds
  refine K.rb trivial (fun b hb=>Bp cur' b fun e2=>?_) (fun i c hi=>.inr ⟨hi,fun _ _ _=>trivial⟩) (h.rb hds)
  subst e2
  exact e (h.inj _ _ _ _ _ hβ hb).2
def uP (cur cur':Array Value) (sz at_ n:Nat) (vals:List Value):Prop:=
 cur'.size=cur.size∧∀j k,k<sz→cur'[j*sz+k]? = if at_≤j∧j<at_+n then vals[(j-at_)*sz+k]? else cur[j*sz+k]?
theorem Ua (t sz at_:Nat) (ys:List (List V)):Cg (Tz t sz at_ ys):=by
 refine ⟨rfl,fun c h1 h2 h3=>?_⟩
 cases c with
 | own t' off s es=>
  simp only [Tz]
  split
  ·split<;>simp
  ·simp
 | agg cs=>exact absurd rfl (h1 cs)
 | tup vs=>exact absurd rfl (h2 vs)
 | may b v=>exact absurd rfl (h3 b v)
 | _=>simp [Tz]
theorem Aw.rowKeep (h:Aw φ w0 A nt m S a w) {T β:Nat} (hβ:m.blk false T=some β) (cur':Array Value):
  Dz m m w (w.setRow β cur') (fun k t=>¬(k=false∧t=T)):=by
 refine ⟨by simp,fun b hb ha=>⟨Bp cur' b fun e=>ha (e ▸ .inr (.inl ⟨false,T,hβ⟩)),ha⟩,fun k t b hp hb=>⟨hb,fun hk=>Bp cur' b fun e=>?_⟩,fun T j c b _ hb=>⟨hb,h.toLay.nstRow hβ cur' T j c b hb⟩⟩
 subst e
 have:=h.inj _ _ _ _ _ hb hβ
 exact hp ⟨hk,this.2⟩
theorem Dv (off:Nat) (es:List (List V)) (at_:Nat) (ys:List (List V)) (j:Nat):
  (Dm off es at_ ys)[j]? = (es[j]?).map fun e=>if at_≤off+j then (ys[off+j-at_]?).getD e else e:=by
 simp [Dm,List.getElem?_mapIdx]
theorem Aw.rowWrite (h:Aw φ w0 A nt m S a w) {T β:Nat} {cur:Array Value} {E:TypeId} (hβ:m.blk false T=some β)
  (hw:w.heap[β]? = some (.cells cur E (0,0))) (sz at_:Nat) (ys:List (List V)) (vals:List Value) (cur':Array Value)
  (hsz0:0<sz) (hsz:∀y∈ys,y.length=sz) (hv:uP cur cur' sz at_ ys.length vals)
  (hc:∀(j:Nat) (e:List V) (k:Nat) (c:V),ys[j]? = some e→e[k]? = some c→∃v,vals[j*sz+k]? = some v∧v.oneCell'=true∧RD φ w m.avoid c v) (hdp:Az T=false):
  Aw φ w0 A nt m (S.map (Tz T sz at_ ys)) a (w.setRow β cur'):=by
 have hbd:=h.bnd _ _ _ hβ
 have K:=h.rowKeep hβ cur'
 have hones:∀(i:Nat) (v:Value),cur'[i]? = some v→v.oneCell'=true:=by
  intro i v hi
  have hmod:i%sz<sz:=Nat.mod_lt _ hsz0
  have hdiv:i / sz*sz+i%sz=i:=by rw [Nat.mul_comm]; exact Nat.div_add_mod i sz
  have g:=hv.2 (i / sz) (i%sz) hmod
  rw [hdiv,hi] at g
  split at g
  ·rename_i hin
   have hj:i / sz-at_<ys.length:=by omega
   have hk:i%sz<(ys[i / sz-at_]).length:=by rw [hsz _ (List.getElem_mem hj)]; exact hmod
   obtain ⟨v',q1,q2,_⟩:=hc (i / sz-at_) _ (i%sz) _ (List.getElem?_eq_getElem hj) (List.getElem?_eq_getElem hk)
   rw [q1] at g
   cases g; exact q2
  ·exact h.ones _ _ _ _ _ hβ hw i v g.symm
 refine h.mapAll (Ua T sz at_ ys) m _ (fun c x hx=>?_) (fun t b hb=>⟨hb,Bp cur' b fun e=>?_⟩)
  (h.toLay.move (by simp) (h.lies.setRow hbd.2.1 hw hv.1) (h.toLay.onesRow hβ hw hones) (h.toLay.nstRow hβ cur'))
 ·cases c with
  | own t off s es=>
   simp only [Tz]
   by_cases e1:t=T
   ·subst e1
    simp only [if_true]
    by_cases e2:s=sz
    ·subst e2
     simp only [if_true]
     rcases hx with ⟨h1,rfl,h2⟩ | ⟨h1,rfl,h2⟩ | ⟨b,cap,cu,E',h1,h2,h3,h4,h5,h6,h7,h8,h9⟩ | ⟨_,_,_,_,_,h2,_⟩
     ·exact .inl ⟨h1,rfl,h2⟩
     ·exact .inr (.inl ⟨h1,rfl,h2⟩)
     rotate_left
     ·omega
     ·rw [hβ] at h1
      obtain rfl:=Option.some.inj h1
      rw [hw] at h3
      simp only [Option.some.injEq,Obj.cells.injEq,and_true] at h3
      obtain ⟨rfl,rfl⟩:=h3
      have hlen:(Dm off es at_ ys).length=es.length:=by simp [Dm]
      have hall:∀e∈Dm off es at_ ys,e.length=s:=by
       intro e he
       obtain ⟨j,hj⟩:=List.getElem?_of_mem he
       rw [Dv] at hj
       simp only [Option.map_eq_some_iff] at hj
       obtain ⟨e0,h10,rfl⟩:=hj
       split
       ·cases hy:ys[off+j-at_]? with
        | none=>exact h8 _ (List.mem_of_getElem? h10)
        | some y=>exact hsz _ (List.mem_of_getElem? hy)
       ·exact h8 _ (List.mem_of_getElem? h10)
      refine .inr (.inr (.inl ⟨β,cap,cur',E,hβ,by rw [hlen]; exact h2,Gv cur' hw,by rw [hlen]; exact h4,by rw [h5,hv.1],h6,⟨h7.1,fun i v hi=>?_⟩,hall,fun j e k c g1 g2=>?_⟩))
      ·exact hones i v hi
      have hk:k<s:=by
       have:=hall e (List.mem_of_getElem? g1)
       have:=(List.getElem?_eq_some_iff.1 g2).1
       omega
      rw [Dv] at g1
      simp only [Option.map_eq_some_iff] at g1
      obtain ⟨e0,h10,rfl⟩:=g1
      rw [hv.2 (off+j) k hk]
      by_cases hat:at_≤off+j
      ·simp only [hat,if_true] at g2
       cases hy:ys[off+j-at_]? with
       | none=>
        simp only [hy,Option.getD_none] at g2
        have:¬(off+j<at_+ys.length):=by
         have:=List.getElem?_eq_none_iff.1 hy; omega
        simp only [this,and_false,if_false]
        obtain ⟨v,g3,g4,g5⟩:=h9 j e0 k c h10 g2
        exact ⟨v,g3,g4,.of (K.rd (g5.rd hdp)) hdp⟩
       | some y=>
        simp only [hy,Option.getD_some] at g2
        have:off+j<at_+ys.length:=by
         have:=(List.getElem?_eq_some_iff.1 hy).1; omega
        simp only [hat,this,and_self,if_true]
        obtain ⟨v,g3,g4,g5⟩:=hc (off+j-at_) y k c hy g2
        exact ⟨v,g3,g4,.of (K.rd g5) hdp⟩
      ·simp only [hat,if_false] at g2
       simp only [hat,false_and,if_false]
       obtain ⟨v,g3,g4,g5⟩:=h9 j e0 k c h10 g2
       exact ⟨v,g3,g4,.of (K.rd (g5.rd hdp)) hdp⟩
    ·simp only [e2,if_false]
     trivial
   ·simp only [e1,if_false]
    exact K.rc (c:=.own t off s es) (fun k t' hs hh=>e1 (hs.2.symm.trans hh.2)) hx
  | optr t s j k=>exact hx
  | nrow t j k s es=>
   refine K.rc (c:=.nrow t j k s es) (fun k' t' hs hh=>?_) hx
   have:=hx.1
   rw [←hs.2,hh.2,hdp] at this
   cases this
  | ptr t k=>exact hx
  | clo f caps=>exact K.rc (c:=.clo f caps) (fun k' t' hs hh=>by rw [hs.1] at hh; simp at hh) hx
  | int x1 x2=>exact K.rc (c:=.int x1 x2) (fun k t hs=>hs.elim) hx
  | bool x1=>exact K.rc (c:=.bool x1) (fun k t hs=>hs.elim) hx
  | str x1=>exact K.rc (c:=.str x1) (fun k t hs=>hs.elim) hx
  | lst x1 x2=>exact K.rc (c:=.lst x1 x2) (fun k t hs=>hs.elim) hx
  | iptr x1=>exact K.rc (c:=.iptr x1) (fun k t hs=>hs.elim) hx
  | agg x1=>exact K.rc (c:=.agg x1) (fun k t hs=>hs.elim) hx
  | tup x1=>exact K.rc (c:=.tup x1) (fun k t hs=>hs.elim) hx
  | may x1 x2=>exact K.rc (c:=.may x1 x2) (fun k t hs=>hs.elim) hx
  | undef=>trivial
 ·subst e
  have:=h.inj _ _ _ _ _ hb hβ
  simp at this
theorem Aw.rowGrown (h:Aw φ w0 A nt m S a w) {T β:Nat} {cur:Array Value} {E:TypeId} (hβ:m.blk false T=some β) (hw:w.heap[β]? = some (.cells cur E (0,0))) (cur':Array Value) (hs:cur'.size=cur.size)
  (ho:∀(i:Nat) (v:Value),cur'[i]? = some v→v.oneCell'=true):
  Aw φ w0 A nt m (S.drop T) a (w.setRow β cur'):=by
 have hbd:=h.bnd _ _ _ hβ
 refine h.drop_keep (T:=T) (h.rowKeep hβ cur') (fun k t ht hh=>ht hh.2) (fun t ds hds=>?_) rfl
  (h.toLay.move (by simp) (h.lies.setRow hbd.2.1 hw hs) (h.toLay.onesRow hβ hw ho) (h.toLay.nstRow hβ cur'))
 obtain ⟨cs0,h1,h2⟩:=Db hds
 refine .inr ⟨cs0,h1,h2,fun hh=>by simp at hh,fun b hb=>Bp cur' b fun e=>?_⟩
 subst e
 have:=h.inj _ _ _ _ _ hb hβ
 simp at this
theorem Ly:∀ {X:List Nat} {S:St} {t:Nat} {v:V},look (S.drops X).env t=some v→v = .undef∨(look S.env t=some v∧∀T∈X,v.no T=true)
 | [],S,t,v,h=>.inr ⟨h,by simp⟩
 | T::r,S,t,v,h=>by
  rcases Ly (S:=S.drop T) h with rfl | ⟨h1,h2⟩
  ·exact .inl rfl
  ·rcases Fd h1 with rfl | ⟨h3,h4⟩
   ·exact .inl rfl
   ·exact .inr ⟨h3,fun T' hT=>by
     cases hT with
     | head=>exact h4
     | tail _ hT=>exact h2 T' hT⟩
theorem Ip:∀ {X:List Nat} {S:St} {t:Nat} {cs:List V},look (S.drops X).bx t=some cs →
  ∃cs0,look S.bx t=some cs0∧∀(i:Nat) (c:V),cs[i]? = some c→(c = .undef∧i<cs0.length)∨(cs0[i]? = some c∧∀T∈X,Dp T c=true)
 | [],S,t,cs,h=>⟨cs,h,fun i c hi=>.inr ⟨hi,by simp⟩⟩
 | T::r,S,t,cs,h=>by
  obtain ⟨cs1,h1,h2⟩:=Ip (S:=S.drop T) h
  obtain ⟨cs0,h3,rfl⟩:=Db h1
  refine ⟨cs0,h3,fun i c hi=>?_⟩
  rcases h2 i c hi with ⟨rfl,h4⟩ | ⟨h4,h5⟩
  ·rw [Ee] at h4
   exact .inl ⟨rfl,h4⟩
  ·have hl:=(List.getElem?_eq_some_iff.1 h4).1
   rw [Ee] at hl
   rcases In h4 with rfl | ⟨h6,h7⟩
   ·exact .inl ⟨rfl,hl⟩
   ·exact .inr ⟨h6,fun T' hT=>by
     cases hT with
     | head=>exact h7
     | tail _ hT=>exact h5 T' hT⟩
theorem Aw.mapDrops (h:Aw φ w0 A nt m S a w) {f:V→V} (hf:Cg f) {X:List Nat} (m':M) (w':World)
  (hc:∀c x,(∀T∈X,Dp T c=true)→RC φ m w c x→RC φ m' w' (f c) x)
  (hb:∀t b,m.blk true t=some b→m'.blk true t=some b∧w'.heap[b]? = w.heap[b]?)
  (L:Lay w0 A m' w'):
  Aw φ w0 A nt m' ((S.drops X).map f) a w':=by
 refine ⟨L,h.hnt,h.size,h.defers,fun t v hv=>?_,fun t cs hcs=>?_,?_⟩
 ·obtain ⟨v0,h3,rfl⟩:=Gd hv
  rcases Ly h3 with rfl | ⟨h4,h5⟩
  ·show RV φ m' w' (f .undef) _
   rw [hf.undef]; exact Cy
  ·exact RV.map hf (h.env t v0 h4) fun c x hcm hx=>hc c x (fun T hT=>List.all_eq_true.1 (h5 T hT) c hcm) hx
 ·obtain ⟨cs1,h2,rfl⟩:=Hg hcs
  obtain ⟨cs0,h4,h5⟩:=Ip h2
  obtain ⟨b,cur,e,g1,g2,g3⟩:=h.rb h4
  refine ⟨b,cur,e,(hb t b g1).1,by rw [(hb t b g1).2]; exact g2,fun i c hi=>?_⟩
  simp only [List.getElem?_map,Option.map_eq_some_iff] at hi
  obtain ⟨c0,h6,rfl⟩:=hi
  rcases h5 i c0 h6 with ⟨rfl,hl⟩ | ⟨h7,h8⟩
  ·obtain ⟨v,p1,_,p3⟩:=g3 i cs0[i] (List.getElem?_eq_getElem hl)
   exact ⟨v,p1,by rw [hf.undef]; trivial,p3⟩
  ·obtain ⟨v,p1,p2,p3⟩:=g3 i c0 h7
   exact ⟨v,p1,hc _ _ h8 p2,p3⟩
 ·show ∀k c,look (S.drops X).cp k=some c→_
  have:(S.drops X).cp=S.cp:=by
   clear hc L h
   induction X generalizing S with
   | nil=>rfl
   | cons T r ih=>exact ih (S:=S.drop T)
  rw [this]; exact h.cp
theorem oQ {f:V→V} (hf:∀c,f c=c) (v:V):Ft f v=v:=by
 have h1:∀l:List V,l.map f=l:=fun l=>by
  have:f=id:=funext hf
  simp [this]
 have h2:∀l:List V,l.map (mapW f)=l:=fun l=>by
  have:mapW f=id:=funext fun x=>by
   cases x<;>simp [mapW,h1,hf]
  rw [this]; simp
 cases v with
 | agg cs=>simp [Ft,h1]
 | tup vs=>show V.tup (vs.map (mapW f))=_; rw [h2]
 | may b x=>
  cases x with
  | agg cs=>simp [Ft,h1]
  | tup vs=>show V.may b (V.tup (vs.map (mapW f)))=_; rw [h2]
  | _=>simp [Ft,hf]
 | _=>simp [Ft,hf]
end Go.Ev
