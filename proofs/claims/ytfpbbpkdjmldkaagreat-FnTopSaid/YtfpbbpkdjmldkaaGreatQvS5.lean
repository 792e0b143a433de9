/- Writes to boxes and to owned rows; appending; draws. -/
import Derived.Test.YtfpbbpkdjmldkaaGreatQvS4
set_option linter.all false
namespace Go.Ev
open Go.RowKit
variable {φ:Fa} {m m':M} {w w' w0:World} {A:Fr} {nt:Nat} {S S':St} {a:Act}
theorem Lay.move (L:Lay w0 A m w) (hs:w.heap.size≤w'.heap.size) (hl:Nj A.ext w0 w') (ho:lQ m w'):Lay w0 A m w':=
 ⟨L.hA,L.hAlt,L.inj,fun k t b hb=>⟨Nat.lt_of_lt_of_le (L.bnd k t b hb).1 hs,(L.bnd k t b hb).2⟩,L.pin,hl,ho⟩
theorem Da.world (h:Da φ w0 A nt m S a w) (w':World) (hs:w.heap.size≤w'.heap.size) (hw:∀b,b<w.heap.size→w'.heap[b]? = w.heap[b]?)
  (hb:Nj A.ext w0 w'):Da φ w0 A nt m S a w':=by
 have K:Jx m m w w' (fun _ _=>True):=⟨hs,fun b hb ha=>⟨hw b hb,ha⟩,fun k t b _ hb=>⟨hb,fun _=>hw b (h.bnd _ _ _ hb).1⟩⟩
 refine ⟨h.toLay.move hs hb (fun t b cur e x hb hc=>h.ones t b cur e x hb (by rw [←hw b (h.bnd _ _ _ hb).1]; exact hc)),h.hnt,h.size,h.defers,fun t v hv=>K.rv (fun _ _ _=>trivial) (h.env t v hv),fun t cs hcs=>?_,h.cp⟩
 exact K.rb trivial (fun b hb=>hw b (h.bnd _ _ _ hb).1) (fun i c hi=>.inr ⟨hi,fun _ _ _=>trivial⟩) (h.rb hcs)
theorem Da.drew (h:Da φ w0 A nt m S a w):Da φ w0 A nt m S a w.drew:=h.world _ (Nat.le_refl _) (fun _ _=>rfl) h.lies.drew
theorem Fc {β:Nat} (cur':Array Value) (b:Nat) (h:b≠β):(w.setRow β cur').heap[b]? = w.heap[b]? := by
 simp [World.setRow,Array.getElem?_modify,Ne.symm h]
theorem Om {β:Nat} {cur:Array Value} {E:TypeId} (cur':Array Value) (h:w.heap[β]? = some (.cells cur E (0,0))):
  (w.setRow β cur').heap[β]? = some (.cells cur' E (0,0)):=by
 simp [World.setRow,Array.getElem?_modify,h]
theorem Nj.setRow {E:Nat→Prop} {β:Nat} {cur cur':Array Value} {ty:TypeId} (h:Nj E w0 w) (hβ:w0.heap.size≤β∨E β) (hw:w.heap[β]? = some (.cells cur ty (0,0)))
  (hs:cur'.size=cur.size):Nj E w0 (w.setRow β cur'):=by
 refine ⟨h.os,h.tape,h.output,by simpa using h.size,fun k hk hE=>?_,fun k c e fr hk h1=>?_⟩
 ·rw [Fc cur' k (by rintro rfl; rcases hβ with h1 | h1; omega; exact hE h1)]
  exact h.block k hk hE
 ·obtain ⟨c1,h2,h3⟩:=h.shape k c e fr hk h1
  by_cases e1:k=β
  ·subst e1
   rw [hw] at h2
   simp only [Option.some.injEq,Obj.cells.injEq] at h2
   obtain ⟨rfl,rfl,rfl⟩:=h2
   exact ⟨cur',Om cur' hw,by rw [hs,h3]⟩
  ·exact ⟨c1,by rw [Fc cur' k e1]; exact h2,h3⟩
theorem Lay.onesBox (L:Lay w0 A m w) {T β:Nat} (hβ:m.blk true T=some β) (cur':Array Value):lQ m (w.setRow β cur'):=fun t b cur e x hb hc=>by
 have hne:b≠β:=fun e=>by
  subst e
  have:=L.inj _ _ _ _ _ hb hβ
  simp at this
 rw [Fc cur' b hne] at hc
 exact L.ones t b cur e x hb hc
theorem Lay.onesRow (L:Lay w0 A m w) {T β:Nat} (_:m.blk false T=some β) {cur:Array Value} {E:TypeId} (hw:w.heap[β]? = some (.cells cur E (0,0))) {cur':Array Value}
  (h:∀(i:Nat) (v:Value),cur'[i]? = some v→v.oneCell'=true):lQ m (w.setRow β cur'):=fun t b c e x hb hc=>by
 by_cases hne:b=β
 ·subst hne
  rw [Om cur' hw] at hc
  cases hc
  exact h
 ·rw [Fc cur' b hne] at hc
  exact L.ones t b c e x hb hc
theorem Da.boxWrite (h:Da φ w0 A nt m S a w) {T:Nat} {β:Nat} {cur:Array Value} {E:TypeId} (hβ:m.blk true T=some β)
  (hw:w.heap[β]? = some (.cells cur E (0,0))) (cs:List V) (cur':Array Value) (hs:cur'.size=cur.size)
  (hc:∀(i:Nat) (c:V),cs[i]? = some c→∃v,cur'[i]? = some v∧RC φ m w c v∧v.oneCell'=true):
  Da φ w0 A nt m (S.setBx T cs) a (w.setRow β cur'):=by
 have hbd:=h.bnd _ _ _ hβ
 have K:Jx m m w (w.setRow β cur') (fun _ _=>True):=by
  refine ⟨by simp,fun b hb ha=>⟨Fc cur' b fun e=>ha (e ▸ .inr ⟨true,T,hβ⟩),ha⟩,fun k t b _ hb=>⟨hb,fun hk=>Fc cur' b fun e=>?_⟩⟩
  subst e; subst hk
  have:=h.inj _ _ _ _ _ hb hβ
  simp at this
 refine ⟨h.toLay.move (by simp) (h.lies.setRow hbd.2.1 hw hs) (h.toLay.onesBox hβ cur'),h.hnt,h.size,h.defers,fun t v hv=>K.rv (fun _ _ _=>trivial) (h.env t v hv),fun t ds hds=>?_,h.cp⟩
 simp only [St.setBx,Ig] at hds
 by_cases e:T=t
 ·subst e
  simp only [if_true,Option.some.injEq] at hds
  subst hds
  refine ⟨β,cur',E,hβ,Om cur' hw,fun i c hi=>?_⟩
  obtain ⟨v,h1,h2,h3⟩:=hc i c hi
  exact ⟨v,h1,K.rc (fun _ _ _=>trivial) h2,h3⟩
 ·simp only [e,if_false] at hds
  refine K.rb trivial (fun b hb=>Fc cur' b fun e2=>?_) (fun i c hi=>.inr ⟨hi,fun _ _ _=>trivial⟩) (h.rb hds)
  subst e2
  exact e (h.inj _ _ _ _ _ hβ hb).2
def Wrote (cur cur':Array Value) (sz at_ n:Nat) (vals:List Value):Prop:=
 cur'.size=cur.size∧∀j k,k<sz→cur'[j*sz+k]? = if at_≤j∧j<at_+n then vals[(j-at_)*sz+k]? else cur[j*sz+k]?
theorem vN (t sz at_:Nat) (ys:List (List V)):Fl (lH t sz at_ ys):=by
 refine ⟨rfl,fun c h1 h2 h3=>?_⟩
 cases c with
 | own t' off s es=>
  simp only [lH]
  split
  ·split<;>simp
  ·simp
 | agg cs=>exact absurd rfl (h1 cs)
 | tup vs=>exact absurd rfl (h2 vs)
 | may b v=>exact absurd rfl (h3 b v)
 | _=>simp [lH]
theorem Da.rowKeep (h:Da φ w0 A nt m S a w) {T β:Nat} (hβ:m.blk false T=some β) (cur':Array Value):
  Jx m m w (w.setRow β cur') (fun k t=>¬(k=false∧t=T)):=by
 refine ⟨by simp,fun b hb ha=>⟨Fc cur' b fun e=>ha (e ▸ .inr ⟨false,T,hβ⟩),ha⟩,fun k t b hp hb=>⟨hb,fun hk=>Fc cur' b fun e=>?_⟩⟩
 subst e
 have:=h.inj _ _ _ _ _ hb hβ
 exact hp ⟨hk,this.2⟩
theorem Kb (off:Nat) (es:List (List V)) (at_:Nat) (ys:List (List V)) (j:Nat):
  (Gk off es at_ ys)[j]? = (es[j]?).map fun e=>if at_≤off+j then (ys[off+j-at_]?).getD e else e:=by
 simp [Gk,List.getElem?_mapIdx]
theorem Da.rowWrite (h:Da φ w0 A nt m S a w) {T β:Nat} {cur:Array Value} {E:TypeId} (hβ:m.blk false T=some β)
  (hw:w.heap[β]? = some (.cells cur E (0,0))) (sz at_:Nat) (ys:List (List V)) (vals:List Value) (cur':Array Value)
  (hsz0:0<sz) (hsz:∀y∈ys,y.length=sz) (hv:Wrote cur cur' sz at_ ys.length vals)
  (hc:∀(j:Nat) (e:List V) (k:Nat) (c:V),ys[j]? = some e→e[k]? = some c→∃v,vals[j*sz+k]? = some v∧v.oneCell'=true∧RD φ w m.avoid c v):
  Da φ w0 A nt m (S.map (lH T sz at_ ys)) a (w.setRow β cur'):=by
 have hbd:=h.bnd _ _ _ hβ
 have K:=h.rowKeep hβ cur'
 have hones:∀(i:Nat) (v:Value),cur'[i]? = some v→v.oneCell'=true:=by
  intro i v hi
  have hmod:i%sz<sz:=Nat.mod_lt _ hsz0
  have hdiv:i / sz*sz+i%sz=i:=by rw [Nat.mul_comm]; exact Nat.div_add_mod i sz
  have g:=hv.2 (i / sz) (i%sz) hmod
  rw [hdiv,hi] at g
  split at g
  ·rename_i hin
   have hj:i / sz-at_<ys.length:=by omega
   have hk:i%sz<(ys[i / sz-at_]).length:=by rw [hsz _ (List.getElem_mem hj)]; exact hmod
   obtain ⟨v',q1,q2,_⟩:=hc (i / sz-at_) _ (i%sz) _ (List.getElem?_eq_getElem hj) (List.getElem?_eq_getElem hk)
   rw [q1] at g
   cases g; exact q2
  ·exact h.ones _ _ _ _ _ hβ hw i v g.symm
 refine h.mapAll (vN T sz at_ ys) m _ (fun c x hx=>?_) (fun t b hb=>⟨hb,Fc cur' b fun e=>?_⟩)
  (h.toLay.move (by simp) (h.lies.setRow hbd.2.1 hw hv.1) (h.toLay.onesRow hβ hw hones))
 ·cases c with
  | own t off s es=>
   simp only [lH]
   by_cases e1:t=T
   ·subst e1
    simp only [if_true]
    by_cases e2:s=sz
    ·subst e2
     simp only [if_true]
     rcases hx with ⟨h1,rfl,h2⟩ | ⟨h1,rfl,h2⟩ | ⟨b,cap,cu,E',h1,h2,h3,h4,h5,h6,h7,h8,h9⟩ | ⟨_,_,_,_,_,h2,_⟩
     ·exact .inl ⟨h1,rfl,h2⟩
     ·exact .inr (.inl ⟨h1,rfl,h2⟩)
     rotate_left
     ·omega
     ·rw [hβ] at h1
      obtain rfl:=Option.some.inj h1
      rw [hw] at h3
      simp only [Option.some.injEq,Obj.cells.injEq,and_true] at h3
      obtain ⟨rfl,rfl⟩:=h3
      have hlen:(Gk off es at_ ys).length=es.length:=by simp [Gk]
      have hall:∀e∈Gk off es at_ ys,e.length=s:=by
       intro e he
       obtain ⟨j,hj⟩:=List.getElem?_of_mem he
       rw [Kb] at hj
       simp only [Option.map_eq_some_iff] at hj
       obtain ⟨e0,h10,rfl⟩:=hj
       split
       ·cases hy:ys[off+j-at_]? with
        | none=>exact h8 _ (List.mem_of_getElem? h10)
        | some y=>exact hsz _ (List.mem_of_getElem? hy)
       ·exact h8 _ (List.mem_of_getElem? h10)
      refine .inr (.inr (.inl ⟨β,cap,cur',E,hβ,by rw [hlen]; exact h2,Om cur' hw,by rw [hlen]; exact h4,by rw [h5,hv.1],h6,⟨h7.1,fun i v hi=>?_⟩,hall,fun j e k c g1 g2=>?_⟩))
      ·exact hones i v hi
      have hk:k<s:=by
       have:=hall e (List.mem_of_getElem? g1)
       have:=(List.getElem?_eq_some_iff.1 g2).1
       omega
      rw [Kb] at g1
      simp only [Option.map_eq_some_iff] at g1
      obtain ⟨e0,h10,rfl⟩:=g1
      rw [hv.2 (off+j) k hk]
      by_cases hat:at_≤off+j
      ·simp only [hat,if_true] at g2
       cases hy:ys[off+j-at_]? with
       | none=>
        simp only [hy,Option.getD_none] at g2
        have:¬(off+j<at_+ys.length):=by
         have:=List.getElem?_eq_none_iff.1 hy; omega
        simp only [this,and_false,if_false]
        obtain ⟨v,g3,g4,g5⟩:=h9 j e0 k c h10 g2
        exact ⟨v,g3,g4,K.rd g5⟩
       | some y=>
        simp only [hy,Option.getD_some] at g2
        have:off+j<at_+ys.length:=by
         have:=(List.getElem?_eq_some_iff.1 hy).1; omega
        simp only [hat,this,and_self,if_true]
        obtain ⟨v,g3,g4,g5⟩:=hc (off+j-at_) y k c hy g2
        exact ⟨v,g3,g4,K.rd g5⟩
      ·simp only [hat,if_false] at g2
       simp only [hat,false_and,if_false]
       obtain ⟨v,g3,g4,g5⟩:=h9 j e0 k c h10 g2
       exact ⟨v,g3,g4,K.rd g5⟩
    ·simp only [e2,if_false]
     trivial
   ·simp only [e1,if_false]
    exact K.rc (c:=.own t off s es) (fun k t' hs hh=>e1 (hs.2.symm.trans hh.2)) hx
  | optr t s j k=>exact hx
  | ptr t k=>exact hx
  | clo f caps=>exact K.rc (c:=.clo f caps) (fun k' t' hs hh=>by rw [hs.1] at hh; simp at hh) hx
  | int x1 x2=>exact K.rc (c:=.int x1 x2) (fun k t hs=>hs.elim) hx
  | bool x1=>exact K.rc (c:=.bool x1) (fun k t hs=>hs.elim) hx
  | str x1=>exact K.rc (c:=.str x1) (fun k t hs=>hs.elim) hx
  | lst x1 x2=>exact K.rc (c:=.lst x1 x2) (fun k t hs=>hs.elim) hx
  | iptr x1=>exact K.rc (c:=.iptr x1) (fun k t hs=>hs.elim) hx
  | agg x1=>exact K.rc (c:=.agg x1) (fun k t hs=>hs.elim) hx
  | tup x1=>exact K.rc (c:=.tup x1) (fun k t hs=>hs.elim) hx
  | may x1 x2=>exact K.rc (c:=.may x1 x2) (fun k t hs=>hs.elim) hx
  | undef=>trivial
 ·subst e
  have:=h.inj _ _ _ _ _ hb hβ
  simp at this
theorem Da.rowGrown (h:Da φ w0 A nt m S a w) {T β:Nat} {cur:Array Value} {E:TypeId} (hβ:m.blk false T=some β) (hw:w.heap[β]? = some (.cells cur E (0,0))) (cur':Array Value) (hs:cur'.size=cur.size)
  (ho:∀(i:Nat) (v:Value),cur'[i]? = some v→v.oneCell'=true):
  Da φ w0 A nt m (S.drop T) a (w.setRow β cur'):=by
 have hbd:=h.bnd _ _ _ hβ
 refine h.drop_keep (T:=T) (h.rowKeep hβ cur') (fun k t ht hh=>ht hh.2) (fun t ds hds=>?_) rfl
  (h.toLay.move (by simp) (h.lies.setRow hbd.2.1 hw hs) (h.toLay.onesRow hβ hw ho))
 obtain ⟨cs0,h1,h2⟩:=Gt hds
 refine .inr ⟨cs0,h1,h2,fun hh=>by simp at hh,fun b hb=>Fc cur' b fun e=>?_⟩
 subst e
 have:=h.inj _ _ _ _ _ hb hβ
 simp at this
end Go.Ev
