/- Maps from numbers to bools: made, and written. -/
import Derived.Test.YtjkemmodemomdaaGreatDoorQvU5
import Derived.Test.YtjkemmodemomdaaGreatDoorQvR6
set_option linter.all false
namespace Go.Ev
open Go.RowKit Go.MapKept
variable {φ:Bz} {m m':M} {w w' w0:World} {A:Fr} {nt:Nat} {S S':St} {a:Act} {P:Program}
variable {o:Oper} {K:St→Prop} {Q:Exit→Act→World→Prop} {C:Bb}
theorem Aw.newMap (h:Aw φ w0 A nt m S a w) (T:Nat) (hT:T<Au):
  Aw φ w0 A nt (m.set false T (some w.heap.size)) (S.drop T) a (w.alloc (.map #[] 0))∧RO φ (m.set false T (some w.heap.size)) (w.alloc (.map #[] 0)) T 0 0 [[.tup []]] (.map (some w.heap.size)):=by
 have hold:∀b,b<w.heap.size→(w.alloc (.map #[] 0)).heap[b]? = w.heap[b]? := fun b hb=>heap_alloc_old w _ b hb
 have K:=h.fresh_keep (w':=w.alloc (.map #[] 0)) false T w.heap.size (Nat.le_refl _) (by simp) hold
 constructor
 ·refine h.drop_keep (T:=T) K (fun k t ht=>fun hh=>ht hh.2) (fun t ds hds=>?_) rfl (h.fresh_lay false T _ (Nat.le_refl _) (by simp) hT (by simp) (h.lies.alloc _) hold (fun _ cur e x hw=>by
   rw [heap_alloc_new w _] at hw
   cases hw))
  obtain ⟨cs0,h1,h2⟩:=Db hds
  exact .inr ⟨cs0,h1,h2,fun hh=>by simp at hh,fun b hb=>hold b (h.bnd _ _ _ hb).1⟩
 ·exact .inr (.inr (.inr ⟨w.heap.size,[],#[],0,rfl,rfl,rfl,rfl,Bv _ _ _,heap_alloc_new w _,rfl,by simp⟩))
theorem uC (hc:Hv P φ o=some .mkM) (hd:∀d,o.dst=some d→d<nt) (h:Aw φ w0 A nt m S a w)
  (hw:Nb C o.dst .mkM S K):o.wp P a w (Nx φ w0 A nt K) Q:=by
 obtain ⟨t,hop,_⟩:=Bw hc
 cases hdst:o.dst with
 | none=>rw [hdst] at hw; exact hw.elim
 | some d=>
  rw [hdst] at hw
  obtain ⟨h1,h2⟩:=h.newMap (64*d) (h.tagLt hd hdst)
  refine Cc (w':=w.alloc (.map #[] 0)) (val:=.map (some w.heap.size)) ?_ ⟨m.set false (64*d) (some w.heap.size),_,hw,?_⟩
  ·simp [execOp,hop,Instr.makeMap,Result.andThen]
  ·rw [←hdst]
   exact h1.put hd (v:=.own (64*d) 0 0 [[.tup []]]) ⟨h2,fun _=>rfl⟩
theorem dC (t:Nat) (n:Int) (b:Bool):Cg (Zv t n b):=by
 refine ⟨rfl,fun c h1 h2 h3=>?_⟩
 cases c with
 | own t' off s es=>
  simp only [Zv]
  split<;>simp
 | agg cs=>exact absurd rfl (h1 cs)
 | tup vs=>exact absurd rfl (h2 vs)
 | may b v=>exact absurd rfl (h3 b v)
 | _=>simp [Zv]
theorem dB (n:Int) (b:Bool) (es:List (List V)):qG n b ([V.tup []]::es)=[V.tup []]::Ov n b es:=rfl
theorem Aw.mapWrite (h:Aw φ w0 A nt m S a w) {T β:Nat} {ents ents':Array MapEntry} {clock clock':Nat} (hβ:m.blk false T=some β)
  (hw:w.heap[β]? = some (.map ents clock)) {n:Int} {b:Bool} (hn:∀es,Nw es ents→Nw (Ov n b es) ents'):
  Aw φ w0 A nt m (S.map (Zv T n b)) a { w with heap:=w.heap.setIfInBounds β (.map ents' clock') }:=by
 have hbd:=h.bnd _ _ _ hβ
 obtain ⟨hs1,hs2⟩:=heap_set (o':=.map ents' clock') hw
 have hns:∀T j c b,m.nst T j c=some b→({ w with heap:=w.heap.setIfInBounds β (.map ents' clock') }:World).heap[b]? = w.heap[b]? := fun T j c b hb=>hs2 b fun e=>by subst e; exact h.n.dis _ _ _ _ _ _ hb hβ
 have K:Dz m m w { w with heap:=w.heap.setIfInBounds β (.map ents' clock') } (fun k t=>¬(k=false∧t=T)):=by
  refine ⟨by simp,fun b hb ha=>⟨hs2 b fun e=>ha (e ▸ .inr (.inl ⟨false,T,hβ⟩)),ha⟩,fun k t b hp hb=>⟨hb,fun hk=>hs2 b fun e=>?_⟩,fun T j c b _ hb=>⟨hb,hns T j c b hb⟩⟩
  subst e
  have:=h.inj _ _ _ _ _ hb hβ
  exact hp ⟨hk,this.2⟩
 have hl:Hk A.ext w0 { w with heap:=w.heap.setIfInBounds β (.map ents' clock') }:=by
  refine ⟨h.lies.os,h.lies.tape,h.lies.output,by simpa using h.lies.size,fun k hk hE=>?_,fun k c e fr hk h1=>?_⟩
  ·rw [show ({ w with heap:=w.heap.setIfInBounds β (.map ents' clock') }:World).heap[k]? = w.heap[k]? from hs2 k (by rintro rfl; rcases hbd.2.1 with h1 | h1; omega; exact hE h1)]
   exact h.lies.block k hk hE
  ·obtain ⟨c1,h2,h3⟩:=h.lies.shape k c e fr hk h1
   refine ⟨c1,?_,h3⟩
   rw [show ({ w with heap:=w.heap.setIfInBounds β (.map ents' clock') }:World).heap[k]? = w.heap[k]? from hs2 k (by rintro rfl; rw [hw] at h2; cases h2)]
   exact h2
 have ho:Uf m { w with heap:=w.heap.setIfInBounds β (.map ents' clock') }:=fun t b cur e x hb hc=>by
  by_cases hne:b=β
  ·subst hne
   rw [hs1] at hc; cases hc
  ·exact h.ones t b cur e x hb (by rw [←hs2 b hne]; exact hc)
 refine h.mapAll (dC T n b) m _ (fun c x hx=>?_) (fun t b hb=>⟨hb,hs2 b fun e=>?_⟩) (h.toLay.move (by simp) hl ho hns)
 ·cases c with
  | own t off s es=>
   simp only [Zv]
   by_cases e1:t=T
   ·subst e1
    simp only [if_true]
    rcases hx with ⟨h1,rfl,h2⟩ | ⟨h1,rfl,h2⟩ | ⟨b,cap,cu,E',h1,h2,h3,_⟩ | ⟨b2,es',ents2,clock2,h1,h2,rfl,h4,h5,h6,h7⟩
    ·exact .inl ⟨h1,rfl,h2⟩
    ·exact .inr (.inl ⟨h1,rfl,h2⟩)
    ·rw [hβ] at h1
     obtain rfl:=Option.some.inj h1
     rw [hw] at h3; cases h3
    ·rw [hβ] at h5
     obtain rfl:=Option.some.inj h5
     rw [hw] at h6; cases h6
     exact .inr (.inr (.inr ⟨_,_,_,_,h1,h2,dB n b es',h4,hβ,hs1,hn es' h7⟩))
   ·simp only [e1,if_false]
    exact K.rc (c:=.own t off s es) (fun k t' hs hh=>e1 (hs.2.symm.trans hh.2)) hx
  | optr t s j k=>exact hx
  | nrow t j k s es=>exact ⟨hx.1,hx.2.mono fun b hb=>⟨hb,hns _ _ _ _ hb⟩⟩
  | ptr t k=>exact hx
  | clo f caps=>exact K.rc (c:=.clo f caps) (fun k' t' hs hh=>by rw [hs.1] at hh; simp at hh) hx
  | int x1 x2=>exact K.rc (c:=.int x1 x2) (fun k t hs=>hs.elim) hx
  | bool x1=>exact K.rc (c:=.bool x1) (fun k t hs=>hs.elim) hx
  | str x1=>exact K.rc (c:=.str x1) (fun k t hs=>hs.elim) hx
  | lst x1 x2=>exact K.rc (c:=.lst x1 x2) (fun k t hs=>hs.elim) hx
  | iptr x1=>exact K.rc (c:=.iptr x1) (fun k t hs=>hs.elim) hx
  | agg x1=>exact K.rc (c:=.agg x1) (fun k t hs=>hs.elim) hx
  | tup x1=>exact K.rc (c:=.tup x1) (fun k t hs=>hs.elim) hx
  | may x1 x2=>exact K.rc (c:=.may x1 x2) (fun k t hs=>hs.elim) hx
  | undef=>trivial
 ·subst e
  have:=h.inj _ _ _ _ _ hb hβ
  simp at this
theorem pM {x k v:Ay} (hc:Hv P φ o=some (.mset x k v)) (hd:∀d,o.dst=some d→d<nt) (h:Aw φ w0 A nt m S a w)
  (hw:Nb C o.dst (.mset x k v) S K):o.wp P a w (Nx φ w0 A nt K) Q:=by
 obtain ⟨t,x',k',v',hop,ht,hx,hk,hv⟩:=Bw hc
 obtain ⟨hm1,hm2,hm3,hw⟩:=hw
 split at hw
 ·rename_i T off es n b e1 e2 e3
  have vx:RT φ m w (.own T off 0 ([.tup []]::es)) (a.eval x'):=by rw [←e1]; exact opd'_ok hx h hm1 rfl
  have vk:RT φ m w (.int .i64 n) (a.eval k'):=by rw [←e2]; exact opd'_ok hk h hm2 rfl
  have vv:RT φ m w (.bool b) (a.eval v'):=by rw [←e3]; exact opd'_ok hv h hm3 rfl
  rcases Dd vx with ⟨_,q,_⟩ | ⟨_,q,_⟩ | ⟨_,_,_,_,_,_,_,_,_,_,q,_⟩ | ⟨β,es',ents,clock,_,_,q1,q2,q5,q3,q4⟩
  ·cases q
  ·cases q
  ·have:=q.1; omega
  cases q1
  obtain ⟨kt,et,i,h1,h2,_⟩:=Si ht
  have hkey:IsKey (.int .i64) (.int .i64 n):=rfl
  have fin:∀(ents':Array MapEntry) (clock':Nat),(Instr.mapUpdate t (.map (some β)) (.int .i64 n) (.bool b)).run P w = .ok () { w with heap:=w.heap.setIfInBounds β (.map ents' clock') } →
    (∀es,Nw es ents→Nw (Ov n b es) ents')→o.wp P a w (Nx φ w0 A nt K) Q:=by
   intro ents' clock' hrun hmo
   refine wp_skip' (w':={ w with heap:=w.heap.setIfInBounds β (.map ents' clock') }) ?_ ⟨m,_,hw,(h.mapWrite q5 q3 hmo).put hd Cy⟩
   simp only [execOp,hop,q2,Ce vk,Dc vv,Sem.run_bind,hrun,Result.andThen_ok,Sem.run_pure]
  rcases Mj n ents.toList es 0 q4.1 q4.2 with ⟨g1,_,_⟩ | ⟨j,y,g1,g2,g3,_,_⟩
  ·refine fin (ents.push { key:=.int .i64 n,val:=.bool b,born:=clock }) (clock+1) ?_ (fun es2 hm2=>?_)
   ·simp [Instr.mapUpdate,run_underlying h1,Go.MapKept.run_getObj_map q3,run_checkKey h2 hkey,run_findKey h2 g1,run_setObj_map _ q3,Result.andThen]
   ·refine ⟨?_,Lz n b es2 hm2.2⟩
    rcases Mj n ents.toList es2 0 hm2.1 hm2.2 with ⟨_,_,g3⟩ | ⟨j,y,g4,_⟩
    ·rw [g3 b]
     simp [hm2.1,Wu]
    ·rw [g1] at g4; cases g4
  ·have hj:ents[j]? = some y:=by simpa using g2
   have hj0:0+j=j:=Nat.zero_add j
   refine fin (ents.modify j (eA n b)) clock ?_ (fun es2 hm2=>?_)
   ·rw [hj0] at g1
    simp [Instr.mapUpdate,run_underlying h1,Go.MapKept.run_getObj_map q3,run_checkKey h2 hkey,run_findKey h2 g1,hj,g3,run_keyThatStays hkey,run_setObj_map _ q3,Result.andThen]
    rfl
   ·refine ⟨?_,Lz n b es2 hm2.2⟩
    rcases Mj n ents.toList es2 0 hm2.1 hm2.2 with ⟨g4,_⟩ | ⟨j2,y2,g4,_,_,_,g5⟩
    ·rw [g1] at g4; cases g4
    ·rw [g1] at g4
     simp only [Option.some.injEq,Prod.mk.injEq] at g4
     obtain rfl:j=j2:=by omega
     rw [←g5 b]
     simp [Array.toList_modify]
 ·exact hw.elim
end Go.Ev
