/- Elements of deep rows: rows that they take as their own. -/
import Derived.Test.YtjkemmodemomdaaGreatDoorQvS5
set_option linter.all false
namespace Go.Ev
open Go.RowKit
variable {φ:Bz} {m m':M} {w w' w0:World} {A:Fr} {nt:Nat} {S S':St} {a:Act}
theorem Mu {t off sz:Nat} {es:List (List V)}:∀ {l:List V},V.own t off sz es∈l→t∈Bj l
 | c::r,h=>by
  cases h with
  | head=>simp [Bj]
  | tail _ h=>
   have:=Mu h
   cases c<;>simp [Bj,this]
theorem Vq:∀ {l:List V} (_:Bn (Bj l)=true) {i i' t off off' sz sz':Nat} {es es':List (List V)},l[i]? = some (.own t off sz es)→l[i']? = some (.own t off' sz' es')→i=i'
 | c::r,h,i,i',t,off,off',sz,sz',es,es',h1,h2=>by
  have ht:Bn (Bj r)=true:=by
   cases c<;>first | exact h | (simp only [Bj,Bn,Bool.and_eq_true] at h; exact h.2)
  cases i with
  | zero=>
   cases i' with
   | zero=>rfl
   | succ i'=>
    simp at h1 h2
    subst h1
    simp only [Bj,Bn,Bool.and_eq_true] at h
    have:=List.all_eq_true.1 h.1 t (Mu (List.mem_of_getElem? h2))
    simp at this
  | succ i=>
   cases i' with
   | zero=>
    simp at h1 h2
    subst h2
    simp only [Bj,Bn,Bool.and_eq_true] at h
    have:=List.all_eq_true.1 h.1 t (Mu (List.mem_of_getElem? h1))
    simp at this
   | succ i'=>
    simp at h1 h2
    rw [Vq ht h1 h2]
 | [],_,_,_,_,_,_,_,_,_,_,h1,_=>by simp at h1
def Ei (cs:List V) (k c:Nat):Option Nat:=
 if k≤c then match cs[c-k]? with
  | some (.own t _ _ _)=>some t
  | _=>none
 else none
theorem Hn {cs:List V} {k c t:Nat} (h:Ei cs k c=some t):k≤c∧∃off sz es,cs[c-k]? = some (.own t off sz es):=by
 unfold Ei at h
 split at h
 ·rename_i hk
  split at h
  ·rename_i t' off sz es hc
   cases h
   exact ⟨hk,off,sz,es,hc⟩
  ·cases h
 ·cases h
theorem Ik {cs:List V} {k c t:Nat} (h:Ei cs k c=some t):t∈Bj cs:=by
 obtain ⟨_,off,sz,es,h1⟩:=Hn h
 exact Mu (List.mem_of_getElem? h1)
theorem Wn {cs:List V} (hn:Bn (Bj cs)=true) {k c c' t:Nat} (h:Ei cs k c=some t) (h':Ei cs k c'=some t):c=c':=by
 obtain ⟨h1,_,_,_,h2⟩:=Hn h
 obtain ⟨h3,_,_,_,h4⟩:=Hn h'
 have:=Vq hn h2 h4
 omega
def M.nest (m:M) (T J k:Nat) (cs:List V):M:=
 ⟨m.A,fun q t=>if q=false∧t∈Bj cs then none else m.blk q t,
  fun T' J' c=>if T'=T∧J'=J then (match Ei cs k c with
   | some t=>m.blk false t
   | none=>m.nst T' J' c) else m.nst T' J' c⟩
theorem Hz {T J k:Nat} {cs:List V} {q:Bool} {t b:Nat} (h:(m.nest T J k cs).blk q t=some b):m.blk q t=some b∧¬(q=false∧t∈Bj cs):=by
 simp only [M.nest] at h
 split at h
 ·cases h
 ·rename_i e; exact ⟨h,e⟩
theorem nest_blk' {T J k:Nat} {cs:List V} {q:Bool} {t:Nat} (h:¬(q=false∧t∈Bj cs)):(m.nest T J k cs).blk q t=m.blk q t:=by
 simp only [M.nest]
 rw [if_neg h]
theorem Ia {T J k:Nat} {cs:List V} {T' J' c b:Nat} (h:(m.nest T J k cs).nst T' J' c=some b):
  m.nst T' J' c=some b∨∃t,T'=T∧J'=J∧Ei cs k c=some t∧m.blk false t=some b:=by
 simp only [M.nest] at h
 split at h
 ·rename_i e
  split at h
  ·rename_i t ht; exact .inr ⟨t,e.1,e.2,ht,h⟩
  ·exact .inl h
 ·exact .inl h
theorem Qr {T J k:Nat} {cs:List V} {T' J' c:Nat} (h:¬(T'=T∧J'=J)):(m.nest T J k cs).nst T' J' c=m.nst T' J' c:=by
 simp only [M.nest]
 rw [if_neg h]
theorem oT {T J k:Nat} {cs:List V} {c t:Nat} (h:Ei cs k c=some t):(m.nest T J k cs).nst T J c=m.blk false t:=by
 simp [M.nest,h]
theorem Sk {T J k:Nat} {cs:List V} {c:Nat} (h:Ei cs k c=none):(m.nest T J k cs).nst T J c=m.nst T J c:=by
 simp [M.nest,h]
theorem Qq {T J k b:Nat} {cs:List V} (h:(m.nest T J k cs).avoid b):m.avoid b:=by
 rcases h with h | ⟨q,t,h⟩ | ⟨T',J',c,h⟩
 ·exact .inl h
 ·exact .inr (.inl ⟨q,t,(Hz h).1⟩)
 ·rcases Ia h with h | ⟨t,_,_,_,h⟩
  ·exact .inr (.inr ⟨_,_,_,h⟩)
  ·exact .inr (.inl ⟨_,_,h⟩)
theorem eK (t sz at_:Nat) (ys:List (List V)):Cg (Vu t sz at_ ys):=by
 refine ⟨rfl,fun c h1 h2 h3=>?_⟩
 cases c with
 | nrow t' j k s es=>
  simp only [Vu]
  split<;>simp
 | own t' off s es=>exact (Ua t sz at_ ys).cell (.own t' off s es) (by simp) (by simp) (by simp)
 | agg cs=>exact absurd rfl (h1 cs)
 | tup vs=>exact absurd rfl (h2 vs)
 | may b v=>exact absurd rfl (h3 b v)
 | _=>simp [Vu,Tz]
theorem Lay.nest (L:Lay w0 A m w) {T β J k:Nat} {cs:List V} {cur':Array Value} {E:TypeId} (hβ:m.blk false T=some β) (hs:w.heap.size≤w'.heap.size) (hk:∀b,b<w.heap.size→b≠β→w'.heap[b]? = w.heap[b]?)
  (hβ':w'.heap[β]? = some (.cells cur' E (0,0))) (ho:∀(i:Nat) (v:Value),cur'[i]? = some v→v.oneCell'=true) (hl:Hk A.ext w0 w')
  (hX:∀t∈Bj cs,t<Au∧t≠T) (hT:Bj cs=[]∨T<Au) (hn:Bn (Bj cs)=true):Lay w0 A (m.nest T J k cs) w':=by
 refine ⟨L.hA,L.hAlt,fun q t q' t' b h1 h2=>L.inj _ _ _ _ _ (Hz h1).1 (Hz h2).1,fun q t b h1=>?_,fun q t h1=>?_,hl,fun t b cur e x h1 h2=>?_,
  fun T1 j1 c1 T2 j2 c2 b h1 h2=>?_,fun T1 j c q t b h1 h2=>?_,fun T1 j c b h1=>?_,fun T1 j c h1=>?_,fun T1 j c b cur e x h1 h2=>?_⟩
 ·have:=L.bnd _ _ _ (Hz h1).1
  exact ⟨by omega,this.2⟩
 ·rw [nest_blk' (fun hh=>by have:=(hX t hh.2).1; omega)]; exact L.pin _ _ h1
 ·have h3:=(Hz h1).1
  by_cases e1:b=β
  ·subst e1; rw [hβ'] at h2; cases h2; exact ho
  ·rw [hk b (L.bnd _ _ _ h3).1 e1] at h2; exact L.ones _ _ _ _ _ h3 h2
 ·rcases Ia h1 with q1 | ⟨t,e1,e2,g1,q1⟩<;>rcases Ia h2 with q2 | ⟨t',e3,e4,g2,q2⟩
  ·exact L.n.inj _ _ _ _ _ _ _ q1 q2
  ·exact (L.n.dis _ _ _ _ _ _ q1 q2).elim
  ·exact (L.n.dis _ _ _ _ _ _ q2 q1).elim
  ·obtain ⟨_,e5⟩:=L.inj _ _ _ _ _ q1 q2
   rw [←e5] at g2
   exact ⟨e1.trans e3.symm,e2.trans e4.symm,Wn hn g1 g2⟩
 ·have h3:=Hz h2
  rcases Ia h1 with h1 | ⟨t',rfl,rfl,g1,h1⟩
  ·exact L.n.dis _ _ _ _ _ _ h1 h3.1
  ·obtain ⟨rfl,rfl⟩:=L.inj _ _ _ _ _ h1 h3.1
   exact h3.2 ⟨rfl,Ik g1⟩
 ·rcases Ia h1 with h1 | ⟨t',rfl,rfl,g1,h1⟩
  ·have:=L.n.bnd _ _ _ _ h1
   exact ⟨by omega,this.2⟩
  ·have:=L.bnd _ _ _ h1
   exact ⟨by omega,this.2⟩
 ·by_cases e1:T1=T∧j=J
  ·obtain ⟨rfl,rfl⟩:=e1
   have:Ei cs k c=none:=by
    cases hc:Ei cs k c with
    | none=>rfl
    | some t=>
     have:=Ik hc
     rcases hT with hT | hT
     ·rw [hT] at this; cases this
     ·omega
   rw [Sk this]; exact L.n.pin _ _ _ h1
  ·rw [Qr e1]; exact L.n.pin _ _ _ h1
 ·rcases Ia h1 with h1 | ⟨t',rfl,rfl,g1,h1⟩
  ·rw [hk b (L.n.bnd _ _ _ _ h1).1 (fun e=>by subst e; exact L.n.dis _ _ _ _ _ _ h1 hβ)] at h2
   exact L.n.ones _ _ _ _ _ _ _ h1 h2
  ·rw [hk b (L.bnd _ _ _ h1).1 (fun e=>by
    subst e
    obtain ⟨_,rfl⟩:=L.inj _ _ _ _ _ h1 hβ
    exact (hX _ (Ik g1)).2 rfl)] at h2
   exact L.ones _ _ _ _ _ h1 h2
theorem Aw.nestRow (h:Aw φ w0 A nt m S a w) {T β j k sz:Nat} {cur cur':Array Value} {E:TypeId} {cs y:List V} (hβ:m.blk false T=some β) (hw:w.heap[β]? = some (.cells cur E (0,0))) (w':World)
  (hs:w.heap.size≤w'.heap.size) (hk:∀b,b<w.heap.size→b≠β→w'.heap[b]? = w.heap[b]?) (hβ':w'.heap[β]? = some (.cells cur' E (0,0))) (ho:∀(i:Nat) (v:Value),cur'[i]? = some v→v.oneCell'=true) (hl:Hk A.ext w0 w')
  (hsz0:0<sz) (hy:y.length=sz) (hcs:cur'.size=cur.size) (hcur:∀J q,q<sz→J≠j→cur'[J*sz+q]? = cur[J*sz+q]?)
  (hc:∀(q:Nat) (c:V),y[q]? = some c→∃v,cur'[j*sz+q]? = some v∧v.oneCell'=true∧RE φ (m.nest T j k cs) w' T j q c v)
  (hX:∀t∈Bj cs,t<Au∧t≠T) (hT:Bj cs=[]∨T<Au) (hn:Bn (Bj cs)=true):
  Aw φ w0 A nt (m.nest T j k cs) ((S.drops (Bj cs)).map (Vu T sz j [y])) a w':=by
 have L':Lay w0 A (m.nest T j k cs) w':=h.toLay.nest hβ hs hk hβ' ho hl hX hT hn
 have hTX:T∉Bj cs:=fun hh=>(hX T hh).2 rfl
 have K:Dz m (m.nest T j k cs) w w' (fun q t=>¬(q=false∧(t=T∨t∈Bj cs))):=by
  refine ⟨hs,fun b hb ha=>⟨hk b hb fun e=>ha (e ▸ .inr (.inl ⟨false,T,hβ⟩)),fun hh=>ha (Qq hh)⟩,fun q t b hp hb=>⟨by rw [nest_blk' (fun hh=>hp ⟨hh.1,.inr hh.2⟩)]; exact hb,fun hq=>hk b (h.bnd _ _ _ hb).1 fun e=>?_⟩,fun T' J' c b hp hb=>⟨?_,hk b (h.n.bnd _ _ _ _ hb).1 fun e=>?_⟩⟩
  ·subst e
   obtain ⟨_,rfl⟩:=h.inj _ _ _ _ _ hb hβ
   exact hp ⟨hq,.inl rfl⟩
  ·rw [Qr (fun hh=>hp ⟨rfl,.inl hh.1⟩)]; exact hb
  ·subst e; exact h.n.dis _ _ _ _ _ _ hb hβ
 have hkeep:∀ {J q:Nat} {c:V} {v:Value},J≠j→RE φ m w T J q c v→RE φ (m.nest T j k cs) w' T J q c v:=by
  intro J q c v hJ hr
  rcases hr with ⟨g1,g2⟩ | ⟨g1,s,es,g2,g3⟩
  ·exact .inl ⟨K.rd g1,g2⟩
  ·refine .inr ⟨g1,s,es,g2,g3.mono fun b hb=>⟨?_,hk b (h.n.bnd _ _ _ _ hb).1 fun e=>?_⟩⟩
   ·rw [Qr (fun hh=>hJ hh.2)]; exact hb
   ·subst e; exact h.n.dis _ _ _ _ _ _ hb hβ
 refine h.mapDrops (eK T sz j [y]) _ w' (fun c x hno hx=>?_) (fun t b hb=>⟨by rw [nest_blk' (by simp)]; exact hb,hk b (h.bnd _ _ _ hb).1 fun e=>?_⟩) L'
 ·have hno':∀ {q:Bool} {t:Nat},Hj q t c→t∉Bj cs:=fun hsp hm=>Dq (hno _ hm) hsp rfl
  cases c with
  | own t off s es=>
   simp only [Vu,Tz]
   by_cases e1:t=T
   ·subst e1
    simp only [if_true]
    by_cases e2:s=sz
    ·subst e2
     simp only [if_true]
     rcases hx with ⟨h1,rfl,h2⟩ | ⟨h1,rfl,h2⟩ | ⟨b,cap,cu,E',h1,h2,h3,h4,h5,h6,h7,h8,h9⟩ | ⟨_,_,_,_,_,h2,_⟩
     ·exact .inl ⟨h1,rfl,h2⟩
     ·exact .inr (.inl ⟨h1,rfl,h2⟩)
     rotate_left
     ·omega
     ·rw [hβ] at h1
      obtain rfl:=Option.some.inj h1
      rw [hw] at h3
      simp only [Option.some.injEq,Obj.cells.injEq,and_true] at h3
      obtain ⟨rfl,rfl⟩:=h3
      have hlen:(Dm off es j [y]).length=es.length:=by simp [Dm]
      have hget:∀i:Nat,(Dm off es j [y])[i]? = (es[i]?).map fun e=>if off+i=j then y else e:=by
       intro i
       rw [Dv]
       cases es[i]? with
       | none=>rfl
       | some e=>
        simp only [Option.map_some]
        by_cases g:off+i=j
        ·rw [if_pos (by omega),if_pos g,show off+i-j=0 by omega]; rfl
        ·rw [if_neg g]
         by_cases g2:j≤off+i
         ·rw [if_pos g2,show off+i-j=(off+i-j-1)+1 by omega]; rfl
         ·rw [if_neg g2]
      refine .inr (.inr (.inl ⟨β,cap,cur',E,by rw [nest_blk' (fun hh=>hTX hh.2)]; exact hβ,by rw [hlen]; exact h2,hβ',by rw [hlen]; exact h4,by rw [h5,hcs],h6,⟨h7.1,ho⟩,fun e he=>?_,fun i e q c g1 g2=>?_⟩))
      ·obtain ⟨i,hi⟩:=List.getElem?_of_mem he
       rw [hget] at hi
       obtain ⟨e0,h10,rfl⟩:=Option.map_eq_some_iff.1 hi
       split
       ·exact hy
       ·exact h8 _ (List.mem_of_getElem? h10)
      ·rw [hget] at g1
       obtain ⟨e0,h10,rfl⟩:=Option.map_eq_some_iff.1 g1
       split at g2
       ·rename_i g
        rw [g]
        exact hc q c g2
       ·rename_i g
        have hq:q<s:=by
         have:=(List.getElem?_eq_some_iff.1 g2).1
         rw [h8 _ (List.mem_of_getElem? h10)] at this
         exact this
        obtain ⟨v,g3,g4,g5⟩:=h9 i e0 q c h10 g2
        exact ⟨v,by rw [hcur _ _ hq g]; exact g3,g4,hkeep g g5⟩
    ·simp only [e2,if_false]
     trivial
   ·simp only [e1,if_false]
    exact K.rc (c:=.own t off s es) (fun q t' hsp hh=>hh.2.elim (fun e=>e1 (hsp.2.symm.trans e)) (fun hm=>hno' hsp hm)) hx
  | nrow t j' k' s es=>
   simp only [Vu]
   split
   ·trivial
   ·rename_i e1
    exact K.rc (c:=.nrow t j' k' s es) (fun q t' hsp hh=>hh.2.elim (fun e=>e1 (hsp.2.symm.trans e)) (fun hm=>hno' hsp hm)) hx
  | optr t s j' k'=>
   obtain ⟨b,hb,rfl⟩:=hx
   exact ⟨b,by rw [nest_blk' (fun hh=>hno' (q:=false) (t:=t) ⟨rfl,rfl⟩ hh.2)]; exact hb,rfl⟩
  | ptr t k=>exact K.rc (c:=.ptr t k) (fun q t' hsp hh=>by rw [hsp.1] at hh; simp at hh) hx
  | clo f caps=>exact K.rc (c:=.clo f caps) (fun q t' hsp hh=>by rw [hsp.1] at hh; simp at hh) hx
  | int x1 x2=>exact K.rc (c:=.int x1 x2) (fun k t hs=>hs.elim) hx
  | bool x1=>exact K.rc (c:=.bool x1) (fun k t hs=>hs.elim) hx
  | str x1=>exact K.rc (c:=.str x1) (fun k t hs=>hs.elim) hx
  | lst x1 x2=>exact K.rc (c:=.lst x1 x2) (fun k t hs=>hs.elim) hx
  | iptr x1=>exact K.rc (c:=.iptr x1) (fun k t hs=>hs.elim) hx
  | agg x1=>exact K.rc (c:=.agg x1) (fun k t hs=>hs.elim) hx
  | tup x1=>exact K.rc (c:=.tup x1) (fun k t hs=>hs.elim) hx
  | may x1 x2=>exact K.rc (c:=.may x1 x2) (fun k t hs=>hs.elim) hx
  | undef=>trivial
 ·subst e
  have:=h.inj _ _ _ _ _ hb hβ
  simp at this
theorem RN.of_own {t sz:Nat} {es:List (List V)} {val:Value} (h:RO φ m w t 0 sz es val) (hz:sz≠0) (hd:Az t=false) (hs:es.all (·.all scal)=true):RN φ w (m.blk false t) sz es val:=by
 rcases h with ⟨_,h1,h2⟩ | ⟨h1,_⟩ | ⟨b,cap,cur,e,h1,h2,h3,h4,h5,h6,h7,h8,h9⟩ | ⟨_,_,_,_,_,h1,_⟩
 ·exact .inl ⟨h1,h2⟩
 ·exact absurd rfl h1
 ·refine .inr ⟨b,cap,cur,e,h1,by rw [h2]; simp,h3,h4,by rw [←h5]; simp,by omega,h7,fun e he=>⟨h8 e he,List.all_eq_true.1 hs e he⟩,fun j e k c g1 g2=>?_⟩
  obtain ⟨v,g3,g4,g5⟩:=h9 j e k c g1 g2
  exact ⟨v,by simpa using g3,g4,Ed (List.all_eq_true.1 (List.all_eq_true.1 hs e (List.mem_of_getElem? g1)) c (List.mem_of_getElem? g2)) (g5.rd hd)⟩
 ·exact absurd h1 hz
theorem Sm {c:V} (h:Zz c=true):∃t sz es,c = .own t 0 sz es∧sz≠0∧t<Au∧Az t=false∧es.all (·.all scal)=true:=by
 unfold Zz at h
 split at h
 ·rename_i t sz es
  simp only [Bool.and_eq_true,decide_eq_true_eq,Bool.not_eq_true'] at h
  exact ⟨t,sz+1,es,rfl,Nat.succ_ne_zero _,h.1.1,h.1.2,h.2⟩
 ·cases h
theorem RE.take {T J k q:Nat} {cs:List V} {c:V} {v:Value} (hd:Az T=true) (hq:cs[q]? = some c) (hc:(scal c || Zz c)=true) (hr:RC φ m w c v) (hone:v.oneCell'=true)
  (hw:∀b t,t∈Bj cs→m.blk false t=some b→w'.heap[b]? = w.heap[b]?):RE φ (m.nest T J k cs) w' T J (k+q) (Cj c) v:=by
 rw [Bool.or_eq_true] at hc
 rcases hc with hc | hc
 ·refine .inl ?_
  cases c with
  | int k n=>exact ⟨Ed rfl hr,fun _=>rfl⟩
  | bool b=>exact ⟨Ed rfl hr,fun _=>rfl⟩
  | str s=>exact ⟨Ed rfl hr,fun _=>rfl⟩
  | undef=>exact ⟨.undef _ hone,fun _=>rfl⟩
  | _=>simp [scal] at hc
 ·obtain ⟨t,sz,es,rfl,hz,ht,hdt,hs⟩:=Sm hc
  refine .inr ⟨hd,sz,es,by simp [Cj,ht],?_⟩
  have h1:=RN.of_own hr hz hdt hs
  have h2:Ei cs k (k+q)=some t:=by
   unfold Ei
   rw [if_pos (Nat.le_add_right _ _),Nat.add_sub_cancel_left,hq]
  rw [oT h2]
  exact h1.mono fun b hb=>⟨hb,hw b t (Ik h2) hb⟩
end Go.Ev
