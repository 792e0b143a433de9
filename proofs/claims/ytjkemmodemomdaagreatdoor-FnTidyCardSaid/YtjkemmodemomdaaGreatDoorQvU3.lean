/- New rows: slice literals, make, strings as bytes. -/
import Derived.Test.YtjkemmodemomdaaGreatDoorQvU2
import Derived.Laws.MakeOwn
import Derived.Great.BuildSlice
set_option linter.all false
namespace Go.Ev
open Go.RowKit
variable {φ:Bz} {m m':M} {w w' w0:World} {A:Fr} {nt:Nat} {S S':St} {a:Act} {P:Program}
variable {o:Oper} {K:St→Prop} {Q:Exit→Act→World→Prop} {C:Bb}
theorem Jt {α:Type} {sz:Nat}:∀ {es:List (List α)} (_:∀e∈es,e.length=sz) (j k:Nat) (_:k<sz),es.flatten[j*sz+k]? = (es[j]?).bind (·[k]?)
 | [],_,j,k,_=>by simp
 | e::r,h,j,k,hk=>by
  have he:e.length=sz:=h e (by simp)
  cases j with
  | zero=>simp [List.getElem?_append_left,he,hk]
  | succ j=>
   rw [List.flatten_cons,List.getElem?_append_right (by rw [he,Nat.add_mul,Nat.one_mul]; omega)]
   have e1:(j+1)*sz+k-e.length=j*sz+k:=by rw [he,Nat.add_mul,Nat.one_mul]; omega
   rw [e1,Jt (fun e he=>h e (by simp [he])) j k hk]
   simp
theorem Ju {α:Type} {sz:Nat} {es:List (List α)} (h:∀e∈es,e.length=sz):es.flatten.length=es.length*sz:=by
 induction es with
 | nil=>simp
 | cons e r ih=>
  rw [List.flatten_cons,List.length_append,h e (by simp),ih fun e he=>h e (by simp [he]),List.length_cons,Nat.add_mul,Nat.one_mul,Nat.add_comm]
theorem Yt {α:Type} {sz:Nat} {es:List (List α)} {i:Nat} {cs:List α} (h:∀e∈es,e.length=sz) (hc:cs.length=sz):∀e∈es.set i cs,e.length=sz:=by
 intro e he
 rcases List.mem_or_eq_of_mem_set he with h1 | h1
 ·exact h e h1
 ·rw [h1,hc]
theorem cC {sz:Nat} (hsz:0<sz) {es:List (List V)} {i:Nat} {cs:List V} (h:∀e∈es,e.length=sz) (hc:cs.length=sz) (hi:i<es.length):
  Bo es.flatten (i*sz) cs=(es.set i cs).flatten:=by
 apply List.ext_getElem?
 intro q
 have hl:=Ju h
 have hfit:i*sz+cs.length≤es.flatten.length:=by
  rw [hl,hc]
  have:(i+1)*sz≤es.length*sz:=Nat.mul_le_mul_right _ hi
  rw [Nat.add_mul,Nat.one_mul] at this
  exact this
 have hq:q=(q / sz)*sz+q%sz:=(Nat.div_add_mod' q sz).symm
 have hk:q%sz<sz:=Nat.mod_lt _ hsz
 rw [Cl _ _ _ _ hfit,hc]
 rw [show (es.set i cs).flatten[q]? = (es.set i cs).flatten[(q / sz)*sz+q%sz]? from by rw [←hq],Jt (Yt h hc) _ _ hk,
  show es.flatten[q]? = es.flatten[(q / sz)*sz+q%sz]? from by rw [←hq],Jt h _ _ hk]
 rw [List.getElem?_set]
 by_cases e:i=q / sz
 ·subst e
  rw [if_pos (by omega),if_pos rfl,if_pos hi]
  have:q-q / sz*sz=q%sz:=by omega
  rw [this]
  rfl
 ·rw [if_neg e,if_neg]
  rintro ⟨h1,h2⟩
  apply e
  have h3:i≤q / sz:=(Nat.le_div_iff_mul_le hsz).2 h1
  have h4:q / sz<i+1:=(Nat.div_lt_iff_lt_mul hsz).2 (by rw [Nat.add_mul,Nat.one_mul]; exact h2)
  omega
theorem Tc (d:Nat):Az (64*d)=false:=by
 have:64*d / 32%2=0:=by omega
 unfold Az; rw [this]; rfl
theorem Li:∀(ts:List TypeId) (vs:List Value) (k:Nat) (zs:List V),zeroCells P none ts vs k=some zs→∀(i s:Nat),zs[i]? = some (.lst s [])→vs[i]? = some (.slice none 0 0)
 | [],[],_,zs,h=>by
  simp only [zeroCells,Option.some.injEq] at h
  subst h; simp
 | t::ts,v::vs,k,zs,h=>by
  simp only [zeroCells] at h
  split at h
  ·rename_i r hr
   cases h
   intro i s hi
   cases i with
   | succ i=>exact Li ts vs (k+1) r hr i s (by simpa using hi)
   | zero=>
    simp only [List.getElem?_cons_zero,Option.some.injEq] at hi ⊢
    unfold Ki at hi
    split at hi
    ·cases hi
    ·cases hi
    ·cases hi
    ·rfl
    ·cases hi
  ·cases h
 | [],_::_,_,_,h=>by simp [zeroCells] at h
 | _::_,[],_,_,h=>by simp [zeroCells] at h
theorem Xk {t:TypeId} {zs:List V} {i:TypeInfo} {z:Value} (h:Ck P none t=some zs) (hi:P.info? t=some i) (hz:i.zero=some z) (k s:Nat) (hk:zs[k]? = some (.lst s [])):z.cells[k]? = some (.slice none 0 0):=by
 unfold Ck at h
 rw [hi] at h
 simp only [hz] at h
 split at h
 ·have:=Li _ _ _ _ h k s hk
  simpa using this
 ·cases h
def Ie:V→Bool
 | .int .. | .bool .. | .str .. | .lst .. | .iptr .. | .undef=>true
 | _=>false
theorem Wa {c:V} {val:Value} (hs:Ie c=true) (h:RC φ m w c val) (h1:val.oneCell'=true):RD φ w m.avoid c val:=by
 cases c with
 | undef=>exact .undef _ h1
 | own x1 x2 x3 x4=>simp [Ie] at hs
 | ptr x1 x2=>simp [Ie] at hs
 | optr x1 x2 x3 x4=>simp [Ie] at hs
 | nrow x1 x2 x3 x4 x5=>simp [Ie] at hs
 | clo x1 x2=>simp [Ie] at hs
 | agg x1=>simp [Ie] at hs
 | tup x1=>simp [Ie] at hs
 | may x1 x2=>simp [Ie] at hs
 | _=>exact h
theorem Xa (c:V) (h:He c=false):Ie (Cj c)=true:=by
 cases c with
 | own t off sz es=>simp only [Cj]; split<;>rfl
 | _=>first | rfl | simp [He] at h
theorem Kj:∀(ts:List TypeId) (vs:List Value) (k:Nat) (zs:List V),zeroCells P none ts vs k=some zs→∀c∈zs,Ie c=true
 | [],[],_,zs,h=>by
  simp only [zeroCells,Option.some.injEq] at h
  subst h; simp
 | t::ts,v::vs,k,zs,h=>by
  simp only [zeroCells] at h
  split at h
  ·rename_i r hr
   cases h
   intro c hc
   cases hc with
   | tail _ hc=>exact Kj ts vs (k+1) r hr c hc
   | head=>
    unfold Ki
    split
    ·rfl
    ·rfl
    ·rfl
    ·split
     ·rfl
     ·rfl
    ·rfl
  ·cases h
 | [],_::_,_,_,h=>by simp [zeroCells] at h
 | _::_,[],_,_,h=>by simp [zeroCells] at h
theorem Hr {t:TypeId} {zs:List V} (h:Ck P none t=some zs):∀c∈zs,Ie c=true:=by
 unfold Ck at h
 split at h
 ·split at h
  ·split at h
   ·exact Kj _ _ _ _ h
   ·cases h
  ·cases h
 ·cases h
theorem Sq.zeros {zs:List V} {z:Array Value} (h:Sq φ m w zs z) (n:Nat) (h0:0<zs.length):
  Sq φ m w (List.replicate n zs).flatten (madeCells z (n*zs.length)):=by
 have hu:∀e∈List.replicate n zs,e.length=zs.length:=fun e he=>by rw [List.eq_of_mem_replicate he]
 refine ⟨by rw [size_madeCells,Ju hu]; simp,fun i c x h1 h2=>?_⟩
 have hk:i%zs.length<zs.length:=Nat.mod_lt _ h0
 rw [show i=(i / zs.length)*zs.length+i%zs.length from (Nat.div_add_mod' i _).symm,Jt hu _ _ hk] at h1
 have hi:i<n*zs.length:=by
  have:=(Array.getElem?_eq_some_iff.1 h2).1
  rwa [size_madeCells] at this
 have hj:i / zs.length<n:=(Nat.div_lt_iff_lt_mul h0).2 hi
 rw [List.getElem?_replicate,if_pos hj] at h1
 simp only [Option.bind_some] at h1
 refine h.2 _ c x h1 ?_
 simp only [madeCells,Array.getElem?_map,Array.getElem?_range,hi,if_true,Option.map_some,Option.some.injEq] at h2
 rw [←h2,h.1]
 have hlt:i%zs.length<z.size:=by rw [h.1]; exact hk
 rw [getElem!_pos z _ hlt,Array.getElem?_eq_getElem hlt]
theorem cX {z:Array Value} {n j k:Nat} (hk:k<z.size) (hj:j<n):(madeCells z (n*z.size))[j*z.size+k]? = z[k]? := by
 have hi:j*z.size+k<n*z.size:=by
  have:(j+1)*z.size≤n*z.size:=Nat.mul_le_mul_right _ hj
  rw [Nat.add_mul,Nat.one_mul] at this
  omega
 have hm:(j*z.size+k)%z.size=k:=by rw [Nat.mul_comm,Nat.mul_add_mod]; exact Nat.mod_eq_of_lt hk
 simp only [madeCells,Array.getElem?_map,Array.getElem?_range,hi,if_true,Option.map_some,hm]
 rw [getElem!_pos z _ hk,Array.getElem?_eq_getElem hk]
theorem Sq.rows {es:List (List V)} {arr:Array Value} {sz:Nat} (h:Sq φ m w es.flatten arr) (hu:∀e∈es,e.length=sz)
  (hs:∀e∈es,∀c∈e,Ie c=true) (j:Nat) (e:List V) (k:Nat) (c:V) (h1:es[j]? = some e) (h2:e[k]? = some c):
  ∃v,arr[j*sz+k]? = some v∧v.oneCell'=true∧RD φ w m.avoid c v:=by
 have hk:k<sz:=by
  have:=(List.getElem?_eq_some_iff.1 h2).1
  rw [hu e (List.mem_of_getElem? h1)] at this
  exact this
 have hf:=Jt hu j k hk
 rw [h1] at hf
 simp only [Option.bind_some,h2] at hf
 have hlt:j*sz+k<arr.size:=by
  rw [h.1]; exact (List.getElem?_eq_some_iff.1 hf).1
 have hg:arr[j*sz+k]? = some arr[j*sz+k]:=Array.getElem?_eq_getElem hlt
 obtain ⟨h3,h4⟩:=h.2 _ c _ hf hg
 exact ⟨_,hg,h4,Wa (hs e (List.mem_of_getElem? h1) c (List.mem_of_getElem? h2)) h3 h4⟩
theorem pL {sz by_:Nat} {zero:List V} {l c:Ay} (hc:Hv P φ o=some (.make sz by_ zero l c)) (hd:∀d,o.dst=some d→d<nt) (h:Aw φ w0 A nt m S a w)
  (hw:Nb C o.dst (.make sz by_ zero l c) S K):o.wp P a w (Nx φ w0 A nt K) Q:=by
 obtain ⟨t,e,i,l',c',hop,h1,h2,h3,rfl,rfl,h4,h5,h6,h7,h8⟩:=Bw hc
 obtain ⟨hm1,hm2,hw⟩:=hw
 split at hw
 ·rename_i d k1 x k2 y hdst hl hcc
  obtain ⟨q1,rfl,q2,hK⟩:=hw
  have v1:RT φ m w (.int k1 x) (a.eval l'):=by rw [←hl]; exact opd'_ok h7 h hm1 rfl
  have v2:RT φ m w (.int k2 x) (a.eval c'):=by rw [←hcc]; exact opd'_ok h8 h hm2 rfl
  obtain ⟨i',z,g1,g2,g3⟩:=Er (φ:=φ) (m:=m) (w:=w) h2
  rw [h3] at g1
  obtain rfl:=Option.some.inj g1
  have hb:x≤140737488355328:=by
   have hp:(1:Int)≤i.bytes:=by omega
   have:=Int.mul_le_mul_of_nonneg_left hp q1
   omega
  have hn:x=(x.toNat:Int):=by omega
  have hrun:=run_make (P:=P) w t e i z h1 h3 g2 k1 k2 x x q1 (Int.le_refl _) (by rw [Int.mul_comm]; omega) (by omega)
  have hz:=g3.zeros x.toNat (by rw [h6]; omega)
  rw [h6] at hz
  have hu:∀e∈List.replicate x.toNat zero,e.length=i.size:=fun e he=>by rw [List.eq_of_mem_replicate he,h6]
  have hs:∀e∈List.replicate x.toNat zero,∀c∈e,Ie c=true:=fun e he=>by rw [List.eq_of_mem_replicate he]; exact Hr h2
  rcases hK with hK | ⟨hthin,hK⟩
  ·obtain ⟨r1,r2⟩:=h.newRow (64*d) (h.tagLt hd hdst) i.size x.toNat (List.replicate x.toNat zero) (madeCells z.cells (x.toNat*i.size)) e (Ib (by omega) (by rw [size_madeCells]; simp) hu (hz.rows hu hs)) (by simp) (by rw [size_madeCells]) (by simp only [maxLen]; omega) hu
    (hz.rows hu hs) (fun hh=>by rw [Tc] at hh; cases hh)
   refine Cc (w':=w.alloc (.cells (madeCells z.cells (x.toNat*i.size)) e)) (val:=.slice (some ⟨w.heap.size,0,none⟩) x.toNat x.toNat) ?_ ⟨m.set false (64*d) (some w.heap.size),_,hK,?_⟩
   ·simp only [execOp,hop,Ce v1,Ce v2,Sem.run_bind,hrun,Result.andThen_ok,Sem.run_pure]
   ·rw [←hdst]
    refine r1.put hd (v:=.own (64*d) 0 i.size (List.replicate x.toNat zero)) ⟨?_,fun _=>rfl⟩
    rw [List.length_replicate] at r2
    exact r2
  ·have hnew:=fun hth=>h.newRow (64*d+32) (by have:=h.tagLt hd hdst; simp only [Au] at this ⊢; omega) i.size x.toNat (List.replicate x.toNat zero) (madeCells z.cells (x.toNat*i.size)) e (Ib (by omega) (by rw [size_madeCells]; simp) hu (hz.rows hu hs)) (by simp) (by rw [size_madeCells]) (by simp only [maxLen]; omega) hu
    (hz.rows hu hs) hth
   obtain ⟨r1,r2⟩:=hnew (fun _ j e k c y1 y2=>by
    have y3:e=zero:=List.eq_of_mem_replicate (List.mem_of_getElem? y1)
    subst y3
    have hj:j<x.toNat:=by have:=(List.getElem?_eq_some_iff.1 y1).1; simpa using this
    have hk:k<i.size:=by have:=(List.getElem?_eq_some_iff.1 y2).1; omega
    have g4:=List.all_eq_true.1 hthin c (List.mem_of_getElem? y2)
    cases hsc:scal c with
    | true=>exact .inl rfl
    | false=>
     refine .inr ?_
     unfold wY at g4
     split at g4
     ·rename_i s
      refine ⟨s,rfl,?_⟩
      have g5:=Xk h2 h3 g2 k s y2
      have hsz:z.cells.size=i.size:=by rw [g3.1,h6]
      rw [←hsz] at hk ⊢
      rw [cX hk hj]; exact g5
     ·rw [hsc] at g4; cases g4)
   refine Cc (w':=w.alloc (.cells (madeCells z.cells (x.toNat*i.size)) e)) (val:=.slice (some ⟨w.heap.size,0,none⟩) x.toNat x.toNat) ?_ ⟨m.set false (64*d+32) (some w.heap.size),_,hK,?_⟩
   ·simp only [execOp,hop,Ce v1,Ce v2,Sem.run_bind,hrun,Result.andThen_ok,Sem.run_pure]
   ·rw [←hdst]
    refine r1.put hd (v:=.own (64*d+32) 0 i.size (List.replicate x.toNat zero)) ⟨?_,fun _=>rfl⟩
    rw [List.length_replicate] at r2
    exact r2
 ·exact hw.elim
theorem Xf {x:Ay} (hc:Hv P φ o=some (.toBytes x)) (hd:∀d,o.dst=some d→d<nt) (h:Aw φ w0 A nt m S a w)
  (hw:Nb C o.dst (.toBytes x) S K):o.wp P a w (Nx φ w0 A nt K) Q:=by
 obtain ⟨s,d,e,x',hop,h1,h2,h3,h4⟩:=Bw hc
 obtain ⟨hm,hw⟩:=hw
 split at hw
 ·rename_i l hl
  have v1:RT φ m w (.str l) (a.eval x'):=by rw [←hl]; exact opd'_ok h1 h hm rfl
  have ev:=Ez v1
  have hrun:=run_bytes_of_string (P:=P) w s d e ⟨l.toArray⟩ h2 h3 h4
  generalize hC:bytesRow (⟨l.toArray⟩:ByteArray) (grownCap w (ByteArray.size ⟨l.toArray⟩) 0 e)=C at hrun
  have hsz:ByteArray.size ⟨l.toArray⟩=l.length:=by simp [ByteArray.size]
  have hcap:=grownCap_ge w l.length 0 e
  rw [hsz] at hrun
  have hnew:(w.drew.alloc (.cells C e (C.size,C.size+1))).heap[w.heap.size]? = some (.cells C e (C.size,C.size+1)):=heap_alloc_new w.drew _
  have hold:∀b,b<w.heap.size→(w.drew.alloc (.cells C e (C.size,C.size+1))).heap[b]? = w.heap[b]? := fun b hb=>heap_alloc_old w.drew _ b hb
  have hrel:=h.world (w.drew.alloc (.cells C e (C.size,C.size+1))) (by simp) hold (h.lies.drew.alloc _)
  have hnav:¬m.avoid w.heap.size:=by
   rintro (hh | ⟨k,t,hb⟩ | ⟨T,j,c,hb⟩)
   ·have:=h.hAlt _ (h.hA ▸ hh)
    have:=h.lies.size
    omega
   rotate_left
   ·have:=(h.n.bnd _ _ _ _ hb).1
    omega
   ·have:=(h.bnd _ _ _ hb).1
    omega
  refine Cc (w':=w.drew.alloc (.cells C e (C.size,C.size+1))) (val:=.slice (some ⟨w.heap.size,0,none⟩) l.length (grownCap w l.length 0 e)) ?_ ⟨m,_,hw,?_⟩
  ·simp only [execOp,hop,ev,Sem.run_bind,hrun,Result.andThen_ok,Sem.run_pure]
  ·refine hrel.put hd (v:=.lst 1 (Ha l)) ⟨?_,fun _=>rfl⟩
   have hlen:(Ha l).length=l.length:=by simp [Ha]
   have hgoal:RD φ (w.drew.alloc (.cells C e (C.size,C.size+1))) m.avoid (.lst 1 (Ha l)) (.slice (some ⟨w.heap.size,0,none⟩) (Ha l).length (grownCap w l.length 0 e)):=by
    refine .lst 1 (Ha l) w.heap.size 0 (grownCap w l.length 0 e) (fun j _=>.int .u8 (((l[j]?).getD 0).toNat:Int)) (by simp) hnav (by rw [hlen]; exact hcap) (fun j y hy=>?_) (fun j y k c hy hk=>?_) (fun j y k c hy hk=>?_)
    ·rw [Dj] at hy
     simp only [Option.map_eq_some_iff] at hy
     obtain ⟨b,_,rfl⟩:=hy
     rfl
    ·rw [Dj] at hy
     simp only [Option.map_eq_some_iff] at hy
     obtain ⟨b,hb,rfl⟩:=hy
     have hk0:k=0:=by have:=(List.getElem?_eq_some_iff.1 hk).1; simp at this; exact this
     subst hk0
     have hj:j<l.length:=(List.getElem?_eq_some_iff.1 hb).1
     rw [cell_of_row _ w.heap.size _ C e _ hnew,←hC]
     have:=bytesRow_at (⟨l.toArray⟩:ByteArray) (grownCap w (ByteArray.size ⟨l.toArray⟩) 0 e) j (by simpa using hj)
     simp only [Nat.mul_one,Nat.zero_add,Nat.add_zero]
     rw [this,hb]
     have e1:=List.getElem?_eq_getElem hj
     rw [hb] at e1
     simp only [Option.some.injEq] at e1
     simp [e1]
    ·rw [Dj] at hy
     simp only [Option.map_eq_some_iff] at hy
     obtain ⟨b,hb,rfl⟩:=hy
     have hk0:k=0:=by have:=(List.getElem?_eq_some_iff.1 hk).1; simp at this; exact this
     subst hk0
     simp only [List.getElem?_cons_zero,Option.some.injEq] at hk
     subst hk
     simp only [hb,Option.getD_some]
     exact .int _ _
   rw [hlen] at hgoal
   exact hgoal
 ·exact hw.elim
theorem Ry {e:TypeId} (h:Aw φ w0 A nt m S a w):∀ {parts:List (Nat×Operand)} {ps:List (Nat×Ay)},Nl P φ e parts=some ps →
  Be (fun p=>Af true (S.val p.2)) ps →
  parts.length=ps.length∧∀(j:Nat) (p:Nat×Operand) (q:Nat×Ay),parts[j]? = some p→ps[j]? = some q→p.1=q.1∧RT φ m w (Ca S q.2) (a.eval p.2)
 | [],ps,hp,_=>by
  simp only [Nl,Option.some.injEq] at hp
  subst hp
  exact ⟨rfl,by simp⟩
 | (i,x)::r,ps,hp,hm=>by
  simp only [Nl] at hp
  split at hp
  ·rename_i y s hy hs
   cases hp
   obtain ⟨h1,h2⟩:=Ry h hs hm.2
   refine ⟨by simp [h1],fun j p q g1 g2=>?_⟩
   cases j with
   | succ j=>exact h2 j p q (by simpa using g1) (by simpa using g2)
   | zero=>
    simp at g1 g2
    subst g1; subst g2
    exact ⟨rfl,Gh hy h hm.1 rfl⟩
  ·cases hp
theorem Tl {v:V} (h:v.cells.all (fun c => !He c)=true):As v=false:=by
 cases v<;>first | rfl | (simp [V.cells,He] at h)
theorem Mx:∀ {vs:List (Nat×V)} {p:Nat×V} {t:Nat},p∈vs→t∈p.2.tags→t∈Gf vs
 | q::r,p,t,hp,ht=>by
  cases hp with
  | head=>simp [Gf,ht]
  | tail _ hp=>simp [Gf,Mx hp ht]
theorem Sc {sz:Nat} (hsz:0<sz):∀(vs:List (Nat×List V)) (es:List (List V)),(∀e∈es,e.length=sz)→(∀p∈vs,p.1<es.length∧p.2.length=sz) →
  vs.foldl (fun cs p=>Bo cs (p.1*sz) p.2) es.flatten=(Hb sz es vs).flatten∧(Hb sz es vs).length=es.length∧(∀e∈Hb sz es vs,e.length=sz)
 | [],es,h,_=>⟨rfl,rfl,h⟩
 | (i,cs)::r,es,h,hv=>by
  obtain ⟨h1,h2⟩:=hv (i,cs) (by simp)
  dsimp only at h1 h2
  have ih:=Sc hsz r (es.set i cs) (Yt h h2) (fun p hp=>by simpa using hv p (by simp [hp]))
  refine ⟨?_,?_,?_⟩
  ·rw [List.foldl_cons,cC hsz h h2 h1]
   exact ih.1
  ·simpa [Hb] using ih.2.1
  ·simpa [Hb] using ih.2.2
theorem Sd {sz:Nat}:∀(vs:List (Nat×List V)) (es:List (List V)),(∀e∈es,∀c∈e,Ie c=true)→(∀p∈vs,∀c∈p.2,Ie c=true)→∀e∈Hb sz es vs,∀c∈e,Ie c=true
 | [],es,h,_=>h
 | (i,cs)::r,es,h,hv=>by
  refine Sd r (es.set i cs) (fun e he=>?_) (fun p hp=>hv p (by simp [hp]))
  rcases List.mem_or_eq_of_mem_set he with h1 | h1
  ·exact h e h1
  ·rw [h1]; exact hv (i,cs) (by simp)
theorem run_buildSlice' (t e:TypeId) (len:Nat) (parts:Array (Nat×Value)) (cells:Array Value) (ie:TypeInfo) (z:Value)
  (hu:P.underlying t=some (.slice e)) (hie:P.info? e=some ie) (hz:ie.zero=some z) (hsmall:¬len*ie.size>2^24)
  (h:Instr.fill (fun i=>some (i*ie.size,ie.size)) (madeCells z.cells (len*ie.size)) parts.toList=some cells):
  (Instr.buildSlice t len parts).run P w = .ok (.slice (some ⟨w.heap.size,0,none⟩) len len) (w.alloc (.cells cells e)):=by
 by_cases h0:len*ie.size=0
 ·rw [h0] at h
  simp only [madeCells,Array.range_zero',Array.map_empty] at h
  simp [Instr.buildSlice,run_underlying hu,sizeOf,typeInfo,hie,h0,newRow,h,Array.range_zero']
 ·exact run_buildSlice w t e len parts cells ie z hu hie hz hsmall h0 h
theorem uD {sz len:Nat} {zero:List V} {parts:List (Nat×Ay)} (hc:Hv P φ o=some (.mkS sz zero len parts)) (hd:∀d,o.dst=some d→d<nt) (h:Aw φ w0 A nt m S a w)
  (hw:Nb C o.dst (.mkS sz zero len parts) S K):o.wp P a w (Nx φ w0 A nt K) Q:=by
 obtain ⟨t,e,i,ps,hop,h1,h2,h3,rfl,h4,h5,h6,h7⟩:=Bw hc
 cases hdst:o.dst with
 | none=>rw [hdst] at hw; exact hw.elim
 | some d=>
 rw [hdst] at hw
 dsimp only [Nb] at hw
 obtain ⟨hm,hv,hK⟩:=hw
 rcases hK with hK | hK
 rotate_left
 ·exact hK.elim
 obtain ⟨i',z,g1,g2,g3⟩:=Er (φ:=φ) (m:=m) (w:=w) h2
 rw [h3] at g1
 obtain rfl:=Option.some.inj g1
 obtain ⟨hl,hp⟩:=Ry h h7 hm
 generalize hvs:(parts.map fun p=>(p.1,Ab (S.val p.2)))=vs at hv hK
 obtain ⟨m',r1,r2,r3,r4,r5,r6,r7⟩:=h.freezes (Gf vs)
 obtain ⟨i'',z',g1',g2',g3'⟩:=Er (φ:=φ) (m:=m') (w:=w) h2
 rw [h3] at g1'
 obtain rfl:=Option.some.inj g1'
 rw [g2] at g2'
 obtain rfl:=Option.some.inj g2'
 have hz:=g3'.zeros len (by rw [h6]; omega)
 rw [h6] at hz
 have hu:∀e∈List.replicate len zero,e.length=i.size:=fun e he=>by rw [List.eq_of_mem_replicate he,h6]
 have hs:∀e∈List.replicate len zero,∀c∈e,Ie c=true:=fun e he=>by rw [List.eq_of_mem_replicate he]; exact Hr h2
 have hvs2:∀p∈vs,p.1<len∧p.2.cells.length=i.size∧p.2.cells.all (fun c => !He c)=true:=fun p hp=>by
  obtain ⟨j,hj⟩:=List.getElem?_of_mem hp
  exact Pm hv hj
 have hfr:=Sc (sz:=i.size) (by omega) (vs.map fun p=>(p.1,p.2.cells.map Cj)) (List.replicate len zero) hu (fun p hp=>by
  simp only [List.mem_map] at hp
  obtain ⟨q,hq,rfl⟩:=hp
  have:=hvs2 q hq
  simpa using ⟨this.1,this.2.1⟩)
 have hsh:=Sd (sz:=i.size) (vs.map fun p=>(p.1,p.2.cells.map Cj)) (List.replicate len zero) hs (fun p hp c hcm=>by
  simp only [List.mem_map] at hp
  obtain ⟨q,hq,rfl⟩:=hp
  simp only [List.mem_map] at hcm
  obtain ⟨c0,hc0,rfl⟩:=hcm
  exact Xa c0 (by simpa using List.all_eq_true.1 (hvs2 q hq).2.2 c0 hc0))
 obtain ⟨arr,hf,hr⟩:=Te (φ:=φ) (m:=m') (w:=w) (Ds:=fun j=>some (j*i.size,i.size)) (ps.toList.map fun p=>(p.1,a.eval p.2))
  (vs.map fun p=>(p.1*i.size,i.size,V.agg (p.2.cells.map Cj))) (List.replicate len zero).flatten (madeCells z.cells (len*i.size)) hz (by rw [←hvs]; simpa using hl)
  (fun j p q k1 k2=>by
   rw [←hvs] at k2
   simp only [List.getElem?_map,Option.map_eq_some_iff] at k1 k2
   obtain ⟨p0,k1,rfl⟩:=k1
   obtain ⟨q1,⟨q0,k2,rfl⟩,rfl⟩:=k2
   obtain ⟨e1,e2⟩:=hp j p0 q0 k1 k2
   have hin:(q0.1,Ab (S.val q0.2))∈vs:=by rw [←hvs]; exact List.mem_map.2 ⟨q0,List.mem_of_getElem? k2,rfl⟩
   obtain ⟨u1,u2,u3⟩:=hvs2 _ hin
   dsimp only at u1 u2 u3
   have hund:=Tl u3
   have hcs:=RT.cells e2 hund
   refine ⟨by simp [e1],⟨by simpa [V.cells] using hcs.1,fun jj c x k3 k4=>?_⟩,by simpa [V.cells] using u2,?_⟩
   ·simp only [V.cells,List.getElem?_map,Option.map_eq_some_iff] at k3
    obtain ⟨c0,k3,rfl⟩:=k3
    obtain ⟨k5,k6⟩:=hcs.2 jj c0 x k3 k4
    refine ⟨Eu (RC.closeFrz h r2 r3 r4 r5 r7 k5 (by simpa using List.all_eq_true.1 u3 c0 (List.mem_of_getElem? k3)) fun t off sz es e3=>?_),k6⟩
    refine Mx hin (Gu (off:=off) (sz:=sz) (es:=es) ?_)
    dsimp only
    rw [Ij (Bt e2) hund,←e3]
    exact List.mem_of_getElem? k3
   ·dsimp only
    rw [Ju hu,List.length_replicate]
    have:(q0.1+1)*i.size≤len*i.size:=Nat.mul_le_mul_right _ u1
    rw [Nat.add_mul,Nat.one_mul] at this
    exact this)
 rw [List.foldl_map] at hr
 have cells_agg:∀cs:List V,(V.agg cs).cells=cs:=fun _=>rfl
 simp only [cells_agg] at hr
 have hfold:=hfr.1
 rw [List.foldl_map] at hfold
 rw [hfold] at hr
 have hlen:(Hb i.size (List.replicate len zero) (vs.map fun p=>(p.1,p.2.cells.map Cj))).length=len:=by simpa using hfr.2.1
 have hsmall:len≤16777216:=by
  have:len*1≤len*i.size:=Nat.mul_le_mul_left _ (by omega)
  omega
 obtain ⟨n1,n2⟩:=r1.newRow (64*d) (h.tagLt hd hdst) i.size len _ arr e (Ib (by omega) (by rw [hr.1,Ju hfr.2.2]) hfr.2.2 (hr.rows hfr.2.2 hsh)) (by rw [hlen]; exact Nat.le_refl _) (by rw [hr.1,Ju hfr.2.2,hlen]) (by simp only [maxLen]; omega) hfr.2.2
  (hr.rows hfr.2.2 hsh) (fun hh=>by rw [Tc] at hh; cases hh)
 have hrun:=run_buildSlice' (P:=P) (w:=w) t e len (ps.map fun p=>(p.1,a.eval p.2)) arr i z h1 h3 g2 h5 (by simpa using hf)
 refine Cc (w':=w.alloc (.cells arr e)) (val:=.slice (some ⟨w.heap.size,0,none⟩) len len) ?_ ⟨m'.set false (64*d) (some w.heap.size),_,hK,?_⟩
 ·simp only [execOp,hop,Sem.run_bind]
  have:(ps.map fun (i,x)=>(i,a.eval x))=(ps.map fun p=>(p.1,a.eval p.2)):=rfl
  rw [this,hrun]
  rfl
 ·rw [←hdst]
  refine n1.put hd (v:=.own (64*d) 0 i.size _) ⟨?_,fun _=>rfl⟩
  rw [hlen] at n2
  exact n2
end Go.Ev
