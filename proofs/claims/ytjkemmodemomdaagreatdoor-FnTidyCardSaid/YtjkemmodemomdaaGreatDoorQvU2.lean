/- New boxes, nil lists, stores. -/
import Derived.Test.YtjkemmodemomdaaGreatDoorQvU
import Derived.Laws.CopyRow
set_option linter.all false
namespace Go.Ev
open Go.RowKit
variable {φ:Bz} {m m':M} {w w' w0:World} {A:Fr} {nt:Nat} {S S':St} {a:Act} {P:Program}
variable {o:Oper} {K:St→Prop} {Q:Exit→Act→World→Prop} {C:Bb}
theorem Nc {d:Nat}:∀(ts:List TypeId) (vs:List Value) (k:Nat) (zs:List V),zeroCells P (some d) ts vs k=some zs→∀c∈zs,Dp (64*d) c=true
 | [],[],_,zs,h=>by
  simp only [zeroCells,Option.some.injEq] at h
  subst h; simp
 | t::ts,v::vs,k,zs,h=>by
  simp only [zeroCells] at h
  split at h
  ·rename_i r hr
   cases h
   intro c hc
   cases hc with
   | tail _ hc=>exact Nc ts vs (k+1) r hr c hc
   | head=>
    unfold Ki
    split
    ·rfl
    ·rfl
    ·rfl
    ·split
     ·simp [Dp,Eg]; omega
     ·rfl
    ·rfl
  ·cases h
 | [],_::_,_,_,h=>by simp [zeroCells] at h
 | _::_,[],_,_,h=>by simp [zeroCells] at h
theorem aS {d:Nat} {t:TypeId} {zs:List V} (h:Ck P (some d) t=some zs):∀c∈zs,Dp (64*d) c=true:=by
 unfold Ck at h
 split at h
 ·split at h
  ·split at h
   ·exact Nc _ _ _ _ h
   ·cases h
  ·cases h
 ·cases h
theorem eP {z:List V} (hc:Hv P φ o=some (.alloc z)) (hd:∀d,o.dst=some d→d<nt) (h:Aw φ w0 A nt m S a w)
  (hw:Nb C o.dst (.alloc z) S K):o.wp P a w (Nx φ w0 A nt K) Q:=by
 obtain ⟨t,hop,h1⟩:=Bw hc
 cases hdst:o.dst with
 | none=>rw [hdst] at hw; exact hw.elim
 | some d=>
  rw [hdst] at hw h1
  obtain ⟨i,zv,hi,hz,hcs⟩:=Er (φ:=φ) (m:=m) (w:=w) h1
  have hnew:=h.newBox (64*d) (h.tagLt hd hdst) z zv.cells t (fun j c hj=>by
   have hlt:j<zv.cells.size:=by rw [hcs.1]; exact (List.getElem?_eq_some_iff.1 hj).1
   have hg:zv.cells[j]? = some zv.cells[j]:=Array.getElem?_eq_getElem hlt
   exact ⟨aS h1 c (List.mem_of_getElem? hj),_,hg,hcs.2 j c _ hj hg⟩)
  refine Cc (w':=w.alloc (.cells zv.cells t)) (val:=.pointer (some ⟨w.heap.size,0,none⟩)) ?_ ⟨m.set true (64*d) (some w.heap.size),_,hw,?_⟩
  ·simp [execOp,hop,Instr.alloc,newVar,newRow,zeroValue,typeInfo,hi,hz]
  ·rw [←hdst]
   exact hnew.put hd (v:=.ptr (64*d) 0) ⟨⟨w.heap.size,Bv _ _ _,rfl⟩,fun _=>rfl⟩
theorem pN {sz:Nat} (hc:Hv P φ o=some (.nilS sz)) (hd:∀d,o.dst=some d→d<nt) (h:Aw φ w0 A nt m S a w)
  (hw:Nb C o.dst (.nilS sz) S K):o.wp P a w (Nx φ w0 A nt K) Q:=by
 obtain ⟨x',hop,h1⟩:=Bw hc
 cases hdst:o.dst with
 | none=>rw [hdst] at hw; exact hw.elim
 | some d=>
  rw [hdst] at hw
  refine Cc (w':=w) (val:=.slice none 0 0) ?_ ⟨m,_,hw,?_⟩
  ·subst h1
   rcases hop with hop | hop<;>simp [execOp,hop,Act.eval]
  ·rw [←hdst]
   exact (h.drop _).put hd (v:=.own (64*d) 0 sz []) ⟨.inl ⟨rfl,rfl,rfl⟩,fun _=>rfl⟩
theorem Cq (cur:Array Value) (l:List Value) (o i:Nat) (h:o+l.length≤cur.size):
  (cur.toList.take o++l++cur.toList.drop (o+l.length)).toArray[i]? = if o≤i∧i<o+l.length then l[i-o]? else cur[i]? := by
 have ht:(cur.toList.take o).length=o:=by simp; omega
 simp only [List.getElem?_toArray]
 by_cases h1:i<o
 ·rw [List.append_assoc,List.getElem?_append_left (by omega),if_neg (by omega),List.getElem?_take_of_lt h1,Array.getElem?_toList]
 ·by_cases h2:i<o+l.length
  ·rw [List.getElem?_append_left (by simp; omega),List.getElem?_append_right (by omega),if_pos (by omega),ht]
  ·rw [List.getElem?_append_right (by simp; omega),if_neg (by omega),List.getElem?_drop,Array.getElem?_toList]
   congr 1
   simp
   omega
theorem Dy (cur:Array Value) (l:List Value) (o:Nat) (h:o+l.length≤cur.size):
  (cur.toList.take o++l++cur.toList.drop (o+l.length)).toArray.size=cur.size:=by
 simp; omega
theorem Kh {t:TypeId} {i:TypeInfo} {g k:Nat} {cur:Array Value} {E:TypeId} {val:Value} (hi:P.info? t=some i) (hs:val.cells.size=i.size)
  (hg:w.heap[g]? = some (.cells cur E (0,0))) (hf:k+val.cells.size≤cur.size) (h1:∀v∈val.cells.toList,v.oneCell'=true):
  (Instr.storeAt t (.pointer (some ⟨g,k,none⟩)) val).run P w = .ok () (w.setRow g (cur.toList.take k++val.cells.toList++cur.toList.drop (k+val.cells.toList.length)).toArray):=by
 have hst:=run_storeCells_at P g k E val.cells.toList 0 cur w hg (by simpa using hf) h1
 simp only [Nat.add_zero] at hst
 simp [Instr.storeAt,Instr.sureAddr,storeVar,sizeOf,typeInfo,hi,hs,hst]
theorem Sq.ones {cs:List V} {arr:Array Value} (h:Sq φ m w cs arr):∀v∈arr.toList,v.oneCell'=true:=by
 intro v hv
 obtain ⟨i,hi⟩:=List.getElem?_of_mem hv
 have hlt:i<cs.length:=by
  have:=(List.getElem?_eq_some_iff.1 hi).1
  simp only [Array.length_toList,h.1] at this
  exact this
 exact (h.2 i cs[i] v (List.getElem?_eq_getElem hlt) (by simpa using hi)).2
theorem Gu {t off sz:Nat} {es:List (List V)}:∀ {l:List V},V.own t off sz es∈l→t∈Bj l
 | c::r,h=>by
  cases h with
  | head=>simp [Bj]
  | tail _ h=>
   have:=Gu h
   cases c<;>simp [Bj,this]
theorem Ij {v:V} (hm:∀b x,v ≠ .may b x) (hu:As v=false):v.flat=v.cells:=by
 cases v with
 | may b x=>exact absurd rfl (hm b x)
 | tup vs=>simp [As] at hu
 | _=>rfl
theorem Uc {x v:Ay} {n t k:Nat} {bs:List V} (hc:Hv P φ o=some (.store x v n)) (hd:∀d,o.dst=some d→d<nt) (h:Aw φ w0 A nt m S a w)
  (hm1:Af true (S.val x)) (hm2:Af true (S.val v)) (hu:As (Ab (S.val v))=false) (hn:(Ab (S.val v)).cells.length=n)
  (hx:Ab (S.val x) = .ptr t k) (hb:look S.bx t=some bs) (hk:k+n≤bs.length)
  (hK:K ((S.setBx t (Bo bs k (Ab (S.val v)).cells)).put o.dst .undef)):o.wp P a w (Nx φ w0 A nt K) Q:=by
 obtain ⟨ty,x',v',i,hop,h1,h2,h3,h4⟩:=Bw hc
 have hxv:RT φ m w (.ptr t k) (a.eval x'):=by rw [←hx]; exact opd'_ok h1 h hm1 rfl
 have hv:RT φ m w (Ca S v) (a.eval v'):=Gh h2 h hm2 rfl
 have hcs:=RT.cells hv hu
 obtain ⟨β,hβ,ex⟩:=Nh hxv
 obtain ⟨β',cur,E,g1,g2,g3⟩:=h.bx t bs hb
 rw [hβ] at g1
 obtain rfl:=Option.some.inj g1
 have hcur:bs.length≤cur.size:=by
  rcases Nat.eq_zero_or_pos bs.length with e | hp
  ·omega
  ·obtain ⟨y,hy,_⟩:=g3 (bs.length-1) (bs[bs.length-1]'(by omega)) (List.getElem?_eq_getElem (by omega))
   have:=(Array.getElem?_eq_some_iff.1 hy).1
   omega
 have hsz:(a.eval v').cells.size=n:=by rw [hcs.1]; exact hn
 have hlen:(a.eval v').cells.toList.length=n:=by simpa using hsz
 have hrun:=Kh (P:=P) (w:=w) h3 (by rw [hsz,h4]) g2 (k:=k) (by omega) hcs.ones
 refine wp_skip' (w':=w.setRow β (cur.toList.take k++(a.eval v').cells.toList++cur.toList.drop (k+(a.eval v').cells.toList.length)).toArray) ?_
  ⟨m,_,hK,Aw.put (h.boxWrite hβ g2 _ _ (by rw [Dy _ _ _ (by rw [hlen]; omega)]) fun j c hj=>?_) hd Cy⟩
 ·simp only [execOp,hop,ex,Sem.run_bind,hrun,Result.andThen_ok,Sem.run_pure]
 ·rw [Cl _ _ _ _ (by rw [hn]; exact hk)] at hj
  rw [Cq _ _ _ _ (by rw [hlen]; omega),hlen]
  rw [hn] at hj
  split at hj
  ·rename_i hc
   simp only [hc,and_self,if_true]
   have hlt:j-k<(a.eval v').cells.size:=by omega
   have hg:(a.eval v').cells[j-k]? = some (a.eval v').cells[j-k]:=Array.getElem?_eq_getElem hlt
   exact ⟨_,by simpa using hg,hcs.2 _ c _ hj hg⟩
  ·rename_i hc
   simp only [hc,if_false]
   exact g3 j c hj
theorem Zb {m m':M} {l:List Nat} (h7:NF m m' l) (hA:m'.A=m.A) (h3:∀t,m'.blk true t=m.blk true t) (h5:∀t b,m'.blk false t=some b→m.blk false t=some b):
  ∀b,¬m.avoid b→¬m'.avoid b:=fun b ha=>by
 rintro (hh | ⟨k,t,hb⟩ | ⟨t,j,c,hb⟩)
 ·exact ha (.inl (hA ▸ hh))
 ·cases k
  ·exact ha (.inr (.inl ⟨false,t,h5 t b hb⟩))
  ·exact ha (.inr (.inl ⟨true,t,by rw [←h3]; exact hb⟩))
 ·exact ha (.inr (.inr ⟨t,j,c,(h7.sub _ _ _ _ hb).1⟩))
theorem RC.reavoid {c:V} {val:Value} (h3:∀b,¬m.avoid b→¬m'.avoid b) (h:RD φ w m.avoid c val):RD φ w m'.avoid c val:=
 h.mono (Nat.le_refl _) (fun _ _ _=>rfl) (fun b _ hb=>h3 b hb)
theorem Rr {x v:Ay} {n t sz j k off:Nat} {es:List (List V)} (hc:Hv P φ o=some (.store x v n)) (hd:∀d,o.dst=some d→d<nt) (h:Aw φ w0 A nt m S a w)
  (hm1:Af true (S.val x)) (hm2:Af true (S.val v)) (hu:As (Ab (S.val v))=false) (hn:(Ab (S.val v)).cells.length=n)
  (hx:Ab (S.val x) = .optr t sz j k) (hb:S.find t=some (off,es)) (q1:off≤j) (q2:j<off+es.length) (q3:k+n≤sz) (q4:(es.getD (j-off) []).length=sz)
  (hdp:Az t=false) (q5:(Ab (S.val v)).cells.all (fun c => !He c)=true) (q6:(Ab (S.val v)).tags.all (· != t)=true)
  (hK:K (((S.freezes (Ab (S.val v)).tags).map (Tz t sz j [Bo (es.getD (j-off) []) k ((Ab (S.val v)).cells.map Cj)])).put o.dst .undef)):o.wp P a w (Nx φ w0 A nt K) Q:=by
 obtain ⟨ty,x',v',i,hop,h1,h2,h3,h4⟩:=Bw hc
 have hxv:RT φ m w (.optr t sz j k) (a.eval x'):=by rw [←hx]; exact opd'_ok h1 h hm1 rfl
 have hv:RT φ m w (Ca S v) (a.eval v'):=Gh h2 h hm2 rfl
 have hcs:=RT.cells hv hu
 obtain ⟨β,hβ,ex⟩:=Md hxv
 obtain ⟨s',hsz0,val0,hro⟩:=h.find hb
 rcases hro with ⟨_,rfl,_⟩ | ⟨_,rfl,_⟩ | ⟨b,cap,cur,E,g1,g2,g3,g4,g5,g6,g7,g8,g9⟩ | ⟨_,_,_,_,_,g1,_⟩
 ·simp at q2; omega
 ·simp at q2; omega
 rotate_left
 ·exact absurd g1 hsz0
 rw [hβ] at g1
 obtain rfl:=Option.some.inj g1
 have he:es[j-off]? = some (es.getD (j-off) []):=by
  rw [List.getD_eq_getElem?_getD,List.getElem?_eq_getElem (by omega)]; rfl
 have hs':s'=sz:=by rw [←g8 _ (List.mem_of_getElem? he),q4]
 subst hs'
 obtain ⟨m',r1,r2,r3,r4,r5,r6,r7⟩:=h.freezes (Ca S v).tags
 have hnt:t∉(Ca S v).tags:=fun hh=>by
  have:=List.all_eq_true.1 q6 t hh
  simp at this
 have hβ':m'.blk false t=some β:=by rw [r6 t hnt]; exact hβ
 have hsz:(a.eval v').cells.size=n:=by rw [hcs.1]; exact hn
 have hlen:(a.eval v').cells.toList.length=n:=by simpa using hsz
 have hfit:j*s'+k+n≤cur.size:=by
  rw [←g5]
  have e1:(j+1)*s'≤(off+cap)*s':=Nat.mul_le_mul_right _ (by omega)
  rw [Nat.add_mul,Nat.one_mul] at e1
  omega
 have hrun:=Kh (P:=P) (w:=w) h3 (by rw [hsz,h4]) g3 (k:=j*s'+k) (by omega) hcs.ones
 have hwr:=Cq cur (a.eval v').cells.toList (j*s'+k)
 rw [hlen] at hwr
 have hsub:=Zb r7 r2 r3 r5
 generalize hcur':(cur.toList.take (j*s'+k)++(a.eval v').cells.toList++cur.toList.drop (j*s'+k+n)).toArray=cur' at hwr
 have hsz':cur'.size=cur.size:=by
  rw [←hcur',←hlen]
  exact Dy cur _ _ (by omega)
 rw [hlen,hcur'] at hrun
 have hcl:((Ca S v).cells.map Cj).length=n:=by simpa using hn
 refine wp_skip' (w':=w.setRow β cur') ?_ ⟨m',_,hK,Aw.put (r1.rowWrite hβ' g3 s' j [Bo (es.getD (j-off) []) k ((Ca S v).cells.map Cj)] ((List.range s').map fun q=>(cur'[j*s'+q]?).getD undef) cur' g7.1 (fun y hy=>?_) ?_ (fun jj e kk c k1 k2=>?_) hdp) hd Cy⟩
 ·simp only [execOp,hop,ex,Sem.run_bind,hrun,Result.andThen_ok,Sem.run_pure]
 ·simp only [List.mem_singleton] at hy
  subst hy
  rw [Cm,q4]
 ·refine ⟨hsz',fun jj kk hkk=>?_⟩
  simp only [List.length_singleton]
  by_cases ej:j≤jj∧jj<j+1
  ·have:jj=j:=by omega
   subst this
   have hin:jj*s'+kk<cur'.size:=by
    rw [hsz',←g5]
    have e1:(jj+1)*s'≤(off+cap)*s':=Nat.mul_le_mul_right _ (by omega)
    rw [Nat.add_mul,Nat.one_mul] at e1
    omega
   rw [if_pos ej]
   simp only [Nat.sub_self,Nat.zero_mul,Nat.zero_add]
   rw [List.getElem?_map,List.getElem?_range hkk]
   simp [Array.getElem?_eq_getElem hin]
  ·rw [if_neg ej,hwr _ (by omega)]
   have hno:¬(j*s'+k≤jj*s'+kk∧jj*s'+kk<j*s'+k+n):=by
    rintro ⟨u1,u2⟩
    rcases Nat.lt_or_ge jj j with h5 | h5
    ·have:(jj+1)*s'≤j*s':=Nat.mul_le_mul_right _ h5
     rw [Nat.add_mul,Nat.one_mul] at this
     omega
    ·have:(j+1)*s'≤jj*s':=Nat.mul_le_mul_right _ (by omega)
     rw [Nat.add_mul,Nat.one_mul] at this
     omega
   rw [if_neg hno]
 ·cases jj with
  | succ jj=>simp at k1
  | zero=>
   simp only [List.getElem?_cons_zero,Option.some.injEq] at k1
   subst k1
   have hkk:kk<s':=by
    have:=(List.getElem?_eq_some_iff.1 k2).1
    rw [Cm,q4] at this
    exact this
   rw [Cl _ _ _ _ (by rw [hcl,q4]; exact q3),hcl] at k2
   simp only [Nat.zero_mul,Nat.zero_add]
   rw [List.getElem?_map,List.getElem?_range hkk]
   simp only [Option.map_some]
   rw [hwr _ (by omega)]
   split at k2
   ·rename_i hcnd
    have hlt:kk-k<(a.eval v').cells.size:=by omega
    have hg:(a.eval v').cells[kk-k]? = some (a.eval v').cells[kk-k]:=Array.getElem?_eq_getElem hlt
    rw [if_pos (by omega)]
    have e2:j*s'+kk-(j*s'+k)=kk-k:=by omega
    rw [e2,Array.getElem?_toList,hg]
    simp only [List.getElem?_map,Option.map_eq_some_iff] at k2
    obtain ⟨c0,k3,rfl⟩:=k2
    have hr:=hcs.2 _ c0 _ k3 hg
    have hnp:He c0=false:=by simpa using List.all_eq_true.1 q5 c0 (List.mem_of_getElem? k3)
    refine ⟨_,rfl,hr.2,RC.closeFrz h r2 r3 r4 r5 r7 hr.1 hnp fun t' off' sz' es' e3=>?_⟩
    have:c0∈(Ca S v).flat:=by
     rw [Ij (Bt hv) hu]; exact List.mem_of_getElem? k3
    exact Gu (e3 ▸ this)
   ·rename_i hcnd
    rw [if_neg (by omega)]
    obtain ⟨x,k3,k4,k5⟩:=g9 (j-off) _ kk c he k2
    have e3:off+(j-off)=j:=by omega
    rw [e3] at k3
    rw [k3]
    exact ⟨x,rfl,k4,RC.reavoid hsub (k5.rd hdp)⟩
theorem Rq {x v:Ay} {n t sz j k off:Nat} {es:List (List V)} (hc:Hv P φ o=some (.store x v n)) (hd:∀d,o.dst=some d→d<nt) (h:Aw φ w0 A nt m S a w)
  (hm1:Af true (S.val x)) (hm2:Af true (S.val v)) (hu:As (Ab (S.val v))=false) (hn:(Ab (S.val v)).cells.length=n)
  (hx:Ab (S.val x) = .optr t sz j k) (hb:S.find t=some (off,es)) (q1:off≤j) (q2:j<off+es.length) (q3:k+n≤sz) (q4:(es.getD (j-off) []).length=sz)
  (hdp:Az t=true) (q5:(Ab (S.val v)).cells.all (fun c=>scal c || (decide (t<Au)&&Zz c))=true) (q6:Bn (Ab (S.val v)).tags=true)
  (hK:K (((S.drops (Ab (S.val v)).tags).map (Vu t sz j [Bo (es.getD (j-off) []) k ((Ab (S.val v)).cells.map Cj)])).put o.dst .undef)):o.wp P a w (Nx φ w0 A nt K) Q:=by
 obtain ⟨ty,x',v',i,hop,h1,h2,h3,h4⟩:=Bw hc
 have hxv:RT φ m w (.optr t sz j k) (a.eval x'):=by rw [←hx]; exact opd'_ok h1 h hm1 rfl
 have hv:RT φ m w (Ca S v) (a.eval v'):=Gh h2 h hm2 rfl
 have hcs:=RT.cells hv hu
 obtain ⟨β,hβ,ex⟩:=Md hxv
 obtain ⟨s',hsz0,val0,hro⟩:=h.find hb
 rcases hro with ⟨_,rfl,_⟩ | ⟨_,rfl,_⟩ | ⟨b,cap,cur,E,g1,g2,g3,g4,g5,g6,g7,g8,g9⟩ | ⟨_,_,_,_,_,g1,_⟩
 ·simp at q2; omega
 ·simp at q2; omega
 rotate_left
 ·exact absurd g1 hsz0
 rw [hβ] at g1
 obtain rfl:=Option.some.inj g1
 have he:es[j-off]? = some (es.getD (j-off) []):=by
  rw [List.getD_eq_getElem?_getD,List.getElem?_eq_getElem (by omega)]; rfl
 have hs':s'=sz:=by rw [←g8 _ (List.mem_of_getElem? he),q4]
 subst hs'
 have hfl:(Ca S v).flat=(Ca S v).cells:=Ij (Bt hv) hu
 have htg:(Ab (S.val v)).tags=Bj (Ca S v).cells:=by
  show Bj (Ca S v).flat=_
  rw [hfl]
 rw [htg] at q6 hK
 have hsz:(a.eval v').cells.size=n:=by rw [hcs.1]; exact hn
 have hlen:(a.eval v').cells.toList.length=n:=by simpa using hsz
 have hfit:j*s'+k+n≤cur.size:=by
  rw [←g5]
  have e1:(j+1)*s'≤(off+cap)*s':=Nat.mul_le_mul_right _ (by omega)
  rw [Nat.add_mul,Nat.one_mul] at e1
  omega
 have hrun:=Kh (P:=P) (w:=w) h3 (by rw [hsz,h4]) g3 (k:=j*s'+k) (by omega) hcs.ones
 have hwr:=Cq cur (a.eval v').cells.toList (j*s'+k)
 rw [hlen] at hwr
 generalize hcur':(cur.toList.take (j*s'+k)++(a.eval v').cells.toList++cur.toList.drop (j*s'+k+n)).toArray=cur' at hwr
 have hsz':cur'.size=cur.size:=by
  rw [←hcur',←hlen]
  exact Dy cur _ _ (by omega)
 rw [hlen,hcur'] at hrun
 have hcl:((Ca S v).cells.map Cj).length=n:=by simpa using hn
 have hones:∀(i:Nat) (v:Value),cur'[i]? = some v→v.oneCell'=true:=by
  intro i u hi
  rw [hwr _ (by omega)] at hi
  split at hi
  ·exact hcs.ones u (List.mem_of_getElem? hi)
  ·exact g7.2 _ _ hi
 have own:∀t'∈Bj (Ca S v).cells,t'<Au∧t'≠t∧t<Au:=by
  intro t' ht'
  have:∃c∈(Ca S v).cells,∃off sz es,c = .own t' off sz es:=by
   have key:∀l:List V,t'∈Bj l→∃c∈l,∃off sz es,c = .own t' off sz es:=by
    intro l
    induction l with
    | nil=>intro h; cases h
    | cons y r ih=>
     intro h
     cases y with
     | own t2 o2 s2 e2=>
      simp only [Bj,List.mem_cons] at h
      rcases h with rfl | h
      ·exact ⟨_,List.mem_cons_self,_,_,_,rfl⟩
      ·obtain ⟨c,h1,h2⟩:=ih h
       exact ⟨c,List.mem_cons_of_mem _ h1,h2⟩
     | _=>
      obtain ⟨c,h1,h2⟩:=ih h
      exact ⟨c,List.mem_cons_of_mem _ h1,h2⟩
   exact key _ ht'
  obtain ⟨c,hm,o2,s2,e2,rfl⟩:=this
  have:=List.all_eq_true.1 q5 _ hm
  simp only [scal,Bool.false_or,Bool.and_eq_true,decide_eq_true_eq] at this
  obtain ⟨t2,s3,e3,e4,_,h5,h6,_⟩:=Sm this.2
  cases e4
  exact ⟨h5,(fun e=>by rw [e,hdp] at h6; cases h6),this.1⟩
 have hdist:∀b t',t'∈Bj (Ca S v).cells→m.blk false t'=some b→(w.setRow β cur').heap[b]? = w.heap[b]? := fun b t' ht' hb'=>Bp cur' b fun e=>by
  subst e
  obtain ⟨_,e⟩:=h.inj _ _ _ _ _ hb' hβ
  exact (own t' ht').2.1 e
 have K0:=h.rowKeep hβ cur'
 refine wp_skip' (w':=w.setRow β cur') ?_ ⟨m.nest t j k (Ca S v).cells,_,hK,Aw.put (h.nestRow (cur':=cur') hβ g3 (w.setRow β cur') (by simp) (fun b _ hb=>Bp cur' b hb) (Gv cur' g3) hones
  (h.lies.setRow (h.bnd _ _ _ hβ).2.1 g3 hsz') g7.1 (by rw [Cm,q4]) hsz' (fun J q hq hJ=>?_) (fun q c hqc=>?_) (fun t' ht'=>⟨(own t' ht').1,(own t' ht').2.1⟩) ?_ q6) hd Cy⟩
 ·simp only [execOp,hop,ex,Sem.run_bind,hrun,Result.andThen_ok,Sem.run_pure]
 ·rw [hwr _ (by omega)]
  have hno:¬(j*s'+k≤J*s'+q∧J*s'+q<j*s'+k+n):=by
   rintro ⟨u1,u2⟩
   rcases Nat.lt_or_ge J j with h5 | h5
   ·have:(J+1)*s'≤j*s':=Nat.mul_le_mul_right _ h5
    rw [Nat.add_mul,Nat.one_mul] at this
    omega
   ·have:(j+1)*s'≤J*s':=Nat.mul_le_mul_right _ (by omega)
    rw [Nat.add_mul,Nat.one_mul] at this
    omega
  rw [if_neg hno]
 ·have hkk:q<s':=by
   have:=(List.getElem?_eq_some_iff.1 hqc).1
   rw [Cm,q4] at this
   exact this
  rw [Cl _ _ _ _ (by rw [hcl,q4]; exact q3),hcl] at hqc
  rw [hwr _ (by omega)]
  split at hqc
  ·rename_i hcnd
   have hlt:q-k<(a.eval v').cells.size:=by omega
   have hg:(a.eval v').cells[q-k]? = some (a.eval v').cells[q-k]:=Array.getElem?_eq_getElem hlt
   rw [if_pos (by omega)]
   have e2:j*s'+q-(j*s'+k)=q-k:=by omega
   rw [e2,Array.getElem?_toList,hg]
   simp only [List.getElem?_map,Option.map_eq_some_iff] at hqc
   obtain ⟨c0,k3,rfl⟩:=hqc
   have hr:=hcs.2 _ c0 _ k3 hg
   have hcc:(scal c0 || Zz c0)=true:=by
    have:=List.all_eq_true.1 q5 c0 (List.mem_of_getElem? k3)
    simp only [Bool.or_eq_true,Bool.and_eq_true] at this ⊢
    exact this.imp id (·.2)
   have:=RE.take (T:=t) (J:=j) (k:=k) (w':=w.setRow β cur') hdp k3 hcc hr.1 hr.2 (fun b t' h1 h2=>hdist b t' h1 h2)
   rw [show k+(q-k)=q by omega] at this
   exact ⟨_,rfl,hr.2,this⟩
  ·rename_i hcnd
   rw [if_neg (by omega)]
   obtain ⟨x,k3,k4,k5⟩:=g9 (j-off) _ q c he hqc
   have e3:off+(j-off)=j:=by omega
   rw [e3] at k3 k5
   rw [k3]
   refine ⟨x,rfl,k4,?_⟩
   have hct:Ei (Ca S v).cells k q=none:=by
    cases hct:Ei (Ca S v).cells k q with
    | none=>rfl
    | some t'=>
     obtain ⟨u1,_,_,_,u2⟩:=Hn hct
     have:=(List.getElem?_eq_some_iff.1 u2).1
     have hn':(Ca S v).cells.length=n:=hn
     omega
   rcases k5 with ⟨k5,k6⟩ | ⟨k5,s,e,k6,k7⟩
   ·exact .inl ⟨(K0.rd k5).mono (Nat.le_refl _) (fun _ _ _=>rfl) (fun b _ hb hh=>hb (Qq hh)),k6⟩
   ·refine .inr ⟨k5,s,e,k6,?_⟩
    rw [Sk hct]
    exact k7.mono fun b hb=>⟨hb,Bp cur' b fun e=>by subst e; exact h.n.dis _ _ _ _ _ _ hb hβ⟩
 ·cases ht:Bj (Ca S v).cells with
  | nil=>exact .inl rfl
  | cons y r=>exact .inr (own y (by rw [ht]; exact List.mem_cons_self)).2.2
theorem eU {x v:Ay} {n:Nat} (hc:Hv P φ o=some (.store x v n)) (hd:∀d,o.dst=some d→d<nt) (h:Aw φ w0 A nt m S a w)
  (hw:Nb C o.dst (.store x v n) S K):o.wp P a w (Nx φ w0 A nt K) Q:=by
 obtain ⟨hm1,hm2,hw⟩:=hw
 dsimp only at hw
 obtain ⟨hu,hn,hw⟩:=hw
 split at hw
 ·rename_i t k hx
  split at hw
  ·rename_i bs hb
   exact Uc hc hd h hm1 hm2 hu hn hx hb hw.1 hw.2
  ·exact hw.elim
 ·rename_i t sz j k hx
  split at hw
  ·rename_i off es hb
   obtain ⟨q1,q2,q3,q4,⟨q0,q5,q6,hK⟩ | ⟨q0,q5,q6,hK⟩⟩:=hw
   ·exact Rr hc hd h hm1 hm2 hu hn hx hb q1 q2 q3 q4 q0 q5 q6 hK
   ·exact Rq hc hd h hm1 hm2 hu hn hx hb q1 q2 q3 q4 q0 q5 q6 hK
  ·exact hw.elim
 ·exact hw.elim
end Go.Ev
