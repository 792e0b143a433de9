/- New boxes, nil lists, stores. -/
import Derived.Test.YtfpbbpkdjmldkaaGreatQvU
import Derived.Laws.CopyRow
set_option linter.all false
namespace Go.Ev
open Go.RowKit
variable {φ:Fa} {m m':M} {w w' w0:World} {A:Fr} {nt:Nat} {S S':St} {a:Act} {P:Program}
variable {o:Oper} {K:St→Prop} {Q:Exit→Act→World→Prop} {C:Ba}
theorem Xs {d:Nat}:∀(ts:List TypeId) (vs:List Value) (k:Nat) (zs:List V),zeroCells P (some d) ts vs k=some zs→∀c∈zs,Jh (64*d) c=true
 | [],[],_,zs,h=>by
  simp only [zeroCells,Option.some.injEq] at h
  subst h; simp
 | t::ts,v::vs,k,zs,h=>by
  simp only [zeroCells] at h
  split at h
  ·rename_i r hr
   cases h
   intro c hc
   cases hc with
   | tail _ hc=>exact Xs ts vs (k+1) r hr c hc
   | head=>
    unfold Xr
    split
    ·rfl
    ·rfl
    ·rfl
    ·split
     ·simp [Jh,Kk]; omega
     ·rfl
    ·rfl
  ·cases h
 | [],_::_,_,_,h=>by simp [zeroCells] at h
 | _::_,[],_,_,h=>by simp [zeroCells] at h
theorem yU {d:Nat} {t:TypeId} {zs:List V} (h:Fn P (some d) t=some zs):∀c∈zs,Jh (64*d) c=true:=by
 unfold Fn at h
 split at h
 ·split at h
  ·split at h
   ·exact Xs _ _ _ _ h
   ·cases h
  ·cases h
 ·cases h
theorem MO {z:List V} (hc:Nz P φ o=some (.alloc z)) (hd:∀d,o.dst=some d→d<nt) (h:Da φ w0 A nt m S a w)
  (hw:Xo C o.dst (.alloc z) S K):o.wp P a w (Nx φ w0 A nt K) Q:=by
 obtain ⟨t,hop,h1⟩:=Em hc
 cases hdst:o.dst with
 | none=>rw [hdst] at hw; exact hw.elim
 | some d=>
  rw [hdst] at hw h1
  obtain ⟨i,zv,hi,hz,hcs⟩:=Jb (φ:=φ) (m:=m) (w:=w) h1
  have hnew:=h.newBox (64*d) (h.tagLt hd hdst) z zv.cells t (fun j c hj=>by
   have hlt:j<zv.cells.size:=by rw [hcs.1]; exact (List.getElem?_eq_some_iff.1 hj).1
   have hg:zv.cells[j]? = some zv.cells[j]:=Array.getElem?_eq_getElem hlt
   exact ⟨yU h1 c (List.mem_of_getElem? hj),_,hg,hcs.2 j c _ hj hg⟩)
  refine Ey (w':=w.alloc (.cells zv.cells t)) (val:=.pointer (some ⟨w.heap.size,0,none⟩)) ?_ ⟨m.set true (64*d) (some w.heap.size),_,hw,?_⟩
  ·simp [execOp,hop,Instr.alloc,newVar,newRow,zeroValue,typeInfo,hi,hz]
  ·rw [←hdst]
   exact hnew.put hd (v:=.ptr (64*d) 0) ⟨⟨w.heap.size,Ew _ _ _,rfl⟩,fun _=>rfl⟩
theorem wp_nilS {sz:Nat} (hc:Nz P φ o=some (.nilS sz)) (hd:∀d,o.dst=some d→d<nt) (h:Da φ w0 A nt m S a w)
  (hw:Xo C o.dst (.nilS sz) S K):o.wp P a w (Nx φ w0 A nt K) Q:=by
 obtain ⟨x',hop,h1⟩:=Em hc
 cases hdst:o.dst with
 | none=>rw [hdst] at hw; exact hw.elim
 | some d=>
  rw [hdst] at hw
  refine Ey (w':=w) (val:=.slice none 0 0) ?_ ⟨m,_,hw,?_⟩
  ·subst h1
   rcases hop with hop | hop<;>simp [execOp,hop,Act.eval]
  ·rw [←hdst]
   exact (h.drop _).put hd (v:=.own (64*d) 0 sz []) ⟨.inl ⟨rfl,rfl,rfl⟩,fun _=>rfl⟩
theorem Gn (cur:Array Value) (l:List Value) (o i:Nat) (h:o+l.length≤cur.size):
  (cur.toList.take o++l++cur.toList.drop (o+l.length)).toArray[i]? = if o≤i∧i<o+l.length then l[i-o]? else cur[i]? := by
 have ht:(cur.toList.take o).length=o:=by simp; omega
 simp only [List.getElem?_toArray]
 by_cases h1:i<o
 ·rw [List.append_assoc,List.getElem?_append_left (by omega),if_neg (by omega),List.getElem?_take_of_lt h1,Array.getElem?_toList]
 ·by_cases h2:i<o+l.length
  ·rw [List.getElem?_append_left (by simp; omega),List.getElem?_append_right (by omega),if_pos (by omega),ht]
  ·rw [List.getElem?_append_right (by simp; omega),if_neg (by omega),List.getElem?_drop,Array.getElem?_toList]
   congr 1
   simp
   omega
theorem Js (cur:Array Value) (l:List Value) (o:Nat) (h:o+l.length≤cur.size):
  (cur.toList.take o++l++cur.toList.drop (o+l.length)).toArray.size=cur.size:=by
 simp; omega
theorem aB {t:TypeId} {i:TypeInfo} {g k:Nat} {cur:Array Value} {E:TypeId} {val:Value} (hi:P.info? t=some i) (hs:val.cells.size=i.size)
  (hg:w.heap[g]? = some (.cells cur E (0,0))) (hf:k+val.cells.size≤cur.size) (h1:∀v∈val.cells.toList,v.oneCell'=true):
  (Instr.storeAt t (.pointer (some ⟨g,k,none⟩)) val).run P w = .ok () (w.setRow g (cur.toList.take k++val.cells.toList++cur.toList.drop (k+val.cells.toList.length)).toArray):=by
 have hst:=run_storeCells_at P g k E val.cells.toList 0 cur w hg (by simpa using hf) h1
 simp only [Nat.add_zero] at hst
 simp [Instr.storeAt,Instr.sureAddr,storeVar,sizeOf,typeInfo,hi,hs,hst]
theorem iR.ones {cs:List V} {arr:Array Value} (h:iR φ m w cs arr):∀v∈arr.toList,v.oneCell'=true:=by
 intro v hv
 obtain ⟨i,hi⟩:=List.getElem?_of_mem hv
 have hlt:i<cs.length:=by
  have:=(List.getElem?_eq_some_iff.1 hi).1
  simp only [Array.length_toList,h.1] at this
  exact this
 exact (h.2 i cs[i] v (List.getElem?_eq_getElem hlt) (by simpa using hi)).2
theorem Lo {t off sz:Nat} {es:List (List V)}:∀ {l:List V},V.own t off sz es∈l→t∈Ii l
 | c::r,h=>by
  cases h with
  | head=>simp [Ii]
  | tail _ h=>
   have:=Lo h
   cases c<;>simp [Ii,this]
theorem Ur {v:V} (hm:∀b x,v ≠ .may b x) (hu:Cq v=false):v.flat=v.cells:=by
 cases v with
 | may b x=>exact absurd rfl (hm b x)
 | tup vs=>simp [Cq] at hu
 | _=>rfl
theorem lK {x v:Cu} {n t k:Nat} {bs:List V} (hc:Nz P φ o=some (.store x v n)) (hd:∀d,o.dst=some d→d<nt) (h:Da φ w0 A nt m S a w)
  (hm1:Bc true (S.val x)) (hm2:Bc true (S.val v)) (hu:Cq (An (S.val v))=false) (hn:(An (S.val v)).cells.length=n)
  (hx:An (S.val x) = .ptr t k) (hb:look S.bx t=some bs) (hk:k+n≤bs.length)
  (hK:K ((S.setBx t (putCells bs k (An (S.val v)).cells)).put o.dst .undef)):o.wp P a w (Nx φ w0 A nt K) Q:=by
 obtain ⟨ty,x',v',i,hop,h1,h2,h3,h4⟩:=Em hc
 have hxv:RT φ m w (.ptr t k) (a.eval x'):=by rw [←hx]; exact opd'_ok h1 h hm1 rfl
 have hv:RT φ m w (Fq S v) (a.eval v'):=Mk h2 h hm2 rfl
 have hcs:=RT.cells hv hu
 obtain ⟨β,hβ,ex⟩:=bR hxv
 obtain ⟨β',cur,E,g1,g2,g3⟩:=h.bx t bs hb
 rw [hβ] at g1
 obtain rfl:=Option.some.inj g1
 have hcur:bs.length≤cur.size:=by
  rcases Nat.eq_zero_or_pos bs.length with e | hp
  ·omega
  ·obtain ⟨y,hy,_⟩:=g3 (bs.length-1) (bs[bs.length-1]'(by omega)) (List.getElem?_eq_getElem (by omega))
   have:=(Array.getElem?_eq_some_iff.1 hy).1
   omega
 have hsz:(a.eval v').cells.size=n:=by rw [hcs.1]; exact hn
 have hlen:(a.eval v').cells.toList.length=n:=by simpa using hsz
 have hrun:=aB (P:=P) (w:=w) h3 (by rw [hsz,h4]) g2 (k:=k) (by omega) hcs.ones
 refine wp_skip' (w':=w.setRow β (cur.toList.take k++(a.eval v').cells.toList++cur.toList.drop (k+(a.eval v').cells.toList.length)).toArray) ?_
  ⟨m,_,hK,Da.put (h.boxWrite hβ g2 _ _ (by rw [Js _ _ _ (by rw [hlen]; omega)]) fun j c hj=>?_) hd Hk⟩
 ·simp only [execOp,hop,ex,Sem.run_bind,hrun,Result.andThen_ok,Sem.run_pure]
 ·rw [Gb _ _ _ _ (by rw [hn]; exact hk)] at hj
  rw [Gn _ _ _ _ (by rw [hlen]; omega),hlen]
  rw [hn] at hj
  split at hj
  ·rename_i hc
   simp only [hc,and_self,if_true]
   have hlt:j-k<(a.eval v').cells.size:=by omega
   have hg:(a.eval v').cells[j-k]? = some (a.eval v').cells[j-k]:=Array.getElem?_eq_getElem hlt
   exact ⟨_,by simpa using hg,hcs.2 _ c _ hj hg⟩
  ·rename_i hc
   simp only [hc,if_false]
   exact g3 j c hj
theorem vU {m m':M} (hA:m'.A=m.A) (h3:∀t,m'.blk true t=m.blk true t) (h5:∀t b,m'.blk false t=some b→m.blk false t=some b):
  ∀b,¬m.avoid b→¬m'.avoid b:=fun b ha=>by
 rintro (hh | ⟨k,t,hb⟩)
 ·exact ha (.inl (hA ▸ hh))
 ·cases k
  ·exact ha (.inr ⟨false,t,h5 t b hb⟩)
  ·exact ha (.inr ⟨true,t,by rw [←h3]; exact hb⟩)
theorem RC.reavoid {c:V} {val:Value} (h3:∀b,¬m.avoid b→¬m'.avoid b) (h:RD φ w m.avoid c val):RD φ w m'.avoid c val:=
 h.mono (Nat.le_refl _) (fun _ _ _=>rfl) (fun b _ hb=>h3 b hb)
theorem fY {x v:Cu} {n t sz j k off:Nat} {es:List (List V)} (hc:Nz P φ o=some (.store x v n)) (hd:∀d,o.dst=some d→d<nt) (h:Da φ w0 A nt m S a w)
  (hm1:Bc true (S.val x)) (hm2:Bc true (S.val v)) (hu:Cq (An (S.val v))=false) (hn:(An (S.val v)).cells.length=n)
  (hx:An (S.val x) = .optr t sz j k) (hb:S.find t=some (off,es)) (q1:off≤j) (q2:j<off+es.length) (q3:k+n≤sz) (q4:(es.getD (j-off) []).length=sz)
  (q5:(An (S.val v)).cells.all (fun c => !Lc c)=true) (q6:(An (S.val v)).tags.all (· != t)=true)
  (hK:K (((S.freezes (An (S.val v)).tags).map (lH t sz j [putCells (es.getD (j-off) []) k ((An (S.val v)).cells.map Ga)])).put o.dst .undef)):o.wp P a w (Nx φ w0 A nt K) Q:=by
 obtain ⟨ty,x',v',i,hop,h1,h2,h3,h4⟩:=Em hc
 have hxv:RT φ m w (.optr t sz j k) (a.eval x'):=by rw [←hx]; exact opd'_ok h1 h hm1 rfl
 have hv:RT φ m w (Fq S v) (a.eval v'):=Mk h2 h hm2 rfl
 have hcs:=RT.cells hv hu
 obtain ⟨β,hβ,ex⟩:=aK hxv
 obtain ⟨s',hsz0,val0,hro⟩:=h.find hb
 rcases hro with ⟨_,rfl,_⟩ | ⟨_,rfl,_⟩ | ⟨b,cap,cur,E,g1,g2,g3,g4,g5,g6,g7,g8,g9⟩ | ⟨_,_,_,_,_,g1,_⟩
 ·simp at q2; omega
 ·simp at q2; omega
 rotate_left
 ·exact absurd g1 hsz0
 rw [hβ] at g1
 obtain rfl:=Option.some.inj g1
 have he:es[j-off]? = some (es.getD (j-off) []):=by
  rw [List.getD_eq_getElem?_getD,List.getElem?_eq_getElem (by omega)]; rfl
 have hs':s'=sz:=by rw [←g8 _ (List.mem_of_getElem? he),q4]
 subst hs'
 obtain ⟨m',r1,r2,r3,r4,r5,r6⟩:=h.freezes (Fq S v).tags
 have hnt:t∉(Fq S v).tags:=fun hh=>by
  have:=List.all_eq_true.1 q6 t hh
  simp at this
 have hβ':m'.blk false t=some β:=by rw [r6 t hnt]; exact hβ
 have hsz:(a.eval v').cells.size=n:=by rw [hcs.1]; exact hn
 have hlen:(a.eval v').cells.toList.length=n:=by simpa using hsz
 have hfit:j*s'+k+n≤cur.size:=by
  rw [←g5]
  have e1:(j+1)*s'≤(off+cap)*s':=Nat.mul_le_mul_right _ (by omega)
  rw [Nat.add_mul,Nat.one_mul] at e1
  omega
 have hrun:=aB (P:=P) (w:=w) h3 (by rw [hsz,h4]) g3 (k:=j*s'+k) (by omega) hcs.ones
 have hwr:=Gn cur (a.eval v').cells.toList (j*s'+k)
 rw [hlen] at hwr
 have hsub:=vU r2 r3 r5
 generalize hcur':(cur.toList.take (j*s'+k)++(a.eval v').cells.toList++cur.toList.drop (j*s'+k+n)).toArray=cur' at hwr
 have hsz':cur'.size=cur.size:=by
  rw [←hcur',←hlen]
  exact Js cur _ _ (by omega)
 rw [hlen,hcur'] at hrun
 have hcl:((Fq S v).cells.map Ga).length=n:=by simpa using hn
 refine wp_skip' (w':=w.setRow β cur') ?_ ⟨m',_,hK,Da.put (r1.rowWrite hβ' g3 s' j [putCells (es.getD (j-off) []) k ((Fq S v).cells.map Ga)] ((List.range s').map fun q=>(cur'[j*s'+q]?).getD undef) cur' g7.1 (fun y hy=>?_) ?_ (fun jj e kk c k1 k2=>?_)) hd Hk⟩
 ·simp only [execOp,hop,ex,Sem.run_bind,hrun,Result.andThen_ok,Sem.run_pure]
 ·simp only [List.mem_singleton] at hy
  subst hy
  rw [Hc,q4]
 ·refine ⟨hsz',fun jj kk hkk=>?_⟩
  simp only [List.length_singleton]
  by_cases ej:j≤jj∧jj<j+1
  ·have:jj=j:=by omega
   subst this
   have hin:jj*s'+kk<cur'.size:=by
    rw [hsz',←g5]
    have e1:(jj+1)*s'≤(off+cap)*s':=Nat.mul_le_mul_right _ (by omega)
    rw [Nat.add_mul,Nat.one_mul] at e1
    omega
   rw [if_pos ej]
   simp only [Nat.sub_self,Nat.zero_mul,Nat.zero_add]
   rw [List.getElem?_map,List.getElem?_range hkk]
   simp [Array.getElem?_eq_getElem hin]
  ·rw [if_neg ej,hwr _ (by omega)]
   have hno:¬(j*s'+k≤jj*s'+kk∧jj*s'+kk<j*s'+k+n):=by
    rintro ⟨u1,u2⟩
    rcases Nat.lt_or_ge jj j with h5 | h5
    ·have:(jj+1)*s'≤j*s':=Nat.mul_le_mul_right _ h5
     rw [Nat.add_mul,Nat.one_mul] at this
     omega
    ·have:(j+1)*s'≤jj*s':=Nat.mul_le_mul_right _ (by omega)
     rw [Nat.add_mul,Nat.one_mul] at this
     omega
   rw [if_neg hno]
 ·cases jj with
  | succ jj=>simp at k1
  | zero=>
   simp only [List.getElem?_cons_zero,Option.some.injEq] at k1
   subst k1
   have hkk:kk<s':=by
    have:=(List.getElem?_eq_some_iff.1 k2).1
    rw [Hc,q4] at this
    exact this
   rw [Gb _ _ _ _ (by rw [hcl,q4]; exact q3),hcl] at k2
   simp only [Nat.zero_mul,Nat.zero_add]
   rw [List.getElem?_map,List.getElem?_range hkk]
   simp only [Option.map_some]
   rw [hwr _ (by omega)]
   split at k2
   ·rename_i hcnd
    have hlt:kk-k<(a.eval v').cells.size:=by omega
    have hg:(a.eval v').cells[kk-k]? = some (a.eval v').cells[kk-k]:=Array.getElem?_eq_getElem hlt
    rw [if_pos (by omega)]
    have e2:j*s'+kk-(j*s'+k)=kk-k:=by omega
    rw [e2,Array.getElem?_toList,hg]
    simp only [List.getElem?_map,Option.map_eq_some_iff] at k2
    obtain ⟨c0,k3,rfl⟩:=k2
    have hr:=hcs.2 _ c0 _ k3 hg
    have hnp:Lc c0=false:=by simpa using List.all_eq_true.1 q5 c0 (List.mem_of_getElem? k3)
    refine ⟨_,rfl,hr.2,RC.closeFrz h r2 r3 r4 r5 hr.1 hnp fun t' off' sz' es' e3=>?_⟩
    have:c0∈(Fq S v).flat:=by
     rw [Ur (Et hv) hu]; exact List.mem_of_getElem? k3
    exact Lo (e3 ▸ this)
   ·rename_i hcnd
    rw [if_neg (by omega)]
    obtain ⟨x,k3,k4,k5⟩:=g9 (j-off) _ kk c he k2
    have e3:off+(j-off)=j:=by omega
    rw [e3] at k3
    rw [k3]
    exact ⟨x,rfl,k4,RC.reavoid hsub k5⟩
theorem MS {x v:Cu} {n:Nat} (hc:Nz P φ o=some (.store x v n)) (hd:∀d,o.dst=some d→d<nt) (h:Da φ w0 A nt m S a w)
  (hw:Xo C o.dst (.store x v n) S K):o.wp P a w (Nx φ w0 A nt K) Q:=by
 obtain ⟨hm1,hm2,hw⟩:=hw
 dsimp only at hw
 obtain ⟨hu,hn,hw⟩:=hw
 split at hw
 ·rename_i t k hx
  split at hw
  ·rename_i bs hb
   exact lK hc hd h hm1 hm2 hu hn hx hb hw.1 hw.2
  ·exact hw.elim
 ·rename_i t sz j k hx
  split at hw
  ·rename_i off es hb
   obtain ⟨q1,q2,q3,q4,q5,q6,hK⟩:=hw
   exact fY hc hd h hm1 hm2 hu hn hx hb q1 q2 q3 q4 q5 q6 hK
  ·exact hw.elim
 ·exact hw.elim
end Go.Ev
