/- New rows: slice literals, make, strings as bytes. -/
import Derived.Test.YtfpbbpkdjmldkaaGreatQvU2
import Derived.Laws.MakeOwn
import Derived.Great.BuildSlice
set_option linter.all false
namespace Go.Ev
open Go.RowKit
variable {φ:Fa} {m m':M} {w w' w0:World} {A:Fr} {nt:Nat} {S S':St} {a:Act} {P:Program}
variable {o:Oper} {K:St→Prop} {Q:Exit→Act→World→Prop} {C:Ba}
theorem Qw {α:Type} {sz:Nat}:∀ {es:List (List α)} (_:∀e∈es,e.length=sz) (j k:Nat) (_:k<sz),es.flatten[j*sz+k]? = (es[j]?).bind (·[k]?)
 | [],_,j,k,_=>by simp
 | e::r,h,j,k,hk=>by
  have he:e.length=sz:=h e (by simp)
  cases j with
  | zero=>simp [List.getElem?_append_left,he,hk]
  | succ j=>
   rw [List.flatten_cons,List.getElem?_append_right (by rw [he,Nat.add_mul,Nat.one_mul]; omega)]
   have e1:(j+1)*sz+k-e.length=j*sz+k:=by rw [he,Nat.add_mul,Nat.one_mul]; omega
   rw [e1,Qw (fun e he=>h e (by simp [he])) j k hk]
   simp
theorem Qx {α:Type} {sz:Nat} {es:List (List α)} (h:∀e∈es,e.length=sz):es.flatten.length=es.length*sz:=by
 induction es with
 | nil=>simp
 | cons e r ih=>
  rw [List.flatten_cons,List.length_append,h e (by simp),ih fun e he=>h e (by simp [he]),List.length_cons,Nat.add_mul,Nat.one_mul,Nat.add_comm]
theorem vG {α:Type} {sz:Nat} {es:List (List α)} {i:Nat} {cs:List α} (h:∀e∈es,e.length=sz) (hc:cs.length=sz):∀e∈es.set i cs,e.length=sz:=by
 intro e he
 rcases List.mem_or_eq_of_mem_set he with h1 | h1
 ·exact h e h1
 ·rw [h1,hc]
theorem IA {sz:Nat} (hsz:0<sz) {es:List (List V)} {i:Nat} {cs:List V} (h:∀e∈es,e.length=sz) (hc:cs.length=sz) (hi:i<es.length):
  putCells es.flatten (i*sz) cs=(es.set i cs).flatten:=by
 apply List.ext_getElem?
 intro q
 have hl:=Qx h
 have hfit:i*sz+cs.length≤es.flatten.length:=by
  rw [hl,hc]
  have:(i+1)*sz≤es.length*sz:=Nat.mul_le_mul_right _ hi
  rw [Nat.add_mul,Nat.one_mul] at this
  exact this
 have hq:q=(q / sz)*sz+q%sz:=(Nat.div_add_mod' q sz).symm
 have hk:q%sz<sz:=Nat.mod_lt _ hsz
 rw [Gb _ _ _ _ hfit,hc]
 rw [show (es.set i cs).flatten[q]? = (es.set i cs).flatten[(q / sz)*sz+q%sz]? from by rw [←hq],Qw (vG h hc) _ _ hk,
  show es.flatten[q]? = es.flatten[(q / sz)*sz+q%sz]? from by rw [←hq],Qw h _ _ hk]
 rw [List.getElem?_set]
 by_cases e:i=q / sz
 ·subst e
  rw [if_pos (by omega),if_pos rfl,if_pos hi]
  have:q-q / sz*sz=q%sz:=by omega
  rw [this]
  rfl
 ·rw [if_neg e,if_neg]
  rintro ⟨h1,h2⟩
  apply e
  have h3:i≤q / sz:=(Nat.le_div_iff_mul_le hsz).2 h1
  have h4:q / sz<i+1:=(Nat.div_lt_iff_lt_mul hsz).2 (by rw [Nat.add_mul,Nat.one_mul]; exact h2)
  omega
def Po:V→Bool
 | .int .. | .bool .. | .str .. | .lst .. | .iptr .. | .undef=>true
 | _=>false
theorem pJ {c:V} {val:Value} (hs:Po c=true) (h:RC φ m w c val) (h1:val.oneCell'=true):RD φ w m.avoid c val:=by
 cases c with
 | undef=>exact .undef _ h1
 | own x1 x2 x3 x4=>simp [Po] at hs
 | ptr x1 x2=>simp [Po] at hs
 | optr x1 x2 x3 x4=>simp [Po] at hs
 | clo x1 x2=>simp [Po] at hs
 | agg x1=>simp [Po] at hs
 | tup x1=>simp [Po] at hs
 | may x1 x2=>simp [Po] at hs
 | _=>exact h
theorem rZ (c:V) (h:Lc c=false):Po (Ga c)=true:=by
 cases c with
 | own t off sz es=>simp only [Ga]; split<;>rfl
 | _=>first | rfl | simp [Lc] at h
theorem Rx:∀(ts:List TypeId) (vs:List Value) (k:Nat) (zs:List V),zeroCells P none ts vs k=some zs→∀c∈zs,Po c=true
 | [],[],_,zs,h=>by
  simp only [zeroCells,Option.some.injEq] at h
  subst h; simp
 | t::ts,v::vs,k,zs,h=>by
  simp only [zeroCells] at h
  split at h
  ·rename_i r hr
   cases h
   intro c hc
   cases hc with
   | tail _ hc=>exact Rx ts vs (k+1) r hr c hc
   | head=>
    unfold Xr
    split
    ·rfl
    ·rfl
    ·rfl
    ·split
     ·rfl
     ·rfl
    ·rfl
  ·cases h
 | [],_::_,_,_,h=>by simp [zeroCells] at h
 | _::_,[],_,_,h=>by simp [zeroCells] at h
theorem Ni {t:TypeId} {zs:List V} (h:Fn P none t=some zs):∀c∈zs,Po c=true:=by
 unfold Fn at h
 split at h
 ·split at h
  ·split at h
   ·exact Rx _ _ _ _ h
   ·cases h
  ·cases h
 ·cases h
theorem iR.zeros {zs:List V} {z:Array Value} (h:iR φ m w zs z) (n:Nat) (h0:0<zs.length):
  iR φ m w (List.replicate n zs).flatten (madeCells z (n*zs.length)):=by
 have hu:∀e∈List.replicate n zs,e.length=zs.length:=fun e he=>by rw [List.eq_of_mem_replicate he]
 refine ⟨by rw [size_madeCells,Qx hu]; simp,fun i c x h1 h2=>?_⟩
 have hk:i%zs.length<zs.length:=Nat.mod_lt _ h0
 rw [show i=(i / zs.length)*zs.length+i%zs.length from (Nat.div_add_mod' i _).symm,Qw hu _ _ hk] at h1
 have hi:i<n*zs.length:=by
  have:=(Array.getElem?_eq_some_iff.1 h2).1
  rwa [size_madeCells] at this
 have hj:i / zs.length<n:=(Nat.div_lt_iff_lt_mul h0).2 hi
 rw [List.getElem?_replicate,if_pos hj] at h1
 simp only [Option.bind_some] at h1
 refine h.2 _ c x h1 ?_
 simp only [madeCells,Array.getElem?_map,Array.getElem?_range,hi,if_true,Option.map_some,Option.some.injEq] at h2
 rw [←h2,h.1]
 have hlt:i%zs.length<z.size:=by rw [h.1]; exact hk
 rw [getElem!_pos z _ hlt,Array.getElem?_eq_getElem hlt]
theorem iR.rows {es:List (List V)} {arr:Array Value} {sz:Nat} (h:iR φ m w es.flatten arr) (hu:∀e∈es,e.length=sz)
  (hs:∀e∈es,∀c∈e,Po c=true) (j:Nat) (e:List V) (k:Nat) (c:V) (h1:es[j]? = some e) (h2:e[k]? = some c):
  ∃v,arr[j*sz+k]? = some v∧v.oneCell'=true∧RD φ w m.avoid c v:=by
 have hk:k<sz:=by
  have:=(List.getElem?_eq_some_iff.1 h2).1
  rw [hu e (List.mem_of_getElem? h1)] at this
  exact this
 have hf:=Qw hu j k hk
 rw [h1] at hf
 simp only [Option.bind_some,h2] at hf
 have hlt:j*sz+k<arr.size:=by
  rw [h.1]; exact (List.getElem?_eq_some_iff.1 hf).1
 have hg:arr[j*sz+k]? = some arr[j*sz+k]:=Array.getElem?_eq_getElem hlt
 obtain ⟨h3,h4⟩:=h.2 _ c _ hf hg
 exact ⟨_,hg,h4,pJ (hs e (List.mem_of_getElem? h1) c (List.mem_of_getElem? h2)) h3 h4⟩
theorem wp_make {sz by_:Nat} {zero:List V} {l c:Cu} (hc:Nz P φ o=some (.make sz by_ zero l c)) (hd:∀d,o.dst=some d→d<nt) (h:Da φ w0 A nt m S a w)
  (hw:Xo C o.dst (.make sz by_ zero l c) S K):o.wp P a w (Nx φ w0 A nt K) Q:=by
 obtain ⟨t,e,i,l',c',hop,h1,h2,h3,rfl,rfl,h4,h5,h6,h7,h8⟩:=Em hc
 obtain ⟨hm1,hm2,hw⟩:=hw
 split at hw
 ·rename_i d k1 x k2 y hdst hl hcc
  obtain ⟨q1,rfl,q2,hK⟩:=hw
  have v1:RT φ m w (.int k1 x) (a.eval l'):=by rw [←hl]; exact opd'_ok h7 h hm1 rfl
  have v2:RT φ m w (.int k2 x) (a.eval c'):=by rw [←hcc]; exact opd'_ok h8 h hm2 rfl
  obtain ⟨i',z,g1,g2,g3⟩:=Jb (φ:=φ) (m:=m) (w:=w) h2
  rw [h3] at g1
  obtain rfl:=Option.some.inj g1
  have hb:x≤140737488355328:=by
   have hp:(1:Int)≤i.bytes:=by omega
   have:=Int.mul_le_mul_of_nonneg_left hp q1
   omega
  have hn:x=(x.toNat:Int):=by omega
  have hrun:=run_make (P:=P) w t e i z h1 h3 g2 k1 k2 x x q1 (Int.le_refl _) (by rw [Int.mul_comm]; omega) (by omega)
  have hz:=g3.zeros x.toNat (by rw [h6]; omega)
  rw [h6] at hz
  have hu:∀e∈List.replicate x.toNat zero,e.length=i.size:=fun e he=>by rw [List.eq_of_mem_replicate he,h6]
  have hs:∀e∈List.replicate x.toNat zero,∀c∈e,Po c=true:=fun e he=>by rw [List.eq_of_mem_replicate he]; exact Ni h2
  obtain ⟨r1,r2⟩:=h.newRow (64*d) (h.tagLt hd hdst) i.size x.toNat (List.replicate x.toNat zero) (madeCells z.cells (x.toNat*i.size)) e (Tl (by omega) (by rw [size_madeCells]; simp) hu (hz.rows hu hs)) (by simp) (by rw [size_madeCells]) (by simp only [maxLen]; omega) hu
   (hz.rows hu hs)
  refine Ey (w':=w.alloc (.cells (madeCells z.cells (x.toNat*i.size)) e)) (val:=.slice (some ⟨w.heap.size,0,none⟩) x.toNat x.toNat) ?_ ⟨m.set false (64*d) (some w.heap.size),_,hK,?_⟩
  ·simp only [execOp,hop,Fm v1,Fm v2,Sem.run_bind,hrun,Result.andThen_ok,Sem.run_pure]
  ·rw [←hdst]
   refine r1.put hd (v:=.own (64*d) 0 i.size (List.replicate x.toNat zero)) ⟨?_,fun _=>rfl⟩
   rw [List.length_replicate] at r2
   exact r2
 ·exact hw.elim
theorem sM {x:Cu} (hc:Nz P φ o=some (.toBytes x)) (hd:∀d,o.dst=some d→d<nt) (h:Da φ w0 A nt m S a w)
  (hw:Xo C o.dst (.toBytes x) S K):o.wp P a w (Nx φ w0 A nt K) Q:=by
 obtain ⟨s,d,e,x',hop,h1,h2,h3,h4⟩:=Em hc
 obtain ⟨hm,hw⟩:=hw
 split at hw
 ·rename_i l hl
  have v1:RT φ m w (.str l) (a.eval x'):=by rw [←hl]; exact opd'_ok h1 h hm rfl
  have ev:=Kh v1
  have hrun:=run_bytes_of_string (P:=P) w s d e ⟨l.toArray⟩ h2 h3 h4
  generalize hC:bytesRow (⟨l.toArray⟩:ByteArray) (grownCap w (ByteArray.size ⟨l.toArray⟩) 0 e)=C at hrun
  have hsz:ByteArray.size ⟨l.toArray⟩=l.length:=by simp [ByteArray.size]
  have hcap:=grownCap_ge w l.length 0 e
  rw [hsz] at hrun
  have hnew:(w.drew.alloc (.cells C e (C.size,C.size+1))).heap[w.heap.size]? = some (.cells C e (C.size,C.size+1)):=heap_alloc_new w.drew _
  have hold:∀b,b<w.heap.size→(w.drew.alloc (.cells C e (C.size,C.size+1))).heap[b]? = w.heap[b]? := fun b hb=>heap_alloc_old w.drew _ b hb
  have hrel:=h.world (w.drew.alloc (.cells C e (C.size,C.size+1))) (by simp) hold (h.lies.drew.alloc _)
  have hnav:¬m.avoid w.heap.size:=by
   rintro (hh | ⟨k,t,hb⟩)
   ·have:=h.hAlt _ (h.hA ▸ hh)
    have:=h.lies.size
    omega
   ·have:=(h.bnd _ _ _ hb).1
    omega
  refine Ey (w':=w.drew.alloc (.cells C e (C.size,C.size+1))) (val:=.slice (some ⟨w.heap.size,0,none⟩) l.length (grownCap w l.length 0 e)) ?_ ⟨m,_,hw,?_⟩
  ·simp only [execOp,hop,ev,Sem.run_bind,hrun,Result.andThen_ok,Sem.run_pure]
  ·refine hrel.put hd (v:=.lst 1 (Ly l)) ⟨?_,fun _=>rfl⟩
   have hlen:(Ly l).length=l.length:=by simp [Ly]
   have hgoal:RD φ (w.drew.alloc (.cells C e (C.size,C.size+1))) m.avoid (.lst 1 (Ly l)) (.slice (some ⟨w.heap.size,0,none⟩) (Ly l).length (grownCap w l.length 0 e)):=by
    refine .lst 1 (Ly l) w.heap.size 0 (grownCap w l.length 0 e) (fun j _=>.int .u8 (((l[j]?).getD 0).toNat:Int)) (by simp) hnav (by rw [hlen]; exact hcap) (fun j y hy=>?_) (fun j y k c hy hk=>?_) (fun j y k c hy hk=>?_)
    ·rw [He] at hy
     simp only [Option.map_eq_some_iff] at hy
     obtain ⟨b,_,rfl⟩:=hy
     rfl
    ·rw [He] at hy
     simp only [Option.map_eq_some_iff] at hy
     obtain ⟨b,hb,rfl⟩:=hy
     have hk0:k=0:=by have:=(List.getElem?_eq_some_iff.1 hk).1; simp at this; exact this
     subst hk0
     have hj:j<l.length:=(List.getElem?_eq_some_iff.1 hb).1
     rw [cell_of_row _ w.heap.size _ C e _ hnew,←hC]
     have:=bytesRow_at (⟨l.toArray⟩:ByteArray) (grownCap w (ByteArray.size ⟨l.toArray⟩) 0 e) j (by simpa using hj)
     simp only [Nat.mul_one,Nat.zero_add,Nat.add_zero]
     rw [this,hb]
     have e1:=List.getElem?_eq_getElem hj
     rw [hb] at e1
     simp only [Option.some.injEq] at e1
     simp [e1]
    ·rw [He] at hy
     simp only [Option.map_eq_some_iff] at hy
     obtain ⟨b,hb,rfl⟩:=hy
     have hk0:k=0:=by have:=(List.getElem?_eq_some_iff.1 hk).1; simp at this; exact this
     subst hk0
     simp only [List.getElem?_cons_zero,Option.some.injEq] at hk
     subst hk
     simp only [hb,Option.getD_some]
     exact .int _ _
   rw [hlen] at hgoal
   exact hgoal
 ·exact hw.elim
theorem gI {e:TypeId} (h:Da φ w0 A nt m S a w):∀ {parts:List (Nat×Operand)} {ps:List (Nat×Cu)},Xz P φ e parts=some ps →
  Dg (fun p=>Bc true (S.val p.2)) ps →
  parts.length=ps.length∧∀(j:Nat) (p:Nat×Operand) (q:Nat×Cu),parts[j]? = some p→ps[j]? = some q→p.1=q.1∧RT φ m w (Fq S q.2) (a.eval p.2)
 | [],ps,hp,_=>by
  simp only [Xz,Option.some.injEq] at hp
  subst hp
  exact ⟨rfl,by simp⟩
 | (i,x)::r,ps,hp,hm=>by
  simp only [Xz] at hp
  split at hp
  ·rename_i y s hy hs
   cases hp
   obtain ⟨h1,h2⟩:=gI h hs hm.2
   refine ⟨by simp [h1],fun j p q g1 g2=>?_⟩
   cases j with
   | succ j=>exact h2 j p q (by simpa using g1) (by simpa using g2)
   | zero=>
    simp at g1 g2
    subst g1; subst g2
    exact ⟨rfl,Mk hy h hm.1 rfl⟩
  ·cases hp
theorem kN {v:V} (h:v.cells.all (fun c => !Lc c)=true):Cq v=false:=by
 cases v<;>first | rfl | (simp [V.cells,Lc] at h)
theorem Xg:∀ {vs:List (Nat×V)} {p:Nat×V} {t:Nat},p∈vs→t∈p.2.tags→t∈Ku vs
 | q::r,p,t,hp,ht=>by
  cases hp with
  | head=>simp [Ku,ht]
  | tail _ hp=>simp [Ku,Xg hp ht]
theorem gO {sz:Nat} (hsz:0<sz):∀(vs:List (Nat×List V)) (es:List (List V)),(∀e∈es,e.length=sz)→(∀p∈vs,p.1<es.length∧p.2.length=sz) →
  vs.foldl (fun cs p=>putCells cs (p.1*sz) p.2) es.flatten=(Ma sz es vs).flatten∧(Ma sz es vs).length=es.length∧(∀e∈Ma sz es vs,e.length=sz)
 | [],es,h,_=>⟨rfl,rfl,h⟩
 | (i,cs)::r,es,h,hv=>by
  obtain ⟨h1,h2⟩:=hv (i,cs) (by simp)
  dsimp only at h1 h2
  have ih:=gO hsz r (es.set i cs) (vG h h2) (fun p hp=>by simpa using hv p (by simp [hp]))
  refine ⟨?_,?_,?_⟩
  ·rw [List.foldl_cons,IA hsz h h2 h1]
   exact ih.1
  ·simpa [Ma] using ih.2.1
  ·simpa [Ma] using ih.2.2
theorem gP {sz:Nat}:∀(vs:List (Nat×List V)) (es:List (List V)),(∀e∈es,∀c∈e,Po c=true)→(∀p∈vs,∀c∈p.2,Po c=true)→∀e∈Ma sz es vs,∀c∈e,Po c=true
 | [],es,h,_=>h
 | (i,cs)::r,es,h,hv=>by
  refine gP r (es.set i cs) (fun e he=>?_) (fun p hp=>hv p (by simp [hp]))
  rcases List.mem_or_eq_of_mem_set he with h1 | h1
  ·exact h e h1
  ·rw [h1]; exact hv (i,cs) (by simp)
theorem run_buildSlice' (t e:TypeId) (len:Nat) (parts:Array (Nat×Value)) (cells:Array Value) (ie:TypeInfo) (z:Value)
  (hu:P.underlying t=some (.slice e)) (hie:P.info? e=some ie) (hz:ie.zero=some z) (hsmall:¬len*ie.size>2^24)
  (h:Instr.fill (fun i=>some (i*ie.size,ie.size)) (madeCells z.cells (len*ie.size)) parts.toList=some cells):
  (Instr.buildSlice t len parts).run P w = .ok (.slice (some ⟨w.heap.size,0,none⟩) len len) (w.alloc (.cells cells e)):=by
 by_cases h0:len*ie.size=0
 ·rw [h0] at h
  simp only [madeCells,Array.range_zero',Array.map_empty] at h
  simp [Instr.buildSlice,run_underlying hu,sizeOf,typeInfo,hie,h0,newRow,h,Array.range_zero']
 ·exact run_buildSlice w t e len parts cells ie z hu hie hz hsmall h0 h
theorem wp_mkS {sz len:Nat} {zero:List V} {parts:List (Nat×Cu)} (hc:Nz P φ o=some (.mkS sz zero len parts)) (hd:∀d,o.dst=some d→d<nt) (h:Da φ w0 A nt m S a w)
  (hw:Xo C o.dst (.mkS sz zero len parts) S K):o.wp P a w (Nx φ w0 A nt K) Q:=by
 obtain ⟨t,e,i,ps,hop,h1,h2,h3,rfl,h4,h5,h6,h7⟩:=Em hc
 cases hdst:o.dst with
 | none=>rw [hdst] at hw; exact hw.elim
 | some d=>
 rw [hdst] at hw
 dsimp only [Xo] at hw
 obtain ⟨hm,hv,hK⟩:=hw
 obtain ⟨i',z,g1,g2,g3⟩:=Jb (φ:=φ) (m:=m) (w:=w) h2
 rw [h3] at g1
 obtain rfl:=Option.some.inj g1
 obtain ⟨hl,hp⟩:=gI h h7 hm
 generalize hvs:(parts.map fun p=>(p.1,An (S.val p.2)))=vs at hv hK
 obtain ⟨m',r1,r2,r3,r4,r5,r6⟩:=h.freezes (Ku vs)
 obtain ⟨i'',z',g1',g2',g3'⟩:=Jb (φ:=φ) (m:=m') (w:=w) h2
 rw [h3] at g1'
 obtain rfl:=Option.some.inj g1'
 rw [g2] at g2'
 obtain rfl:=Option.some.inj g2'
 have hz:=g3'.zeros len (by rw [h6]; omega)
 rw [h6] at hz
 have hu:∀e∈List.replicate len zero,e.length=i.size:=fun e he=>by rw [List.eq_of_mem_replicate he,h6]
 have hs:∀e∈List.replicate len zero,∀c∈e,Po c=true:=fun e he=>by rw [List.eq_of_mem_replicate he]; exact Ni h2
 have hvs2:∀p∈vs,p.1<len∧p.2.cells.length=i.size∧p.2.cells.all (fun c => !Lc c)=true:=fun p hp=>by
  obtain ⟨j,hj⟩:=List.getElem?_of_mem hp
  exact bW hv hj
 have hfr:=gO (sz:=i.size) (by omega) (vs.map fun p=>(p.1,p.2.cells.map Ga)) (List.replicate len zero) hu (fun p hp=>by
  simp only [List.mem_map] at hp
  obtain ⟨q,hq,rfl⟩:=hp
  have:=hvs2 q hq
  simpa using ⟨this.1,this.2.1⟩)
 have hsh:=gP (sz:=i.size) (vs.map fun p=>(p.1,p.2.cells.map Ga)) (List.replicate len zero) hs (fun p hp c hcm=>by
  simp only [List.mem_map] at hp
  obtain ⟨q,hq,rfl⟩:=hp
  simp only [List.mem_map] at hcm
  obtain ⟨c0,hc0,rfl⟩:=hcm
  exact rZ c0 (by simpa using List.all_eq_true.1 (hvs2 q hq).2.2 c0 hc0))
 obtain ⟨arr,hf,hr⟩:=jK (φ:=φ) (m:=m') (w:=w) (Hq:=fun j=>some (j*i.size,i.size)) (ps.toList.map fun p=>(p.1,a.eval p.2))
  (vs.map fun p=>(p.1*i.size,i.size,V.agg (p.2.cells.map Ga))) (List.replicate len zero).flatten (madeCells z.cells (len*i.size)) hz (by rw [←hvs]; simpa using hl)
  (fun j p q k1 k2=>by
   rw [←hvs] at k2
   simp only [List.getElem?_map,Option.map_eq_some_iff] at k1 k2
   obtain ⟨p0,k1,rfl⟩:=k1
   obtain ⟨q1,⟨q0,k2,rfl⟩,rfl⟩:=k2
   obtain ⟨e1,e2⟩:=hp j p0 q0 k1 k2
   have hin:(q0.1,An (S.val q0.2))∈vs:=by rw [←hvs]; exact List.mem_map.2 ⟨q0,List.mem_of_getElem? k2,rfl⟩
   obtain ⟨u1,u2,u3⟩:=hvs2 _ hin
   dsimp only at u1 u2 u3
   have hund:=kN u3
   have hcs:=RT.cells e2 hund
   refine ⟨by simp [e1],⟨by simpa [V.cells] using hcs.1,fun jj c x k3 k4=>?_⟩,by simpa [V.cells] using u2,?_⟩
   ·simp only [V.cells,List.getElem?_map,Option.map_eq_some_iff] at k3
    obtain ⟨c0,k3,rfl⟩:=k3
    obtain ⟨k5,k6⟩:=hcs.2 jj c0 x k3 k4
    refine ⟨Jf (RC.closeFrz h r2 r3 r4 r5 k5 (by simpa using List.all_eq_true.1 u3 c0 (List.mem_of_getElem? k3)) fun t off sz es e3=>?_),k6⟩
    refine Xg hin (Lo (off:=off) (sz:=sz) (es:=es) ?_)
    dsimp only
    rw [Ur (Et e2) hund,←e3]
    exact List.mem_of_getElem? k3
   ·dsimp only
    rw [Qx hu,List.length_replicate]
    have:(q0.1+1)*i.size≤len*i.size:=Nat.mul_le_mul_right _ u1
    rw [Nat.add_mul,Nat.one_mul] at this
    exact this)
 rw [List.foldl_map] at hr
 have cells_agg:∀cs:List V,(V.agg cs).cells=cs:=fun _=>rfl
 simp only [cells_agg] at hr
 have hfold:=hfr.1
 rw [List.foldl_map] at hfold
 rw [hfold] at hr
 have hlen:(Ma i.size (List.replicate len zero) (vs.map fun p=>(p.1,p.2.cells.map Ga))).length=len:=by simpa using hfr.2.1
 have hsmall:len≤16777216:=by
  have:len*1≤len*i.size:=Nat.mul_le_mul_left _ (by omega)
  omega
 obtain ⟨n1,n2⟩:=r1.newRow (64*d) (h.tagLt hd hdst) i.size len _ arr e (Tl (by omega) (by rw [hr.1,Qx hfr.2.2]) hfr.2.2 (hr.rows hfr.2.2 hsh)) (by rw [hlen]; exact Nat.le_refl _) (by rw [hr.1,Qx hfr.2.2,hlen]) (by simp only [maxLen]; omega) hfr.2.2
  (hr.rows hfr.2.2 hsh)
 have hrun:=run_buildSlice' (P:=P) (w:=w) t e len (ps.map fun p=>(p.1,a.eval p.2)) arr i z h1 h3 g2 h5 (by simpa using hf)
 refine Ey (w':=w.alloc (.cells arr e)) (val:=.slice (some ⟨w.heap.size,0,none⟩) len len) ?_ ⟨m'.set false (64*d) (some w.heap.size),_,hK,?_⟩
 ·simp only [execOp,hop,Sem.run_bind]
  have:(ps.map fun (i,x)=>(i,a.eval x))=(ps.map fun p=>(p.1,a.eval p.2)):=rfl
  rw [this,hrun]
  rfl
 ·rw [←hdst]
  refine n1.put hd (v:=.own (64*d) 0 i.size _) ⟨?_,fun _=>rfl⟩
  rw [hlen] at n2
  exact n2
end Go.Ev
