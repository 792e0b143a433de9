/- append and copy. -/
import Derived.Test.YtjkemmodemomdaaGreatDoorQvU3
set_option linter.all false
namespace Go.Ev
open Go.RowKit
variable {φ:Bz} {m m':M} {w w' w0:World} {A:Fr} {nt:Nat} {S S':St} {a:Act} {P:Program}
variable {o:Oper} {K:St→Prop} {Q:Exit→Act→World→Prop} {C:Bb}
structure Rf (P:Program) (φ:Bz) (m:M) (w:World) (val:Value) (sz:Nat) (ys:List (List V)) (news:List Value):Prop where
 len:∀w',(Builtin.lenOf val).run P w' = .ok ys.length w'
 size:news.length=ys.length*sz
 uni:∀y∈ys,y.length=sz
 cells:∀n,n≤ys.length→∀w':World,(∀b,b<w.heap.size→w'.heap[b]? = w.heap[b]?)→(Builtin.firstCells sz n val).run P w' = .ok (news.take (n*sz)).toArray w'
 rd:∀(j:Nat) (e:List V) (k:Nat) (c:V),ys[j]? = some e→e[k]? = some c→∃v,news[j*sz+k]? = some v∧v.oneCell'=true∧RD φ w m.avoid c v
theorem Vo {sz q n:Nat} (hsz:0<sz) (h:q<n*sz):q / sz<n∧q%sz<sz∧q=(q / sz)*sz+q%sz:=
 ⟨(Nat.div_lt_iff_lt_mul hsz).2 h,Nat.mod_lt _ hsz,(Nat.div_add_mod' q sz).symm⟩
theorem Rf.ones {val:Value} {sz:Nat} {ys:List (List V)} {news:List Value} (hsz:0<sz) (s:Rf P φ m w val sz ys news):∀v∈news,v.oneCell'=true:=by
 intro v hv
 obtain ⟨q,hq⟩:=List.getElem?_of_mem hv
 have hlt:q<ys.length*sz:=by rw [←s.size]; exact (List.getElem?_eq_some_iff.1 hq).1
 obtain ⟨h1,h2,h3⟩:=Vo hsz hlt
 have hy:ys[q / sz]? = some ys[q / sz]:=List.getElem?_eq_getElem h1
 have hl:(ys[q / sz]).length=sz:=s.uni _ (List.getElem_mem h1)
 obtain ⟨x,h4,h5,_⟩:=s.rd (q / sz) _ (q%sz) _ hy (List.getElem?_eq_getElem (by rw [hl]; exact h2))
 rw [←h3,hq] at h4
 obtain rfl:=Option.some.inj h4
 exact h5
theorem Rf.row {b o n cap sz:Nat} {ys:List (List V)} (vs:Nat→Nat→Value) (hsz:0<sz) (hb:b<w.heap.size) (hn:n=ys.length) (hu:∀y∈ys,y.length=sz)
  (hc:∀(j:Nat) (e:List V) (k:Nat) (c:V),ys[j]? = some e→e[k]? = some c→w.cell? ⟨b,o+j*sz+k,none⟩=some (vs j k))
  (h1:∀(j:Nat) (e:List V) (k:Nat) (c:V),ys[j]? = some e→e[k]? = some c→(vs j k).oneCell'=true∧RD φ w m.avoid c (vs j k)):
  Rf P φ m w (.slice (some ⟨b,o,none⟩) n cap) sz ys ((List.range (ys.length*sz)).map fun q=>vs (q / sz) (q%sz)):=by
 subst hn
 have hat:∀j k,j<ys.length→k<sz→((List.range (ys.length*sz)).map fun q=>vs (q / sz) (q%sz))[j*sz+k]? = some (vs j k):=by
  intro j k hj hk
  have:(j+1)*sz≤ys.length*sz:=Nat.mul_le_mul_right _ hj
  rw [Nat.add_mul,Nat.one_mul] at this
  rw [List.getElem?_map,List.getElem?_range (by omega)]
  have e1:(j*sz+k) / sz=j:=by
   rw [Nat.mul_comm,Nat.mul_add_div hsz,Nat.div_eq_of_lt hk]; rfl
  have e2:(j*sz+k)%sz=k:=by
   rw [Nat.mul_comm,Nat.mul_add_mod,Nat.mod_eq_of_lt hk]
  simp [e1,e2]
 refine ⟨fun w'=>by simp [Builtin.lenOf],by simp,hu,fun n hn w' hw=>?_,fun j e k c g1 g2=>?_⟩
 ·refine run_firstCells_some (P:=P) w' sz n ⟨b,o,none⟩ ys.length cap _ ?_ fun q v hq=>?_
  ·have:n*sz≤ys.length*sz:=Nat.mul_le_mul_right _ hn
   rw [List.length_take,List.length_map,List.length_range]; omega
  ·have hqn:q<n*sz:=by
    have:=(List.getElem?_eq_some_iff.1 hq).1
    rw [List.length_take] at this
    omega
   rw [List.getElem?_take_of_lt hqn] at hq
   have hlt:q<ys.length*sz:=by
    have:n*sz≤ys.length*sz:=Nat.mul_le_mul_right _ hn
    omega
   obtain ⟨k1,k2,k3⟩:=Vo hsz hlt
   have hy:ys[q / sz]? = some ys[q / sz]:=List.getElem?_eq_getElem k1
   have hl:(ys[q / sz]).length=sz:=hu _ (List.getElem_mem k1)
   have hcell:=hc (q / sz) _ (q%sz) _ hy (List.getElem?_eq_getElem (by rw [hl]; exact k2))
   rw [k3,hat _ _ k1 k2] at hq
   obtain rfl:=Option.some.inj hq
   rw [Ch,World.cell?_of_block (w:=w) (w':=w') (hw b hb)]
   rw [←hcell]
   congr 2
   omega
 ·have hj:j<ys.length:=(List.getElem?_eq_some_iff.1 g1).1
  have hk:k<sz:=by
   rw [←hu e (List.mem_of_getElem? g1)]; exact (List.getElem?_eq_some_iff.1 g2).1
  exact ⟨_,hat j k hj hk,(h1 j e k c g1 g2)⟩
theorem Rf.none0 {val:Value} {sz c:Nat} {ad:Option Addr} (hv:val = .slice ad 0 c):Rf P φ m w val sz [] []:=by
 subst hv
 refine ⟨fun w'=>by simp [Builtin.lenOf],by simp,by simp,fun n hn w' _=>?_,by simp⟩
 have:n=0:=by simpa using hn
 subst this
 cases ad with
 | none=>simp [Builtin.firstCells]
 | some ad=>simpa using run_firstCells_some (P:=P) w' sz 0 ad 0 c [] (by simp) (by simp)
theorem Tv {v:V} {val:Value} {sz s':Nat} {ys:List (List V)} (h:Aw φ w0 A nt m S a w) (hv:RT φ m w v val) (hs:Jb v=some (s',ys)) (hz:s'=sz) (hsz:0<sz):
  ∃news,Rf P φ m w val sz ys news:=by
 subst hz
 cases v with
 | lst s es=>
  simp only [Jb,Option.some.injEq,Prod.mk.injEq] at hs
  obtain ⟨rfl,rfl⟩:=hs
  have hd:=If hv
  by_cases hn:0<es.length
  ·obtain ⟨b,o,cap,vs,rfl,hb,hav,hcap,hu,hc,hr⟩:=hd.lst_cons (by omega) hn
   exact ⟨_,Rf.row vs hsz hb rfl (fun y hy=>by obtain ⟨j,hj⟩:=List.getElem?_of_mem hy; exact hu j y hj) hc fun j e k c g1 g2=>⟨(hr j e k c g1 g2).one,hr j e k c g1 g2⟩⟩
  ·have:es=[]:=List.eq_nil_of_length_eq_zero (by omega)
   subst this
   obtain ⟨ad,cap,rfl,_,_⟩:=hd.slice (by omega)
   exact ⟨[],Rf.none0 rfl⟩
 | own t off s es=>
  have hdp:Az t=false:=by
   cases hh:Az t with
   | false=>rfl
   | true=>simp [Jb,hh] at hs
  simp only [Jb,hdp,cond_false,Option.some.injEq,Prod.mk.injEq] at hs
  obtain ⟨rfl,rfl⟩:=hs
  rcases Dd hv with ⟨_,rfl,rfl⟩ | ⟨_,rfl,ad,c,rfl⟩ | ⟨b,cap,cur,E,z1,z2,z3,z4,z5,z6,z7,z8,z9⟩ | ⟨_,_,_,_,_,z2,_⟩
  ·exact ⟨[],Rf.none0 rfl⟩
  ·exact ⟨[],Rf.none0 rfl⟩
  rotate_left
  ·omega
  ·subst z2
   refine ⟨_,Rf.row (fun j k=>(cur[(off+j)*s+k]?).getD undef) hsz (h.bnd _ _ _ z1).1 rfl z8 (fun j e k c g1 g2=>?_) fun j e k c g1 g2=>?_⟩
   ·obtain ⟨x,k1,_,_⟩:=z9 j e k c g1 g2
    rw [cell_of_row w b _ cur E _ z3,show off*s+j*s+k=(off+j)*s+k from by rw [Nat.add_mul],k1]
    rfl
   ·obtain ⟨x,k1,k2,k3⟩:=z9 j e k c g1 g2
    simp only [k1,Option.getD_some]
    exact ⟨k2,k3.rd hdp⟩
 | str q=>
  simp only [Jb,Option.some.injEq,Prod.mk.injEq] at hs
  obtain ⟨rfl,rfl⟩:=hs
  obtain rfl:=Ez hv
  have hlen:(Ha q).length=q.length:=by simp [Ha]
  refine ⟨q.map fun b=>Value.int .u8 (b.toNat:Int),fun w'=>by simp [Builtin.lenOf,hlen,ByteArray.size],by simp [hlen],fun y hy=>?_,fun n hn w' _=>?_,fun j e k c g1 g2=>?_⟩
  ·simp only [Ha,List.mem_map] at hy
   obtain ⟨b,_,rfl⟩:=hy
   rfl
  ·rw [hlen] at hn
   simp only [Builtin.firstCells,Sem.run_pure,Nat.mul_one,Result.ok.injEq,and_true]
   apply Array.ext'
   simp [ByteArray.extract,ByteArray.copySlice,←List.map_take]
  ·rw [Dj] at g1
   simp only [Option.map_eq_some_iff] at g1
   obtain ⟨b,hb,rfl⟩:=g1
   have hk0:k=0:=by have:=(List.getElem?_eq_some_iff.1 g2).1; simp at this; exact this
   subst hk0
   simp only [List.getElem?_cons_zero,Option.some.injEq] at g2
   subst g2
   exact ⟨_,by simp [hb],rfl,.int _ _⟩
 | _=>simp [Jb] at hs
section
variable {s t ty e:TypeId} {i:TypeInfo} {val:Value} {ys:List (List V)} {news:List Value}
theorem Tr (hs:P.underlying s=some (.slice e)) (ht:(∃u,P.underlying t=some (.slice u))∨P.underlying t=some .string) (hi:P.info? e=some i)
  (src:Rf P φ m w val i.size ys news) (hsz:0<i.size) {g n cap:Nat} {cur:Array Value} {E:TypeId} (hg:w.heap[g]? = some (.cells cur E (0,0))) (hroom:n+ys.length≤cap) (hfit:cap*i.size=cur.size):
  (Builtin.append_ #[s,t] ty #[.slice (some ⟨g,0,none⟩) n cap,val]).run P w =
   .ok (.slice (some ⟨g,0,none⟩) (n+ys.length) cap) (w.setRow g (cur.toList.take (n*i.size)++news++cur.toList.drop (n*i.size+news.length)).toArray):=by
 have hc:=src.cells ys.length (Nat.le_refl _) w (fun _ _=>rfl)
 have ht':news.take (ys.length*i.size)=news:=by rw [←src.size]; exact List.take_length
 rw [ht'] at hc
 have hl:=src.len w
 have hfit':n*i.size+news.length≤cur.size:=by
  rw [src.size,←hfit,←Nat.add_mul]
  exact Nat.mul_le_mul_right _ hroom
 have hst:=run_storeCells_at P g (n*i.size) E news 0 cur w hg (by simpa using hfit') (src.ones hsz)
 simp only [Nat.add_zero] at hst
 rcases ht with ⟨u,ht⟩ | ht
 ·simp [Builtin.append_,run_underlying hs,run_underlying ht,sizeOf,typeInfo,hi,hl,hroom,hc,Addr.add_lit,hst]
 ·simp [Builtin.append_,run_underlying hs,run_underlying ht,sizeOf,typeInfo,hi,hl,hroom,hc,Addr.add_lit,hst]
theorem Tq (hs:P.underlying s=some (.slice e)) (ht:(∃u,P.underlying t=some (.slice u))∨P.underlying t=some .string) (hi:P.info? e=some i)
  (src:Rf P φ m w val i.size [] news):(Builtin.append_ #[s,t] ty #[.slice none 0 0,val]).run P w = .ok (.slice none 0 0) w:=by
 have hc:=src.cells 0 (Nat.le_refl _) w (fun _ _=>rfl)
 have hl:=src.len w
 simp only [List.length_nil] at hl
 rcases ht with ⟨u,ht⟩ | ht
 ·simp [Builtin.append_,run_underlying hs,run_underlying ht,sizeOf,typeInfo,hi,hl,hc]
 ·simp [Builtin.append_,run_underlying hs,run_underlying ht,sizeOf,typeInfo,hi,hl,hc]
theorem Tp (hs:P.underlying s=some (.slice e)) (ht:(∃u,P.underlying t=some (.slice u))∨P.underlying t=some .string) (hi:P.info? e=some i) {z:Value} (hz:i.zero=some z)
  (src:Rf P φ m w val i.size ys news) {xval:Value} {es:List (List V)} {olds:List Value} (srx:Rf P φ m w xval i.size es olds) {ad:Option Addr} {cap:Nat} (hx:xval = .slice ad es.length cap)
  (hgrow:cap<es.length+ys.length) (h63:es.length+ys.length≤9223372036854775807) (hfit:Builtin.nextslicecap (es.length+ys.length) cap*i.bytes≤281474976710656):
  (Builtin.append_ #[s,t] ty #[xval,val]).run P w =
   .ok (.slice (some ⟨w.heap.size,0,none⟩) (es.length+ys.length) (grownCap w (es.length+ys.length) cap e))
    (w.drew.alloc (.cells ((olds++news).toArray++Builtin.zeroCells z.cells (grownCap w (es.length+ys.length) cap e-(es.length+ys.length))) e)):=by
 have hn:¬(es.length+ys.length≤cap):=by omega
 have h63':¬(9223372036854775807<((es.length:Int)+(ys.length:Int))):=by omega
 have h48':¬(281474976710656<Builtin.nextslicecap (es.length+ys.length) cap*i.bytes):=by omega
 have hc:=src.cells ys.length (Nat.le_refl _) w.drew (fun _ _=>rfl)
 have ht':news.take (ys.length*i.size)=news:=by rw [←src.size]; exact List.take_length
 rw [ht'] at hc
 have hd:=srx.cells es.length (Nat.le_refl _) w.drew (fun _ _=>rfl)
 have hd':olds.take (es.length*i.size)=olds:=by rw [←srx.size]; exact List.take_length
 rw [hd',hx] at hd
 have hl:=src.len w
 subst hx
 have e1:∀Z:Array Value,olds.toArray++(news.toArray++Z)=(olds++news).toArray++Z:=fun Z=>by rw [←Array.append_assoc]; simp
 rcases ht with ⟨u,ht⟩ | ht
 ·simp [Builtin.append_,run_underlying hs,run_underlying ht,sizeOf,typeInfo,zeroValue,hi,hz,hl,hn,h63',h48',Question.forced,hc,hd,newRow,grownCap,e1]
 ·simp [Builtin.append_,run_underlying hs,run_underlying ht,sizeOf,typeInfo,zeroValue,hi,hz,hl,hn,h63',h48',Question.forced,hc,hd,newRow,grownCap,e1]
end
theorem Xt {α:Type} {x:Array α} {a:α} (h:x.toList=[a]):x = #[a]:=by
 rw [←Array.toArray_toList (xs:=x),h]
theorem Kk {α:Type} {x:Array α} {a b:α} (h:x.toList=[a,b]):x = #[a,b]:=by
 apply Array.ext'
 simpa using h
theorem Ln {α:Type} {sz:Nat} {es ys:List (List α)} {olds news:List Value} (_:∀e∈es,e.length=sz) (hl:olds.length=es.length*sz) {R:α→Value→Prop}
  (h1:∀(j:Nat) (e:List α) (k:Nat) (c:α),es[j]? = some e→e[k]? = some c→∃v,olds[j*sz+k]? = some v∧R c v)
  (h2:∀(j:Nat) (e:List α) (k:Nat) (c:α),ys[j]? = some e→e[k]? = some c→∃v,news[j*sz+k]? = some v∧R c v)
  (j:Nat) (e:List α) (k:Nat) (c:α) (g1:(es++ys)[j]? = some e) (g2:e[k]? = some c):∃v,(olds++news)[j*sz+k]? = some v∧R c v:=by
 by_cases hj:j<es.length
 ·rw [List.getElem?_append_left hj] at g1
  obtain ⟨v,h3,h4⟩:=h1 j e k c g1 g2
  have hlt:=(List.getElem?_eq_some_iff.1 h3).1
  exact ⟨v,by rw [List.getElem?_append_left hlt]; exact h3,h4⟩
 ·rw [List.getElem?_append_right (by omega)] at g1
  obtain ⟨v,h3,h4⟩:=h2 _ e k c g1 g2
  refine ⟨v,?_,h4⟩
  have:es.length*sz≤j*sz:=Nat.mul_le_mul_right _ (by omega)
  rw [List.getElem?_append_right (by rw [hl]; omega),←h3,hl,Nat.sub_mul]
  congr 1
  omega
theorem qL {t:TypeId} {x:Operand} {n:Nat} (hx:Rg P φ t x=some (.t n)):a.eval x=a.tmps.getD n undef:=by
 unfold Rg at hx
 split at hx<;>first | (cases hx; rfl) | cases hx | skip
 all_goals (split at hx<;>cases hx)
theorem Uj {T:Nat} {i:TypeInfo} {e:TypeId} {z:Value} {zs:List V} {es ys:List (List V)} {news:List Value} {x:Ay} {xv:Value} {R:Sem Value}
  (hdp:Az T=false) (hd:∀d,o.dst=some d→d<nt) (h:Aw φ w0 A nt m S a w) (hT:T<Au) (hsz:0<i.size) (hby:1≤i.bytes) (h4:P.info? e=some i) (h5:Ck P none e=some zs) (g2:i.zero=some z) (hzs:z.cells.size=i.size)
  (hb:(es.length+ys.length)*i.bytes≤140737488355328) (vx:RT φ m w (.own T 0 i.size es) xv) (hxt:∀n,x = .t n→xv=a.tmps.getD n undef)
  (s_size:news.length=ys.length*i.size) (s_uni:∀y∈ys,y.length=i.size)
  (s_rd:∀(j:Nat) (e:List V) (k:Nat) (c:V),ys[j]? = some e→e[k]? = some c→∃v,news[j*i.size+k]? = some v∧v.oneCell'=true∧RD φ w m.avoid c v) (s_ones:∀v∈news,v.oneCell'=true)
  (hwp:∀ {v:Value} {w':World},R.run P w = .ok v w'→Nx φ w0 A nt K (a.put o.dst v) w'→o.wp P a w (Nx φ w0 A nt K) Q)
  (hK:K ((S.drop T).putC o.dst (.own T 0 i.size (es++ys)) (Ih x (es.length+ys.length))) ∨
   ∃d' c,o.dst=some d'∧S.capOf x=some c∧Fj≤c∧c-Fj<((es.length+ys.length:Nat):Int)∧K ((S.drop (64*d')).put o.dst (.own (64*d') 0 i.size (es++ys))))
  (r_room:∀ {g cap:Nat} {cur:Array Value} {E:TypeId},xv = .slice (some ⟨g,0,none⟩) es.length cap→w.heap[g]? = some (.cells cur E (0,0))→es.length+ys.length≤cap→cap*i.size=cur.size →
   R.run P w = .ok (.slice (some ⟨g,0,none⟩) (es.length+ys.length) cap) (w.setRow g (cur.toList.take (es.length*i.size)++news++cur.toList.drop (es.length*i.size+news.length)).toArray))
  (r_none:xv = .slice none 0 0→es=[]→ys=[]→R.run P w = .ok (.slice none 0 0) w)
  (r_grow:∀ {olds:List Value} {ad:Option Addr} {cap:Nat},Rf P φ m w xv i.size es olds→xv = .slice ad es.length cap→cap<es.length+ys.length→es.length+ys.length≤9223372036854775807 →
   Builtin.nextslicecap (es.length+ys.length) cap*i.bytes≤281474976710656→R.run P w =
    .ok (.slice (some ⟨w.heap.size,0,none⟩) (es.length+ys.length) (grownCap w (es.length+ys.length) cap e))
     (w.drew.alloc (.cells ((olds++news).toArray++Builtin.zeroCells z.cells (grownCap w (es.length+ys.length) cap e-(es.length+ys.length))) e))):
  o.wp P a w (Nx φ w0 A nt K) Q:=by
 have hcount:es.length+ys.length≤140737488355328:=by
  have:(es.length+ys.length)*1≤(es.length+ys.length)*i.bytes:=Nat.mul_le_mul_left _ hby
  omega
 have grow0:∀ {T':Nat} {olds:List Value} {ad:Option Addr} {cap:Nat},Az T'=false→T'<Au→Rf P φ m w (xv) i.size es olds→xv = .slice ad es.length cap→cap<es.length+ys.length →
   ∃v w' m',R.run P w = .ok v w'∧Aw φ w0 A nt m' (S.drop T') a w'∧RO φ m' w' T' 0 i.size (es++ys) v:=by
  intro T' olds ad cap hdp' hT' srx ex hg
  have hrun:=r_grow srx ex hg (by omega) (growslice_fits hg hb)
  have hge:=grownCap_ge w (es.length+ys.length) cap e
  have hle:=grownCap_le_maxLen w (es.length+ys.length) cap e (by simp only [maxLen]; omega)
  have hlen:(olds++news).length=(es.length+ys.length)*i.size:=by rw [List.length_append,srx.size,s_size,Nat.add_mul]
  obtain ⟨n1,n2⟩:=h.drew.newRow T' hT' i.size (grownCap w (es.length+ys.length) cap e) (es++ys)
   ((olds++news).toArray++Builtin.zeroCells z.cells (grownCap w (es.length+ys.length) cap e-(es.length+ys.length))) e
   (by
    have h1:=Ib (sz:=i.size) (es:=es++ys) (arr:=(olds++news).toArray) (R:=fun c v=>RD φ w m.avoid c v) hsz (by rw [List.length_append,List.size_toArray,hlen]) (fun y hy=>by
     rcases List.mem_append.1 hy with h1 | h1
     ·exact srx.uni y h1
     ·exact s_uni y h1) (fun j y k c k1 k2=>by
     obtain ⟨v,k3,k4⟩:=Ln (R:=fun c v=>v.oneCell'=true∧RD φ w m.avoid c v) srx.uni srx.size srx.rd s_rd j y k c k1 k2
     exact ⟨v,by simpa using k3,k4⟩)
    refine ⟨hsz,fun q v hq=>?_⟩
    rw [Array.getElem?_append] at hq
    split at hq
    ·exact h1.2 q v hq
    ·have hm:=Array.mem_of_getElem? hq
     simp only [Builtin.zeroCells,Array.mem_map] at hm
     obtain ⟨r,_,rfl⟩:=hm
     have hlt:r%z.cells.size<z.cells.size:=Nat.mod_lt _ (by omega)
     rw [getElem!_pos z.cells _ hlt]
     exact Vy h5 h4 g2 _ (by simp))
   (by rw [List.length_append]; exact hge)
   (by
    rw [Array.size_append,List.size_toArray,hlen,size_zeroCells,hzs,←Nat.add_mul]
    congr 1; omega)
   hle (fun y hy=>by
    rcases List.mem_append.1 hy with h1 | h1
    ·exact srx.uni y h1
    ·exact s_uni y h1)
   (fun j y k c k1 k2=>by
    obtain ⟨v,k3,k4⟩:=Ln (R:=fun c v=>v.oneCell'=true∧RD φ w m.avoid c v) srx.uni srx.size srx.rd s_rd j y k c k1 k2
    have hlt:=(List.getElem?_eq_some_iff.1 k3).1
    refine ⟨v,?_,k4.1,k4.2.mono (Nat.le_refl _) (fun _ _ _=>rfl) (fun _ _ hh=>hh)⟩
    rw [Array.getElem?_append_left (by simpa using hlt)]
    simpa using k3)
   (fun hh=>by rw [hdp'] at hh; cases hh)
  rw [List.length_append] at n2
  exact ⟨_,_,_,hrun,n1,n2⟩
 rcases hK with hK | ⟨d',c,e1,e2,e3,e4,hK⟩
 case inr=>
  obtain ⟨ad,cap,q1,q2,q3⟩:=(Dd vx).slice (by omega)
  cases x with
  | c v=>cases e2
  | t n=>
   obtain ⟨p,len,cap',z1,z2,z3,z4⟩:=h.cp n c e2
   rw [←hxt n rfl,q1] at z1
   cases z1
   have hcc:=z4 e3
   have q5:d'<nt:=hd d' e1
   have q6:nt≤16000:=h.hnt.1
   have hd':64*d'<Au:=Nat.lt_of_le_of_lt (Nat.mul_le_mul_left 64 (Nat.le_of_lt (Nat.lt_of_lt_of_le q5 q6))) (by decide)
   obtain ⟨v,w',m',k1,k2,k3⟩:=grow0 (Tc d') hd' (Tv (P:=P) h vx (by simp [Jb,hdp]) rfl hsz).choose_spec q1 (by omega)
   exact hwp k1 ⟨m',_,hK,k2.put hd (v:=.own (64*d') 0 i.size (es++ys)) ⟨k3,fun _=>k3.one⟩⟩
 have fin:∀ {v:Value} {w':World} {m':M},R.run P w = .ok v w'→Aw φ w0 A nt m' (S.drop T) a w'→RO φ m' w' T 0 i.size (es++ys) v →
   (∀c,Ih x (es.length+ys.length) S.cp=some c→Nv v c)→o.wp P a w (Nx φ w0 A nt K) Q:=by
  intro v w' m' k1 k2 k3 k4
  exact hwp k1 ⟨m',_,hK,k2.putC hd (v:=.own T 0 i.size (es++ys)) ⟨k3,fun _=>k3.one⟩ k4⟩
 have hcp:∀ {ad:Option Addr} {cap:Nat},xv = .slice ad es.length cap→∀c,Ih x (es.length+ys.length) S.cp=some c→Ky c≤(cap:Int)∧((es.length+ys.length:Nat):Int)≤Ky c∧(0<Ky c→ad≠none)∧(Fj≤c→(cap:Int)=c-Fj):=by
  intro ad cap hev c hc
  unfold Ih at hc
  split at hc
  ·rename_i c0 h0
   split at hc
   ·rename_i hle
    cases hc
    cases x with
    | c v=>cases h0
    | t n=>
     have e0:xv=a.tmps.getD n undef:=hxt n rfl
     obtain ⟨p,len,cap',z1,z2,z3,z4⟩:=h.cp n c h0
     rw [←e0,hev] at z1
     cases z1
     exact ⟨z2,hle,z3,z4⟩
   ·cases hc
  ·cases hc
 have grow:∀ {olds:List Value} {ad:Option Addr} {cap:Nat},Rf P φ m w (xv) i.size es olds→xv = .slice ad es.length cap→cap<es.length+ys.length→o.wp P a w (Nx φ w0 A nt K) Q:=by
  intro olds ad cap srx ex hg
  obtain ⟨v,w',m',k1,k2,k3⟩:=grow0 hdp hT srx ex hg
  exact fin k1 k2 k3 (fun c hc=>by
   obtain ⟨q1,q2,_⟩:=hcp ex c hc
   omega)
 rcases Dd vx with ⟨_,z2,z3⟩ | ⟨z1,_⟩ | ⟨b,cap,cur,E,z1,z2,z3,z4,z5,z6,z7,z8,z9⟩ | ⟨_,_,_,_,_,z2,_⟩
 rotate_right
 ·omega
 ·subst z2
  by_cases hys:ys=[]
  ·subst hys
   exact fin (r_none z3 rfl rfl) (h.drop T) (.inl ⟨rfl,rfl,rfl⟩) (fun c hc=>by
    obtain ⟨q1,_,q3,q4⟩:=hcp z3 c hc
    exact ⟨none,0,0,rfl,q1,fun hh=>absurd rfl (q3 hh),q4⟩)
  ·refine grow (olds:=[]) (Rf.none0 z3) z3 ?_
   have:0<ys.length:=List.length_pos_iff.2 hys
   simpa using this
 ·exact absurd rfl z1
 ·have z2':=z2
  rw [Nat.zero_mul] at z2
  rw [Nat.zero_add] at z5 z6
  by_cases hroom:es.length+ys.length≤cap
  ·have hrun:=r_room z2 z3 hroom z5
   have hK':=h.rowKeep z1
   have hfit:es.length*i.size+news.length≤cur.size:=by
    rw [s_size,←z5,←Nat.add_mul]
    exact Nat.mul_le_mul_right _ hroom
   have hwr:=Cq cur news (es.length*i.size)
   have hsw:=Dy cur news (es.length*i.size) hfit
   generalize hcur':(cur.toList.take (es.length*i.size)++news++cur.toList.drop (es.length*i.size+news.length)).toArray=cur' at hwr hsw hrun
   have hones:∀(q:Nat) (v:Value),cur'[q]? = some v→v.oneCell'=true:=by
    intro q v hq
    rw [←hcur'] at hq
    have hm:=List.mem_of_getElem? (by simpa using hq)
    rcases List.mem_append.1 hm with hm | hm
    ·obtain ⟨r,hr⟩:=List.getElem?_of_mem (List.mem_of_mem_take hm)
     exact z7.2 r v (by simpa using hr)
    ·rcases List.mem_append.1 hm with hm | hm
     ·exact s_ones v hm
     ·obtain ⟨r,hr⟩:=List.getElem?_of_mem (List.mem_of_mem_drop hm)
      exact z7.2 r v (by simpa using hr)
   refine fin hrun (h.rowGrown z1 z3 cur' hsw hones) (.inr (.inr (.inl ⟨b,cap,cur',E,z1,by simp,Gv cur' z3,by rw [List.length_append]; exact hroom,by rw [Nat.zero_add,hsw]; exact z5,by simpa using z6,⟨hsz,hones⟩,fun y hy=>?_,fun j y k c k1 k2=>?_⟩))) (fun c hc=>?_)
   ·rcases List.mem_append.1 hy with h1 | h1
    ·exact z8 y h1
    ·exact s_uni y h1
   ·obtain ⟨v,k3,k4,k5⟩:=Ln (olds:=cur.toList.take (es.length*i.size)) (R:=fun c v=>v.oneCell'=true∧RD φ w m.avoid c v) z8 (by simp; omega) (fun j y k c k1 k2=>by
      obtain ⟨v,k3,k4⟩:=z9 j y k c k1 k2
      refine ⟨v,?_,k4.1,k4.2.rd hdp⟩
      rw [Nat.zero_add] at k3
      have hj:=(List.getElem?_eq_some_iff.1 k1).1
      have hk:k<i.size:=by
       rw [←z8 y (List.mem_of_getElem? k1)]; exact (List.getElem?_eq_some_iff.1 k2).1
      have:(j+1)*i.size≤es.length*i.size:=Nat.mul_le_mul_right _ hj
      rw [Nat.add_mul,Nat.one_mul] at this
      rw [List.getElem?_take_of_lt (by omega)]
      simpa using k3) s_rd j y k c k1 k2
    refine ⟨v,?_,k4,.of ((hK' cur').rd k5) hdp⟩
    have hlt:=(List.getElem?_eq_some_iff.1 k3).1
    rw [←hcur',Nat.zero_add]
    simp only [List.getElem?_toArray]
    rw [List.getElem?_append_left hlt]
    exact k3
   ·obtain ⟨q1,q2,q3,q4⟩:=hcp (by rw [z2',Nat.zero_mul]) c hc
    exact ⟨_,_,_,rfl,q1,fun _=>by simp,q4⟩
  ·exact grow (Tv (P:=P) h vx (by simp [Jb,hdp]) rfl hsz).choose_spec z2 (by omega)
theorem tZ {sz by_:Nat} {x y:Ay} (hc:Hv P φ o=some (.app sz by_ x y)) (hd:∀d,o.dst=some d→d<nt) (h:Aw φ w0 A nt m S a w)
  (hw:Nb C o.dst (.app sz by_ x y) S K):o.wp P a w (Nx φ w0 A nt K) Q:=by
 obtain ⟨cl,s,e,i,zs,t,x',y',hop,hcal,h1,h2,h3,h4,h5,h6,rfl,rfl,h7,h8,h9,h10,h11⟩:=Bw hc
 obtain ⟨hm1,hm2,hw⟩:=hw
 split at hw
 ·rename_i T off s0 es s' ys hx hy
  obtain ⟨hT,rfl,rfl,hs',hb,hdp,hK⟩:=hw
  have vx:RT φ m w (.own T 0 i.size es) (a.eval x'):=by rw [←hx]; exact Gh h9 h hm1 rfl
  have vy:RT φ m w (Ca S y) (a.eval y'):=Gh h10 h hm2 rfl
  obtain ⟨news,src⟩:=Tv (P:=P) h vy hy hs' (by omega)
  have hsz:0<i.size:=by omega
  obtain ⟨i',z,g1,g2,g3⟩:=Er (φ:=φ) (m:=m) (w:=w) h5
  rw [h4] at g1
  obtain rfl:=Option.some.inj g1
  have hzs:z.cells.size=i.size:=by rw [g3.1,h6]
  have hby:1≤i.bytes:=by omega
  exact Uj (R:=Builtin.append_ #[s,t] o.type #[a.eval x',a.eval y']) hdp hd h hT hsz (by omega) h4 h5 g2 hzs hb vx (fun n hn=>qL (by rw [←hn]; exact h9)) src.size src.uni src.rd (src.ones hsz)
   (fun {v w'} k1 k2=>Cc (w':=w') (val:=v) (by
    have e1:=Kk h2
    simp only [execOp,hop,resolve,hcal,invoke,builtin,Sem.run_bind,Sem.run_pure,Result.andThen_ok,Kk h1,e1,List.map_toArray,List.map_cons,List.map_nil,k1]) k2) (.inl hK)
   (fun hx hg hr hf=>by rw [hx]; exact Tr (ty:=o.type) h3 h11 h4 src hsz hg hr hf)
   (fun hx he hy=>by subst hy; rw [hx]; exact Tq h3 h11 h4 src)
   (fun srx ex hg h63 hfit=>Tp (ty:=o.type) h3 h11 h4 g2 src srx ex hg h63 hfit)
 ·exact hw.elim
section
variable {s t ty e:TypeId} {i:TypeInfo} {z:Value} {l:Nat} {k:IntKind}
theorem Xj (z:Array Value) (n:Nat):(Builtin.zeroCells z n).toList.length=n*z.size:=by
 rw [Array.length_toList,size_zeroCells]
theorem Ro (hs:P.underlying s=some (.slice e)) (ht:∃u,P.underlying t=some (.int u)) (hi:P.info? e=some i) (hz:i.zero=some z) (hzs:z.cells.size=i.size) (hl:(l:Int)*i.bytes≤281474976710656) (hl2:l≤9223372036854775807)
  (hones:∀v∈(Builtin.zeroCells z.cells l).toList,v.oneCell'=true) (hsz:0<i.size) {g n cap:Nat} {cur:Array Value} {E:TypeId} (hg:w.heap[g]? = some (.cells cur E (0,0))) (hroom:n+l≤cap) (hfit:cap*i.size=cur.size):
  (Builtin.append_ #[s,t] ty #[.slice (some ⟨g,0,none⟩) n cap,.int k l]).run P w =
   .ok (.slice (some ⟨g,0,none⟩) (n+l) cap) (w.setRow g (cur.toList.take (n*i.size)++(Builtin.zeroCells z.cells l).toList++cur.toList.drop (n*i.size+(Builtin.zeroCells z.cells l).toList.length)).toArray):=by
 have hlen:=Xj z.cells l
 have hfit':n*i.size+(Builtin.zeroCells z.cells l).toList.length≤cur.size:=by
  rw [hlen,hzs,←hfit,←Nat.add_mul]
  exact Nat.mul_le_mul_right _ hroom
 have hst:=run_storeCells_at P g (n*i.size) E (Builtin.zeroCells z.cells l).toList 0 cur w hg (by simpa using hfit') hones
 simp only [Nat.add_zero] at hst
 obtain ⟨u,ht⟩:=ht
 have hw:IntKind.i64.wrap (l:Int)=l:=by
  have e1:IntKind.i64.wrap (l:Int)=if (l:Int)%18446744073709551616≥9223372036854775808 then (l:Int)%18446744073709551616-18446744073709551616 else (l:Int)%18446744073709551616:=by
   simp [IntKind.wrap,IntKind.bits,IntKind.signed]
  rw [e1]; split<;>omega
 have h0:¬((l:Int)<0):=by omega
 have h48:¬(281474976710656<(l:Int)*i.bytes):=by omega
 by_cases hl0:l=0
 ·subst hl0
  have e0:(Builtin.zeroCells z.cells 0).toList=[]:=List.eq_nil_of_length_eq_zero (by rw [hlen]; simp)
  rw [e0] at hst ⊢
  have hroom':n≤cap:=by omega
  have hw0:IntKind.i64.wrap 0=0:=by simpa using hw
  have hst':(storeCells ⟨g,n*i.size,none⟩ []).run P w = .ok () (w.setRow g (cur.toList.take (n*i.size)++[]++cur.toList.drop (n*i.size+0)).toArray):=hst
  generalize w.setRow g (cur.toList.take (n*i.size)++[]++cur.toList.drop (n*i.size+0)).toArray=w2 at hst'
  generalize hh:storeCells ⟨g,n*i.size,none⟩ []=sc at hst'
  have hroom2:n+0≤cap:=hroom
  have ha:(asInt (.int k 0)).run P w = .ok 0 w:=by rfl
  simp [Builtin.append_,run_underlying hs,run_underlying ht,sizeOf,typeInfo,hi,ha,hw0,hroom',Addr.add_lit,hh,hst']
 ·have hn0:¬(l=0∨i.size=0):=by omega
  have ha:(asInt (.int k l)).run P w = .ok l w:=by rfl
  simp [Builtin.append_,run_underlying hs,run_underlying ht,sizeOf,typeInfo,hi,ha,hw,h0,h48,hroom,hn0,zeroValue,hz,Addr.add_lit,hst]
  exact fun hh=>absurd (Nat.mul_eq_zero.1 hh) hn0
theorem Rn (hs:P.underlying s=some (.slice e)) (ht:∃u,P.underlying t=some (.int u)) (hi:P.info? e=some i):
  (Builtin.append_ #[s,t] ty #[.slice none 0 0,.int k (0:Nat)]).run P w = .ok (.slice none 0 0) w:=by
 obtain ⟨u,ht⟩:=ht
 have ha:(asInt (.int k 0)).run P w = .ok 0 w:=by rfl
 have hw0:IntKind.i64.wrap 0=0:=by decide
 simp [Builtin.append_,run_underlying hs,run_underlying ht,sizeOf,typeInfo,hi,ha,hw0]
theorem Rm (hs:P.underlying s=some (.slice e)) (ht:∃u,P.underlying t=some (.int u)) (hi:P.info? e=some i) (hz:i.zero=some z) (hsz:0<i.size) (hl:(l:Int)*i.bytes≤281474976710656) (hl2:l≤9223372036854775807)
  {xval:Value} {es:List (List V)} {olds:List Value} (srx:Rf P φ m w xval i.size es olds) {ad:Option Addr} {cap:Nat} (hx:xval = .slice ad es.length cap)
  (hgrow:cap<es.length+l) (h63:es.length+l≤9223372036854775807) (hfit:Builtin.nextslicecap (es.length+l) cap*i.bytes≤281474976710656):
  (Builtin.append_ #[s,t] ty #[xval,.int k l]).run P w =
   .ok (.slice (some ⟨w.heap.size,0,none⟩) (es.length+l) (grownCap w (es.length+l) cap e))
    (w.drew.alloc (.cells ((olds++(Builtin.zeroCells z.cells l).toList).toArray++Builtin.zeroCells z.cells (grownCap w (es.length+l) cap e-(es.length+l))) e)):=by
 obtain ⟨u,ht⟩:=ht
 have ha:(asInt (.int k l)).run P w = .ok l w:=by rfl
 have hw:IntKind.i64.wrap (l:Int)=l:=by
  have e1:IntKind.i64.wrap (l:Int)=if (l:Int)%18446744073709551616≥9223372036854775808 then (l:Int)%18446744073709551616-18446744073709551616 else (l:Int)%18446744073709551616:=by
   simp [IntKind.wrap,IntKind.bits,IntKind.signed]
  rw [e1]; split<;>omega
 have h0:¬((l:Int)<0):=by omega
 have h48:¬(281474976710656<(l:Int)*i.bytes):=by omega
 have hn:¬(es.length+l≤cap):=by omega
 have h63':¬(9223372036854775807<((es.length:Int)+(l:Int))):=by omega
 have h48':¬(281474976710656<Builtin.nextslicecap (es.length+l) cap*i.bytes):=by omega
 have hd:=srx.cells es.length (Nat.le_refl _) w.drew (fun _ _=>rfl)
 have hd':olds.take (es.length*i.size)=olds:=by rw [←srx.size]; exact List.take_length
 rw [hd',hx] at hd
 subst hx
 have e1:∀Z:Array Value,olds.toArray++(Builtin.zeroCells z.cells l++Z)=(olds++(Builtin.zeroCells z.cells l).toList).toArray++Z:=fun Z=>by apply Array.ext'; simp
 by_cases hl0:l=0
 ·subst hl0
  have e0:(Builtin.zeroCells z.cells 0).toList=[]:=List.eq_nil_of_length_eq_zero (by rw [Xj]; simp)
  have e0':Builtin.zeroCells z.cells 0 = #[]:=by apply Array.ext'; simpa using e0
  rw [e0]
  simp only [Nat.add_zero] at *
  have hw0:IntKind.i64.wrap 0=0:=by decide
  have ha0:(asInt (.int k 0)).run P w = .ok 0 w:=by rfl
  have h63'':¬(9223372036854775807<(es.length:Int)):=by omega
  simp [Builtin.append_,run_underlying hs,run_underlying ht,sizeOf,typeInfo,zeroValue,hi,hz,ha0,hw0,hn,h63'',h48',Question.forced,hd,newRow,grownCap]
 ·have hn0:¬(l=0∨i.size=0):=by omega
  simp [Builtin.append_,run_underlying hs,run_underlying ht,sizeOf,typeInfo,zeroValue,hi,hz,ha,hw,h0,h48,hn,hn0,h63',h48',Question.forced,hd,newRow,grownCap,e1]
  exact fun hh=>absurd (Nat.mul_eq_zero.1 hh) hn0
end
theorem pH {sz by_:Nat} {zero:List V} {x y:Ay} (hc:Hv P φ o=some (.appz sz by_ zero x y)) (hd:∀d,o.dst=some d→d<nt) (h:Aw φ w0 A nt m S a w)
  (hw:Nb C o.dst (.appz sz by_ zero x y) S K):o.wp P a w (Nx φ w0 A nt K) Q:=by
 obtain ⟨cl,s,e,i,t,k',x',y',hop,hcal,h1,h2,h3,h4,h5,h6,rfl,rfl,h7,h8,h9,h10,h11⟩:=Bw hc
 obtain ⟨hm1,hm2,hw⟩:=hw
 split at hw
 ·rename_i T off s0 es k l hx hy
  obtain ⟨hT,rfl,rfl,hl0,hb,hdp,hK⟩:=hw
  have vx:RT φ m w (.own T 0 i.size es) (a.eval x'):=by rw [←hx]; exact Gh h9 h hm1 rfl
  have vy:RT φ m w (.int k l) (a.eval y'):=by rw [←hy]; exact Gh h10 h hm2 rfl
  have ey:=Ce vy
  obtain ⟨n,rfl⟩:∃n:Nat,l=n:=⟨l.toNat,by omega⟩
  rw [Int.toNat_natCast] at hK
  have hsz:0<i.size:=by omega
  obtain ⟨i',z,g1,g2,g3⟩:=Er (φ:=φ) (m:=m) (w:=w) h5
  rw [h4] at g1
  obtain rfl:=Option.some.inj g1
  have hzs:z.cells.size=i.size:=by rw [g3.1,h6]
  have hby:1≤i.bytes:=by omega
  have hb':(es.length+n)*i.bytes≤140737488355328:=by
   have h:(((es.length+n)*i.bytes:Nat):Int)≤((140737488355328:Nat):Int):=by rw [Int.natCast_mul,Int.natCast_add]; exact hb
   exact Int.ofNat_le.1 h
  have hn1:n*i.bytes≤140737488355328:=Nat.le_trans (Nat.mul_le_mul_right _ (Nat.le_add_left _ _)) hb'
  have hn2:n≤140737488355328:=Nat.le_trans (by have:=Nat.mul_le_mul_left n hby; omega) hn1
  have hli:((n:Nat):Int)*i.bytes≤281474976710656:=by
   have:((n*i.bytes:Nat):Int)≤((140737488355328:Nat):Int):=Int.ofNat_le.2 hn1
   rw [Int.natCast_mul] at this
   omega
  have hz0:=g3.zeros n (by rw [h6]; exact hsz)
  rw [h6] at hz0
  have hu:∀e∈List.replicate n zero,e.length=i.size:=fun e he=>by rw [List.eq_of_mem_replicate he,h6]
  have hs:∀e∈List.replicate n zero,∀c∈e,Ie c=true:=fun e he=>by rw [List.eq_of_mem_replicate he]; exact Hr h5
  have hrows:=hz0.rows hu hs
  have hlen:(Builtin.zeroCells z.cells n).toList.length=(List.replicate n zero).length*i.size:=by rw [Xj,List.length_replicate,hzs]
  have hmade:Builtin.zeroCells z.cells n=madeCells z.cells (n*i.size):=by
   show madeCells z.cells (n*z.cells.size)=_
   rw [hzs]
  have hones:∀v∈(Builtin.zeroCells z.cells n).toList,v.oneCell'=true:=by
   intro v hv
   have h1:=Ib (sz:=i.size) (es:=List.replicate n zero) (arr:=madeCells z.cells (n*i.size)) (R:=fun c v=>RD φ w m.avoid c v) hsz (by rw [size_madeCells]; simp) hu hrows
   rw [hmade] at hv
   obtain ⟨q,hq⟩:=List.getElem?_of_mem hv
   exact h1.2 q v (by simpa using hq)
  rw [List.length_replicate] at hlen
  refine Uj (ys:=List.replicate n zero) (news:=(Builtin.zeroCells z.cells n).toList) (R:=Builtin.append_ #[s,t] o.type #[a.eval x',a.eval y']) hdp hd h hT hsz hby h4 h5 g2 hzs (by rw [List.length_replicate]; exact hb') vx (fun n hn=>qL (by rw [←hn]; exact h9))
   (by rw [List.length_replicate]; exact hlen) hu (fun j e k c k1 k2=>?_) hones
   (fun {v w'} k1 k2=>Cc (w':=w') (val:=v) (by
    have e1:=Kk h2
    simp only [execOp,hop,resolve,hcal,invoke,builtin,Sem.run_bind,Sem.run_pure,Result.andThen_ok,Kk h1,e1,List.map_toArray,List.map_cons,List.map_nil,k1]) k2) (by
    rw [List.length_replicate]
    rcases hK with hK | ⟨d',c,e1,e2,e3,e4,hK⟩
    ·exact .inl hK
    ·refine .inr ⟨d',c,e1,e2,e3,by omega,?_⟩
     exact hK) ?_ ?_ ?_
  ·obtain ⟨v,k3,k4,k5⟩:=hrows j e k c k1 k2
   refine ⟨v,?_,k4,k5⟩
   rw [hmade]
   simpa using k3
  ·intro g cap cur E hx hg hr hf
   rw [List.length_replicate] at hr ⊢
   rw [hx,ey]
   exact Ro (ty:=o.type) h3 ⟨_,h11⟩ h4 g2 hzs hli (by omega) hones hsz hg hr hf
  ·intro hx he hy
   have hn0:n=0:=by simpa using congrArg List.length hy
   subst hn0
   rw [hx,ey]
   exact Rn (ty:=o.type) h3 ⟨_,h11⟩ h4
  ·intro olds ad cap srx ex hg h63 hfit
   rw [List.length_replicate] at hg h63 hfit ⊢
   rw [ey]
   exact Rm (ty:=o.type) h3 ⟨_,h11⟩ h4 g2 hsz hli (by omega) srx ex hg h63 hfit
 ·exact hw.elim
section
variable {s t ty e:TypeId} {i:TypeInfo} {val:Value} {ys:List (List V)} {news:List Value}
theorem It (hs:P.underlying s=some (.slice e)) (hi:P.info? e=some i) (src:Rf P φ m w val i.size ys news) {ad:Option Addr} {n cap:Nat} {w1:World}
  (hst:match ad with | some a=>(storeCells a (news.take (Nat.min ys.length n*i.size))).run P w = .ok () w1 | none=>w1=w):
  (Builtin.copy_ #[s,t] ty #[.slice ad n cap,val]).run P w = .ok (goInt (Nat.min ys.length n:Nat)) w1:=by
 have hc:=src.cells (Nat.min ys.length n) (Nat.min_le_left _ _) w (fun _ _=>rfl)
 have hl:=src.len w
 cases ad with
 | none=>
  dsimp only at hst
  subst hst
  simp [Builtin.copy_,run_underlying hs,sizeOf,typeInfo,hi,hl,hc]
 | some a=>
  dsimp only at hst
  simp [Builtin.copy_,run_underlying hs,sizeOf,typeInfo,hi,hl,hc,hst]
end
theorem Vh (off:Nat) (es:List (List V)) (at_:Nat):Dm off es at_ []=es:=by
 apply List.ext_getElem?
 intro j
 rw [Dv]
 cases es[j]? <;> simp
theorem Aw.upd_nil (h:Aw φ w0 A nt m S a w) (T sz at_:Nat):Aw φ w0 A nt m (S.map (Tz T sz at_ [])) a w:=by
 refine h.mapAll (Ua T sz at_ []) m w (fun c x hx=>?_) (fun t b hb=>⟨hb,rfl⟩) h.toLay
 cases c with
 | own t off s es=>
  simp only [Tz]
  split
  ·split
   ·rw [Vh]; exact hx
   ·trivial
  ·exact hx
 | _=>exact hx
theorem pK {sz:Nat} {x y:Ay} (hc:Hv P φ o=some (.copy sz x y)) (hd:∀d,o.dst=some d→d<nt) (h:Aw φ w0 A nt m S a w)
  (hw:Nb C o.dst (.copy sz x y) S K):o.wp P a w (Nx φ w0 A nt K) Q:=by
 obtain ⟨cl,s,e,i,t,x',y',hop,hcal,h1,h2,h3,h4,rfl,h7,h9,h10⟩:=Bw hc
 obtain ⟨hm1,hm2,hw⟩:=hw
 split at hw
 ·rename_i T off s0 es s' ys hx hy
  obtain ⟨rfl,hs',hdp,hK⟩:=hw
  have vx:RT φ m w (.own T off i.size es) (a.eval x'):=by rw [←hx]; exact opd'_ok h9 h hm1 rfl
  have vy:RT φ m w (Ca S y) (a.eval y'):=Gh h10 h hm2 rfl
  have hsz:0<i.size:=by omega
  obtain ⟨news,src⟩:=Tv (P:=P) h vy hy hs' hsz
  have fin:∀ {w':World},(Builtin.copy_ #[s,t] o.type #[a.eval x',a.eval y']).run P w = .ok (goInt (Nat.min ys.length es.length:Nat)) w'→Aw φ w0 A nt m (S.map (Tz T i.size off (ys.take es.length))) a w' →
    o.wp P a w (Nx φ w0 A nt K) Q:=by
   intro w' k1 k2
   refine Cc (w':=w') (val:=goInt (Nat.min ys.length es.length:Nat)) ?_ ⟨m,_,hK,k2.put hd (v:=.int .i64 _) (Bm _ _)⟩
   simp only [execOp,hop,resolve,hcal,invoke,builtin,Sem.run_bind,Sem.run_pure,Result.andThen_ok,Kk h1,Kk h2,List.map_toArray,List.map_cons,List.map_nil,k1]
  rcases Dd vx with ⟨_,rfl,z3⟩ | ⟨_,rfl,ad,c,z3⟩ | ⟨b,cap,cur,E,z1,z2,z3,z4,z5,z6,z7,z8,z9⟩ | ⟨_,_,_,_,_,z2,_⟩
  rotate_right
  ·omega
  ·rw [z3] at fin
   exact fin (It h3 h4 src (w1:=w) rfl) (by simpa using h.upd_nil T i.size off)
  ·rw [z3] at fin
   refine fin (It h3 h4 src (w1:=w) ?_) (by simpa using h.upd_nil T i.size off)
   simp [storeCells]
  ·rw [z2] at fin
   have hmin:Nat.min ys.length es.length≤ys.length:=Nat.min_le_left _ _
   have hmin2:Nat.min ys.length es.length≤es.length:=Nat.min_le_right _ _
   have hlen:(news.take (Nat.min ys.length es.length*i.size)).length=Nat.min ys.length es.length*i.size:=by
    have:Nat.min ys.length es.length*i.size≤ys.length*i.size:=Nat.mul_le_mul_right _ hmin
    rw [List.length_take,src.size]
    omega
   have hfit:off*i.size+Nat.min ys.length es.length*i.size≤cur.size:=by
    rw [←z5,←Nat.add_mul]
    exact Nat.mul_le_mul_right _ (by omega)
   have hones:∀v∈news.take (Nat.min ys.length es.length*i.size),v.oneCell'=true:=fun v hv=>src.ones hsz v (List.mem_of_mem_take hv)
   have hst:=run_storeCells_at P b (off*i.size) E (news.take (Nat.min ys.length es.length*i.size)) 0 cur w z3 (by rw [hlen]; simpa using hfit) hones
   simp only [Nat.add_zero] at hst
   have hwr:=Cq cur (news.take (Nat.min ys.length es.length*i.size)) (off*i.size)
   have hsw:=Dy cur (news.take (Nat.min ys.length es.length*i.size)) (off*i.size) (by rw [hlen]; exact hfit)
   rw [hlen] at hwr hst hsw
   generalize hcur':(cur.toList.take (off*i.size)++news.take (Nat.min ys.length es.length*i.size)++cur.toList.drop (off*i.size+Nat.min ys.length es.length*i.size)).toArray=cur' at hwr hst hsw
   have hnl:(ys.take es.length).length=Nat.min ys.length es.length:=by
    rw [List.length_take]; exact Nat.min_comm _ _
   refine fin (It h3 h4 src (w1:=w.setRow b cur') hst) (h.rowWrite z1 z3 i.size off (ys.take es.length) (news.take (Nat.min ys.length es.length*i.size)) cur' z7.1 (fun y hy=>src.uni y (List.mem_of_mem_take hy)) ⟨hsw,fun j k hk=>?_⟩ (fun j y k c k1 k2=>?_) hdp)
   ·rw [hwr _ hfit,hnl]
    by_cases hj:off≤j∧j<off+Nat.min ys.length es.length
    ·rw [if_pos hj,if_pos]
     ·congr 1
      rw [Nat.sub_mul]
      have:off*i.size≤j*i.size:=Nat.mul_le_mul_right _ hj.1
      omega
     ·have e1:off*i.size≤j*i.size:=Nat.mul_le_mul_right _ hj.1
      have e2:(j+1)*i.size≤(off+Nat.min ys.length es.length)*i.size:=Nat.mul_le_mul_right _ hj.2
      rw [Nat.add_mul,Nat.one_mul,Nat.add_mul] at e2
      omega
    ·rw [if_neg hj,if_neg]
     rintro ⟨e1,e2⟩
     apply hj
     constructor
     ·rcases Nat.lt_or_ge j off with h5 | h5
      ·have:(j+1)*i.size≤off*i.size:=Nat.mul_le_mul_right _ h5
       rw [Nat.add_mul,Nat.one_mul] at this
       omega
      ·exact h5
     ·rcases Nat.lt_or_ge j (off+Nat.min ys.length es.length) with h5 | h5
      ·exact h5
      ·have:(off+Nat.min ys.length es.length)*i.size≤j*i.size:=Nat.mul_le_mul_right _ h5
       rw [Nat.add_mul] at this
       omega
   ·have hj:j<Nat.min ys.length es.length:=by rw [←hnl]; exact (List.getElem?_eq_some_iff.1 k1).1
    rw [List.getElem?_take_of_lt (by omega)] at k1
    obtain ⟨v,k3,k4⟩:=src.rd j y k c k1 k2
    refine ⟨v,?_,k4⟩
    have hk:k<i.size:=by
     rw [←src.uni y (List.mem_of_getElem? k1)]; exact (List.getElem?_eq_some_iff.1 k2).1
    have:(j+1)*i.size≤Nat.min ys.length es.length*i.size:=Nat.mul_le_mul_right _ hj
    rw [Nat.add_mul,Nat.one_mul] at this
    rw [List.getElem?_take_of_lt (by omega)]
    exact k3
 ·exact hw.elim
end Go.Ev
