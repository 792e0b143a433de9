/- The pure operations, one by one. -/
import Derived.Test.YtjkemmodemomdaaGreatDoorQvO
set_option linter.all false
namespace Go.Ev
open Go.RowKit
variable {φ:Bz} {m m':M} {w w' w0:World} {A:Fr} {nt:Nat} {S S':St} {a:Act} {P:Program}
theorem Ji {c:V} {val:Value} (h:RC φ m w c val) (h1:val.oneCell'=true):RW φ m w c val:=by
 cases c with
 | agg cs=>have h2:RD φ w m.avoid (.agg cs) val:=h; cases h2
 | tup cs=>have h2:RD φ w m.avoid (.tup cs) val:=h; cases h2
 | may b v=>have h2:RD φ w m.avoid (.may b v) val:=h; cases h2
 | _=>exact ⟨h,fun _=>h1⟩
theorem Eu {c:V} {val:Value} (h:RD φ w m.avoid c val):RC φ m w c val:=by
 cases h with
 | undef v h=>trivial
 | clo f fid caps vs h hl hr =>
  refine ⟨fid,vs,h,rfl,hl,fun i c v h1 h2=>?_⟩
  have h3:=hr i c v h1 h2
  cases c with
  | ptr t k=>cases h3
  | _=>exact h3
 | int k n=>exact .int k n
 | bool b=>exact .bool b
 | str s=>exact .str s
 | nil sz=>exact .nil sz
 | emp sz a c=>exact .emp sz a c
 | lst sz es b o cap vs hb hav hcap hsz hc hr=>exact .lst sz es b o cap vs hb hav hcap hsz hc hr
 | iptr cs b o vs hb hav hc hr=>exact .iptr cs b o vs hb hav hc hr
 | mp es b ents clock hb hav hh hm=>exact .mp es b ents clock hb hav hh hm
theorem Ch (b o j:Nat):(⟨b,o,none⟩:Addr).add j=⟨b,o+j,none⟩:=by
 unfold Addr.add
 split
 ·subst_vars; rfl
 ·rfl
theorem Hy {t:TypeId} {ag:Bool} (h:Eb P t=some ag):(isAgg t).run P w = .ok ag w:=by
 unfold Eb at h
 split at h<;>cases h
 ·rename_i h1; simp [isAgg,run_underlying h1]
 ·rename_i h1; simp [isAgg,run_underlying h1]
 ·rename_i h1 h2 h3
  rename_i d
  simp only [isAgg,Sem.run_bind,run_underlying h3,Result.andThen_ok]
  rfl
theorem Dg {t:TypeId} {i:TypeInfo} (h:P.info? t=some i):(sizeOf t).run P w = .ok i.size w:=by
 simp [sizeOf,typeInfo,h]
theorem Qh {t:TypeId} {ag:Bool} {i:TypeInfo} {ad:Addr} {cs:List V} (hag:Eb P t=some ag) (hi:P.info? t=some i) (h0:i.size≠0)
  (hn:i.size≤cs.length) (hc:∀(j:Nat) (c:V),cs[j]? = some c→∃v,w.cell? (ad.add j)=some v∧RC φ m w c v∧v.oneCell'=true)
  {v:V} (hv:Iz ag i.size cs=some v):∃val,(loadVar t ad).run P w = .ok val w∧RT φ m w v val:=by
 have hch:∀j,∃x,j<cs.length→w.cell? (ad.add j)=some x∧(∀c,cs[j]? = some c→RC φ m w c x∧x.oneCell'=true):=by
  intro j
  by_cases hj:j<cs.length
  ·obtain ⟨x,h1,h2⟩:=hc j cs[j] (List.getElem?_eq_getElem hj)
   refine ⟨x,fun _=>⟨h1,fun c hc=>?_⟩⟩
   rw [List.getElem?_eq_getElem hj] at hc
   cases hc; exact h2
  ·exact ⟨undef,fun h=>absurd h hj⟩
 let f:=fun j=>Classical.choose (hch j)
 have hf:∀j,j<cs.length→w.cell? (ad.add j)=some (f j)∧(∀c,cs[j]? = some c→RC φ m w c (f j)∧(f j).oneCell'=true):=fun j=>Classical.choose_spec (hch j)
 cases ag with
 | true=>
  simp only [Iz,if_true,Option.some.injEq] at hv
  subst hv
  refine ⟨.agg ((List.range i.size).map f).toArray,?_,(List.range i.size).map f,rfl,by simp; omega,fun j c x h1 h2=>?_⟩
  ·simp only [loadVar,Sem.run_bind,Hy hag,Result.andThen_ok,if_true,Dg hi,run_loadCells w ad i.size f (fun j hj=>(hf j (by omega)).1)]
   rfl
  ·have hj:j<i.size:=by
    have:=(List.getElem?_eq_some_iff.1 h2).1
    simpa using this
   rw [List.getElem?_take,if_pos hj] at h1
   simp only [List.getElem?_map,List.getElem?_range hj,Option.map_some,Option.some.injEq] at h2
   subst h2
   exact (hf j (by omega)).2 c h1
 | false=>
  simp only [Iz,Bool.false_eq_true,if_false] at hv
  have h1:cs[0]? = some v:=by cases cs<;>simp_all
  have hlt:0<cs.length:=by omega
  have h2:=hf 0 hlt
  refine ⟨f 0,?_,Fx (Ji (h2.2 v h1).1 (h2.2 v h1).2)⟩
  have h3:w.cell? ad=some (f 0):=by
   have:=h2.1
   simpa [Addr.add] using this
  simp [loadVar,Hy hag,h3]
theorem RB.cell {t:Nat} {cs:List V} (h:RB φ m w t cs):∃b,m.blk true t=some b∧∀(i:Nat) (c:V),cs[i]? = some c→∃v,w.cell? ⟨b,i,none⟩=some v∧RC φ m w c v∧v.oneCell'=true:=by
 obtain ⟨b,cur,e,h1,h2,h3⟩:=h
 refine ⟨b,h1,fun i c hi=>?_⟩
 obtain ⟨v,h4,h5⟩:=h3 i c hi
 exact ⟨v,by rw [cell_of_row w b i cur e _ h2,h4],h5⟩
theorem RD.icell {cs:List V} {val:Value} (h:RD φ w m.avoid (.iptr cs) val):∃b o,val = .pointer (some ⟨b,o,none⟩) ∧
  ∀(k:Nat) (c:V),cs[k]? = some c→∃v,w.cell? ⟨b,o+k,none⟩=some v∧RC φ m w c v∧v.oneCell'=true:=by
 cases h with
 | iptr cs b o vs hb hav hc hr=>exact ⟨b,o,rfl,fun k c hk=>⟨vs k,hc k c hk,Eu (hr k c hk),(hr k c hk).one⟩⟩
theorem Hu {tag:Nat} {x:Nat×List (List V)}:∀ {cs:List V},Ga tag cs=some x→∃sz,sz≠0∧V.own tag x.1 sz x.2∈cs
 | [],h=>by simp [Ga] at h
 | c::r,h=>by
  have key:Ga tag r=some x→∃sz,sz≠0∧V.own tag x.1 sz x.2∈c::r:=fun h=>by
   obtain ⟨sz,hz,hs⟩:=Hu h
   exact ⟨sz,hz,List.mem_cons_of_mem _ hs⟩
  cases c with
  | own t off sz es=>
   simp only [Ga] at h
   split at h
   ·rename_i e; obtain ⟨e,hz⟩:=e; subst e; cases h; exact ⟨sz,hz,List.mem_cons_self⟩
   ·exact key h
  | _=>exact key h
theorem Wj {v:V} {val:Value} (h:RV φ m w v val) {c:V} (hc:c∈v.cells) (ho:∃t off sz es,c = .own t off sz es):∃x,RC φ m w c x:=by
 rcases Sx v with ⟨cs,rfl⟩ | hn
 ·obtain ⟨arr,h1,h2,h3⟩:=h
  obtain ⟨i,hi,hxi⟩:=List.getElem_of_mem hc
  have hi':i<cs.length:=hi
  have hlt:i<arr.length:=by rw [h2]; exact hi'
  exact ⟨arr[i],(h3 i c arr[i] (by rw [←hxi]; exact List.getElem?_eq_getElem hi) (List.getElem?_eq_getElem hlt)).1⟩
 ·rw [Hl hn] at hc
  simp only [List.mem_singleton] at hc
  subst hc
  obtain ⟨t,off,sz,es,rfl⟩:=ho
  exact ⟨val,h.1⟩
theorem Im {tag:Nat} {x:Nat×List (List V)} {env:List (Nat×V)}:∀ {l:List (Nat×V)},Ko tag env l=some x →
  ∃t v sz,look env t=some v∧sz≠0∧V.own tag x.1 sz x.2∈v.cells
 | [],h=>by simp [Ko] at h
 | (t,_)::r,h=>by
  simp only [Ko] at h
  split at h
  ·rename_i v hv
   split at h
   ·rename_i y hy
    cases h
    obtain ⟨sz,hs⟩:=Hu hy
    exact ⟨t,v,sz,hv,hs⟩
   ·exact Im h
  ·exact Im h
theorem Jr {tag:Nat} {x:Nat×List (List V)} {bx:List (Nat×List V)}:∀ {l:List (Nat×List V)},Nq tag bx l=some x →
  ∃t cs sz,look bx t=some cs∧sz≠0∧V.own tag x.1 sz x.2∈cs
 | [],h=>by simp [Nq] at h
 | (t,_)::r,h=>by
  simp only [Nq] at h
  split at h
  ·rename_i v hv
   split at h
   ·rename_i y hy
    cases h
    obtain ⟨sz,hs⟩:=Hu hy
    exact ⟨t,v,sz,hv,hs⟩
   ·exact Jr h
  ·exact Jr h
theorem Aw.find (h:Aw φ w0 A nt m S a w) {tag:Nat} {off:Nat} {es:List (List V)} (hf:S.find tag=some (off,es)):
  ∃sz,sz≠0∧∃val,RO φ m w tag off sz es val:=by
 unfold St.find at hf
 split at hf
 ·rename_i x hx
  cases hf
  obtain ⟨t,v,sz,h1,hz,h2⟩:=Im hx
  obtain ⟨x,hx⟩:=Wj (h.env t v h1) h2 ⟨_,_,_,_,rfl⟩
  exact ⟨sz,hz,x,hx⟩
 ·obtain ⟨t,cs,sz,h1,hz,h2⟩:=Jr hf
  obtain ⟨b,cur,e,g1,g2,g3⟩:=h.rb h1
  obtain ⟨i,hi,hxi⟩:=List.getElem_of_mem h2
  have hi':cs[i]? = some (V.own tag off sz es):=by rw [List.getElem?_eq_getElem hi]; exact congrArg some hxi
  obtain ⟨x,_,g4,_⟩:=g3 i _ hi'
  exact ⟨sz,hz,x,g4⟩
theorem RO.cell {t off sz:Nat} {es:List (List V)} {val:Value} (h:RO φ m w t off sz es val) (hz:sz≠0) {j:Nat} (hj:j<es.length):
  0<sz∧(es.getD j []).length=sz∧∃b,m.blk false t=some b∧∀(k:Nat) (c:V),(es.getD j [])[k]? = some c→∃v,w.cell? ⟨b,(off+j)*sz+k,none⟩=some v∧RE φ m w t (off+j) k c v∧v.oneCell'=true:=by
 rcases h with ⟨_,rfl,_⟩ | ⟨_,rfl,_⟩ | ⟨b,cap,cur,e,h1,h2,h3,h4,h5,h6,h7,h8,h9⟩ | ⟨_,_,_,_,_,h2,_⟩
 ·simp at hj
 ·simp at hj
 rotate_left
 ·exact absurd h2 hz
 ·have he:es[j]? = some (es.getD j []):=by simp [List.getElem?_eq_getElem hj]
  refine ⟨h7.1,h8 _ (List.mem_of_getElem? he),b,h1,fun k c hk=>?_⟩
  obtain ⟨v,g1,g2,g3⟩:=h9 j _ k c he hk
  exact ⟨v,by rw [cell_of_row w b _ cur e _ h3,g1],g3,g2⟩
theorem Qa (T J:Nat):∀(k:Nat) (cs:List V) (l:Nat),(Ka T J k cs)[l]? = (cs[l]?).map (dD T J (k+l))
 | _,[],l=>by simp [Ka]
 | k,c::r,0=>by simp [Ka]
 | k,c::r,l+1=>by
  simp only [Ka,List.getElem?_cons_succ]
  rw [Qa T J (k+1) r l,show k+1+l=k+(l+1) by omega]
theorem Lf (T J:Nat):∀(k:Nat) (cs:List V),(Ka T J k cs).length=cs.length
 | _,[]=>rfl
 | k,c::r=>by simp [Ka,Lf T J (k+1) r]
theorem Qg (T J k:Nat) (cs:List V):(tE T J k cs).length=cs.length:=by
 unfold tE
 cases Az T with
 | true=>exact Lf T J k cs
 | false=>rfl
theorem dE {T J k:Nat} {c:V} {v:Value} (hd:Az T=true) (h:RE φ m w T J k c v):RC φ m w (dD T J k c) v:=by
 rcases h with ⟨h1,h2⟩ | ⟨_,sz,es,rfl,h3⟩
 ·have h4:=h2 hd
  cases c with
  | lst sz es=>simp [Ev.scal] at h4
  | int k n=>exact h1
  | bool b=>exact h1
  | str s=>exact h1
  | undef=>trivial
  | _=>trivial
 ·exact ⟨hd,h3⟩
theorem tF {T J k l:Nat} {cs:List V} {c':V} {v:Value} (h:(tE T J k cs)[l]? = some c') (hc:∀c,cs[l]? = some c→RE φ m w T J (k+l) c v):RC φ m w c' v:=by
 unfold tE at h
 cases hd:Az T with
 | false=>
  rw [hd] at h
  exact Eu ((hc _ h).rd hd)
 | true=>
  rw [hd] at h
  rw [cond_true,Qa] at h
  obtain ⟨c,h1,rfl⟩:=Option.map_eq_some_iff.1 h
  exact dE hd (hc c h1)
end Go.Ev
