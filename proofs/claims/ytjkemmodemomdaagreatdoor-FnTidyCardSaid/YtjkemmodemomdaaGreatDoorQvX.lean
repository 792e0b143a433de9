/- What a call of a function of the model must come to, and how a caller's values are handed over. -/
import Derived.Test.YtjkemmodemomdaaGreatDoorQvU6
set_option linter.all false
namespace Go.Ev
open Go.RowKit
variable {φ:Bz} {m m' m0 m1 m2:M} {w w' w0:World} {A:Fr} {nt:Nat} {S S':St} {a:Act} {P:Program}
variable {o:Oper} {K:St→Prop} {Q:Exit→Act→World→Prop} {C:Bb}
def Nf (P : Program) (fid : FuncId) : Prop := ∃ fn, P.funcs[fid]? = some fn ∧ (fn.name == "runtime.NumGoroutine") = false ∧ fn.body.isNone = false
def M.held (m:M) (b:Nat):Prop:=(∃k t,m.blk k t=some b)∨∃T j c,m.nst T j c=some b
structure uO (w:World) (m:M):Prop where
 inj:∀T j c T' j' c' b,m.nst T j c=some b→m.nst T' j' c'=some b→T=T'∧j=j'∧c=c'
 dis:∀T j c k t b,m.nst T j c=some b→m.blk k t=some b→False
 bnd:∀T j c b,m.nst T j c=some b→b<w.heap.size∧¬m.A b
 ones:∀(T j c b:Nat) (cur:Array Value) (e:TypeId) (x:Nat×Nat),m.nst T j c=some b→w.heap[b]? = some (.cells cur e x)→∀(i:Nat) (v:Value),cur[i]? = some v→v.oneCell'=true
structure pW (w:World) (m m':M) (w':World):Prop where
 inj:∀T j c T' j' c' b,m'.nst T j c=some b→m'.nst T' j' c'=some b→T=T'∧j=j'∧c=c'
 dis:∀T j c k t b,m'.nst T j c=some b→m'.blk k t=some b→False
 bnd:∀T j c b,m'.nst T j c=some b→b<w'.heap.size∧(w.heap.size≤b∨m.held b)∧¬m'.A b
 pin:∀T j c,Au≤T→m'.nst T j c=m.nst T j c
 ones:∀(T j c b:Nat) (cur:Array Value) (e:TypeId) (x:Nat×Nat),m'.nst T j c=some b→w'.heap[b]? = some (.cells cur e x)→∀(i:Nat) (v:Value),cur[i]? = some v→v.oneCell'=true
structure xA (φ:Bz) (w:World) (m:M) (g:Lj) (vals:List Value):Prop where
 hAlt:(∀b,m.A b→b<w.heap.size)∧Ni φ w m.held
 inj:∀k t k' t' b,m.blk k t=some b→m.blk k' t'=some b→k=k'∧t=t'
 bnd:∀k t b,m.blk k t=some b→b<w.heap.size∧¬m.A b
 len:vals.length=g.args.length
 args:∀(i:Nat) (v:V) (x:Value),g.args[i]? = some v→vals[i]? = some x→RT φ m w v x
 bx:∀(i:Nat) (cs:List V),g.bx[i]? = some cs→RB φ m w (Au+i) cs
 ones:Uf m w
 n:uO w m
structure aU (φ:Bz) (w:World) (m:M) (g:Lj) (t:Dh) (x:Value) (m':M) (w':World):Prop where
 hA:m'.A=m.A
 inj:∀k t k' t' b,m'.blk k t=some b→m'.blk k' t'=some b→k=k'∧t=t'
 bnd:∀k t b,m'.blk k t=some b→b<w'.heap.size∧(w.heap.size≤b∨m.held b)∧¬m'.A b
 pin:∀k t,Au≤t→m'.blk k t=m.blk k t
 lies:Hk m.held w w'
 res:RT φ m' w' t.r x
 bx:∀(i:Nat) (cs:List V),t.bx[i]? = some cs→RB φ m' w' (if i<g.bx.length then Au+i else i-g.bx.length) cs
 rw:∀(i off sz:Nat) (es:List (List V)),t.rw[i]? = some (off,sz,es)→(∀e∈es,e.length=sz)∧∃sz' val,RO φ m' w' (2097152+i) off sz' es val∨RO φ m' w' (2097184+i) off sz' es val
 ones:Uf m' w'
 n:pW w m m' w'
def By (P:Program) (φ:Bz):Bb:=fun f g t=>∀fid,look φ fid=some f→Nf P fid∧∀(w:World) (m:M) (vals:List Value),xA φ w m g vals →
 Calls P fid vals.toArray w fun e w'=>∃x m',e = .returned x∧aU φ w m g t x m' w'
theorem Jf {av:Nat→Prop} {c:V} {val:Value} (h:RD φ w av c val):RD φ w av (Iw c) val:=by
 have h1:=h.one
 cases h with
 | int k n=>exact .int k n
 | bool b=>exact .bool b
 | str s=>exact .str s
 | undef _ h=>exact .undef _ h
 | nil sz=>exact .nil sz
 | emp sz a c=>exact .emp sz a c
 | lst sz es b o cap vs hb hav hcap hsz hc hr=>exact .lst sz es b o cap vs hb hav hcap hsz hc hr
 | iptr cs b o vs hb hav hc hr=>exact .iptr cs b o vs hb hav hc hr
 | clo f fid caps vs h hl hr=>exact .undef _ h1
 | mp es b ents clock hb hav hh hm=>exact .mp es b ents clock hb hav hh hm
theorem Mc {av:Nat→Prop} {c:V} {val:Value} (h:RD φ w av c val):RD φ w av (Gi c) val:=by
 cases h with
 | int k n=>exact .int k n
 | bool b=>exact .bool b
 | str s=>exact .str s
 | undef _ h=>exact .undef _ h
 | nil sz=>exact .nil sz
 | emp sz a c=>exact .emp sz a c
 | lst sz es b o cap vs hb hav hcap hsz hc hr=>exact .lst sz es b o cap vs hb hav hcap hsz hc hr
 | iptr cs b o vs hb hav hc hr=>exact .iptr cs b o vs hb hav hc hr
 | clo f fid caps vs h hl hr=>
  refine .clo f fid (caps.map Iw) vs h (by simpa using hl) fun i c v h1 h2=>?_
  simp only [List.getElem?_map,Option.map_eq_some_iff] at h1
  obtain ⟨c0,h1,rfl⟩:=h1
  exact Jf (hr i c0 v h1 h2)
 | mp es b ents clock hb hav hh hm=>exact .mp es b ents clock hb hav hh hm
theorem Jg {c:V} {val:Value} (h:RQ φ m w c val):(∃t k,c = .ptr t k∧RP m t k val)∨((∀t k,c ≠ .ptr t k)∧RD φ w m.avoid c val):=by
 cases c with
 | ptr t k=>exact .inl ⟨t,k,rfl,h⟩
 | _=>exact .inr ⟨by simp,h⟩
theorem RP.one {t k:Nat} {val:Value} (h:RP m t k val):val.oneCell'=true:=by
 obtain ⟨b,_,rfl⟩:=h
 rfl
theorem Wb {c:V} {val:Value} (h:RQ φ m w c val):val.oneCell'=true:=by
 rcases Jg h with ⟨t,k,_,h⟩ | ⟨_,h⟩
 ·exact h.one
 ·exact h.one
theorem Ew {c:V} {val:Value} (h:RQ φ m w c val):RC φ m w c val:=by
 rcases Jg h with ⟨t,k,rfl,h⟩ | ⟨_,h⟩
 ·exact h
 ·exact Eu h
theorem Ug {av:Nat→Prop} {c:V} {val:Value} (hav:∀b,b<w.heap.size→¬m.avoid b→¬av b) (h:RC φ m w c val) (h1:val.oneCell'=true):RD φ w av (Gi c) val:=by
 cases c with
 | clo f caps=>
  obtain ⟨fid,vs,g1,rfl,g3,g4⟩:=h
  refine .clo f fid (caps.map Iw) vs g1 (by simpa using g3) fun i c v k1 k2=>?_
  simp only [List.getElem?_map,Option.map_eq_some_iff] at k1
  obtain ⟨c0,k1,rfl⟩:=k1
  have hq:=g4 i c0 v k1 k2
  rcases Jg hq with ⟨t,k,rfl,h⟩ | ⟨_,h⟩
  ·exact .undef _ h.one
  ·exact (Jf h).mono (Nat.le_refl _) (fun _ _ _=>rfl) hav
 | own t off sz es=>exact .undef _ h1
 | ptr t k=>exact .undef _ h1
 | optr t sz j k=>exact .undef _ h1
 | nrow T j c sz es=>exact .undef _ h1
 | undef=>exact .undef _ h1
 | agg cs=>exact .undef _ h1
 | tup cs=>exact .undef _ h1
 | may b v=>exact .undef _ h1
 | _=>exact RD.mono (φ:=φ) h (Nat.le_refl _) (fun _ _ _=>rfl) hav
structure Rs (m m1 m0:M) (LB LR LM F:List Nat) (fz:Bool):Prop where
 box:∀i t,LB[i]? = some t→m0.blk true (Au+i)=m.blk true t
 row:∀i t,LR[i]? = some t→m0.blk false (2097152+tg t i)=m.blk false t∧∀j c,m0.nst (2097152+tg t i) j c=m.nst t j c
 mov:∀i t,LM[i]? = some t→Az t=false→m0.blk false (1024000+i)=m.blk false t
 lr:LR.length<33
 lm:LM.length<33
 sub:∀b,m0.avoid b→m.avoid b
 only:∀k t b,m.blk k t=some b→m0.avoid b→fz=false→(k=true∧t∈LB)∨(k=false∧t∈LR++LM)
 froz:∀t b,m.blk false t=some b→m0.avoid b→fz=true→t∈F→t<Au→False
 nonly:∀T j c b,m.nst T j c=some b→m0.avoid b→fz=false→T∈LR
 nfroz:∀T j c b,m.nst T j c=some b→m0.avoid b→fz=true→T∈F→T<Au→False
theorem Pr (q e:Nat):Az (64*q+e)=Az e:=by
 unfold Az
 have:(64*q+e) / 32%2=e / 32%2:=by omega
 rw [this]
theorem Xx {e:Nat} (h:e<32):Az e=false:=by
 unfold Az
 have:e / 32%2=0:=by omega
 rw [this]; rfl
theorem nC {e:Nat} (h:e<32):Az (e+32)=true:=by
 unfold Az
 have:(e+32) / 32%2=1:=by omega
 rw [this]; rfl
theorem Xy (t:Nat) {e:Nat} (h:e<32):Az (tg t e)=Az t:=by
 unfold tg
 cases hd:Az t with
 | true=>exact nC h
 | false=>exact Xx h
theorem qO (t:Nat) {e:Nat} (h:e<32):tg t e<64:=by
 unfold tg
 cases Az t<;>simp<;>omega
theorem Xb (t:Nat) {e:Nat} (h:e<32):tg t e%32=e:=by
 unfold tg
 cases Az t<;>simp<;>omega
theorem Ps (t:Nat) {e:Nat} (h:e<32):Az (2097152+tg t e)=Az t:=by
 rw [show 2097152+tg t e=64*32768+tg t e by omega,Pr,Xy t h]
theorem So {LR:List Nat} {i T:Nat} (h:LR[i]? = some T) (hi:i<32):Ja LR (2097152+tg T i)=some T:=by
 unfold Ja
 rw [show 2097152+tg T i-2097152=tg T i by omega,Xb T hi,h]
 have:Nat.beq (2097152+tg T i) (2097152+tg T i)=true:=Nat.beq_refl _
 simp only [this,cond_true]
theorem Is {LR:List Nat} {t T:Nat} (h:Ja LR t=some T):∃i,i<32∧LR[i]? = some T∧t=2097152+tg T i:=by
 unfold Ja at h
 split at h
 ·rename_i T' hT
  cases hb:Nat.beq t (2097152+tg T' ((t-2097152)%32)) with
  | true=>
   rw [hb] at h
   cases h
   exact ⟨_,Nat.mod_lt _ (by decide),hT,Nat.eq_of_beq_eq_true hb⟩
  | false=>rw [hb] at h; cases h
 ·cases h
theorem Ej {t:Nat}:∀ {l:List Nat} {k i:Nat},Ds t l k=some i→∃j,i=k+j∧l[j]? = some t
 | x::r,k,i,h=>by
  simp only [Ds] at h
  split at h
  ·rename_i e
   cases h
   exact ⟨0,rfl,by simp [e]⟩
  ·obtain ⟨j,h1,h2⟩:=Ej h
   exact ⟨j+1,by omega,by simpa using h2⟩
 | [],_,_,h=>by simp [Ds] at h
theorem Iq {t:Nat}:∀ {l:List Nat} {k:Nat},Ds t l k=none→t∉l
 | x::r,k,h=>by
  simp only [Ds] at h
  split at h
  ·cases h
  ·rename_i e
   simp only [List.mem_cons,not_or]
   exact ⟨fun h2=>e h2.symm,Iq h⟩
 | [],_,_=>by simp
section
variable {LB LR LM F:List Nat} {fz:Bool} (H:Rs m m1 m0 LB LR LM F fz) (h:Aw φ w0 A nt m S a w)
theorem Rs.av (H:Rs m m1 m0 LB LR LM F fz):∀b,b<w.heap.size→¬m.avoid b→¬m0.avoid b:=fun b _ ha hb=>ha (H.sub b hb)
include H h
theorem wE (hfz:fz=false):∀(n:Nat) (c:V) (val:Value),RC φ m w c val→val.oneCell'=true→RD φ w m0.avoid (S.cl LB (LR++LM) n c) val:=by
 have h0:∀(c:V) (val:Value),RC φ m w c val→val.oneCell'=true→RD φ w m0.avoid (uI (LR++LM) c) val:=by
  intro c val hr h1
  by_cases ho:∃t off sz es,c = .own t off sz es
  ·obtain ⟨t,off,sz,es,rfl⟩:=ho
   simp only [uI]
   split
   ·exact .undef _ h1
   ·rename_i hn
    refine RO.closed h hr H.av (fun b hb hav=>?_) fun j c b hb hav=>hn (by simpa using Or.inl (H.nonly _ _ _ _ hb hav hfz))
    rcases H.only _ _ _ hb hav hfz with ⟨h2,_⟩ | ⟨_,h2⟩
    ·simp at h2
    ·exact hn (by simpa using h2)
  ·have e:uI (LR++LM) c=Gi c:=by
    cases c<;>first | rfl | exact absurd ⟨_,_,_,_,rfl⟩ ho
   rw [e]
   exact Ug H.av hr h1
 intro n
 induction n with
 | zero=>exact h0
 | succ n ih=>
  intro c val hr h1
  by_cases hp:∃t k,c = .ptr t k
  ·obtain ⟨t,k,rfl⟩:=hp
   simp only [St.cl]
   split
   ·exact .undef _ h1
   ·rename_i hn
    cases hl:look S.bx t with
    | none=>exact .undef _ h1
    | some cs=>
     obtain ⟨b,hb,rfl⟩:=hr
     obtain ⟨b',cur,e,g1,g2,g3⟩:=h.rb hl
     rw [hb] at g1
     obtain rfl:=Option.some.inj g1
     dsimp only
     refine .iptr _ b k (fun i=>(cur[k+i]?).getD undef) (h.bnd _ _ _ hb).1 (fun hav=>?_) (fun i c hi=>?_) (fun i c hi=>?_)
     ·rcases H.only _ _ _ hb hav hfz with ⟨_,h2⟩ | ⟨h2,_⟩
      ·exact hn (by simpa using h2)
      ·simp at h2
     ·simp only [List.getElem?_map,List.getElem?_drop,Option.map_eq_some_iff] at hi
      obtain ⟨c0,hi,rfl⟩:=hi
      obtain ⟨v,k1,k2,k3⟩:=g3 _ _ hi
      rw [cell_of_row w b _ cur e _ g2,k1]
      rfl
     ·simp only [List.getElem?_map,List.getElem?_drop,Option.map_eq_some_iff] at hi
      obtain ⟨c0,hi,rfl⟩:=hi
      obtain ⟨v,k1,k2,k3⟩:=g3 _ _ hi
      simp only [k1,Option.getD_some]
      exact ih c0 v k2 k3
  ·by_cases hc:∃f caps,c = .clo f caps
   ·obtain ⟨f,caps,rfl⟩:=hc
    obtain ⟨fid,vs,g1,rfl,g3,g4⟩:=hr
    simp only [St.cl]
    refine .clo f fid _ vs g1 (by simpa using g3) fun i c v k1 k2=>?_
    simp only [List.getElem?_map,Option.map_eq_some_iff] at k1
    obtain ⟨c0,k1,rfl⟩:=k1
    have hq:=g4 i c0 v k1 k2
    exact ih c0 v (Ew hq) (Wb hq)
   ·have e:S.cl LB (LR++LM) (n+1) c=uI (LR++LM) c:=by
     cases c<;>first | rfl | exact absurd ⟨_,_,rfl⟩ hp | exact absurd ⟨_,_,rfl⟩ hc
    rw [e]
    exact h0 c val hr h1
theorem Hf (n:Nat) {c:V} {val:Value} (hr:RQ φ m w c val):RQ φ m0 w (S.liftP LB (LR++LM) fz (n+1) c) val:=by
 rcases Jg hr with ⟨t,k,rfl,hp⟩ | ⟨hn,hd⟩
 ·simp only [St.liftP]
  cases hpl:Ds t LB 0 with
  | some i=>
   obtain ⟨j,h1,h2⟩:=Ej hpl
   obtain ⟨b,hb,rfl⟩:=hp
   refine ⟨b,?_,rfl⟩
   rw [h1,Nat.zero_add,H.box _ _ h2]
   exact hb
  | none=>
   cases hf:fz with
   | true=>exact .undef _ hp.one
   | false=>
    have hcl:=wE H h hf (n+1) (.ptr t k) val hp hp.one
    simp only [Bool.false_eq_true,if_false]
    simp only [St.cl] at hcl ⊢
    split at hcl<;>rename_i hx
    ·rw [if_pos hx]; exact hcl
    ·rw [if_neg hx]
     cases hl:look S.bx t with
     | none=>rw [hl] at hcl; exact hcl
     | some cs=>rw [hl] at hcl; exact hcl
 ·have e:S.liftP LB (LR++LM) fz (n+1) c=Gi c:=by
   cases c<;>first | rfl | exact absurd rfl (hn _ _)
  rw [e]
  have h1:=(Mc hd).mono (Nat.le_refl _) (fun _ _ _=>rfl) H.av
  cases c with
  | ptr t k=>exact absurd rfl (hn _ _)
  | _=>exact h1
theorem Uz {c:V} {val:Value} (hr:RC φ m w c val) (hF:∀t off sz es,c = .own t off sz es→fz=true→t∉LR→t∉LM→t∈F):
  RC φ m0 w (S.liftC LB LR LM fz c) val:=by
 have mv:∀ {t t0 off sz:Nat} {es:List (List V)},RO φ m w t off sz es val→m0.blk false t0=m.blk false t→Az t0=Az t→(Az t=true→∀j c,m0.nst t0 j c=m.nst t j c)→RO φ m0 w t0 off sz es val:=by
  intro t t0 off sz es hro hb hdd hnn
  rcases hro with h1 | h1 | ⟨b,cap,cur,e,h1,h2,h3,h4,h5,h6,h7,h8,h9⟩ | ⟨b,es',ents,clock,h1,h2,h3,h4,h5,h6,h7⟩
  ·exact .inl h1
  ·exact .inr (.inl h1)
  ·refine .inr (.inr (.inl ⟨b,cap,cur,e,by rw [hb]; exact h1,h2,h3,h4,h5,h6,h7,h8,fun j e k c g1 g2=>?_⟩))
   obtain ⟨v,k1,k2,k3⟩:=h9 j e k c g1 g2
   refine ⟨v,k1,k2,?_⟩
   rcases k3 with ⟨k3,k4⟩ | ⟨k3,s',e',k4,k5⟩
   ·exact .inl ⟨k3.mono (Nat.le_refl _) (fun _ _ _=>rfl) H.av,by rw [hdd]; exact k4⟩
   ·exact .inr ⟨by rw [hdd]; exact k3,s',e',k4,by rw [hnn k3]; exact k5⟩
  ·exact .inr (.inr (.inr ⟨b,es',ents,clock,h1,h2,h3,h4,by rw [hb]; exact h5,h6,h7⟩))
 cases c with
 | own t off sz es=>
  simp only [St.liftC,Tj]
  cases hp:Ds t LR 0 with
  | some i=>
   obtain ⟨j,h1,h2⟩:=Ej hp
   rw [Nat.zero_add] at h1
   subst h1
   have hlt:i<32:=by have:=(List.getElem?_eq_some_iff.1 h2).1; have:=H.lr; omega
   exact mv hr (H.row _ _ h2).1 (Ps t hlt) fun _=>(H.row _ _ h2).2
  | none=>
   cases hq:Ds t LM 0 with
   | some i=>
    obtain ⟨j,h1,h2⟩:=Ej hq
    rw [Nat.zero_add] at h1
    subst h1
    dsimp only
    cases hd:Az t with
    | true=>trivial
    | false=>
     have hlt:i<32:=by have:=(List.getElem?_eq_some_iff.1 h2).1; have:=H.lm; omega
     exact mv hr (H.mov _ _ h2 hd) (by rw [hd,show 1024000+i=64*16000+i by omega,Pr,Xx hlt]) fun hh=>by rw [hd] at hh; cases hh
   | none=>
    dsimp only
    split
    ·trivial
    ·rename_i hx
     have n1:=Iq hp
     have n2:=Iq hq
     refine Eu (RO.closed h hr H.av (fun b hb hav=>?_) fun j c b hb hav=>?_)
     rotate_left
     ·cases hf:fz with
      | true=>
       rw [hf] at hx
       simp only [Bool.true_and,Bool.not_eq_true',decide_eq_false_iff_not,Decidable.not_not] at hx
       exact H.nfroz t j c b hb hav hf (hF _ _ _ _ rfl hf n1 n2) hx
      | false=>exact n1 (H.nonly _ _ _ _ hb hav hf)
     cases hf:fz with
     | true=>
      rw [hf] at hx
      simp only [Bool.true_and,Bool.not_eq_true',decide_eq_false_iff_not,Decidable.not_not] at hx
      exact H.froz t b hb hav hf (hF _ _ _ _ rfl hf n1 n2) hx
     | false=>
      rcases H.only _ _ _ hb hav hf with ⟨h2,_⟩ | ⟨_,h2⟩
      ·simp at h2
      ·simp only [List.mem_append] at h2
       exact h2.elim n1 n2
 | clo f caps=>
  obtain ⟨fid,vs,g1,rfl,g3,g4⟩:=hr
  refine ⟨fid,vs,g1,rfl,by simpa [St.liftC] using g3,fun i c v k1 k2=>?_⟩
  simp only [List.getElem?_map,Option.map_eq_some_iff] at k1
  obtain ⟨c0,k1,rfl⟩:=k1
  exact Hf H h 1 (g4 i c0 v k1 k2)
 | ptr t k=>
  have:=Hf H h 2 (c:=.ptr t k) hr
  exact Ew this
 | optr t sz j k=>trivial
 | nrow T j c sz es=>trivial
 | undef=>trivial
 | agg cs=>trivial
 | tup cs=>trivial
 | may b v=>trivial
 | int x1 x2=>exact Ew (Hf H h 2 (c:=.int x1 x2) hr)
 | bool x1=>exact Ew (Hf H h 2 (c:=.bool x1) hr)
 | str x1=>exact Ew (Hf H h 2 (c:=.str x1) hr)
 | lst x1 x2=>exact Ew (Hf H h 2 (c:=.lst x1 x2) hr)
 | iptr x1=>exact Ew (Hf H h 2 (c:=.iptr x1) hr)
end
end Go.Ev
