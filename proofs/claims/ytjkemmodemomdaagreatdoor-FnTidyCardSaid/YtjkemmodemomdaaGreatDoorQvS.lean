/- How the small machine's values lie in the model's memory, and what keeps them there. -/
import Derived.Test.YtjkemmodemomdaaGreatDoorQvB
import Derived.Laws.AppendOwn
import Derived.Below
set_option linter.all false
namespace Go.Ev
open Go.RowKit
abbrev Bz:=List (Nat×Nat)
def Wu:List V→Value×Value
 | [.int k n,.bool b]=>(.int k n,.bool b)
 | _=>(undef,undef)
def Nw (es:List (List V)) (ents:Array MapEntry):Prop:=(ents.toList.map fun e=>(e.key,e.val))=es.map Wu∧∀e∈es,∃n b,e=[V.int .i64 n,V.bool b]
inductive RD (φ:Bz) (w:World) (av:Nat→Prop):V→Value→Prop
 | int (k:IntKind) (n:Int):RD φ w av (.int k n) (.int k n)
 | bool (b:Bool):RD φ w av (.bool b) (.bool b)
 | str (s:List UInt8):RD φ w av (.str s) (.string ⟨s.toArray⟩)
 | undef (v:Value) (h:v.oneCell'=true):RD φ w av .undef v
 | nil (sz:Nat):RD φ w av (.lst sz []) (.slice none 0 0)
 | emp (sz:Nat) (a:Addr) (c:Nat):RD φ w av (.lst sz []) (.slice (some a) 0 c)
 | lst (sz:Nat) (es:List (List V)) (b o cap:Nat) (vs:Nat→Nat→Value) (hb:b<w.heap.size) (hav:¬av b) (hcap:es.length≤cap)
   (hsz:∀(j:Nat) (e:List V),es[j]? = some e→e.length=sz)
   (hc:∀(j:Nat) (e:List V) (k:Nat) (c:V),es[j]? = some e→e[k]? = some c→w.cell? ⟨b,o+j*sz+k,none⟩=some (vs j k))
   (hr:∀(j:Nat) (e:List V) (k:Nat) (c:V),es[j]? = some e→e[k]? = some c→RD φ w av c (vs j k)):
   RD φ w av (.lst sz es) (.slice (some ⟨b,o,none⟩) es.length cap)
 | iptr (cs:List V) (b o:Nat) (vs:Nat→Value) (hb:b<w.heap.size) (hav:¬av b)
   (hc:∀(k:Nat) (c:V),cs[k]? = some c→w.cell? ⟨b,o+k,none⟩=some (vs k))
   (hr:∀(k:Nat) (c:V),cs[k]? = some c→RD φ w av c (vs k)):
   RD φ w av (.iptr cs) (.pointer (some ⟨b,o,none⟩))
 | clo (f fid:Nat) (caps:List V) (vs:List Value) (h:look φ fid=some f) (hl:vs.length=caps.length)
   (hr:∀(i:Nat) (c:V) (v:Value),caps[i]? = some c→vs[i]? = some v→RD φ w av c v):
   RD φ w av (.clo f caps) (.func (.func fid) #[] vs.toArray)
 | mp (es:List (List V)) (b:Nat) (ents:Array MapEntry) (clock:Nat) (hb:b<w.heap.size) (hav:¬av b) (hh:w.heap[b]? = some (.map ents clock)) (hm:Nw es ents):
   RD φ w av (.lst 0 ([.tup []]::es)) (.map (some b))
structure M where
 A:Nat→Prop
 blk:Bool→Nat→Option Nat
 
 nst:Nat→Nat→Nat→Option Nat
def M.avoid (m:M) (b:Nat):Prop:=m.A b∨(∃k t,m.blk k t=some b)∨∃T j c,m.nst T j c=some b
def RN (φ:Bz) (w:World) (o:Option Nat) (sz:Nat) (es:List (List V)) (val:Value):Prop:=
 (es=[]∧val = .slice none 0 0) ∨
 ∃b cap cur e,o=some b∧val = .slice (some ⟨b,0,none⟩) es.length cap∧w.heap[b]? = some (.cells cur e (0,0)) ∧
  es.length≤cap∧cap*sz=cur.size∧cap≤maxLen∧(0<sz∧∀(i:Nat) (v:Value),cur[i]? = some v→v.oneCell'=true)∧(∀e∈es,e.length=sz∧e.all scal=true) ∧
  ∀(j:Nat) (e:List V) (k:Nat) (c:V),es[j]? = some e→e[k]? = some c→∃v,cur[j*sz+k]? = some v∧v.oneCell'=true∧RD φ w (fun _=>False) c v
def RE (φ:Bz) (m:M) (w:World) (T J k:Nat) (c:V) (v:Value):Prop:=
 (RD φ w m.avoid c v∧(Az T=true→scal c=true))∨(Az T=true∧∃sz es,c = .lst sz es∧RN φ w (m.nst T J k) sz es v)
theorem RE.rd {φ:Bz} {m:M} {w:World} {T J k:Nat} {c:V} {v:Value} (h:RE φ m w T J k c v) (hd:Az T=false):RD φ w m.avoid c v:=by
 rcases h with h | h
 ·exact h.1
 ·rw [hd] at h; cases h.1
theorem RE.of {φ:Bz} {m:M} {w:World} {T J k:Nat} {c:V} {v:Value} (h:RD φ w m.avoid c v) (hd:Az T=false):RE φ m w T J k c v:=.inl ⟨h,fun hh=>by rw [hd] at hh; cases hh⟩
theorem RE.sc {φ:Bz} {m:M} {w:World} {T J k:Nat} {c:V} {v:Value} (h:RD φ w m.avoid c v) (hd:scal c=true):RE φ m w T J k c v:=.inl ⟨h,fun _=>hd⟩
theorem RN.val {φ:Bz} {w:World} {o:Option Nat} {sz:Nat} {es:List (List V)} {val:Value} (h:RN φ w o sz es val):val.oneCell'=true:=by
 rcases h with ⟨_,rfl⟩ | ⟨b,cap,cur,e,_,rfl,_⟩<;>rfl
section
variable (φ:Bz) (m:M) (w:World)
def RO (t off sz:Nat) (es:List (List V)) (val:Value):Prop:=
 (off=0∧es=[]∧val = .slice none 0 0) ∨
 (off≠0∧es=[]∧∃a c,val = .slice (some a) 0 c) ∨
 (∃b cap cur e,m.blk false t=some b∧val = .slice (some ⟨b,off*sz,none⟩) es.length cap∧w.heap[b]? = some (.cells cur e (0,0)) ∧
  es.length≤cap∧(off+cap)*sz=cur.size∧off+cap≤maxLen∧(0<sz∧∀(i:Nat) (v:Value),cur[i]? = some v→v.oneCell'=true)∧(∀e∈es,e.length=sz) ∧
  ∀(j:Nat) (e:List V) (k:Nat) (c:V),es[j]? = some e→e[k]? = some c→∃v,cur[(off+j)*sz+k]? = some v∧v.oneCell'=true∧RE φ m w t (off+j) k c v) ∨
 ∃b es' ents clock,off=0∧sz=0∧es=[.tup []]::es'∧val = .map (some b)∧m.blk false t=some b∧w.heap[b]? = some (.map ents clock)∧Nw es' ents
def RP (t k:Nat) (val:Value):Prop:=∃b,m.blk true t=some b∧val = .pointer (some ⟨b,k,none⟩)
def RQ (c:V) (val:Value):Prop:=
 match c with
 | .ptr t k=>RP m t k val
 | c=>RD φ w m.avoid c val
def RC (c:V) (val:Value):Prop:=
 match c with
 | .own t off sz es=>RO φ m w t off sz es val
 | .ptr t k=>RP m t k val
 | .optr t sz j k=>∃b,m.blk false t=some b∧val = .pointer (some ⟨b,j*sz+k,none⟩)
 | .nrow T j c sz es=>Az T=true∧RN φ w (m.nst T j c) sz es val
 | .clo f caps=>∃fid vs,look φ fid=some f∧val = .func (.func fid) #[] (List.toArray vs)∧vs.length=caps.length ∧
   ∀(i:Nat) (c:V) (v:Value),caps[i]? = some c→vs[i]? = some v→RQ φ m w c v
 | .undef=>True
 | c=>RD φ w m.avoid c val
def RW (v:V) (val:Value):Prop:=
 match v with
 | .agg cs=>∃arr:List Value,val = .agg arr.toArray∧arr.length=cs.length ∧
   ∀(i:Nat) (c:V) (x:Value),cs[i]? = some c→arr[i]? = some x→RC φ m w c x∧x.oneCell'=true
 | .tup _ | .may _ _=>False
 | c=>RC φ m w c val∧(c ≠ .undef→val.oneCell'=true)
def RT (v:V) (val:Value):Prop:=
 match v with
 | .tup vs=>∃arr:List Value,val = .tuple arr.toArray∧arr.length=vs.length ∧
   ∀(i:Nat) (x:V) (y:Value),vs[i]? = some x→arr[i]? = some y→RW φ m w x y
 | v=>RW φ m w v val
def RV (v:V) (val:Value):Prop:=
 match v with
 | .may b v=>(b=true→RT φ m w v val)∧(b=false→val=undef)
 | v=>RT φ m w v val
end
def Hj (k:Bool) (t:Nat):V→Prop
 | .own t' _ _ _ | .optr t' _ _ _ | .nrow t' _ _ _ _=>k=false∧t=t'
 | .ptr t' _=>k=true∧t=t'
 | .clo _ caps=>k=true∧∃k',V.ptr t k'∈caps
 | _=>False
variable {φ:Bz} {m m':M} {w w':World}
theorem RD.mono {av av':Nat→Prop} {v:V} {val:Value} (h:RD φ w av v val) (hs:w.heap.size≤w'.heap.size)
  (hw:∀b,b<w.heap.size→¬av b→w'.heap[b]? = w.heap[b]?) (ha:∀b,b<w.heap.size→¬av b→¬av' b):RD φ w' av' v val:=by
 induction h with
 | int k n=>exact .int k n
 | bool b=>exact .bool b
 | str s=>exact .str s
 | undef v h=>exact .undef v h
 | nil sz=>exact .nil sz
 | emp sz a c=>exact .emp sz a c
 | lst sz es b o cap vs hb hav hcap hsz hc hr ih=>
  refine .lst sz es b o cap vs (by omega) (ha b hb hav) hcap hsz (fun j e k c h1 h2=>?_) ih
  rw [World.cell?_of_block (w:=w) (hw b hb hav)]
  exact hc j e k c h1 h2
 | iptr cs b o vs hb hav hc hr ih=>
  refine .iptr cs b o vs (by omega) (ha b hb hav) (fun k c h1=>?_) ih
  rw [World.cell?_of_block (w:=w) (hw b hb hav)]
  exact hc k c h1
 | clo f fid caps vs h hl hr ih=>exact .clo f fid caps vs h hl ih
 | mp es b ents clock hb hav hh hm=>exact .mp es b ents clock (by omega) (ha b hb hav) (by rw [hw b hb hav]; exact hh) hm
structure Dz (m m':M) (w w':World) (p:Bool→Nat→Prop):Prop where
 size:w.heap.size≤w'.heap.size
 old:∀b,b<w.heap.size→¬m.avoid b→w'.heap[b]? = w.heap[b]? ∧ ¬m'.avoid b
 own:∀k t b,p k t→m.blk k t=some b→m'.blk k t=some b∧(k=false→w'.heap[b]? = w.heap[b]?)
 nst:∀T j c b,p false T→m.nst T j c=some b→m'.nst T j c=some b∧w'.heap[b]? = w.heap[b]?
theorem Dz.rd {p:Bool→Nat→Prop} (K:Dz m m' w w' p) {v:V} {val:Value} (h:RD φ w m.avoid v val):RD φ w' m'.avoid v val:=
 h.mono K.size (fun b hb ha=>(K.old b hb ha).1) (fun b hb ha=>(K.old b hb ha).2)
theorem RN.mono {o o':Option Nat} {sz:Nat} {es:List (List V)} {val:Value} (h:RN φ w o sz es val) (hk:∀b,o=some b→o'=some b∧w'.heap[b]? = w.heap[b]?):RN φ w' o' sz es val:=by
 rcases h with h | ⟨b,cap,cur,e,h1,h2,h3,h4,h5,h6,h7,h8,h9⟩
 ·exact .inl h
 ·refine .inr ⟨b,cap,cur,e,(hk b h1).1,h2,by rw [(hk b h1).2]; exact h3,h4,h5,h6,h7,h8,fun j e k c g1 g2=>?_⟩
  obtain ⟨v,g3,g4,g5⟩:=h9 j e k c g1 g2
  refine ⟨v,g3,g4,?_⟩
  have hs:=List.all_eq_true.1 (h8 e (List.mem_of_getElem? g1)).2 c (List.mem_of_getElem? g2)
  cases g5 with
  | int k n=>exact .int k n
  | bool b=>exact .bool b
  | str s=>exact .str s
  | undef _ h=>exact .undef _ h
  | _=>simp [scal] at hs
theorem Dz.rn {p:Bool→Nat→Prop} (K:Dz m m' w w' p) {T j c sz:Nat} {es:List (List V)} {val:Value} (hp:p false T) (h:RN φ w (m.nst T j c) sz es val):RN φ w' (m'.nst T j c) sz es val:=
 h.mono fun b hb=>K.nst T j c b hp hb
theorem Dz.re {p:Bool→Nat→Prop} (K:Dz m m' w w' p) {T j k:Nat} {c:V} {val:Value} (hp:p false T) (h:RE φ m w T j k c val):RE φ m' w' T j k c val:=by
 rcases h with ⟨h1,h2⟩ | ⟨h1,sz,es,h2,h3⟩
 ·exact .inl ⟨K.rd h1,h2⟩
 ·exact .inr ⟨h1,sz,es,h2,K.rn hp h3⟩
theorem Dz.rp {p:Bool→Nat→Prop} (K:Dz m m' w w' p) {t k:Nat} {val:Value} (hp:p true t) (h:RP m t k val):RP m' t k val:=by
 obtain ⟨b,hb,rfl⟩:=h
 exact ⟨b,(K.own true t b hp hb).1,rfl⟩
theorem Dz.ro {p:Bool→Nat→Prop} (K:Dz m m' w w' p) {t off sz:Nat} {es:List (List V)} {val:Value} (hp:p false t)
  (h:RO φ m w t off sz es val):RO φ m' w' t off sz es val:=by
 rcases h with h | h | ⟨b,cap,cur,e,h1,h2,h3,h4,h5,h6,h7,h8,h9⟩ | ⟨b,es',ents,clock,h1,h2,h3,h4,h5,h6,h7⟩
 ·exact .inl h
 ·exact .inr (.inl h)
 ·have hk:=K.own false t b hp h1
  refine .inr (.inr (.inl ⟨b,cap,cur,e,hk.1,h2,by rw [hk.2 rfl]; exact h3,h4,h5,h6,h7,h8,fun j e k c g1 g2=>?_⟩))
  obtain ⟨v,g3,g4,g5⟩:=h9 j e k c g1 g2
  exact ⟨v,g3,g4,K.re hp g5⟩
 ·have hk:=K.own false t b hp h5
  exact .inr (.inr (.inr ⟨b,es',ents,clock,h1,h2,h3,h4,hk.1,by rw [hk.2 rfl]; exact h6,h7⟩))
theorem Dz.rc {p:Bool→Nat→Prop} (K:Dz m m' w w' p) {c:V} {val:Value} (hp:∀k t,Hj k t c→p k t)
  (h:RC φ m w c val):RC φ m' w' c val:=by
 cases c with
 | own t off sz es=>exact K.ro (hp false t ⟨rfl,rfl⟩) h
 | ptr t k=>exact K.rp (hp true t ⟨rfl,rfl⟩) h
 | optr t sz j k=>
  obtain ⟨b,hb,rfl⟩:=h
  exact ⟨b,(K.own false t b (hp false t ⟨rfl,rfl⟩) hb).1,rfl⟩
 | nrow T j c sz es=>exact ⟨h.1,K.rn (hp false T ⟨rfl,rfl⟩) h.2⟩
 | clo f caps=>
  obtain ⟨fid,vs,h1,h2,h3,h4⟩:=h
  refine ⟨fid,vs,h1,h2,h3,fun i c v g1 g2=>?_⟩
  have h5:=h4 i c v g1 g2
  cases c with
  | ptr t k=>exact K.rp (hp true t ⟨rfl,k,List.mem_of_getElem? g1⟩) h5
  | _=>exact K.rd h5
 | undef=>trivial
 | _=>exact K.rd h
def Ph (k:Bool) (t:Nat):V→Prop
 | .agg cs=>∃c∈cs,Hj k t c
 | c=>Hj k t c
def Pg (k:Bool) (t:Nat):V→Prop
 | .tup vs=>∃v∈vs,Ph k t v
 | v=>Ph k t v
def Tu (k:Bool) (t:Nat):V→Prop
 | .may _ v=>Pg k t v
 | v=>Pg k t v
theorem Dz.rw {p:Bool→Nat→Prop} (K:Dz m m' w w' p) {c:V} {val:Value} (hp:∀k t,Ph k t c→p k t)
  (h:RW φ m w c val):RW φ m' w' c val:=by
 cases c with
 | agg cs=>
  obtain ⟨arr,h1,h2,h3⟩:=h
  exact ⟨arr,h1,h2,fun i c x g1 g2=>⟨K.rc (fun k t hs=>hp k t ⟨c,List.mem_of_getElem? g1,hs⟩) (h3 i c x g1 g2).1,(h3 i c x g1 g2).2⟩⟩
 | tup vs=>exact h
 | may b v=>exact h
 | _=>exact ⟨K.rc hp h.1,h.2⟩
theorem Dz.rt {p:Bool→Nat→Prop} (K:Dz m m' w w' p) {c:V} {val:Value} (hp:∀k t,Pg k t c→p k t)
  (h:RT φ m w c val):RT φ m' w' c val:=by
 cases c with
 | tup vs=>
  obtain ⟨arr,h1,h2,h3⟩:=h
  exact ⟨arr,h1,h2,fun i x y g1 g2=>K.rw (fun k t hs=>hp k t ⟨x,List.mem_of_getElem? g1,hs⟩) (h3 i x y g1 g2)⟩
 | int x1 x2=>exact K.rw (c:=.int x1 x2) hp h
 | bool x1=>exact K.rw (c:=.bool x1) hp h
 | str x1=>exact K.rw (c:=.str x1) hp h
 | lst x1 x2=>exact K.rw (c:=.lst x1 x2) hp h
 | own x1 x2 x3 x4=>exact K.rw (c:=.own x1 x2 x3 x4) hp h
 | ptr x1 x2=>exact K.rw (c:=.ptr x1 x2) hp h
 | iptr x1=>exact K.rw (c:=.iptr x1) hp h
 | nrow x1 x2 x3 x4 x5=>exact K.rw (c:=.nrow x1 x2 x3 x4 x5) hp h
 | optr x1 x2 x3 x4=>exact K.rw (c:=.optr x1 x2 x3 x4) hp h
 | agg x1=>exact K.rw (c:=.agg x1) hp h
 | clo x1 x2=>exact K.rw (c:=.clo x1 x2) hp h
 | may x1 x2=>exact (h:False).elim
 | undef=>exact K.rw (c:=.undef) hp h
theorem Dz.rv {p:Bool→Nat→Prop} (K:Dz m m' w w' p) {c:V} {val:Value} (hp:∀k t,Tu k t c→p k t)
  (h:RV φ m w c val):RV φ m' w' c val:=by
 cases c with
 | may b v=>exact ⟨fun hb=>K.rt hp (h.1 hb),h.2⟩
 | int x1 x2=>exact K.rt (c:=.int x1 x2) hp h
 | bool x1=>exact K.rt (c:=.bool x1) hp h
 | str x1=>exact K.rt (c:=.str x1) hp h
 | lst x1 x2=>exact K.rt (c:=.lst x1 x2) hp h
 | own x1 x2 x3 x4=>exact K.rt (c:=.own x1 x2 x3 x4) hp h
 | ptr x1 x2=>exact K.rt (c:=.ptr x1 x2) hp h
 | iptr x1=>exact K.rt (c:=.iptr x1) hp h
 | nrow x1 x2 x3 x4 x5=>exact K.rt (c:=.nrow x1 x2 x3 x4 x5) hp h
 | optr x1 x2 x3 x4=>exact K.rt (c:=.optr x1 x2 x3 x4) hp h
 | agg x1=>exact K.rt (c:=.agg x1) hp h
 | tup x1=>exact K.rt (c:=.tup x1) hp h
 | clo x1 x2=>exact K.rt (c:=.clo x1 x2) hp h
 | undef=>exact K.rt (c:=.undef) hp h
structure Fr where
 av:Nat→Prop
 ext:Nat→Prop
 pin:Bool→Nat→Option Nat
 npin:Nat→Nat→Nat→Option Nat
structure Hk (E:Nat→Prop) (w w':World):Prop where
 os:w'.os=w.os
 tape:w'.tape=w.tape∧w.drawn≤w'.drawn
 output:w'.output=w.output
 size:w.heap.size≤w'.heap.size
 block:∀k,k<w.heap.size→¬E k→w'.heap[k]? = w.heap[k]?
 shape:∀(k:Nat) (cur:Array Value) (e:TypeId) (fr:Nat×Nat),k<w.heap.size→w.heap[k]? = some (.cells cur e fr)→∃cur',w'.heap[k]? = some (.cells cur' e fr)∧cur'.size=cur.size
theorem Hk.refl (E:Nat→Prop) (w:World):Hk E w w:=⟨rfl,⟨rfl,Nat.le_refl _⟩,rfl,Nat.le_refl _,fun _ _ _=>rfl,fun _ cur _ _ _ h=>⟨cur,h,rfl⟩⟩
def Uf (m:M) (w:World):Prop:=∀(t b:Nat) (cur:Array Value) (e:TypeId) (x:Nat×Nat),m.blk false t=some b→w.heap[b]? = some (.cells cur e x)→∀(i:Nat) (v:Value),cur[i]? = some v→v.oneCell'=true
structure Vz (w0:World) (A:Fr) (m:M) (w:World):Prop where
 inj:∀T j c T' j' c' b,m.nst T j c=some b→m.nst T' j' c'=some b→T=T'∧j=j'∧c=c'
 dis:∀T j c k t b,m.nst T j c=some b→m.blk k t=some b→False
 bnd:∀T j c b,m.nst T j c=some b→b<w.heap.size∧(w0.heap.size≤b∨A.ext b)∧¬m.A b
 pin:∀T j c,Au≤T→m.nst T j c=A.npin T j c
 ones:∀(T j c b:Nat) (cur:Array Value) (e:TypeId) (x:Nat×Nat),m.nst T j c=some b→w.heap[b]? = some (.cells cur e x)→∀(i:Nat) (v:Value),cur[i]? = some v→v.oneCell'=true
theorem Vz.move {w0:World} {A:Fr} (h:Vz w0 A m w) (hn:m'.nst=m.nst) (hA:m'.A=m.A) (hs:w.heap.size≤w'.heap.size) (hb:∀k t b,m'.blk k t=some b→(∃k t,m.blk k t=some b)∨w.heap.size≤b)
  (hw:∀T j c b,m.nst T j c=some b→w'.heap[b]? = w.heap[b]?):Vz w0 A m' w':=by
 refine ⟨by rw [hn]; exact h.inj,fun T j c k t b h1 h2=>?_,fun T j c b h1=>?_,by rw [hn]; exact h.pin,fun T j c b cur e x h1 h2=>?_⟩
 ·rw [hn] at h1
  rcases hb k t b h2 with ⟨k',t',h3⟩ | h3
  ·exact h.dis _ _ _ _ _ _ h1 h3
  ·have:=(h.bnd _ _ _ _ h1).1; omega
 ·rw [hn] at h1
  have:=h.bnd _ _ _ _ h1
  exact ⟨by omega,this.2.1,by rw [hA]; exact this.2.2⟩
 ·rw [hn] at h1
  rw [hw _ _ _ _ h1] at h2
  exact h.ones _ _ _ _ _ _ _ h1 h2
structure Lay (w0:World) (A:Fr) (m:M) (w:World):Prop where
 hA:m.A=A.av
 hAlt:∀b,A.av b→b<w0.heap.size
 inj:∀k t k' t' b,m.blk k t=some b→m.blk k' t'=some b→k=k'∧t=t'
 bnd:∀k t b,m.blk k t=some b→b<w.heap.size∧(w0.heap.size≤b∨A.ext b)∧¬m.A b
 pin:∀k t,Au≤t→m.blk k t=A.pin k t
 lies:Hk A.ext w0 w
 ones:Uf m w
 n:Vz w0 A m w
def Nv (val:Value) (c:Int):Prop:=∃p len cap,val = .slice p len cap∧Ky c≤(cap:Int)∧(0<Ky c→p≠none)∧(Fj≤c→(cap:Int)=c-Fj)
def pE:Nat:=65536
def wX:Nat→Array Value
 | 0=>((List.range 20).map fun i=>Value.int .u64 ((10^i:Nat):Int)).toArray
 | _ => #[]
def Ni (φ:Bz) (w:World) (E:Nat→Prop):Prop:=∀b k,look φ (pE+b)=some k→b<w.heap.size∧¬E b∧∃e x,w.heap[b]? = some (.cells (wX k) e x)
structure Aw (φ:Bz) (w0:World) (A:Fr) (nt:Nat) (m:M) (S:St) (a:Act) (w:World):Prop extends Lay w0 A m w where
 hnt:nt≤16000∧Ni φ w0 A.ext
 size:a.tmps.size=nt
 defers:a.defers=[]
 env:∀t v,look S.env t=some v→RV φ m w v (a.tmps.getD t undef)
 bx:∀t cs,look S.bx t=some cs→∃b cur e,m.blk true t=some b∧w.heap[b]? = some (.cells cur e (0,0)) ∧
  ∀(i:Nat) (c:V),cs[i]? = some c→∃v,cur[i]? = some v∧RC φ m w c v∧v.oneCell'=true
 cp:∀k c,look S.cp k=some c→Nv (a.tmps.getD k undef) c
theorem Oh {α:Type} (l:List (Nat×α)) (d k:Nat):look (l.filter fun p=>p.1 != d) k=if k=d then none else look l k:=by
 induction l with
 | nil=>simp [look]
 | cons p r ih=>
  obtain ⟨a,x⟩:=p
  by_cases h:a=d
  ·subst h
   have e0:((a,x)::r).filter (fun p=>p.1 != a)=r.filter fun p=>p.1 != a:=by simp
   rw [e0,ih]
   simp only [look]
   by_cases e:k=a
   ·simp [e]
   ·simp [e,Ne.symm e]
  ·simp only [List.filter_cons,bne_iff_ne,ne_eq,h,not_false_eq_true,if_true,look,ih]
   by_cases e:a=k
   ·subst e; simp [h]
   ·simp [e]
theorem Ef {α:Type} (l:List (Nat×α)) (d:Nat) (v:α) (t:Nat):look (ins l d v) t=if d=t then some v else look l t:=rfl
theorem Uv (a:Array Value) (d t:Nat) (v:Value):(a.setIfInBounds d v).getD t undef=if d=t∧d<a.size then v else a.getD t undef:=by
 by_cases h:d=t
 ·subst h
  by_cases hd:d<a.size
  ·simp [hd]
  ·simp [hd]
 ·simp [h,Array.getElem?_setIfInBounds_ne h]
theorem Lx (d k:Nat) (f:List (Nat×Int)→Option Int) (l:List (Nat×Int)):look (Ho d f l) k=if k=d then f l else look l k:=by
 cases l with
 | nil=>
  simp only [Ho]
  by_cases e:k=d
  ·subst e; cases f []<;>simp [look]
  ·cases f []<;>simp [look,e,Ne.symm e]
 | cons p r=>
  simp only [Ho]
  cases f (p::r) with
  | none=>rw [Oh]
  | some c=>
   rw [look,Oh]
   by_cases e:d=k
   ·simp [e]
   ·simp [e,Ne.symm e]
theorem Aw.putC {w0:World} {A:Fr} {nt:Nat} {S:St} {a:Act} (h:Aw φ w0 A nt m S a w) {d:Option Nat} {v:V} {val:Value} {o:List (Nat×Int)→Option Int}
  (hd:∀x,d=some x→x<nt) (hv:RV φ m w v val) (ho:∀c,o S.cp=some c→Nv val c):Aw φ w0 A nt m (S.putC d v o) (a.put d val) w:=by
 cases d with
 | none=>exact h
 | some d=>
  have hdn:d<a.tmps.size:=by rw [h.size]; exact hd d rfl
  have key:∀S':St,S'.env=ins S.env d v→S'.bx=S.bx→(∀k c,look S'.cp k=some c→(k=d∧o S.cp=some c)∨(k≠d∧look S.cp k=some c))→Aw φ w0 A nt m S' (a.put (some d) val) w:=by
   intro S' h1 h2 h3
   refine ⟨h.toLay,h.hnt,by simp [Act.put,h.size],h.defers,fun t u hu=>?_,by rw [h2]; exact h.bx,fun k c hk=>?_⟩
   ·rw [h1,Ef] at hu
    simp only [Act.put,Uv]
    by_cases e:d=t
    ·subst e
     simp only [if_true,Option.some.injEq] at hu
     subst hu
     simp [hdn]; exact hv
    ·simp only [e,if_false] at hu
     simp only [e,false_and,if_false]
     exact h.env t u hu
   ·simp only [Act.put,Uv]
    rcases h3 k c hk with ⟨rfl,h4⟩ | ⟨h4,h5⟩
    ·simp [hdn]; exact ho c h4
    ·simp only [Ne.symm h4,false_and,if_false]; exact h.cp k c h5
  refine key _ rfl rfl fun k c hk=>?_
  rw [show (S.putC (some d) v o).cp=Ho d o S.cp from rfl,Lx] at hk
  split at hk
  ·rename_i e; exact .inl ⟨e,hk⟩
  ·rename_i e; exact .inr ⟨e,hk⟩
theorem Aw.put {w0:World} {A:Fr} {nt:Nat} {S:St} {a:Act} (h:Aw φ w0 A nt m S a w) {d:Option Nat} {v:V} {val:Value}
  (hd:∀x,d=some x→x<nt) (hv:RV φ m w v val):Aw φ w0 A nt m (S.put d v) (a.put d val) w:=
 h.putC (o:=fun _=>none) hd hv (fun _ h=>nomatch h)
end Go.Ev
