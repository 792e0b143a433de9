/- The state behind a call: layouts and cells. -/
import Derived.Test.YtfpbbpkdjmldkaaGreatQvX2
set_option linter.all false
namespace Go.Ev
open Go.RowKit
variable {φ:Fa} {m m' m0 m1 m2:M} {w w' w0:World} {A:Fr} {nt:Nat} {S S' S1:St} {a:Act} {P:Program}
theorem Ln {n:Nat}:∀ {l:List Nat},Re n l=true→∀t∈l,t<n
 | x::r,h,t,ht=>by
  simp only [Re,Bool.and_eq_true,decide_eq_true_eq] at h
  cases ht with
  | head=>exact h.1
  | tail _ ht=>exact Ln h.2 t ht
 | [],_,_,ht=>by simp at ht
theorem Lu {X:List Nat}:∀ {l:List Nat},Lt X l=true→∀t∈l,t∉X
 | x::r,h,t,ht=>by
  simp only [Lt,Bool.and_eq_true] at h
  cases ht with
  | head=>simpa using h.1
  | tail _ ht=>exact Lu h.2 t ht
 | [],_,_,ht=>by simp at ht
theorem Ti {d T:Nat}:∀ {n:Nat},T∈Uf d n↔∃i,i<n∧T=64*d+i
 | 0=>by simp [Uf]
 | n+1=>by
  simp only [Uf,List.mem_append,Ti (n:=n),List.mem_singleton]
  constructor
  ·rintro (⟨i,h,rfl⟩ | rfl)
   ·exact ⟨i,by omega,rfl⟩
   ·exact ⟨n,by omega,rfl⟩
  ·rintro ⟨i,h,rfl⟩
   by_cases e:i=n
   ·subst e; exact .inr rfl
   ·exact .inl ⟨i,by omega,rfl⟩
theorem Ht (d:Nat):∀(n:Nat),(Uf d n).length=n
 | 0=>rfl
 | n+1=>by simp [Uf,Ht d n]
theorem Qz {d:Nat}:∀ {n i:Nat},i<n→(Uf d n)[i]? = some (64*d+i)
 | n+1,i,h=>by
  simp only [Uf]
  by_cases e:i<n
  ·rw [List.getElem?_append_left (by rw [Ht]; exact e)]
   exact Qz e
  ·have:i=n:=by omega
   subst this
   rw [List.getElem?_append_right (by rw [Ht]; exact Nat.le_refl _),Ht]
   simp
theorem Og {d T:Nat}:∀ {l:List Nat},T∈Pz d l↔∃e,e∈l∧e<64∧T=64*d+e
 | []=>by simp [Pz]
 | x::r=>by
  simp only [Pz]
  split
  ·rename_i hx
   simp only [List.mem_cons,Og (l:=r)]
   constructor
   ·rintro (rfl | ⟨e,h1,h2,h3⟩)
    ·exact ⟨x,.inl rfl,hx,rfl⟩
    ·exact ⟨e,.inr h1,h2,h3⟩
   ·rintro ⟨e,rfl | h1,h2,h3⟩
    ·exact .inl h3
    ·exact .inr ⟨e,h1,h2,h3⟩
  ·rename_i hx
   rw [Og (l:=r)]
   constructor
   ·rintro ⟨e,h1,h2,h3⟩; exact ⟨e,List.mem_cons_of_mem _ h1,h2,h3⟩
   ·rintro ⟨e,h1,h2,h3⟩
    rcases List.mem_cons.1 h1 with rfl | h1
    ·exact absurd h2 hx
    ·exact ⟨e,h1,h2,h3⟩
theorem sS {av av':Nat→Prop} {c:V} {v:Value} (hs:eO c=true) (h:RD φ w av c v):RD φ w' av' c v:=by
 cases h with
 | int k n=>exact .int k n
 | bool b=>exact .bool b
 | str s=>exact .str s
 | undef _ h=>exact .undef _ h
 | _=>simp [eO] at hs
def Ez (m1 m':M) (d:Nat) (NB NR LM:List Nat):M:=
 ⟨m1.A,
  fun k t=>if k then (if t∈NB then m'.blk true (t-64*d) else m1.blk true t)
   else if t∈NR then m'.blk false (t-64*d) else if t∈LM then none else m1.blk false t⟩
structure Nt (φ:Fa) (w0:World) (A:Fr) (w w':World) (m1 m':M) (LB LR LM:List Nat) (fz:Bool) (d:Nat) (g:Tr) (t:Gs) (x:Value):Prop where
 L:Lay w0 A m1 w
 post:zC φ w (Ha m1 LB LR LM fz) g t x m' w'
 gb:g.bx.length=LB.length
 hB:Fh LB=true
 hR:Fh (LR++LM)=true
 hM:Re Di LM=true
 cnt:t.bx.length-LB.length<65
 lm:LM.length<65
 apB:Lt (t.newB d LB.length) LB=true
 apR:Lt (t.newR d) LR=true
 hd:64*d+64≤Di
 fl:fz=false→t.flat=true
set_option linter.unusedSectionVars false
section
variable {LB LR LM:List Nat} {fz:Bool} {d:Nat} {g:Tr} {t:Gs} {x:Value} (B:Nt φ w0 A w w' m1 m' LB LR LM fz d g t x)
include B
theorem Nt.memB {T:Nat} (h:T∈t.newB d LB.length):∃i,i<t.bx.length-LB.length∧T=64*d+i:=Ti.1 h
theorem Nt.src {k:Bool} {T b:Nat} (h:((Ez m1 m' d (t.newB d LB.length) (t.newR d) LM)).blk k T=some b):
  (∃e,T=64*d+e∧e<65∧m'.blk k e=some b)∨(m1.blk k T=some b∧(k=false→T∉LM)):=by
 cases k
 ·simp only [Ez,Bool.false_eq_true,if_false] at h
  split at h
  ·rename_i hm
   obtain ⟨e,_,h2,rfl⟩:=Og.1 hm
   rw [Nat.add_sub_cancel_left] at h
   exact .inl ⟨e,rfl,by omega,h⟩
  ·split at h
   ·cases h
   ·rename_i hm
    exact .inr ⟨h,fun _=>hm⟩
 ·simp only [Ez,if_true] at h
  split at h
  ·rename_i hm
   obtain ⟨e,h2,rfl⟩:=B.memB hm
   rw [Nat.add_sub_cancel_left] at h
   have:=B.cnt
   exact .inl ⟨e,rfl,by omega,h⟩
  ·exact .inr ⟨h,by simp⟩
theorem Nt.pinB {i T:Nat} (h:LB[i]? = some T):m'.blk true (Di+i)=m1.blk true T:=by
 rw [B.post.pin _ _ (Nat.le_add_right _ _),Sa h]
theorem Nt.pinR {i T:Nat} (h:LR[i]? = some T):m'.blk false (2097152+i)=m1.blk false T:=by
 rw [B.post.pin _ _ (by simp only [Di]; omega),Ya h]
theorem Nt.mmB {T:Nat} (h:T∉t.newB d LB.length):((Ez m1 m' d (t.newB d LB.length) (t.newR d) LM)).blk true T=m1.blk true T:=by simp [Ez,h]
theorem Nt.mmR {T:Nat} (h:T∉t.newR d) (h2:T∉LM):((Ez m1 m' d (t.newB d LB.length) (t.newR d) LM)).blk false T=m1.blk false T:=by simp [Ez,h,h2]
theorem Nt.new_old {k k':Bool} {e T b:Nat} (he:e<65) (h1:m'.blk k e=some b) (h2:m1.blk k' T=some b) (h3:k'=false→T∉LM):False:=by
 have hb:=(B.L.bnd _ _ _ h2).1
 rcases (B.post.bnd _ _ _ h1).2.1 with h4 | ⟨k2,t2,h4⟩
 ·omega
 ·cases k2
  ·rcases Ms h4 with ⟨i,T',rfl,g1,g2⟩ | ⟨i,T',rfl,_,g1,g2⟩
   ·rw [←B.post.pin _ _ (by simp only [Di]; omega)] at h4
    obtain ⟨rfl,h5⟩:=B.post.inj _ _ _ _ _ h1 h4
    omega
   ·obtain ⟨rfl,rfl⟩:=B.L.inj _ _ _ _ _ h2 g2
    exact h3 rfl (List.mem_of_getElem? g1)
  ·obtain ⟨i,T',rfl,g1,g2⟩:=Ip h4
   rw [←B.post.pin _ _ (Nat.le_add_right _ _)] at h4
   obtain ⟨rfl,h5⟩:=B.post.inj _ _ _ _ _ h1 h4
   simp only [Di] at h5
   omega
theorem Nt.ones:lQ (Ez m1 m' d (t.newB d LB.length) (t.newR d) LM) w':=by
 intro T b cur e x h1 hw
 rcases B.src h1 with ⟨e',rfl,g1,g2⟩ | ⟨g1,g2⟩
 ·exact B.post.ones _ _ _ _ _ g2 hw
 ·by_cases hx:∃k t,(Ha m1 LB LR LM fz).blk k t=some b
  ·obtain ⟨k,t',h3⟩:=hx
   cases k with
   | true=>
    obtain ⟨i,T',rfl,q1,q2⟩:=Ip h3
    have:=B.L.inj _ _ _ _ _ g1 q2
    simp at this
   | false=>
    rcases Ms h3 with ⟨i,T',rfl,q1,q2⟩ | ⟨i,T',rfl,_,q1,q2⟩
    ·obtain ⟨_,rfl⟩:=B.L.inj _ _ _ _ _ g1 q2
     exact B.post.ones (2097152+i) b cur e x (by rw [B.pinR q1]; exact g1) hw
    ·obtain ⟨_,rfl⟩:=B.L.inj _ _ _ _ _ g1 q2
     exact absurd (List.mem_of_getElem? q1) (g2 rfl)
  ·rw [B.post.lies.block b (B.L.bnd _ _ _ g1).1 hx] at hw
   exact B.L.ones T b cur e x g1 hw
theorem Nt.lay:Lay w0 A ((Ez m1 m' d (t.newB d LB.length) (t.newR d) LM)) w':=by
 have L:=B.L
 refine ⟨L.hA,L.hAlt,fun k T k' T' b h1 h2=>?_,fun k T b h1=>?_,fun k T hT=>?_,?_,B.ones⟩
 ·rcases B.src h1 with ⟨e,rfl,g1,g2⟩ | ⟨g1,g2⟩<;>rcases B.src h2 with ⟨e',rfl,k1,k2⟩ | ⟨k1,k2⟩
  ·obtain ⟨rfl,rfl⟩:=B.post.inj _ _ _ _ _ g2 k2
   exact ⟨rfl,rfl⟩
  ·exact (B.new_old g1 g2 k1 k2).elim
  ·exact (B.new_old k1 k2 g1 g2).elim
  ·exact L.inj _ _ _ _ _ g1 k1
 ·rcases B.src h1 with ⟨e,rfl,g1,g2⟩ | ⟨g1,g2⟩
  ·obtain ⟨k1,k2,k3⟩:=B.post.bnd _ _ _ g2
   refine ⟨k1,?_,fun hA=>?_⟩
   ·rcases k2 with k2 | ⟨k',t',k2⟩
    ·exact .inl (Nat.le_trans L.lies.size k2)
    ·obtain ⟨T,h2,_⟩:=Ei k2
     exact (L.bnd _ _ _ h2).2.1
   ·rcases k2 with k2 | ⟨k',t',k2⟩
    ·have h3:=L.hAlt b (L.hA ▸ hA)
     have h4:=L.lies.size
     omega
    ·obtain ⟨T,h2,_⟩:=Ei k2
     exact (L.bnd _ _ _ h2).2.2 hA
  ·have h2:=L.bnd _ _ _ g1
   exact ⟨Nat.lt_of_lt_of_le h2.1 B.post.lies.size,h2.2⟩
 ·have hd:=B.hd
  cases k
  ·rw [B.mmR,L.pin _ _ hT]
   ·intro hm
    obtain ⟨e,_,h2,rfl⟩:=Og.1 hm
    omega
   ·intro hm
    have:=Ln B.hM T hm
    omega
  ·rw [B.mmB,L.pin _ _ hT]
   intro hm
   obtain ⟨e,h2,rfl⟩:=B.memB hm
   have:=B.cnt
   omega
 ·have L1:=L.lies
  have L2:=B.post.lies
  refine ⟨L2.os.trans L1.os,⟨L2.tape.1.trans L1.tape.1,Nat.le_trans L1.tape.2 L2.tape.2⟩,L2.output.trans L1.output,Nat.le_trans L1.size L2.size,fun k hk hE=>?_,fun k cur e fr hk h1=>?_⟩
  ·rw [L2.block k (Nat.lt_of_lt_of_le hk L1.size),L1.block k hk hE]
   rintro ⟨k',t',hb⟩
   obtain ⟨T,h2,_⟩:=Ei hb
   rcases (L.bnd _ _ _ h2).2.1 with h3 | h3
   ·omega
   ·exact hE h3
  ·obtain ⟨c1,h2,h3⟩:=L1.shape k cur e fr hk h1
   obtain ⟨c2,h4,h5⟩:=L2.shape k c1 e fr (Nat.lt_of_lt_of_le hk L1.size) h2
   exact ⟨c2,h4,h5.trans h3⟩
theorem Nt.keep:Jx m1 ((Ez m1 m' d (t.newB d LB.length) (t.newR d) LM)) w w' (fun k T=>¬kC LB LR LM k T∧T∉t.newR d∧T∉t.newB d LB.length):=by
 refine ⟨B.post.lies.size,fun b hb ha=>⟨B.post.lies.block b hb ?_,?_⟩,fun k T b hp hb=>⟨?_,fun hk=>B.post.lies.block b (B.L.bnd _ _ _ hb).1 ?_⟩⟩
 ·rintro ⟨k,t,h1⟩
  obtain ⟨T,h2,_⟩:=Ei h1
  exact ha (.inr ⟨k,T,h2⟩)
 ·rintro (hA | ⟨k,T,h1⟩)
  ·exact ha (.inl hA)
  ·rcases B.src h1 with ⟨e,rfl,g1,g2⟩ | ⟨g1,g2⟩
   ·rcases (B.post.bnd _ _ _ g2).2.1 with h3 | ⟨k',t',h3⟩
    ·omega
    ·obtain ⟨T,h2,_⟩:=Ei h3
     exact ha (.inr ⟨_,T,h2⟩)
   ·exact ha (.inr ⟨_,_,g1⟩)
 ·cases k
  ·rw [B.mmR hp.2.1 fun hm=>hp.1 (.inr ⟨rfl,List.mem_append.2 (.inr hm)⟩)]; exact hb
  ·rw [B.mmB hp.2.2]; exact hb
 ·rintro ⟨k',t',h1⟩
  obtain ⟨T',h2,h3⟩:=Ei h1
  obtain ⟨rfl,rfl⟩:=B.L.inj _ _ _ _ _ hb h2
  exact hp.1 h3
theorem Nt.sub (hf:fz=true):∀b,¬m'.avoid b→¬((Ez m1 m' d (t.newB d LB.length) (t.newR d) LM)).avoid b:=by
 intro b hn
 have hA:∀b,(Ha m1 LB LR LM fz).A b→m'.avoid b:=fun b h=>.inl (by rw [B.post.hA]; exact h)
 rintro (h | ⟨k,T,h⟩)
 ·exact hn (hA b ⟨hf,.inl h⟩)
 ·rcases B.src h with ⟨e,rfl,g1,g2⟩ | ⟨g1,g2⟩
  ·exact hn (.inr ⟨k,e,g2⟩)
  ·by_cases hh:kC LB LR LM k T
   ·rcases hh with ⟨rfl,hm⟩ | ⟨rfl,hm⟩
    ·obtain ⟨i,hi⟩:=List.getElem?_of_mem hm
     exact hn (.inr ⟨true,Di+i,by rw [B.pinB hi]; exact g1⟩)
    ·rcases List.mem_append.1 hm with hm | hm
     ·obtain ⟨i,hi⟩:=List.getElem?_of_mem hm
      exact hn (.inr ⟨false,2097152+i,by rw [B.pinR hi]; exact g1⟩)
     ·exact g2 rfl hm
   ·exact hn (hA b ⟨hf,.inr ⟨k,T,g1,hh⟩⟩)
theorem Nt.rd {c:V} {v:Value} (hs:fz=false→eO c=true) (h:RD φ w' m'.avoid c v):RD φ w' ((Ez m1 m' d (t.newB d LB.length) (t.newR d) LM)).avoid c v:=by
 cases hf:fz with
 | true=>exact h.mono (Nat.le_refl _) (fun _ _ _=>rfl) (fun b _=>B.sub hf b)
 | false=>exact sS (hs hf) h
theorem Nt.flR (hf:fz=false) {i off sz:Nat} {es:List (List V)} (h:t.rw[i]? = some (off,sz,es)):∀e∈es,∀c∈e,eO c=true:=by
 have:=B.fl hf
 simp only [Gs.flat,Bool.and_eq_true] at this
 have h1:=List.all_eq_true.1 this.2 _ (List.mem_of_getElem? h)
 intro e he c hc
 exact List.all_eq_true.1 (List.all_eq_true.1 h1 e he) c hc
theorem Nt.flC (hf:fz=false) {c:V} (h:c∈t.r.flat++t.bx.flatten):Jv c=true:=by
 have:=B.fl hf
 simp only [Gs.flat,Bool.and_eq_true] at this
 exact List.all_eq_true.1 this.1 c h
theorem Nt.row {i off sz:Nat} {T:Nat} {es es':List (List V)} {v:Value} (hT:LR[i]? = some T) (hw:t.rw[i]? = some (off,sz,es')) (hl:es.length=es'.length)
  (hn:T∉t.newR d) (h:RO φ m1 w T off sz es v):RO φ ((Ez m1 m' d (t.newB d LB.length) (t.newR d) LM)) w' T off sz es' v:=by
 rcases h with ⟨h1,rfl,h2⟩ | ⟨h1,rfl,h2⟩ | ⟨b,cap,cur,e,h1,h2,h3,h4,h5,h6,h7,h8,h9⟩ | ⟨b,es0,ents,clock,h1,h2,h3,h4,h5,h6,h7⟩
 ·exact .inl ⟨h1,List.eq_nil_of_length_eq_zero (by rw [←hl]; rfl),h2⟩
 ·exact .inr (.inl ⟨h1,List.eq_nil_of_length_eq_zero (by rw [←hl]; rfl),h2⟩)
 rotate_right
 ·obtain ⟨q1,sz',val,q2⟩:=B.post.rw i off sz es' hw
  obtain ⟨y,r,rfl⟩:∃y r,es'=y::r:=by
   cases es' with
   | nil=>rw [h3] at hl; simp at hl
   | cons y r=>exact ⟨y,r,rfl⟩
  have hy:=q1 y (List.mem_cons_self)
  rcases q2 with ⟨_,q,_⟩ | ⟨_,q,_⟩ | ⟨_,_,_,_,_,_,_,_,_,_,q,q3,_⟩ | ⟨_,_,_,_,_,_,q,_⟩
  ·cases q
  ·cases q
  ·have:=q3 y (List.mem_cons_self)
   omega
  ·cases q
   rw [h2] at hy
   simp at hy
 ·have hlm:T∉LM:=by
   intro hm
   obtain ⟨j,hj⟩:=List.getElem?_of_mem hm
   have hi:=(List.getElem?_eq_some_iff.1 hT).1
   have e1:(LR++LM)[i]? = some T:=by rw [List.getElem?_append_left hi]; exact hT
   have e2:(LR++LM)[LR.length+j]? = some T:=by rw [List.getElem?_append_right (by omega),Nat.add_sub_cancel_left]; exact hj
   have:=Kf B.hR e1 e2
   omega
  obtain ⟨cur',k1,k2⟩:=B.post.lies.shape b cur e (0,0) (B.L.bnd _ _ _ h1).1 h3
  obtain ⟨q1,sz',val,q2⟩:=B.post.rw i off sz es' hw
  refine .inr (.inr (.inl ⟨b,cap,cur',e,by rw [B.mmR hn hlm]; exact h1,by rw [←hl]; exact h2,k1,by rw [←hl]; exact h4,by rw [k2]; exact h5,h6,⟨h7.1,B.post.ones (2097152+i) b cur' e _ (by rw [B.pinR hT]; exact h1) k1⟩,q1,fun j y k c g1 g2=>?_⟩))
  rcases q2 with ⟨_,rfl,_⟩ | ⟨_,rfl,_⟩ | ⟨b2,cap2,cur2,e2,z1,z2,z3,z4,z5,z6,z7,z8,z9⟩ | ⟨b2,es2,ents2,clock2,z1,z2,z3,z4,z5,z6,z7⟩
  ·simp at g1
  ·simp at g1
  rotate_left
  ·rw [B.pinR hT,h1] at z5
   obtain rfl:=Option.some.inj z5
   rw [k1] at z6
   cases z6
  ·rw [B.pinR hT,h1] at z1
   obtain rfl:=Option.some.inj z1
   rw [k1] at z3
   simp only [Option.some.injEq,Obj.cells.injEq,and_true] at z3
   obtain ⟨rfl,rfl⟩:=z3
   have hs:sz'=sz:=by
    rw [←z8 y (List.mem_of_getElem? g1),q1 y (List.mem_of_getElem? g1)]
   subst hs
   obtain ⟨u,p1,p2,p3⟩:=z9 j y k c g1 g2
   exact ⟨u,p1,p2,B.rd (fun hf=>B.flR hf hw y (List.mem_of_getElem? g1) c (List.mem_of_getElem? g2)) p3⟩
theorem Nt.old {c:V} {v:Value} (h:RC φ m1 w c v) (hX:∀T∈LM++(t.newR d++t.newB d LB.length),Jh T c=true):RC φ ((Ez m1 m' d (t.newB d LB.length) (t.newR d) LM)) w' (fR LR t.rw c) v:=by
 have K:=B.keep
 have hno:∀ {k:Bool} {T:Nat},Nq k T c→T∉LM∧T∉t.newR d∧T∉t.newB d LB.length:=by
  intro k T hs
  refine ⟨fun hm=>?_,fun hm=>?_,fun hm=>?_⟩
  ·exact Iv (hX T (List.mem_append.2 (.inl hm))) hs rfl
  ·exact Iv (hX T (List.mem_append.2 (.inr (List.mem_append.2 (.inl hm))))) hs rfl
  ·exact Iv (hX T (List.mem_append.2 (.inr (List.mem_append.2 (.inr hm))))) hs rfl
 have rp:∀ {T k:Nat} {v:Value},RP m1 T k v→T∉t.newB d LB.length→RP ((Ez m1 m' d (t.newB d LB.length) (t.newR d) LM)) T k v:=by
  rintro T k v ⟨b,hb,rfl⟩ hn
  exact ⟨b,by rw [B.mmB hn]; exact hb,rfl⟩
 cases c with
 | own T off sz es=>
  obtain ⟨n1,n2,n3⟩:=hno (k:=false) (T:=T) ⟨rfl,rfl⟩
  simp only [fR]
  cases hp:Hq T LR 0 with
  | none=>
   refine K.rc (c:=.own T off sz es) (fun k t' hs=>?_) h
   obtain ⟨rfl,rfl⟩:=hs
   refine ⟨?_,n2,n3⟩
   rintro (⟨h1,_⟩ | ⟨_,h1⟩)
   ·simp at h1
   ·rcases List.mem_append.1 h1 with h1 | h1
    ·exact Pl hp h1
    ·exact n1 h1
  | some i=>
   obtain ⟨j,h1,h2⟩:=Is hp
   rw [Nat.zero_add] at h1
   subst h1
   dsimp only
   split
   ·rename_i o s es' hw
    split
    ·rename_i hc
     obtain ⟨rfl,rfl,hl⟩:=hc
     exact B.row h2 hw hl n2 h
    ·trivial
   ·trivial
 | ptr T k=>exact rp h (hno (k:=true) (T:=T) ⟨rfl,rfl⟩).2.2
 | optr T sz j k=>
  obtain ⟨n1,n2,n3⟩:=hno (k:=false) (T:=T) ⟨rfl,rfl⟩
  obtain ⟨b,hb,rfl⟩:=h
  exact ⟨b,by rw [B.mmR n2 n1]; exact hb,rfl⟩
 | clo f caps=>
  obtain ⟨fid,vs,g1,rfl,g3,g4⟩:=h
  refine ⟨fid,vs,g1,rfl,g3,fun i c v k1 k2=>?_⟩
  have hq:=g4 i c v k1 k2
  rcases Qe hq with ⟨T,k,rfl,hp⟩ | ⟨hn,hd⟩
  ·exact rp hp (hno (k:=true) (T:=T) ⟨rfl,k,List.mem_of_getElem? k1⟩).2.2
  ·have:=K.rd hd
   cases c with
   | ptr t k=>exact absurd rfl (hn _ _)
   | _=>exact this
 | undef=>trivial
 | int x1 x2=>exact K.rc (c:=.int x1 x2) (fun k t hs=>hs.elim) h
 | bool x1=>exact K.rc (c:=.bool x1) (fun k t hs=>hs.elim) h
 | str x1=>exact K.rc (c:=.str x1) (fun k t hs=>hs.elim) h
 | lst x1 x2=>exact K.rc (c:=.lst x1 x2) (fun k t hs=>hs.elim) h
 | iptr x1=>exact K.rc (c:=.iptr x1) (fun k t hs=>hs.elim) h
 | agg x1=>exact K.rc (c:=.agg x1) (fun k t hs=>hs.elim) h
 | tup x1=>exact K.rc (c:=.tup x1) (fun k t hs=>hs.elim) h
 | may x1 x2=>exact K.rc (c:=.may x1 x2) (fun k t hs=>hs.elim) h
theorem Nt.new {c:V} {v:Value} (h:RC φ m' w' c v) (hc:c∈t.r.flat++t.bx.flatten):RC φ ((Ez m1 m' d (t.newB d LB.length) (t.newR d) LM)) w' (Hv d (t.bx.length-LB.length) LB LR c) v:=by
 have mv:∀ {e T off sz:Nat} {es:List (List V)},RO φ m' w' e off sz es v→c = .own e off sz es→((Ez m1 m' d (t.newB d LB.length) (t.newR d) LM)).blk false T=m'.blk false e→RO φ ((Ez m1 m' d (t.newB d LB.length) (t.newR d) LM)) w' T off sz es v:=by
  intro e T off sz es hro hce hb
  rcases hro with h1 | h1 | ⟨b,cap,cur,ty,h1,h2,h3,h4,h5,h6,h7,h8,h9⟩ | ⟨b,es',ents,clock,h1,h2,h3,h4,h5,h6,h7⟩
  ·exact .inl h1
  ·exact .inr (.inl h1)
  rotate_right
  ·exact .inr (.inr (.inr ⟨b,es',ents,clock,h1,h2,h3,h4,by rw [hb]; exact h5,h6,h7⟩))
  ·refine .inr (.inr (.inl ⟨b,cap,cur,ty,by rw [hb]; exact h1,h2,h3,h4,h5,h6,h7,h8,fun j y k c' g1 g2=>?_⟩))
   obtain ⟨u,k1,k2,k3⟩:=h9 j y k c' g1 g2
   refine ⟨u,k1,k2,B.rd (fun hf=>?_) k3⟩
   have:=B.flC hf hc
   rw [hce] at this
   exact List.all_eq_true.1 (List.all_eq_true.1 this y (List.mem_of_getElem? g1)) c' (List.mem_of_getElem? g2)
 have old:∀(c0:V),c=c0→RD φ w' m'.avoid c0 v→RC φ ((Ez m1 m' d (t.newB d LB.length) (t.newR d) LM)) w' (Lb c0) v:=by
  intro c0 e hd
  cases hf:fz with
  | true=>exact Jf (Vq (hd.mono (Nat.le_refl _) (fun _ _ _=>rfl) (fun b _=>B.sub hf b)))
  | false=>
   have:=B.flC hf hc
   subst e
   cases hd with
   | int k n=>exact RD.int k n
   | bool b=>exact RD.bool b
   | str s=>exact RD.str s
   | undef _ h=>trivial
   | _=>simp [Jv] at this
 cases c with
 | own e off sz es=>
  simp only [Hv]
  split
  ·rename_i he
   refine mv h rfl ?_
   have hm:64*d+e∈t.newR d:=Og.2 ⟨e,Lo hc,he,rfl⟩
   simp [Ez,hm]
  ·split
   ·trivial
   ·rename_i h1 h2
    cases hT:LR[e-2097152]? with
    | none=>trivial
    | some T=>
     refine mv h rfl ?_
     have:=B.pinR hT
     rw [show 2097152+(e-2097152)=e from by omega] at this
     rw [this,B.mmR]
     ·exact fun hm=>Lu B.apR T (List.mem_of_getElem? hT) hm
     ·intro hm
      obtain ⟨j,hj⟩:=List.getElem?_of_mem hm
      have hi:=(List.getElem?_eq_some_iff.1 hT).1
      have e1:(LR++LM)[e-2097152]? = some T:=by rw [List.getElem?_append_left hi]; exact hT
      have e2:(LR++LM)[LR.length+j]? = some T:=by rw [List.getElem?_append_right (by omega),Nat.add_sub_cancel_left]; exact hj
      have:=Kf B.hR e1 e2
      omega
 | ptr e k=>
  obtain ⟨b,hb,rfl⟩:=h
  simp only [Hv]
  split
  ·rename_i he
   refine ⟨b,?_,rfl⟩
   have hm:64*d+e∈t.newB d LB.length:=Ti.2 ⟨e,he,rfl⟩
   simp [Ez,hm,hb]
  ·split
   ·trivial
   ·rename_i h1 h2
    cases hT:LB[e-Di]? with
    | none=>trivial
    | some T=>
     refine ⟨b,?_,rfl⟩
     have:=B.pinB hT
     rw [show Di+(e-Di)=e from by omega,hb] at this
     rw [B.mmB (fun hm=>Lu B.apB T (List.mem_of_getElem? hT) hm)]
     exact this.symm
 | clo f caps=>
  obtain ⟨fid,vs,g1,rfl,g3,g4⟩:=h
  cases hf:fz with
  | false=>
   have:=B.flC hf hc
   simp [Jv] at this
  | true=>
   refine ⟨fid,vs,g1,rfl,by simpa using g3,fun i c0 v k1 k2=>?_⟩
   simp only [List.getElem?_map,Option.map_eq_some_iff] at k1
   obtain ⟨c1,k1,rfl⟩:=k1
   have hq:=g4 i c1 v k1 k2
   have hd:RD φ w' ((Ez m1 m' d (t.newB d LB.length) (t.newR d) LM)).avoid (Pu c1) v:=by
    rcases Qe hq with ⟨T,k,rfl,hp⟩ | ⟨_,hd⟩
    ·exact .undef _ hp.one
    ·exact (Qd hd).mono (Nat.le_refl _) (fun _ _ _=>rfl) (fun b _=>B.sub hf b)
   cases c1<;>exact hd
 | optr T sz j k=>trivial
 | undef=>trivial
 | agg x1=>trivial
 | tup x1=>trivial
 | may x1 x2=>trivial
 | int x1 x2=>exact old (.int x1 x2) rfl h
 | bool x1=>exact old (.bool x1) rfl h
 | str x1=>exact old (.str x1) rfl h
 | lst x1 x2=>exact old (.lst x1 x2) rfl h
 | iptr x1=>exact old (.iptr x1) rfl h
end
end Go.Ev
