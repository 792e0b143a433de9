/- The state behind a call: layouts and cells. -/
import Derived.Test.YtjkemmodemomdaaGreatDoorQvX2
set_option linter.all false
namespace Go.Ev
open Go.RowKit
variable {φ:Bz} {m m' m0 m1 m2:M} {w w' w0:World} {A:Fr} {nt:Nat} {S S' S1:St} {a:Act} {P:Program}
theorem Eo {n:Nat}:∀ {l:List Nat},Lv n l=true→∀t∈l,t<n
 | x::r,h,t,ht=>by
  simp only [Lv,Bool.and_eq_true,decide_eq_true_eq] at h
  cases ht with
  | head=>exact h.1
  | tail _ ht=>exact Eo h.2 t ht
 | [],_,_,ht=>by simp at ht
theorem Gy {X:List Nat}:∀ {l:List Nat},Hx X l=true→∀t∈l,t∉X
 | x::r,h,t,ht=>by
  simp only [Hx,Bool.and_eq_true] at h
  cases ht with
  | head=>simpa using h.1
  | tail _ ht=>exact Gy h.2 t ht
 | [],_,_,ht=>by simp at ht
theorem Ks {d T:Nat}:∀ {n:Nat},T∈Lh d n↔∃i,i<n∧T=64*d+i
 | 0=>by simp [Lh]
 | n+1=>by
  simp only [Lh,List.mem_append,Ks (n:=n),List.mem_singleton]
  constructor
  ·rintro (⟨i,h,rfl⟩ | rfl)
   ·exact ⟨i,by omega,rfl⟩
   ·exact ⟨n,by omega,rfl⟩
  ·rintro ⟨i,h,rfl⟩
   by_cases e:i=n
   ·subst e; exact .inr rfl
   ·exact .inl ⟨i,by omega,rfl⟩
theorem Dw (d:Nat):∀(n:Nat),(Lh d n).length=n
 | 0=>rfl
 | n+1=>by simp [Lh,Dw d n]
theorem Jv {d:Nat}:∀ {n i:Nat},i<n→(Lh d n)[i]? = some (64*d+i)
 | n+1,i,h=>by
  simp only [Lh]
  by_cases e:i<n
  ·rw [List.getElem?_append_left (by rw [Dw]; exact e)]
   exact Jv e
  ·have:i=n:=by omega
   subst this
   rw [List.getElem?_append_right (by rw [Dw]; exact Nat.le_refl _),Dw]
   simp
theorem Fu {d T:Nat}:∀ {l:List Nat},T∈Kb d l↔∃e,e∈l∧e<64∧T=64*d+e
 | []=>by simp [Kb]
 | x::r=>by
  simp only [Kb]
  split
  ·rename_i hx
   simp only [List.mem_cons,Fu (l:=r)]
   constructor
   ·rintro (rfl | ⟨e,h1,h2,h3⟩)
    ·exact ⟨x,.inl rfl,hx,rfl⟩
    ·exact ⟨e,.inr h1,h2,h3⟩
   ·rintro ⟨e,rfl | h1,h2,h3⟩
    ·exact .inl h3
    ·exact .inr ⟨e,h1,h2,h3⟩
  ·rename_i hx
   rw [Fu (l:=r)]
   constructor
   ·rintro ⟨e,h1,h2,h3⟩; exact ⟨e,List.mem_cons_of_mem _ h1,h2,h3⟩
   ·rintro ⟨e,h1,h2,h3⟩
    rcases List.mem_cons.1 h1 with rfl | h1
    ·exact absurd h2 hx
    ·exact ⟨e,h1,h2,h3⟩
theorem Xm {av av':Nat→Prop} {c:V} {v:Value} (hs:scal c=true) (h:RD φ w av c v):RD φ w' av' c v:=by
 cases h with
 | int k n=>exact .int k n
 | bool b=>exact .bool b
 | str s=>exact .str s
 | undef _ h=>exact .undef _ h
 | _=>simp [scal] at hs
def Bk (m1 m':M) (d:Nat) (NB NR LM:List Nat):M:=
 ⟨m1.A,
  fun k t=>if k then (if t∈NB then m'.blk true (t-64*d) else m1.blk true t)
   else if t∈NR then m'.blk false (t-64*d) else if t∈LM then none else m1.blk false t,
  fun t j c=>if t∈NR then m'.nst (t-64*d) j c else if t∈LM then none else m1.nst t j c⟩
structure Fi (φ:Bz) (w0:World) (A:Fr) (w w':World) (m1 m':M) (LB LR LM:List Nat) (fz:Bool) (d:Nat) (g:Lj) (t:Dh) (x:Value):Prop where
 L:Lay w0 A m1 w
 post:aU φ w (Ci m1 LB LR LM fz) g t x m' w'
 gb:g.bx.length=LB.length
 hB:Bn LB=true
 hR:Bn (LR++LM)=true
 hM:Lv Au LM=true
 cnt:t.bx.length-LB.length<65
 lm:LM.length<33
 lr:LR.length<33
 apB:Hx (t.newB d LB.length) LB=true
 apR:Hx (t.newR d) LR=true
 hd:64*d+64≤Au
 fl:fz=false→t.flat=true
set_option linter.unusedSectionVars false
section
variable {LB LR LM:List Nat} {fz:Bool} {d:Nat} {g:Lj} {t:Dh} {x:Value} (B:Fi φ w0 A w w' m1 m' LB LR LM fz d g t x)
include B
theorem Fi.memB {T:Nat} (h:T∈t.newB d LB.length):∃i,i<t.bx.length-LB.length∧T=64*d+i:=Ks.1 h
theorem Fi.src {k:Bool} {T b:Nat} (h:((Bk m1 m' d (t.newB d LB.length) (t.newR d) LM)).blk k T=some b):
  (∃e,T=64*d+e∧e<65∧m'.blk k e=some b)∨(m1.blk k T=some b∧(k=false→T∉LM)):=by
 cases k
 ·simp only [Bk,Bool.false_eq_true,if_false] at h
  split at h
  ·rename_i hm
   obtain ⟨e,_,h2,rfl⟩:=Fu.1 hm
   rw [Nat.add_sub_cancel_left] at h
   exact .inl ⟨e,rfl,by omega,h⟩
  ·split at h
   ·cases h
   ·rename_i hm
    exact .inr ⟨h,fun _=>hm⟩
 ·simp only [Bk,if_true] at h
  split at h
  ·rename_i hm
   obtain ⟨e,h2,rfl⟩:=B.memB hm
   rw [Nat.add_sub_cancel_left] at h
   have:=B.cnt
   exact .inl ⟨e,rfl,by omega,h⟩
  ·exact .inr ⟨h,by simp⟩
theorem Fi.pinB {i T:Nat} (h:LB[i]? = some T):m'.blk true (Au+i)=m1.blk true T:=by
 rw [B.post.pin _ _ (Nat.le_add_right _ _),Kl h]
theorem Fi.pinR {i T:Nat} (h:LR[i]? = some T):m'.blk false (2097152+tg T i)=m1.blk false T:=by
 rw [B.post.pin _ _ (by simp only [Au]; omega),Nn h B.lr]
theorem Fi.pinN {i T:Nat} (h:LR[i]? = some T) (j c:Nat):m'.nst (2097152+tg T i) j c=m1.nst T j c:=by
 rw [B.post.n.pin _ _ _ (by simp only [Au]; omega),Nm h B.lr]
theorem Fi.lt32 {i T:Nat} (h:LR[i]? = some T):i<32:=by
 have:=(List.getElem?_eq_some_iff.1 h).1
 have:=B.lr
 omega
theorem Fi.srcN {T j c b:Nat} (h:((Bk m1 m' d (t.newB d LB.length) (t.newR d) LM)).nst T j c=some b):
  (∃e,T=64*d+e∧e<64∧m'.nst e j c=some b)∨(m1.nst T j c=some b∧T∉LM):=by
 simp only [Bk] at h
 split at h
 ·rename_i hm
  obtain ⟨e,_,h2,rfl⟩:=Fu.1 hm
  rw [Nat.add_sub_cancel_left] at h
  exact .inl ⟨e,rfl,h2,h⟩
 ·split at h
  ·cases h
  ·rename_i hm; exact .inr ⟨h,hm⟩
theorem Fi.mmB {T:Nat} (h:T∉t.newB d LB.length):((Bk m1 m' d (t.newB d LB.length) (t.newR d) LM)).blk true T=m1.blk true T:=by simp [Bk,h]
theorem Fi.mmR {T:Nat} (h:T∉t.newR d) (h2:T∉LM):((Bk m1 m' d (t.newB d LB.length) (t.newR d) LM)).blk false T=m1.blk false T:=by simp [Bk,h,h2]
theorem Fi.new_old {k k':Bool} {e T b:Nat} (he:e<65) (h1:m'.blk k e=some b) (h2:m1.blk k' T=some b) (h3:k'=false→T∉LM):False:=by
 have hb:=(B.L.bnd _ _ _ h2).1
 rcases (B.post.bnd _ _ _ h1).2.1 with h4 | ⟨k2,t2,h4⟩ | ⟨T2,j2,c2,h4⟩
 ·omega
 ·cases k2
  ·rcases Em h4 with ⟨i,T',rfl,_,g1,g2⟩ | ⟨i,T',rfl,_,g1,_,g2⟩
   ·rw [←B.post.pin _ _ (by simp only [Au]; omega)] at h4
    obtain ⟨rfl,h5⟩:=B.post.inj _ _ _ _ _ h1 h4
    omega
   ·obtain ⟨rfl,rfl⟩:=B.L.inj _ _ _ _ _ h2 g2
    exact h3 rfl (List.mem_of_getElem? g1)
  ·obtain ⟨i,T',rfl,g1,g2⟩:=Do h4
   rw [←B.post.pin _ _ (Nat.le_add_right _ _)] at h4
   obtain ⟨rfl,h5⟩:=B.post.inj _ _ _ _ _ h1 h4
   simp only [Au] at h5
   omega
 ·obtain ⟨i,T',rfl,_,g1,g2⟩:=Bl h4
  rw [←B.post.n.pin _ _ _ (by simp only [Au]; omega)] at h4
  exact B.post.n.dis _ _ _ _ _ _ h4 h1
theorem Fi.new_nst {k:Bool} {e T j c b:Nat} (h1:m'.blk k e=some b) (h2:m1.nst T j c=some b):False:=by
 have hb:=(B.L.n.bnd _ _ _ _ h2).1
 rcases (B.post.bnd _ _ _ h1).2.1 with h4 | ⟨k2,t2,h4⟩ | ⟨T2,j2,c2,h4⟩
 ·omega
 ·obtain ⟨T',g1,_⟩:=Bh h4
  exact B.L.n.dis _ _ _ _ _ _ h2 g1
 ·obtain ⟨i,T',rfl,_,g1,g2⟩:=Bl h4
  rw [←B.post.n.pin _ _ _ (by simp only [Au]; omega)] at h4
  exact B.post.n.dis _ _ _ _ _ _ h4 h1
theorem Fi.nst_old {k:Bool} {e j c T b:Nat} (h1:m'.nst e j c=some b) (h2:m1.blk k T=some b) (h3:k=false→T∉LM):False:=by
 have hb:=(B.L.bnd _ _ _ h2).1
 rcases (B.post.n.bnd _ _ _ _ h1).2.1 with h4 | ⟨k2,t2,h4⟩ | ⟨T2,j2,c2,h4⟩
 ·omega
 ·cases k2
  ·rcases Em h4 with ⟨i,T',rfl,_,g1,g2⟩ | ⟨i,T',rfl,_,g1,_,g2⟩
   ·rw [←B.post.pin _ _ (by simp only [Au]; omega)] at h4
    exact B.post.n.dis _ _ _ _ _ _ h1 h4
   ·obtain ⟨rfl,rfl⟩:=B.L.inj _ _ _ _ _ h2 g2
    exact h3 rfl (List.mem_of_getElem? g1)
  ·obtain ⟨i,T',rfl,g1,g2⟩:=Do h4
   rw [←B.post.pin _ _ (Nat.le_add_right _ _)] at h4
   exact B.post.n.dis _ _ _ _ _ _ h1 h4
 ·obtain ⟨i,T',rfl,_,g1,g2⟩:=Bl h4
  exact B.L.n.dis _ _ _ _ _ _ g2 h2
theorem Fi.nst_nst {e j c T j' c' b:Nat} (he:e<64) (h1:m'.nst e j c=some b) (h2:m1.nst T j' c'=some b):False:=by
 have hb:=(B.L.n.bnd _ _ _ _ h2).1
 rcases (B.post.n.bnd _ _ _ _ h1).2.1 with h4 | ⟨k2,t2,h4⟩ | ⟨T2,j2,c2,h4⟩
 ·omega
 ·obtain ⟨T',g1,_⟩:=Bh h4
  exact B.L.n.dis _ _ _ _ _ _ h2 g1
 ·obtain ⟨i,T',rfl,_,g1,g2⟩:=Bl h4
  rw [←B.post.n.pin _ _ _ (by simp only [Au]; omega)] at h4
  obtain ⟨e1,_⟩:=B.post.n.inj _ _ _ _ _ _ _ h1 h4
  omega
theorem Fi.ones:Uf (Bk m1 m' d (t.newB d LB.length) (t.newR d) LM) w':=by
 intro T b cur e x h1 hw
 rcases B.src h1 with ⟨e',rfl,g1,g2⟩ | ⟨g1,g2⟩
 ·exact B.post.ones _ _ _ _ _ g2 hw
 ·by_cases hx:(Ci m1 LB LR LM fz).held b
  ·rcases hx with ⟨k,t',h3⟩ | ⟨T2,j2,c2,h3⟩
   rotate_left
   ·obtain ⟨i,T',rfl,_,q1,q2⟩:=Bl h3
    exact (B.L.n.dis _ _ _ _ _ _ q2 g1).elim
   cases k with
   | true=>
    obtain ⟨i,T',rfl,q1,q2⟩:=Do h3
    have:=B.L.inj _ _ _ _ _ g1 q2
    simp at this
   | false=>
    rcases Em h3 with ⟨i,T',rfl,_,q1,q2⟩ | ⟨i,T',rfl,_,q1,_,q2⟩
    ·obtain ⟨_,rfl⟩:=B.L.inj _ _ _ _ _ g1 q2
     exact B.post.ones (2097152+tg T i) b cur e x (by rw [B.pinR q1]; exact g1) hw
    ·obtain ⟨_,rfl⟩:=B.L.inj _ _ _ _ _ g1 q2
     exact absurd (List.mem_of_getElem? q1) (g2 rfl)
  ·rw [B.post.lies.block b (B.L.bnd _ _ _ g1).1 hx] at hw
   exact B.L.ones T b cur e x g1 hw
theorem Fi.lay:Lay w0 A ((Bk m1 m' d (t.newB d LB.length) (t.newR d) LM)) w':=by
 have L:=B.L
 have hold:∀ {b:Nat},w.heap.size≤b∨(Ci m1 LB LR LM fz).held b→(w0.heap.size≤b∨A.ext b)∧¬m1.A b:=by
  intro b k2
  rcases k2 with k2 | ⟨k',t',k2⟩ | ⟨T',j',c',k2⟩
  ·refine ⟨.inl (Nat.le_trans L.lies.size k2),fun hA=>?_⟩
   have h3:=L.hAlt b (L.hA ▸ hA)
   have h4:=L.lies.size
   omega
  ·obtain ⟨T,h2,_⟩:=Bh k2
   exact (L.bnd _ _ _ h2).2
  ·obtain ⟨i,X,rfl,_,_,h2⟩:=Bl k2
   exact (L.n.bnd _ _ _ _ h2).2
 refine ⟨L.hA,L.hAlt,fun k T k' T' b h1 h2=>?_,fun k T b h1=>?_,fun k T hT=>?_,?_,B.ones,⟨fun T j c T' j' c' b h1 h2=>?_,fun T j c k t' b h1 h2=>?_,fun T j c b h1=>?_,fun T j c hT=>?_,fun T j c b cur e x h1 hw=>?_⟩⟩
 ·rcases B.src h1 with ⟨e,rfl,g1,g2⟩ | ⟨g1,g2⟩<;>rcases B.src h2 with ⟨e',rfl,k1,k2⟩ | ⟨k1,k2⟩
  ·obtain ⟨rfl,rfl⟩:=B.post.inj _ _ _ _ _ g2 k2
   exact ⟨rfl,rfl⟩
  ·exact (B.new_old g1 g2 k1 k2).elim
  ·exact (B.new_old k1 k2 g1 g2).elim
  ·exact L.inj _ _ _ _ _ g1 k1
 ·rcases B.src h1 with ⟨e,rfl,g1,g2⟩ | ⟨g1,g2⟩
  ·obtain ⟨k1,k2,k3⟩:=B.post.bnd _ _ _ g2
   exact ⟨k1,hold k2⟩
  ·have h2:=L.bnd _ _ _ g1
   exact ⟨Nat.lt_of_lt_of_le h2.1 B.post.lies.size,h2.2⟩
 ·have hd:=B.hd
  cases k
  ·rw [B.mmR,L.pin _ _ hT]
   ·intro hm
    obtain ⟨e,_,h2,rfl⟩:=Fu.1 hm
    omega
   ·intro hm
    have:=Eo B.hM T hm
    omega
  ·rw [B.mmB,L.pin _ _ hT]
   intro hm
   obtain ⟨e,h2,rfl⟩:=B.memB hm
   have:=B.cnt
   omega
 ·have L1:=L.lies
  have L2:=B.post.lies
  refine ⟨L2.os.trans L1.os,⟨L2.tape.1.trans L1.tape.1,Nat.le_trans L1.tape.2 L2.tape.2⟩,L2.output.trans L1.output,Nat.le_trans L1.size L2.size,fun k hk hE=>?_,fun k cur e fr hk h1=>?_⟩
  ·rw [L2.block k (Nat.lt_of_lt_of_le hk L1.size),L1.block k hk hE]
   intro hb
   rcases (hold (.inr hb)).1 with h3 | h3
   ·omega
   ·exact hE h3
  ·obtain ⟨c1,h2,h3⟩:=L1.shape k cur e fr hk h1
   obtain ⟨c2,h4,h5⟩:=L2.shape k c1 e fr (Nat.lt_of_lt_of_le hk L1.size) h2
   exact ⟨c2,h4,h5.trans h3⟩
 ·rcases B.srcN h1 with ⟨e,rfl,he,g1⟩ | ⟨g1,g2⟩<;>rcases B.srcN h2 with ⟨e',rfl,he',k1⟩ | ⟨k1,k2⟩
  ·obtain ⟨rfl,rfl,rfl⟩:=B.post.n.inj _ _ _ _ _ _ _ g1 k1
   exact ⟨rfl,rfl,rfl⟩
  ·exact (B.nst_nst he g1 k1).elim
  ·exact (B.nst_nst he' k1 g1).elim
  ·exact L.n.inj _ _ _ _ _ _ _ g1 k1
 ·rcases B.srcN h1 with ⟨e,rfl,he,g1⟩ | ⟨g1,g2⟩<;>rcases B.src h2 with ⟨e',rfl,k1,k2⟩ | ⟨k1,k2⟩
  ·exact B.post.n.dis _ _ _ _ _ _ g1 k2
  ·exact B.nst_old g1 k1 k2
  ·exact B.new_nst k2 g1
  ·exact L.n.dis _ _ _ _ _ _ g1 k1
 ·rcases B.srcN h1 with ⟨e,rfl,he,g1⟩ | ⟨g1,g2⟩
  ·obtain ⟨k1,k2,k3⟩:=B.post.n.bnd _ _ _ _ g1
   exact ⟨k1,hold k2⟩
  ·have h2:=L.n.bnd _ _ _ _ g1
   exact ⟨Nat.lt_of_lt_of_le h2.1 B.post.lies.size,h2.2⟩
 ·have hd:=B.hd
  simp only [Bk]
  rw [if_neg (fun hm=>by obtain ⟨e,_,h2,rfl⟩:=Fu.1 hm; omega),if_neg (fun hm=>by have:=Eo B.hM T hm; omega)]
  exact L.n.pin _ _ _ hT
 ·rcases B.srcN h1 with ⟨e',rfl,he,g1⟩ | ⟨g1,g2⟩
  ·exact B.post.n.ones _ _ _ _ _ _ _ g1 hw
  ·by_cases hx:(Ci m1 LB LR LM fz).held b
   ·rcases hx with ⟨k,t',h3⟩ | ⟨T2,j2,c2,h3⟩
    ·obtain ⟨T',h2,_⟩:=Bh h3
     exact (L.n.dis _ _ _ _ _ _ g1 h2).elim
    ·obtain ⟨i,T',rfl,_,q1,q2⟩:=Bl h3
     exact B.post.n.ones (2097152+tg T' i) _ _ _ _ _ _ (by rw [B.pinN q1]; exact q2) hw
   ·rw [B.post.lies.block b (L.n.bnd _ _ _ _ g1).1 hx] at hw
    exact L.n.ones _ _ _ _ _ _ _ g1 hw
theorem Fi.keep:Dz m1 ((Bk m1 m' d (t.newB d LB.length) (t.newR d) LM)) w w' (fun k T=>¬Tg LB LR LM k T∧T∉t.newR d∧T∉t.newB d LB.length):=by
 have hh:∀ {b:Nat},(Ci m1 LB LR LM fz).held b→m1.avoid b:=fun hb=>El (.inr hb)
 refine ⟨B.post.lies.size,fun b hb ha=>⟨B.post.lies.block b hb fun h1=>ha (hh h1),?_⟩,fun k T b hp hb=>⟨?_,fun hk=>B.post.lies.block b (B.L.bnd _ _ _ hb).1 ?_⟩,fun T j c b hp hb=>⟨?_,B.post.lies.block b (B.L.n.bnd _ _ _ _ hb).1 ?_⟩⟩
 ·have new:∀ {b:Nat},b<w.heap.size→(w.heap.size≤b∨(Ci m1 LB LR LM fz).held b)→m1.avoid b:=by
   rintro b hb (h3 | h3)
   ·omega
   ·exact hh h3
  rintro (hA | ⟨k,T,h1⟩ | ⟨T,j,c,h1⟩)
  ·exact ha (.inl hA)
  ·rcases B.src h1 with ⟨e,rfl,g1,g2⟩ | ⟨g1,g2⟩
   ·exact ha (new hb (B.post.bnd _ _ _ g2).2.1)
   ·exact ha (.inr (.inl ⟨_,_,g1⟩))
  ·rcases B.srcN h1 with ⟨e,rfl,g1,g2⟩ | ⟨g1,g2⟩
   ·exact ha (new hb (B.post.n.bnd _ _ _ _ g2).2.1)
   ·exact ha (.inr (.inr ⟨_,_,_,g1⟩))
 ·cases k
  ·rw [B.mmR hp.2.1 fun hm=>hp.1 (.inr ⟨rfl,List.mem_append.2 (.inr hm)⟩)]; exact hb
  ·rw [B.mmB hp.2.2]; exact hb
 ·rintro (⟨k',t',h1⟩ | ⟨T',j',c',h1⟩)
  ·obtain ⟨T',h2,h3⟩:=Bh h1
   obtain ⟨rfl,rfl⟩:=B.L.inj _ _ _ _ _ hb h2
   exact hp.1 h3
  ·obtain ⟨i,X,rfl,_,_,h2⟩:=Bl h1
   exact B.L.n.dis _ _ _ _ _ _ h2 hb
 ·simp only [Bk]
  rw [if_neg hp.2.1,if_neg (fun hm=>hp.1 (.inr ⟨rfl,List.mem_append.2 (.inr hm)⟩))]
  exact hb
 ·rintro (⟨k',t',h1⟩ | ⟨T',j',c',h1⟩)
  ·obtain ⟨T',h2,h3⟩:=Bh h1
   exact B.L.n.dis _ _ _ _ _ _ hb h2
  ·obtain ⟨i,X,rfl,_,g1,h2⟩:=Bl h1
   obtain ⟨rfl,_⟩:=B.L.n.inj _ _ _ _ _ _ _ hb h2
   exact hp.1 (.inr ⟨rfl,List.mem_append.2 (.inl (List.mem_of_getElem? g1))⟩)
theorem Fi.sub (hf:fz=true):∀b,¬m'.avoid b→¬((Bk m1 m' d (t.newB d LB.length) (t.newR d) LM)).avoid b:=by
 intro b hn
 have hA:∀b,(Ci m1 LB LR LM fz).A b→m'.avoid b:=fun b h=>.inl (by rw [B.post.hA]; exact h)
 rintro (h | ⟨k,T,h⟩ | ⟨T,j,c,h⟩)
 ·exact hn (hA b ⟨hf,.inl h⟩)
 rotate_left
 ·rcases B.srcN h with ⟨e,rfl,g1,g2⟩ | ⟨g1,g2⟩
  ·exact hn (.inr (.inr ⟨e,j,c,g2⟩))
  ·by_cases hh:T∈LR
   ·obtain ⟨i,hi⟩:=List.getElem?_of_mem hh
    exact hn (.inr (.inr ⟨2097152+tg T i,j,c,by rw [B.pinN hi]; exact g1⟩))
   ·exact hn (hA b ⟨hf,.inr (.inr ⟨T,j,c,g1,hh⟩)⟩)
 ·rcases B.src h with ⟨e,rfl,g1,g2⟩ | ⟨g1,g2⟩
  ·exact hn (.inr (.inl ⟨k,e,g2⟩))
  ·by_cases hh:Tg LB LR LM k T
   ·rcases hh with ⟨rfl,hm⟩ | ⟨rfl,hm⟩
    ·obtain ⟨i,hi⟩:=List.getElem?_of_mem hm
     exact hn (.inr (.inl ⟨true,Au+i,by rw [B.pinB hi]; exact g1⟩))
    ·rcases List.mem_append.1 hm with hm | hm
     ·obtain ⟨i,hi⟩:=List.getElem?_of_mem hm
      exact hn (.inr (.inl ⟨false,2097152+tg T i,by rw [B.pinR hi]; exact g1⟩))
     ·exact g2 rfl hm
   ·exact hn (hA b ⟨hf,.inr (.inl ⟨k,T,g1,hh⟩)⟩)
theorem Fi.rd {c:V} {v:Value} (hs:fz=false→scal c=true) (h:RD φ w' m'.avoid c v):RD φ w' ((Bk m1 m' d (t.newB d LB.length) (t.newR d) LM)).avoid c v:=by
 cases hf:fz with
 | true=>exact h.mono (Nat.le_refl _) (fun _ _ _=>rfl) (fun b _=>B.sub hf b)
 | false=>exact Xm (hs hf) h
theorem Fi.flR (hf:fz=false) {i off sz:Nat} {es:List (List V)} (h:t.rw[i]? = some (off,sz,es)):∀e∈es,∀c∈e,scal c=true:=by
 have:=B.fl hf
 simp only [Dh.flat,Bool.and_eq_true] at this
 have h1:=List.all_eq_true.1 this.2 _ (List.mem_of_getElem? h)
 intro e he c hc
 exact List.all_eq_true.1 (List.all_eq_true.1 h1 e he) c hc
theorem Fi.flC (hf:fz=false) {c:V} (h:c∈t.r.flat++t.bx.flatten):Gb c=true:=by
 have:=B.fl hf
 simp only [Dh.flat,Bool.and_eq_true] at this
 exact List.all_eq_true.1 this.1 c h
theorem Fi.wrong {i T b:Nat} (hT:LR[i]? = some T) (h:m'.blk false (2097152+(if Az T=true then i else i+32))=some b):False:=by
 have hi:=B.lt32 hT
 rw [B.post.pin _ _ (by simp only [Au]; omega)] at h
 rcases Em h with ⟨i',T',e,hi',g1,_⟩ | ⟨i',T',e,_,g1,_⟩
 ·have hm:i'=i:=by
   have h1:=Xb T' hi'
   split at e<;>omega
  subst hm
  rw [hT] at g1
  obtain rfl:=Option.some.inj g1
  unfold tg at e
  cases hd:Az T with
  | true=>rw [hd] at e; simp at e
  | false=>rw [hd] at e; simp at e
 ·have:=(List.getElem?_eq_some_iff.1 g1).1
  have:=B.lm
  omega
theorem Fi.told {i off sz:Nat} {T:Nat} {es:List (List V)} (hT:LR[i]? = some T) (hw:t.rw[i]? = some (off,sz,es)):(∀e∈es,e.length=sz)∧(es=[]∨∃sz' val,RO φ m' w' (2097152+tg T i) off sz' es val):=by
 obtain ⟨q1,sz',val,q2⟩:=B.post.rw i off sz es hw
 refine ⟨q1,?_⟩
 have bad:∀ {n:Nat},n=2097152+(if Az T=true then i else i+32)→RO φ m' w' n off sz' es val→es=[]:=by
  intro n e hr
  subst e
  rcases hr with ⟨_,h,_⟩ | ⟨_,h,_⟩ | ⟨b,cap,cur,e,z1,_⟩ | ⟨b,es',ents,clock,_,_,_,_,z1,_⟩
  ·exact h
  ·exact h
  ·exact (B.wrong hT z1).elim
  ·exact (B.wrong hT z1).elim
 cases hd:Az T with
 | true=>
  rcases q2 with q2 | q2
  ·exact .inl (bad (by rw [hd]; simp) q2)
  ·exact .inr ⟨sz',val,by rw [show 2097152+tg T i=2097184+i by simp only [tg,hd,cond_true]; omega]; exact q2⟩
 | false=>
  rcases q2 with q2 | q2
  ·exact .inr ⟨sz',val,by rw [show 2097152+tg T i=2097152+i by simp only [tg,hd,cond_false]]; exact q2⟩
  ·exact .inl (bad (by rw [hd]; simp; omega) q2)
theorem Fi.row {i off sz:Nat} {T:Nat} {es es':List (List V)} {v:Value} (hT:LR[i]? = some T) (hw:t.rw[i]? = some (off,sz,es')) (hl:es.length=es'.length)
  (hn:T∉t.newR d) (h:RO φ m1 w T off sz es v):RO φ ((Bk m1 m' d (t.newB d LB.length) (t.newR d) LM)) w' T off sz es' v:=by
 have hlm:T∉LM:=by
  intro hm
  obtain ⟨j,hj⟩:=List.getElem?_of_mem hm
  have hi:=(List.getElem?_eq_some_iff.1 hT).1
  have e1:(LR++LM)[i]? = some T:=by rw [List.getElem?_append_left hi]; exact hT
  have e2:(LR++LM)[LR.length+j]? = some T:=by rw [List.getElem?_append_right (by omega),Nat.add_sub_cancel_left]; exact hj
  have:=Dx B.hR e1 e2
  omega
 rcases h with ⟨h1,rfl,h2⟩ | ⟨h1,rfl,h2⟩ | ⟨b,cap,cur,e,h1,h2,h3,h4,h5,h6,h7,h8,h9⟩ | ⟨b,es0,ents,clock,h1,h2,h3,h4,h5,h6,h7⟩
 ·exact .inl ⟨h1,List.eq_nil_of_length_eq_zero (by rw [←hl]; rfl),h2⟩
 ·exact .inr (.inl ⟨h1,List.eq_nil_of_length_eq_zero (by rw [←hl]; rfl),h2⟩)
 rotate_right
 ·obtain ⟨q1,q2⟩:=B.told hT hw
  obtain ⟨y,r,rfl⟩:∃y r,es'=y::r:=by
   cases es' with
   | nil=>rw [h3] at hl; simp at hl
   | cons y r=>exact ⟨y,r,rfl⟩
  have hy:=q1 y (List.mem_cons_self)
  rcases q2 with q2 | ⟨sz',val,q2⟩
  ·cases q2
  rcases q2 with ⟨_,q,_⟩ | ⟨_,q,_⟩ | ⟨_,_,_,_,_,_,_,_,_,_,q,q3,_⟩ | ⟨_,_,_,_,_,_,q,_⟩
  ·cases q
  ·cases q
  ·have:=q3 y (List.mem_cons_self)
   omega
  ·cases q
   rw [h2] at hy
   simp at hy
 ·obtain ⟨cur',k1,k2⟩:=B.post.lies.shape b cur e (0,0) (B.L.bnd _ _ _ h1).1 h3
  obtain ⟨q1,q2⟩:=B.told hT hw
  refine .inr (.inr (.inl ⟨b,cap,cur',e,by rw [B.mmR hn hlm]; exact h1,by rw [←hl]; exact h2,k1,by rw [←hl]; exact h4,by rw [k2]; exact h5,h6,⟨h7.1,B.post.ones (2097152+tg T i) b cur' e _ (by rw [B.pinR hT]; exact h1) k1⟩,q1,fun j y k c g1 g2=>?_⟩))
  rcases q2 with rfl | ⟨sz',val,q2⟩
  ·simp at g1
  rcases q2 with ⟨_,rfl,_⟩ | ⟨_,rfl,_⟩ | ⟨b2,cap2,cur2,e2,z1,z2,z3,z4,z5,z6,z7,z8,z9⟩ | ⟨b2,es2,ents2,clock2,z1,z2,z3,z4,z5,z6,z7⟩
  ·simp at g1
  ·simp at g1
  rotate_left
  ·rw [B.pinR hT,h1] at z5
   obtain rfl:=Option.some.inj z5
   rw [k1] at z6
   cases z6
  ·rw [B.pinR hT,h1] at z1
   obtain rfl:=Option.some.inj z1
   rw [k1] at z3
   simp only [Option.some.injEq,Obj.cells.injEq,and_true] at z3
   obtain ⟨rfl,rfl⟩:=z3
   have hs:sz'=sz:=by
    rw [←z8 y (List.mem_of_getElem? g1),q1 y (List.mem_of_getElem? g1)]
   subst hs
   obtain ⟨u,p1,p2,p3⟩:=z9 j y k c g1 g2
   refine ⟨u,p1,p2,?_⟩
   have hdn:=Ps T (B.lt32 hT)
   rcases p3 with ⟨p3,p4⟩ | ⟨p3,s',e',p4,p5⟩
   ·exact .inl ⟨B.rd (fun hf=>B.flR hf hw y (List.mem_of_getElem? g1) c (List.mem_of_getElem? g2)) p3,by rw [←hdn]; exact p4⟩
   ·refine .inr ⟨by rw [←hdn]; exact p3,s',e',p4,?_⟩
    rw [B.pinN hT] at p5
    have:((Bk m1 m' d (t.newB d LB.length) (t.newR d) LM)).nst T (off+j) k=m1.nst T (off+j) k:=by simp only [Bk]; rw [if_neg hn,if_neg hlm]
    rw [this]; exact p5
theorem Fi.old {c:V} {v:Value} (h:RC φ m1 w c v) (hX:∀T∈LM++(t.newR d++t.newB d LB.length),Dp T c=true):RC φ ((Bk m1 m' d (t.newB d LB.length) (t.newR d) LM)) w' (Ow LR t.rw c) v:=by
 have K:=B.keep
 have hno:∀ {k:Bool} {T:Nat},Hj k T c→T∉LM∧T∉t.newR d∧T∉t.newB d LB.length:=by
  intro k T hs
  refine ⟨fun hm=>?_,fun hm=>?_,fun hm=>?_⟩
  ·exact Dq (hX T (List.mem_append.2 (.inl hm))) hs rfl
  ·exact Dq (hX T (List.mem_append.2 (.inr (List.mem_append.2 (.inl hm))))) hs rfl
  ·exact Dq (hX T (List.mem_append.2 (.inr (List.mem_append.2 (.inr hm))))) hs rfl
 have rp:∀ {T k:Nat} {v:Value},RP m1 T k v→T∉t.newB d LB.length→RP ((Bk m1 m' d (t.newB d LB.length) (t.newR d) LM)) T k v:=by
  rintro T k v ⟨b,hb,rfl⟩ hn
  exact ⟨b,by rw [B.mmB hn]; exact hb,rfl⟩
 cases c with
 | own T off sz es=>
  obtain ⟨n1,n2,n3⟩:=hno (k:=false) (T:=T) ⟨rfl,rfl⟩
  simp only [Ow]
  cases hp:Ds T LR 0 with
  | none=>
   refine K.rc (c:=.own T off sz es) (fun k t' hs=>?_) h
   obtain ⟨rfl,rfl⟩:=hs
   refine ⟨?_,n2,n3⟩
   rintro (⟨h1,_⟩ | ⟨_,h1⟩)
   ·simp at h1
   ·rcases List.mem_append.1 h1 with h1 | h1
    ·exact Iq hp h1
    ·exact n1 h1
  | some i=>
   obtain ⟨j,h1,h2⟩:=Ej hp
   rw [Nat.zero_add] at h1
   subst h1
   dsimp only
   split
   ·rename_i o s es' hw
    split
    ·rename_i hc
     obtain ⟨rfl,rfl,hl⟩:=hc
     exact B.row h2 hw hl n2 h
    ·trivial
   ·trivial
 | ptr T k=>exact rp h (hno (k:=true) (T:=T) ⟨rfl,rfl⟩).2.2
 | optr T sz j k=>
  obtain ⟨n1,n2,n3⟩:=hno (k:=false) (T:=T) ⟨rfl,rfl⟩
  obtain ⟨b,hb,rfl⟩:=h
  exact ⟨b,by rw [B.mmR n2 n1]; exact hb,rfl⟩
 | nrow T j c sz es=>
  obtain ⟨n1,n2,n3⟩:=hno (k:=false) (T:=T) ⟨rfl,rfl⟩
  simp only [Ow]
  cases hc:LR.contains T with
  | true=>trivial
  | false=>
   refine K.rc (c:=.nrow T j c sz es) (fun k t' hs=>?_) h
   obtain ⟨rfl,rfl⟩:=hs
   refine ⟨?_,n2,n3⟩
   rintro (⟨h1,_⟩ | ⟨_,h1⟩)
   ·simp at h1
   ·rcases List.mem_append.1 h1 with h1 | h1
    ·have:LR.contains t'=true:=by simpa using h1
     rw [hc] at this; cases this
    ·exact n1 h1
 | clo f caps=>
  obtain ⟨fid,vs,g1,rfl,g3,g4⟩:=h
  refine ⟨fid,vs,g1,rfl,g3,fun i c v k1 k2=>?_⟩
  have hq:=g4 i c v k1 k2
  rcases Jg hq with ⟨T,k,rfl,hp⟩ | ⟨hn,hd⟩
  ·exact rp hp (hno (k:=true) (T:=T) ⟨rfl,k,List.mem_of_getElem? k1⟩).2.2
  ·have:=K.rd hd
   cases c with
   | ptr t k=>exact absurd rfl (hn _ _)
   | _=>exact this
 | undef=>trivial
 | int x1 x2=>exact K.rc (c:=.int x1 x2) (fun k t hs=>hs.elim) h
 | bool x1=>exact K.rc (c:=.bool x1) (fun k t hs=>hs.elim) h
 | str x1=>exact K.rc (c:=.str x1) (fun k t hs=>hs.elim) h
 | lst x1 x2=>exact K.rc (c:=.lst x1 x2) (fun k t hs=>hs.elim) h
 | iptr x1=>exact K.rc (c:=.iptr x1) (fun k t hs=>hs.elim) h
 | agg x1=>exact K.rc (c:=.agg x1) (fun k t hs=>hs.elim) h
 | tup x1=>exact K.rc (c:=.tup x1) (fun k t hs=>hs.elim) h
 | may x1 x2=>exact K.rc (c:=.may x1 x2) (fun k t hs=>hs.elim) h
theorem Fi.new {c:V} {v:Value} (h:RC φ m' w' c v) (hc:c∈t.r.flat++t.bx.flatten):RC φ ((Bk m1 m' d (t.newB d LB.length) (t.newR d) LM)) w' (Ek d (t.bx.length-LB.length) LB LR c) v:=by
 have mv:∀ {e T off sz:Nat} {es:List (List V)},RO φ m' w' e off sz es v→c = .own e off sz es→((Bk m1 m' d (t.newB d LB.length) (t.newR d) LM)).blk false T=m'.blk false e→Az T=Az e→(∀j c,((Bk m1 m' d (t.newB d LB.length) (t.newR d) LM)).nst T j c=m'.nst e j c)→RO φ ((Bk m1 m' d (t.newB d LB.length) (t.newR d) LM)) w' T off sz es v:=by
  intro e T off sz es hro hce hb hdd hnn
  rcases hro with h1 | h1 | ⟨b,cap,cur,ty,h1,h2,h3,h4,h5,h6,h7,h8,h9⟩ | ⟨b,es',ents,clock,h1,h2,h3,h4,h5,h6,h7⟩
  ·exact .inl h1
  ·exact .inr (.inl h1)
  rotate_right
  ·exact .inr (.inr (.inr ⟨b,es',ents,clock,h1,h2,h3,h4,by rw [hb]; exact h5,h6,h7⟩))
  ·refine .inr (.inr (.inl ⟨b,cap,cur,ty,by rw [hb]; exact h1,h2,h3,h4,h5,h6,h7,h8,fun j y k c' g1 g2=>?_⟩))
   obtain ⟨u,k1,k2,k3⟩:=h9 j y k c' g1 g2
   refine ⟨u,k1,k2,?_⟩
   rcases k3 with ⟨k3,k4⟩ | ⟨k3,s',e',k4,k5⟩
   ·refine .inl ⟨B.rd (fun hf=>?_) k3,by rw [hdd]; exact k4⟩
    have:=B.flC hf hc
    rw [hce] at this
    simp only [Gb,Bool.or_eq_true] at this
    rcases this with this | this
    ·exact k4 this
    ·exact List.all_eq_true.1 (List.all_eq_true.1 this y (List.mem_of_getElem? g1)) c' (List.mem_of_getElem? g2)
   ·exact .inr ⟨by rw [hdd]; exact k3,s',e',k4,by rw [hnn]; exact k5⟩
 have old:∀(c0:V),c=c0→RD φ w' m'.avoid c0 v→RC φ ((Bk m1 m' d (t.newB d LB.length) (t.newR d) LM)) w' (Gi c0) v:=by
  intro c0 e hd
  cases hf:fz with
  | true=>exact Eu (Mc (hd.mono (Nat.le_refl _) (fun _ _ _=>rfl) (fun b _=>B.sub hf b)))
  | false=>
   have:=B.flC hf hc
   subst e
   cases hd with
   | int k n=>exact RD.int k n
   | bool b=>exact RD.bool b
   | str s=>exact RD.str s
   | undef _ h=>trivial
   | _=>simp [Gb] at this
 cases c with
 | own e off sz es=>
  simp only [Ek]
  split
  ·rename_i he
   have hm:64*d+e∈t.newR d:=Fu.2 ⟨e,Gu hc,he,rfl⟩
   refine mv h rfl ?_ (Pr d e) fun j c=>?_
   ·simp [Bk,hm]
   ·simp [Bk,hm]
  ·split
   ·trivial
   ·rename_i h1 h2
    cases hR:Ja LR e with
    | none=>trivial
    | some T=>
     obtain ⟨i,hi,hT,rfl⟩:=Is hR
     have n1:T∉t.newR d:=fun hm=>Gy B.apR T (List.mem_of_getElem? hT) hm
     have n2:T∉LM:=by
      intro hm
      obtain ⟨j,hj⟩:=List.getElem?_of_mem hm
      have hi:=(List.getElem?_eq_some_iff.1 hT).1
      have e1:(LR++LM)[i]? = some T:=by rw [List.getElem?_append_left hi]; exact hT
      have e2:(LR++LM)[LR.length+j]? = some T:=by rw [List.getElem?_append_right (by omega),Nat.add_sub_cancel_left]; exact hj
      have:=Dx B.hR e1 e2
      omega
     refine mv h rfl ?_ (Ps T hi).symm fun j c=>?_
     ·rw [B.pinR hT,B.mmR n1 n2]
     ·rw [B.pinN hT]
      simp only [Bk]; rw [if_neg n1,if_neg n2]
 | ptr e k=>
  obtain ⟨b,hb,rfl⟩:=h
  simp only [Ek]
  split
  ·rename_i he
   refine ⟨b,?_,rfl⟩
   have hm:64*d+e∈t.newB d LB.length:=Ks.2 ⟨e,he,rfl⟩
   simp [Bk,hm,hb]
  ·split
   ·trivial
   ·rename_i h1 h2
    cases hT:LB[e-Au]? with
    | none=>trivial
    | some T=>
     refine ⟨b,?_,rfl⟩
     have:=B.pinB hT
     rw [show Au+(e-Au)=e from by omega,hb] at this
     rw [B.mmB (fun hm=>Gy B.apB T (List.mem_of_getElem? hT) hm)]
     exact this.symm
 | clo f caps=>
  obtain ⟨fid,vs,g1,rfl,g3,g4⟩:=h
  cases hf:fz with
  | false=>
   have:=B.flC hf hc
   simp [Gb] at this
  | true=>
   refine ⟨fid,vs,g1,rfl,by simpa using g3,fun i c0 v k1 k2=>?_⟩
   simp only [List.getElem?_map,Option.map_eq_some_iff] at k1
   obtain ⟨c1,k1,rfl⟩:=k1
   have hq:=g4 i c1 v k1 k2
   have hd:RD φ w' ((Bk m1 m' d (t.newB d LB.length) (t.newR d) LM)).avoid (Iw c1) v:=by
    rcases Jg hq with ⟨T,k,rfl,hp⟩ | ⟨_,hd⟩
    ·exact .undef _ hp.one
    ·exact (Jf hd).mono (Nat.le_refl _) (fun _ _ _=>rfl) (fun b _=>B.sub hf b)
   cases c1<;>exact hd
 | optr T sz j k=>trivial
 | nrow T j c sz es=>trivial
 | undef=>trivial
 | agg x1=>trivial
 | tup x1=>trivial
 | may x1 x2=>trivial
 | int x1 x2=>exact old (.int x1 x2) rfl h
 | bool x1=>exact old (.bool x1) rfl h
 | str x1=>exact old (.str x1) rfl h
 | lst x1 x2=>exact old (.lst x1 x2) rfl h
 | iptr x1=>exact old (.iptr x1) rfl h
end
end Go.Ev
