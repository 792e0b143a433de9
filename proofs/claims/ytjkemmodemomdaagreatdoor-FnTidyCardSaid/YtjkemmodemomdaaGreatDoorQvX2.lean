/- The state behind a call. -/
import Derived.Test.YtjkemmodemomdaaGreatDoorQvX
set_option linter.all false
namespace Go.Ev
open Go.RowKit
variable {φ:Bz} {m m' m0 m1 m2:M} {w w' w0:World} {A:Fr} {nt:Nat} {S S' S1:St} {a:Act} {P:Program}
variable {o:Oper} {K:St→Prop} {Q:Exit→Act→World→Prop} {C:Bb}
def Tg (LB LR LM:List Nat) (k:Bool) (t:Nat):Prop:=(k=true∧t∈LB)∨(k=false∧t∈LR++LM)
def Ci (m1:M) (LB LR LM:List Nat) (fz:Bool):M:=
 ⟨fun b=>fz=true∧(m1.A b∨(∃k t,m1.blk k t=some b∧¬Tg LB LR LM k t)∨∃T j c,m1.nst T j c=some b∧T∉LR),
  fun k t=>if k then (if Au≤t then (LB[t-Au]?).bind (m1.blk true) else none)
   else match Ja LR t with
    | some T=>m1.blk false T
    | none=>if 1024000≤t then (LM[t-1024000]?).bind (fun T=>if Az T=true then none else m1.blk false T) else none,
  fun t j c=>(Ja LR t).bind fun T=>m1.nst T j c⟩
section
variable {LB LR LM:List Nat} {fz:Bool}
theorem Do {t b:Nat} (h:(Ci m1 LB LR LM fz).blk true t=some b):∃i T,t=Au+i∧LB[i]? = some T∧m1.blk true T=some b:=by
 simp only [Ci,if_true] at h
 split at h
 ·rename_i ht
  cases hl:LB[t-Au]? with
  | none=>rw [hl] at h; cases h
  | some T=>rw [hl] at h; exact ⟨t-Au,T,by omega,hl,h⟩
 ·cases h
theorem Em {t b:Nat} (h:(Ci m1 LB LR LM fz).blk false t=some b):
  (∃i T,t=2097152+tg T i∧i<32∧LR[i]? = some T∧m1.blk false T=some b)∨(∃i T,t=1024000+i∧Ja LR t=none∧LM[i]? = some T∧Az T=false∧m1.blk false T=some b):=by
 simp only [Ci,Bool.false_eq_true,if_false] at h
 split at h
 ·rename_i T hT
  obtain ⟨i,h1,h2,h3⟩:=Is hT
  exact .inl ⟨i,T,h3,h1,h2,h⟩
 ·rename_i hn
  split at h
  ·cases hl:LM[t-1024000]? with
   | none=>rw [hl] at h; cases h
   | some T=>
    rw [hl] at h
    simp only [Option.bind_some] at h
    split at h
    ·cases h
    ·rename_i hd
     exact .inr ⟨t-1024000,T,by omega,hn,hl,by simpa using hd,h⟩
  ·cases h
theorem Kl {i T:Nat} (h:LB[i]? = some T):(Ci m1 LB LR LM fz).blk true (Au+i)=m1.blk true T:=by
 simp only [Ci,if_true]
 rw [if_pos (by omega),Nat.add_sub_cancel_left,h]
 rfl
theorem Nn {i T:Nat} (h:LR[i]? = some T) (hl:LR.length<33):(Ci m1 LB LR LM fz).blk false (2097152+tg T i)=m1.blk false T:=by
 simp only [Ci,Bool.false_eq_true,if_false]
 rw [So h (by have:=(List.getElem?_eq_some_iff.1 h).1; omega)]
theorem Nm {i T:Nat} (h:LR[i]? = some T) (hl:LR.length<33) (j c:Nat):(Ci m1 LB LR LM fz).nst (2097152+tg T i) j c=m1.nst T j c:=by
 simp only [Ci]
 rw [So h (by have:=(List.getElem?_eq_some_iff.1 h).1; omega)]
 rfl
theorem Bl {t j c b:Nat} (h:(Ci m1 LB LR LM fz).nst t j c=some b):∃i T,t=2097152+tg T i∧i<32∧LR[i]? = some T∧m1.nst T j c=some b:=by
 simp only [Ci] at h
 cases hr:Ja LR t with
 | none=>rw [hr] at h; cases h
 | some T=>
  rw [hr] at h
  obtain ⟨i,h1,h2,h3⟩:=Is hr
  exact ⟨i,T,h3,h1,h2,h⟩
theorem aF {t:Nat} (h:t<2097152):Ja LR t=none:=by
 cases hr:Ja LR t with
 | none=>rfl
 | some T=>obtain ⟨i,_,_,h1⟩:=Is hr; omega
theorem Rz {i T:Nat} (h:LM[i]? = some T) (hl:LM.length<33) (hd:Az T=false):(Ci m1 LB LR LM fz).blk false (1024000+i)=m1.blk false T:=by
 have hi:=(List.getElem?_eq_some_iff.1 h).1
 simp only [Ci,Bool.false_eq_true,if_false]
 rw [aF (by omega)]
 dsimp only
 rw [if_pos (by omega),Nat.add_sub_cancel_left,h]
 simp [hd]
theorem Bh {k:Bool} {t b:Nat} (h:(Ci m1 LB LR LM fz).blk k t=some b):∃T,m1.blk k T=some b∧Tg LB LR LM k T:=by
 cases k
 ·rcases Em h with ⟨i,T,_,_,h1,h2⟩ | ⟨i,T,_,_,h1,_,h2⟩
  ·exact ⟨T,h2,.inr ⟨rfl,List.mem_append.2 (.inl (List.mem_of_getElem? h1))⟩⟩
  ·exact ⟨T,h2,.inr ⟨rfl,List.mem_append.2 (.inr (List.mem_of_getElem? h1))⟩⟩
 ·obtain ⟨i,T,_,h1,h2⟩:=Do h
  exact ⟨T,h2,.inl ⟨rfl,List.mem_of_getElem? h1⟩⟩
theorem Dx:∀ {l:List Nat} (_:Bn l=true) {i j x:Nat},l[i]? = some x→l[j]? = some x→i=j
 | y::r,h,i,j,x,h1,h2=>by
  simp only [Bn,Bool.and_eq_true] at h
  have hn:∀k,r[k]? ≠ some y:=fun k hk=>by
   have:=List.all_eq_true.1 h.1 y (List.mem_of_getElem? hk)
   simp at this
  cases i with
  | zero=>
   cases j with
   | zero=>rfl
   | succ j=>
    simp at h1 h2
    subst h1
    exact absurd h2 (hn j)
  | succ i=>
   cases j with
   | zero=>
    simp at h1 h2
    subst h2
    exact absurd h1 (hn i)
   | succ j=>
    simp at h1 h2
    rw [Dx h.2 h1 h2]
 | [],_,_,_,_,h1,_=>by simp at h1
theorem Zf (L:Lay w0 A m1 w) (hB:Bn LB=true) (hR:Bn (LR++LM)=true) (k:Bool) (t:Nat) (k':Bool) (t' b:Nat)
  (h1:(Ci m1 LB LR LM fz).blk k t=some b) (h2:(Ci m1 LB LR LM fz).blk k' t'=some b):k=k'∧t=t':=by
 have Je:∀ {t:Nat},(Ci m1 LB LR LM fz).blk false t=some b→∃i T,(LR++LM)[i]? = some T∧m1.blk false T=some b∧((i<LR.length∧t=2097152+tg T i)∨(LR.length≤i∧t=1024000+(i-LR.length))):=by
  intro t h
  rcases Em h with ⟨i,T,e,_,g1,g2⟩ | ⟨i,T,e,_,g1,_,g2⟩
  ·have hi:=(List.getElem?_eq_some_iff.1 g1).1
   exact ⟨i,T,by rw [List.getElem?_append_left hi]; exact g1,g2,.inl ⟨hi,e⟩⟩
  ·exact ⟨LR.length+i,T,by rw [List.getElem?_append_right (by omega),Nat.add_sub_cancel_left]; exact g1,g2,.inr ⟨by omega,by rw [Nat.add_sub_cancel_left]; exact e⟩⟩
 cases k<;>cases k'
 ·obtain ⟨i,T,g1,g2,g3⟩:=Je h1
  obtain ⟨j,T',k1,k2,k3⟩:=Je h2
  obtain ⟨_,rfl⟩:=L.inj _ _ _ _ _ g2 k2
  have:=Dx hR g1 k1
  subst this
  exact ⟨rfl,by omega⟩
 ·obtain ⟨i,T,g1,g2,g3⟩:=Je h1
  obtain ⟨j,T',k1,k2,k3⟩:=Do h2
  have:=L.inj _ _ _ _ _ g2 k3
  simp at this
 ·obtain ⟨i,T,g1,g2,g3⟩:=Je h2
  obtain ⟨j,T',k1,k2,k3⟩:=Do h1
  have:=L.inj _ _ _ _ _ g2 k3
  simp at this
 ·obtain ⟨i,T,g1,g2,g3⟩:=Do h1
  obtain ⟨j,T',k1,k2,k3⟩:=Do h2
  obtain ⟨_,rfl⟩:=L.inj _ _ _ _ _ g3 k3
  have:=Dx hB g2 k2
  subst this
  exact ⟨rfl,by omega⟩
theorem Ze (L:Lay w0 A m1 w) {k:Bool} {t b:Nat} (h:(Ci m1 LB LR LM fz).blk k t=some b):b<w.heap.size∧¬(Ci m1 LB LR LM fz).A b:=by
 obtain ⟨T,h1,h2⟩:=Bh h
 refine ⟨(L.bnd _ _ _ h1).1,?_⟩
 rintro ⟨_,h3 | ⟨k',t',h3,h4⟩ | ⟨T',j,c,h3,_⟩⟩
 ·exact (L.bnd _ _ _ h1).2.2 h3
 ·obtain ⟨rfl,rfl⟩:=L.inj _ _ _ _ _ h1 h3
  exact h4 h2
 ·exact L.n.dis _ _ _ _ _ _ h3 h1
theorem El {b:Nat} (h:(Ci m1 LB LR LM fz).avoid b):m1.avoid b:=by
 rcases h with ⟨_,h | ⟨k,t,h,_⟩ | ⟨T,j,c,h,_⟩⟩ | ⟨k,t,h⟩ | ⟨T,j,c,h⟩
 ·exact .inl h
 ·exact .inr (.inl ⟨k,t,h⟩)
 ·exact .inr (.inr ⟨T,j,c,h⟩)
 ·obtain ⟨T,h1,_⟩:=Bh h
  exact .inr (.inl ⟨k,T,h1⟩)
 ·obtain ⟨i,T,_,_,_,h1⟩:=Bl h
  exact .inr (.inr ⟨_,_,_,h1⟩)
theorem mY (L:Lay w0 A m1 w) (hR:Bn (LR++LM)=true):uO w (Ci m1 LB LR LM fz):=by
 refine ⟨fun T j c T' j' c' b h1 h2=>?_,fun T j c k t b h1 h2=>?_,fun T j c b h1=>?_,fun T j c b cur e x h1 h2=>?_⟩
 ·obtain ⟨i,X,rfl,_,g1,g2⟩:=Bl h1
  obtain ⟨i',X',rfl,_,g3,g4⟩:=Bl h2
  obtain ⟨rfl,rfl,rfl⟩:=L.n.inj _ _ _ _ _ _ _ g2 g4
  have hi:=(List.getElem?_eq_some_iff.1 g1).1
  have hi':=(List.getElem?_eq_some_iff.1 g3).1
  have:=Dx hR (by rw [List.getElem?_append_left hi]; exact g1) (by rw [List.getElem?_append_left hi']; exact g3)
  subst this
  exact ⟨rfl,rfl,rfl⟩
 ·obtain ⟨i,X,rfl,_,g1,g2⟩:=Bl h1
  obtain ⟨X',g3,_⟩:=Bh h2
  exact L.n.dis _ _ _ _ _ _ g2 g3
 ·obtain ⟨i,X,rfl,_,g1,g2⟩:=Bl h1
  refine ⟨(L.n.bnd _ _ _ _ g2).1,?_⟩
  rintro ⟨_,h3 | ⟨k',t',h3,h4⟩ | ⟨T',j',c',h3,h4⟩⟩
  ·exact (L.n.bnd _ _ _ _ g2).2.2 h3
  ·exact L.n.dis _ _ _ _ _ _ g2 h3
  ·obtain ⟨rfl,_⟩:=L.n.inj _ _ _ _ _ _ _ g2 h3
   exact h4 (List.mem_of_getElem? g1)
 ·obtain ⟨i,X,rfl,_,g1,g2⟩:=Bl h1
  exact L.n.ones _ _ _ _ _ _ _ g2 h2
theorem Jz {X:List Nat} {t:Nat}:∀ {l:List Nat},t∈Rp X l↔t∈l∧t∉X
 | []=>by simp [Rp]
 | x::r=>by
  simp only [Rp]
  split
  ·rename_i hx
   rw [Jz (l:=r)]
   constructor
   ·rintro ⟨h1,h2⟩; exact ⟨List.mem_cons_of_mem _ h1,h2⟩
   ·rintro ⟨h1,h2⟩
    rcases List.mem_cons.1 h1 with rfl | h1
    ·exact absurd (by simpa using hx) h2
    ·exact ⟨h1,h2⟩
  ·rename_i hx
   simp only [List.mem_cons,Jz (l:=r)]
   constructor
   ·rintro (rfl | ⟨h1,h2⟩)
    ·exact ⟨.inl rfl,by simpa using hx⟩
    ·exact ⟨.inr h1,h2⟩
   ·rintro ⟨rfl | h1,h2⟩
    ·exact .inl rfl
    ·exact .inr ⟨h1,h2⟩
theorem Aw.hands (h:Aw φ w0 A nt m S a w) (LB LR LM F:List Nat) (fz:Bool) (hF:∀t∈F,t∉LR++LM) (hl:LM.length<33) (hr:LR.length<33):
  ∃m1,Aw φ w0 A nt m1 (if fz then S.freezes F else S) a w∧Rs m m1 (Ci m1 LB LR LM fz) LB LR LM F fz:=by
 cases fz with
 | false=>
  refine ⟨m,h,fun i t hi=>Kl hi,fun i t hi=>⟨Nn hi hr,fun j c=>Nm hi hr j c⟩,fun i t hi hd=>Rz hi hl hd,hr,hl,fun b hb=>El hb,fun k t b hb hav _=>?_,fun _ _ _ _ hh=>by simp at hh,fun T j c b hb hav _=>?_,fun _ _ _ _ _ _ hh=>by simp at hh⟩
  ·rcases hav with ⟨hh,_⟩ | ⟨k',t',h1⟩ | ⟨T,j,c,h1⟩
   ·simp at hh
   ·obtain ⟨T,h2,h3⟩:=Bh h1
    obtain ⟨rfl,rfl⟩:=h.inj _ _ _ _ _ hb h2
    exact h3
   ·obtain ⟨i,X,_,_,_,g2⟩:=Bl h1
    exact (h.n.dis _ _ _ _ _ _ g2 hb).elim
  ·rcases hav with ⟨hh,_⟩ | ⟨k',t',h1⟩ | ⟨T',j',c',h1⟩
   ·simp at hh
   ·obtain ⟨T,h2,h3⟩:=Bh h1
    exact (h.n.dis _ _ _ _ _ _ hb h2).elim
   ·obtain ⟨i,X,_,_,g1,g2⟩:=Bl h1
    obtain ⟨rfl,_⟩:=h.n.inj _ _ _ _ _ _ _ hb g2
    exact List.mem_of_getElem? g1
 | true=>
  obtain ⟨m1,h1,h2,h3,h4,h5,h6,h7⟩:=h.freezes F
  have same:∀t,t∈LR++LM→m1.blk false t=m.blk false t:=fun t ht=>h6 t fun hf=>hF t hf ht
  have sub:∀b,m1.avoid b→m.avoid b:=by
   rintro b (hh | ⟨k,t,hb⟩ | ⟨T,j,c,hb⟩)
   ·exact .inl (h2 ▸ hh)
   ·cases k
    ·exact .inr (.inl ⟨false,t,h5 t b hb⟩)
    ·exact .inr (.inl ⟨true,t,by rw [←h3]; exact hb⟩)
   ·exact .inr (.inr ⟨T,j,c,(h7.sub _ _ _ _ hb).1⟩)
  have inR:∀ {i t:Nat},LR[i]? = some t→t∈LR++LM:=fun hi=>List.mem_append.2 (.inl (List.mem_of_getElem? hi))
  refine ⟨m1,h1,fun i t hi=>by rw [Kl hi,h3],fun i t hi=>⟨by rw [Nn hi hr]; exact same t (inR hi),fun j c=>by rw [Nm hi hr]; exact h7.keep _ _ _ fun hf=>hF t hf (inR hi)⟩,
   fun i t hi hd=>by rw [Rz hi hl hd]; exact same t (List.mem_append.2 (.inr (List.mem_of_getElem? hi))),hr,hl,fun b hb=>sub b (El hb),fun _ _ _ _ _ hh=>by simp at hh,fun t b hb hav _ ht htp=>?_,fun _ _ _ _ _ _ hh=>by simp at hh,fun T j c b hb hav _ ht htp=>?_⟩
  ·rcases El hav with hh | ⟨k,t',hb'⟩ | ⟨T,j,c,hb'⟩
   ·exact (h.bnd _ _ _ hb).2.2 (h2 ▸ hh)
   ·cases k
    ·obtain ⟨_,rfl⟩:=h.inj _ _ _ _ _ (h5 t' b hb') hb
     rw [h4 t' ht htp] at hb'
     cases hb'
    ·rw [h3] at hb'
     have:=h.inj _ _ _ _ _ hb' hb
     simp at this
   ·exact h.n.dis _ _ _ _ _ _ (h7.sub _ _ _ _ hb').1 hb
  ·rcases El hav with hh | ⟨k,t',hb'⟩ | ⟨T',j',c',hb'⟩
   ·exact (h.n.bnd _ _ _ _ hb).2.2 (h2 ▸ hh)
   ·cases k
    ·exact h.n.dis _ _ _ _ _ _ hb (h5 t' b hb')
    ·rw [h3] at hb'
     exact h.n.dis _ _ _ _ _ _ hb hb'
   ·have q:=h7.sub _ _ _ _ hb'
    obtain ⟨rfl,_⟩:=h.n.inj _ _ _ _ _ _ _ q.1 hb
    exact q.2 ht htp
end
theorem Sj {c:V}:∀ {l:List V} {v:V},v∈l→c∈v.flat→c∈Ld l
 | x::r,v,hv,hc=>by
  simp only [Ld,List.mem_append]
  cases hv with
  | head=>exact .inl hc
  | tail _ hv=>exact .inr (Sj hv hc)
theorem Hd (f:V→V):∀(l:List (List V)) (i:Nat),(Jy f l)[i]? = (l[i]?).map (·.map f)
 | [],i=>by simp [Jy]
 | x::r,0=>by simp [Jy]
 | x::r,i+1=>by simp [Jy,Hd f r i]
theorem Mr (f:V→V):∀(l:List (List V)),(Jy f l).length=l.length
 | []=>rfl
 | x::r=>by simp [Jy,Mr f r]
theorem Hc (S:St):∀(l:List Nat) (i:Nat),(S.given l)[i]? = (l[i]?).map fun t=>(look S.bx t).getD []
 | [],i=>by simp [St.given]
 | x::r,0=>by simp [St.given]
 | x::r,i+1=>by simp [St.given,Hc S r i]
theorem Mq (S:St):∀(l:List Nat),(S.given l).length=l.length
 | []=>rfl
 | x::r=>by simp [St.given,Mq S r]
theorem Zs (S:St) (LB LR LM:List Nat) (fz:Bool):Cg (S.liftC LB LR LM fz):=by
 refine ⟨rfl,fun c h1 h2 h3=>?_⟩
 cases c with
 | own t off sz es=>
  simp only [St.liftC,Tj]
  split
  ·simp
  ·split
   ·cases Az t<;>simp
   ·split<;>simp
 | ptr t k=>
  simp only [St.liftC,St.liftP]
  split
  ·simp
  ·split
   ·simp
   ·simp only [St.cl]
    split
    ·simp
    ·split<;>simp
 | clo f caps=>simp [St.liftC]
 | agg cs=>exact absurd rfl (h1 cs)
 | tup vs=>exact absurd rfl (h2 vs)
 | may b v=>exact absurd rfl (h3 b v)
 | _=>simp [St.liftC,St.liftP,Gi,Iw]
theorem dG {v:V} (h:(!As v)=true):As v=false:=by simpa using h
theorem Aw.tabs {LB LR LM:List Nat} {fz:Bool} (h1:Aw φ w0 A nt m1 S1 a w):Ni φ w (Ci m1 LB LR LM fz).held:=fun b k hk=>by
 obtain ⟨q1,q2,e,x,q3⟩:=h1.hnt.2 b k hk
 refine ⟨Nat.lt_of_lt_of_le q1 h1.lies.size,fun hh=>?_,e,x,by rw [h1.lies.block b q1 q2]; exact q3⟩
 rcases hh with ⟨k',t',g1⟩ | ⟨T,j,c,g1⟩
 ·obtain ⟨T,g2,_⟩:=Bh g1
  rcases (h1.bnd _ _ _ g2).2.1 with g3 | g3
  ·omega
  ·exact q2 g3
 ·obtain ⟨i,X,rfl,_,_,g2⟩:=Bl g1
  rcases (h1.n.bnd _ _ _ _ g2).2.1 with g3 | g3
  ·omega
  ·exact q2 g3
theorem dM {LB LR LM:List Nat} {fz:Bool} (h:Aw φ w0 A nt m S a w) (h1:Aw φ w0 A nt m1 S1 a w) {args:List V} {vals:List Value}
  (H:Rs m m1 (Ci m1 LB LR LM fz) LB LR LM (S.frzTags args LB LR LM) fz)
  (hlen:vals.length=args.length) (hv:∀(i:Nat) (v:V) (x:Value),args[i]? = some v→vals[i]? = some x→RT φ m w v x) (hu:Lk (fun v => !As v) args=true)
  (hB:Bn LB=true) (hR:Bn (LR++LM)=true) (hLB:LB.all (fun T=>(look S.bx T).isSome)=true):
  xA φ w (Ci m1 LB LR LM fz) (S.give args LB LR LM fz) vals:=by
 have hu':∀v∈args,As v=false:=by
  have:∀l:List V,Lk (fun v => !As v) l=true→∀v∈l,As v=false:=by
   intro l
   induction l with
   | nil=>simp
   | cons x r ih=>
    intro hx v hv
    simp only [Lk,Bool.and_eq_true] at hx
    cases hv with
    | head=>exact dG hx.1
    | tail _ hv=>exact ih hx.2 v hv
  exact this args hu
 refine ⟨⟨fun b hb=>?_,h1.tabs⟩,Zf h1.toLay hB hR,fun k t b hb=>Ze h1.toLay hb,by simpa [St.give] using hlen,fun i v x hi hx=>?_,fun i cs hi=>?_,fun t b cur e x hb hw=>by
  obtain ⟨T,h2,_⟩:=Bh hb
  exact h1.ones T b cur e x h2 hw,mY h1.toLay hR⟩
 ·obtain ⟨_,hb | ⟨k,t,hb,_⟩ | ⟨T,j,c,hb,_⟩⟩:=hb
  ·exact Nat.lt_of_lt_of_le (h1.hAlt b (h1.hA ▸ hb)) h1.lies.size
  ·exact (h1.bnd _ _ _ hb).1
  ·exact (h1.n.bnd _ _ _ _ hb).1
 ·simp only [St.give,List.getElem?_map,Option.map_eq_some_iff] at hi
  obtain ⟨v0,hi,rfl⟩:=hi
  have hmem:=List.mem_of_getElem? hi
  have hund:=hu' v0 hmem
  have hrt:=hv i v0 x hi hx
  have hnt:∀vs,v0 ≠ .tup vs:=by rintro vs rfl; simp [As] at hund
  refine Fx (RW.mapW (Zs S LB LR LM fz) (Me hnt hrt) fun c y hc hy=>Uz H h hy fun t off sz es e hfz n1 n2=>?_)
  rw [St.frzTags,Jz]
  refine ⟨Gu (off:=off) (sz:=sz) (es:=es) ?_,by simp [n1,n2]⟩
  rw [List.mem_append]
  refine .inl (Sj hmem ?_)
  rw [Ij (Bt hrt) hund,←e]
  exact hc
 ·simp only [St.give,Hd,Hc,Option.map_eq_some_iff] at hi
  obtain ⟨cs0,⟨T,hT,rfl⟩,rfl⟩:=hi
  have hsome:=List.all_eq_true.1 hLB T (List.mem_of_getElem? hT)
  obtain ⟨cs,hcs⟩:=Option.isSome_iff_exists.1 hsome
  obtain ⟨b,cur,e,g1,g2,g3⟩:=h.rb hcs
  refine ⟨b,cur,e,by rw [H.box i T hT]; exact g1,g2,fun j c hj=>?_⟩
  rw [hcs] at hj
  simp only [Option.getD_some,List.getElem?_map,Option.map_eq_some_iff] at hj
  obtain ⟨c0,hj,rfl⟩:=hj
  obtain ⟨v,k1,k2,k3⟩:=g3 j c0 hj
  refine ⟨v,k1,Uz H h k2 fun t off sz es e hfz n1 n2=>?_,k3⟩
  rw [St.frzTags,Jz]
  refine ⟨Gu (off:=off) (sz:=sz) (es:=es) ?_,by simp [n1,n2]⟩
  rw [List.mem_append]
  refine .inr (List.mem_flatten.2 ⟨cs,?_,e ▸ List.mem_of_getElem? hj⟩)
  have:(S.given LB)[i]? = some cs:=by rw [Hc,hT,Option.map_some,hcs]; rfl
  exact List.mem_of_getElem? this
end Go.Ev
