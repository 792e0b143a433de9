/- The state behind a call. -/
import Derived.Test.YtnkhjipmmomjoaaQvX
set_option linter.all false
namespace Go.Ev
open Go.RowKit
variable {φ:Dd} {m m' m0 m1 m2:M} {w w' w0:World} {A:Fr} {nt:Nat} {S S' S1:St} {a:Act} {P:Program}
variable {o:Oper} {K:St→Prop} {Q:Exit→Act→World→Prop} {C:Bf}
def Xs (LB LR LM:List Nat) (k:Bool) (t:Nat):Prop:=(k=true∧t∈LB)∨(k=false∧t∈LR++LM)
def Er (m1:M) (LB LR LM:List Nat) (fz:Bool):M:=
 ⟨fun b=>fz=true∧(m1.A b∨∃k t,m1.blk k t=some b∧¬Xs LB LR LM k t),
  fun k t=>if k then (if Bx≤t then (LB[t-Bx]?).bind (m1.blk true) else none)
   else if 2097152≤t then (LR[t-2097152]?).bind (m1.blk false)
   else if 1024000≤t then (LM[t-1024000]?).bind (m1.blk false) else none⟩
section
variable {LB LR LM:List Nat} {fz:Bool}
theorem Gb {t b:Nat} (h:(Er m1 LB LR LM fz).blk true t=some b):∃i T,t=Bx+i∧LB[i]? = some T∧m1.blk true T=some b:=by
 simp only [Er,if_true] at h
 split at h
 ·rename_i ht
  cases hl:LB[t-Bx]? with
  | none=>rw [hl] at h; cases h
  | some T=>rw [hl] at h; exact ⟨t-Bx,T,by omega,hl,h⟩
 ·cases h
theorem Iy {t b:Nat} (h:(Er m1 LB LR LM fz).blk false t=some b):
  (∃i T,t=2097152+i∧LR[i]? = some T∧m1.blk false T=some b)∨(∃i T,t=1024000+i∧t<2097152∧LM[i]? = some T∧m1.blk false T=some b):=by
 simp only [Er,Bool.false_eq_true,if_false] at h
 split at h
 ·rename_i ht
  cases hl:LR[t-2097152]? with
  | none=>rw [hl] at h; cases h
  | some T=>rw [hl] at h; exact .inl ⟨t-2097152,T,by omega,hl,h⟩
 ·split at h
  ·cases hl:LM[t-1024000]? with
   | none=>rw [hl] at h; cases h
   | some T=>rw [hl] at h; exact .inr ⟨t-1024000,T,by omega,by omega,hl,h⟩
  ·cases h
theorem Mr {i T:Nat} (h:LB[i]? = some T):(Er m1 LB LR LM fz).blk true (Bx+i)=m1.blk true T:=by
 simp only [Er,if_true]
 rw [if_pos (by omega),Nat.add_sub_cancel_left,h]
 rfl
theorem Qw {i T:Nat} (h:LR[i]? = some T):(Er m1 LB LR LM fz).blk false (2097152+i)=m1.blk false T:=by
 simp only [Er,Bool.false_eq_true,if_false]
 rw [if_pos (by omega),Nat.add_sub_cancel_left,h]
 rfl
theorem We {i T:Nat} (h:LM[i]? = some T) (hl:LM.length<65):(Er m1 LB LR LM fz).blk false (1024000+i)=m1.blk false T:=by
 have hi:=(List.getElem?_eq_some_iff.1 h).1
 simp only [Er,Bool.false_eq_true,if_false]
 rw [if_neg (by omega),if_pos (by omega),Nat.add_sub_cancel_left,h]
 rfl
theorem Co {k:Bool} {t b:Nat} (h:(Er m1 LB LR LM fz).blk k t=some b):∃T,m1.blk k T=some b∧Xs LB LR LM k T:=by
 cases k
 ·rcases Iy h with ⟨i,T,_,h1,h2⟩ | ⟨i,T,_,_,h1,h2⟩
  ·exact ⟨T,h2,.inr ⟨rfl,List.mem_append.2 (.inl (List.mem_of_getElem? h1))⟩⟩
  ·exact ⟨T,h2,.inr ⟨rfl,List.mem_append.2 (.inr (List.mem_of_getElem? h1))⟩⟩
 ·obtain ⟨i,T,_,h1,h2⟩:=Gb h
  exact ⟨T,h2,.inl ⟨rfl,List.mem_of_getElem? h1⟩⟩
theorem Hg:∀ {l:List Nat} (_:Dr l=true) {i j x:Nat},l[i]? = some x→l[j]? = some x→i=j
 | y::r,h,i,j,x,h1,h2=>by
  simp only [Dr,Bool.and_eq_true] at h
  have hn:∀k,r[k]? ≠ some y:=fun k hk=>by
   have:=List.all_eq_true.1 h.1 y (List.mem_of_getElem? hk)
   simp at this
  cases i with
  | zero=>
   cases j with
   | zero=>rfl
   | succ j=>
    simp at h1 h2
    subst h1
    exact absurd h2 (hn j)
  | succ i=>
   cases j with
   | zero=>
    simp at h1 h2
    subst h2
    exact absurd h1 (hn i)
   | succ j=>
    simp at h1 h2
    rw [Hg h.2 h1 h2]
 | [],_,_,_,_,h1,_=>by simp at h1
theorem fE (L:Lay w0 A m1 w) (hB:Dr LB=true) (hR:Dr (LR++LM)=true) (k:Bool) (t:Nat) (k':Bool) (t' b:Nat)
  (h1:(Er m1 LB LR LM fz).blk k t=some b) (h2:(Er m1 LB LR LM fz).blk k' t'=some b):k=k'∧t=t':=by
 have Ew:∀ {t:Nat},(Er m1 LB LR LM fz).blk false t=some b→∃i T,(LR++LM)[i]? = some T∧m1.blk false T=some b∧((i<LR.length∧t=2097152+i)∨(LR.length≤i∧t=1024000+(i-LR.length))):=by
  intro t h
  rcases Iy h with ⟨i,T,e,g1,g2⟩ | ⟨i,T,e,_,g1,g2⟩
  ·have hi:=(List.getElem?_eq_some_iff.1 g1).1
   exact ⟨i,T,by rw [List.getElem?_append_left hi]; exact g1,g2,.inl ⟨hi,e⟩⟩
  ·exact ⟨LR.length+i,T,by rw [List.getElem?_append_right (by omega),Nat.add_sub_cancel_left]; exact g1,g2,.inr ⟨by omega,by rw [Nat.add_sub_cancel_left]; exact e⟩⟩
 cases k<;>cases k'
 ·obtain ⟨i,T,g1,g2,g3⟩:=Ew h1
  obtain ⟨j,T',k1,k2,k3⟩:=Ew h2
  obtain ⟨_,rfl⟩:=L.inj _ _ _ _ _ g2 k2
  have:=Hg hR g1 k1
  subst this
  exact ⟨rfl,by omega⟩
 ·obtain ⟨i,T,g1,g2,g3⟩:=Ew h1
  obtain ⟨j,T',k1,k2,k3⟩:=Gb h2
  have:=L.inj _ _ _ _ _ g2 k3
  simp at this
 ·obtain ⟨i,T,g1,g2,g3⟩:=Ew h2
  obtain ⟨j,T',k1,k2,k3⟩:=Gb h1
  have:=L.inj _ _ _ _ _ g2 k3
  simp at this
 ·obtain ⟨i,T,g1,g2,g3⟩:=Gb h1
  obtain ⟨j,T',k1,k2,k3⟩:=Gb h2
  obtain ⟨_,rfl⟩:=L.inj _ _ _ _ _ g3 k3
  have:=Hg hB g2 k2
  subst this
  exact ⟨rfl,by omega⟩
theorem fD (L:Lay w0 A m1 w) {k:Bool} {t b:Nat} (h:(Er m1 LB LR LM fz).blk k t=some b):b<w.heap.size∧¬(Er m1 LB LR LM fz).A b:=by
 obtain ⟨T,h1,h2⟩:=Co h
 refine ⟨(L.bnd _ _ _ h1).1,?_⟩
 rintro ⟨_,h3 | ⟨k',t',h3,h4⟩⟩
 ·exact (L.bnd _ _ _ h1).2.2 h3
 ·obtain ⟨rfl,rfl⟩:=L.inj _ _ _ _ _ h1 h3
  exact h4 h2
theorem Iw {b:Nat} (h:(Er m1 LB LR LM fz).avoid b):m1.avoid b:=by
 rcases h with ⟨_,h | ⟨k,t,h,_⟩⟩ | ⟨k,t,h⟩
 ·exact .inl h
 ·exact .inr ⟨k,t,h⟩
 ·obtain ⟨T,h1,_⟩:=Co h
  exact .inr ⟨k,T,h1⟩
theorem Mk {X:List Nat} {t:Nat}:∀ {l:List Nat},t∈Vp X l↔t∈l∧t∉X
 | []=>by simp [Vp]
 | x::r=>by
  simp only [Vp]
  split
  ·rename_i hx
   rw [Mk (l:=r)]
   constructor
   ·rintro ⟨h1,h2⟩; exact ⟨List.mem_cons_of_mem _ h1,h2⟩
   ·rintro ⟨h1,h2⟩
    rcases List.mem_cons.1 h1 with rfl | h1
    ·exact absurd (by simpa using hx) h2
    ·exact ⟨h1,h2⟩
  ·rename_i hx
   simp only [List.mem_cons,Mk (l:=r)]
   constructor
   ·rintro (rfl | ⟨h1,h2⟩)
    ·exact ⟨.inl rfl,by simpa using hx⟩
    ·exact ⟨.inr h1,h2⟩
   ·rintro ⟨rfl | h1,h2⟩
    ·exact .inl rfl
    ·exact .inr ⟨h1,h2⟩
theorem Bq.hands (h:Bq φ w0 A nt m S a w) (LB LR LM F:List Nat) (fz:Bool) (hF:∀t∈F,t∉LR++LM) (hl:LM.length<65):
  ∃m1,Bq φ w0 A nt m1 (if fz then S.freezes F else S) a w∧Vt m m1 (Er m1 LB LR LM fz) LB LR LM F fz:=by
 cases fz with
 | false=>
  refine ⟨m,h,fun i t hi=>Mr hi,fun i t hi=>Qw hi,fun i t hi=>We hi hl,fun b hb=>Iw hb,fun k t b hb hav _=>?_,fun _ _ _ _ hh=>by simp at hh⟩
  rcases hav with ⟨hh,_⟩ | ⟨k',t',h1⟩
  ·simp at hh
  ·obtain ⟨T,h2,h3⟩:=Co h1
   obtain ⟨rfl,rfl⟩:=h.inj _ _ _ _ _ hb h2
   exact h3
 | true=>
  obtain ⟨m1,h1,h2,h3,h4,h5,h6⟩:=h.freezes F
  have same:∀t,t∈LR++LM→m1.blk false t=m.blk false t:=fun t ht=>h6 t fun hf=>hF t hf ht
  have sub:∀b,m1.avoid b→m.avoid b:=by
   rintro b (hh | ⟨k,t,hb⟩)
   ·exact .inl (h2 ▸ hh)
   ·cases k
    ·exact .inr ⟨false,t,h5 t b hb⟩
    ·exact .inr ⟨true,t,by rw [←h3]; exact hb⟩
  refine ⟨m1,h1,fun i t hi=>by rw [Mr hi,h3],fun i t hi=>by rw [Qw hi]; exact same t (List.mem_append.2 (.inl (List.mem_of_getElem? hi))),
   fun i t hi=>by rw [We hi hl]; exact same t (List.mem_append.2 (.inr (List.mem_of_getElem? hi))),fun b hb=>sub b (Iw hb),fun _ _ _ _ _ hh=>by simp at hh,fun t b hb hav _ ht htp=>?_⟩
  rcases Iw hav with hh | ⟨k,t',hb'⟩
  ·exact (h.bnd _ _ _ hb).2.2 (h2 ▸ hh)
  ·cases k
   ·obtain ⟨_,rfl⟩:=h.inj _ _ _ _ _ (h5 t' b hb') hb
    rw [h4 t' ht htp] at hb'
    cases hb'
   ·rw [h3] at hb'
    have:=h.inj _ _ _ _ _ hb' hb
    simp at this
end
theorem Wq {c:V}:∀ {l:List V} {v:V},v∈l→c∈v.flat→c∈Mb l
 | x::r,v,hv,hc=>by
  simp only [Mb,List.mem_append]
  cases hv with
  | head=>exact .inl hc
  | tail _ hv=>exact .inr (Wq hv hc)
theorem In (f:V→V):∀(l:List (List V)) (i:Nat),(Mj f l)[i]? = (l[i]?).map (·.map f)
 | [],i=>by simp [Mj]
 | x::r,0=>by simp [Mj]
 | x::r,i+1=>by simp [Mj,In f r i]
theorem Qa (f:V→V):∀(l:List (List V)),(Mj f l).length=l.length
 | []=>rfl
 | x::r=>by simp [Mj,Qa f r]
theorem Im (S:St):∀(l:List Nat) (i:Nat),(S.given l)[i]? = (l[i]?).map fun t=>(look S.bx t).getD []
 | [],i=>by simp [St.given]
 | x::r,0=>by simp [St.given]
 | x::r,i+1=>by simp [St.given,Im S r i]
theorem Pz (S:St):∀(l:List Nat),(S.given l).length=l.length
 | []=>rfl
 | x::r=>by simp [St.given,Pz S r]
theorem gD (S:St) (LB LR LM:List Nat) (fz:Bool):Di (S.liftC LB LR LM fz):=by
 refine ⟨rfl,fun c h1 h2 h3=>?_⟩
 cases c with
 | own t off sz es=>
  simp only [St.liftC,Xw]
  split
  ·simp
  ·split
   ·simp
   ·split<;>simp
 | ptr t k=>
  simp only [St.liftC,St.liftP]
  split
  ·simp
  ·split
   ·simp
   ·simp only [St.cl]
    split
    ·simp
    ·split<;>simp
 | clo f caps=>simp [St.liftC]
 | agg cs=>exact absurd rfl (h1 cs)
 | tup vs=>exact absurd rfl (h2 vs)
 | may b v=>exact absurd rfl (h3 b v)
 | _=>simp [St.liftC,St.liftP,Hv,Lc]
theorem oD {v:V} (h:(!Bk v)=true):Bk v=false:=by simpa using h
theorem oM {LB LR LM:List Nat} {fz:Bool} (h:Bq φ w0 A nt m S a w) (h1:Bq φ w0 A nt m1 S1 a w) {args:List V} {vals:List Value}
  (H:Vt m m1 (Er m1 LB LR LM fz) LB LR LM (S.frzTags args LB LR LM) fz)
  (hlen:vals.length=args.length) (hv:∀(i:Nat) (v:V) (x:Value),args[i]? = some v→vals[i]? = some x→RT φ m w v x) (hu:Lp (fun v => !Bk v) args=true)
  (hB:Dr LB=true) (hR:Dr (LR++LM)=true) (hLB:LB.all (fun T=>(look S.bx T).isSome)=true):
  Pre φ w (Er m1 LB LR LM fz) (S.give args LB LR LM fz) vals:=by
 have hu':∀v∈args,Bk v=false:=by
  have:∀l:List V,Lp (fun v => !Bk v) l=true→∀v∈l,Bk v=false:=by
   intro l
   induction l with
   | nil=>simp
   | cons x r ih=>
    intro hx v hv
    simp only [Lp,Bool.and_eq_true] at hx
    cases hv with
    | head=>exact oD hx.1
    | tail _ hv=>exact ih hx.2 v hv
  exact this args hu
 refine ⟨fun b hb=>?_,fE h1.toLay hB hR,fun k t b hb=>fD h1.toLay hb,by simpa [St.give] using hlen,fun i v x hi hx=>?_,fun i cs hi=>?_,fun t b cur e x hb hw=>by
  obtain ⟨T,h2,_⟩:=Co hb
  exact h1.ones T b cur e x h2 hw⟩
 ·obtain ⟨_,hb | ⟨k,t,hb,_⟩⟩:=hb
  ·exact Nat.lt_of_lt_of_le (h1.hAlt b (h1.hA ▸ hb)) h1.lies.size
  ·exact (h1.bnd _ _ _ hb).1
 ·simp only [St.give,List.getElem?_map,Option.map_eq_some_iff] at hi
  obtain ⟨v0,hi,rfl⟩:=hi
  have hmem:=List.mem_of_getElem? hi
  have hund:=hu' v0 hmem
  have hrt:=hv i v0 x hi hx
  have hnt:∀vs,v0 ≠ .tup vs:=by rintro vs rfl; simp [Bk] at hund
  refine Hk (RW.mapW (gD S LB LR LM fz) (Pb hnt hrt) fun c y hc hy=>Zv H h hy fun t off sz es e hfz n1 n2=>?_)
  rw [St.frzTags,Mk]
  refine ⟨Ie (off:=off) (sz:=sz) (es:=es) ?_,by simp [n1,n2]⟩
  rw [List.mem_append]
  refine .inl (Wq hmem ?_)
  rw [Oj (Cu hrt) hund,←e]
  exact hc
 ·simp only [St.give,In,Im,Option.map_eq_some_iff] at hi
  obtain ⟨cs0,⟨T,hT,rfl⟩,rfl⟩:=hi
  have hsome:=List.all_eq_true.1 hLB T (List.mem_of_getElem? hT)
  obtain ⟨cs,hcs⟩:=Option.isSome_iff_exists.1 hsome
  obtain ⟨b,cur,e,g1,g2,g3⟩:=h.rb hcs
  refine ⟨b,cur,e,by rw [H.box i T hT]; exact g1,g2,fun j c hj=>?_⟩
  rw [hcs] at hj
  simp only [Option.getD_some,List.getElem?_map,Option.map_eq_some_iff] at hj
  obtain ⟨c0,hj,rfl⟩:=hj
  obtain ⟨v,k1,k2,k3⟩:=g3 j c0 hj
  refine ⟨v,k1,Zv H h k2 fun t off sz es e hfz n1 n2=>?_,k3⟩
  rw [St.frzTags,Mk]
  refine ⟨Ie (off:=off) (sz:=sz) (es:=es) ?_,by simp [n1,n2]⟩
  rw [List.mem_append]
  refine .inr (List.mem_flatten.2 ⟨cs,?_,e ▸ List.mem_of_getElem? hj⟩)
  have:(S.given LB)[i]? = some cs:=by rw [Im,hT,Option.map_some,hcs]; rfl
  exact List.mem_of_getElem? this
end Go.Ev
