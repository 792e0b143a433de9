/- The state behind a call. -/
import Derived.Test.YtfpbbpkdjmldkaaGreatQvX
set_option linter.all false
namespace Go.Ev
open Go.RowKit
variable {φ:Fa} {m m' m0 m1 m2:M} {w w' w0:World} {A:Fr} {nt:Nat} {S S' S1:St} {a:Act} {P:Program}
variable {o:Oper} {K:St→Prop} {Q:Exit→Act→World→Prop} {C:Ba}
def kC (LB LR LM:List Nat) (k:Bool) (t:Nat):Prop:=(k=true∧t∈LB)∨(k=false∧t∈LR++LM)
def Ha (m1:M) (LB LR LM:List Nat) (fz:Bool):M:=
 ⟨fun b=>fz=true∧(m1.A b∨∃k t,m1.blk k t=some b∧¬kC LB LR LM k t),
  fun k t=>if k then (if Di≤t then (LB[t-Di]?).bind (m1.blk true) else none)
   else if 2097152≤t then (LR[t-2097152]?).bind (m1.blk false)
   else if 1024000≤t then (LM[t-1024000]?).bind (m1.blk false) else none⟩
section
variable {LB LR LM:List Nat} {fz:Bool}
theorem Ip {t b:Nat} (h:(Ha m1 LB LR LM fz).blk true t=some b):∃i T,t=Di+i∧LB[i]? = some T∧m1.blk true T=some b:=by
 simp only [Ha,if_true] at h
 split at h
 ·rename_i ht
  cases hl:LB[t-Di]? with
  | none=>rw [hl] at h; cases h
  | some T=>rw [hl] at h; exact ⟨t-Di,T,by omega,hl,h⟩
 ·cases h
theorem Ms {t b:Nat} (h:(Ha m1 LB LR LM fz).blk false t=some b):
  (∃i T,t=2097152+i∧LR[i]? = some T∧m1.blk false T=some b)∨(∃i T,t=1024000+i∧t<2097152∧LM[i]? = some T∧m1.blk false T=some b):=by
 simp only [Ha,Bool.false_eq_true,if_false] at h
 split at h
 ·rename_i ht
  cases hl:LR[t-2097152]? with
  | none=>rw [hl] at h; cases h
  | some T=>rw [hl] at h; exact .inl ⟨t-2097152,T,by omega,hl,h⟩
 ·split at h
  ·cases hl:LM[t-1024000]? with
   | none=>rw [hl] at h; cases h
   | some T=>rw [hl] at h; exact .inr ⟨t-1024000,T,by omega,by omega,hl,h⟩
  ·cases h
theorem Sa {i T:Nat} (h:LB[i]? = some T):(Ha m1 LB LR LM fz).blk true (Di+i)=m1.blk true T:=by
 simp only [Ha,if_true]
 rw [if_pos (by omega),Nat.add_sub_cancel_left,h]
 rfl
theorem Ya {i T:Nat} (h:LR[i]? = some T):(Ha m1 LB LR LM fz).blk false (2097152+i)=m1.blk false T:=by
 simp only [Ha,Bool.false_eq_true,if_false]
 rw [if_pos (by omega),Nat.add_sub_cancel_left,h]
 rfl
theorem gJ {i T:Nat} (h:LM[i]? = some T) (hl:LM.length<65):(Ha m1 LB LR LM fz).blk false (1024000+i)=m1.blk false T:=by
 have hi:=(List.getElem?_eq_some_iff.1 h).1
 simp only [Ha,Bool.false_eq_true,if_false]
 rw [if_neg (by omega),if_pos (by omega),Nat.add_sub_cancel_left,h]
 rfl
theorem Ei {k:Bool} {t b:Nat} (h:(Ha m1 LB LR LM fz).blk k t=some b):∃T,m1.blk k T=some b∧kC LB LR LM k T:=by
 cases k
 ·rcases Ms h with ⟨i,T,_,h1,h2⟩ | ⟨i,T,_,_,h1,h2⟩
  ·exact ⟨T,h2,.inr ⟨rfl,List.mem_append.2 (.inl (List.mem_of_getElem? h1))⟩⟩
  ·exact ⟨T,h2,.inr ⟨rfl,List.mem_append.2 (.inr (List.mem_of_getElem? h1))⟩⟩
 ·obtain ⟨i,T,_,h1,h2⟩:=Ip h
  exact ⟨T,h2,.inl ⟨rfl,List.mem_of_getElem? h1⟩⟩
theorem Kf:∀ {l:List Nat} (_:Fh l=true) {i j x:Nat},l[i]? = some x→l[j]? = some x→i=j
 | y::r,h,i,j,x,h1,h2=>by
  simp only [Fh,Bool.and_eq_true] at h
  have hn:∀k,r[k]? ≠ some y:=fun k hk=>by
   have:=List.all_eq_true.1 h.1 y (List.mem_of_getElem? hk)
   simp at this
  cases i with
  | zero=>
   cases j with
   | zero=>rfl
   | succ j=>
    simp at h1 h2
    subst h1
    exact absurd h2 (hn j)
  | succ i=>
   cases j with
   | zero=>
    simp at h1 h2
    subst h2
    exact absurd h1 (hn i)
   | succ j=>
    simp at h1 h2
    rw [Kf h.2 h1 h2]
 | [],_,_,_,_,h1,_=>by simp at h1
theorem wC (L:Lay w0 A m1 w) (hB:Fh LB=true) (hR:Fh (LR++LM)=true) (k:Bool) (t:Nat) (k':Bool) (t' b:Nat)
  (h1:(Ha m1 LB LR LM fz).blk k t=some b) (h2:(Ha m1 LB LR LM fz).blk k' t'=some b):k=k'∧t=t':=by
 have El:∀ {t:Nat},(Ha m1 LB LR LM fz).blk false t=some b→∃i T,(LR++LM)[i]? = some T∧m1.blk false T=some b∧((i<LR.length∧t=2097152+i)∨(LR.length≤i∧t=1024000+(i-LR.length))):=by
  intro t h
  rcases Ms h with ⟨i,T,e,g1,g2⟩ | ⟨i,T,e,_,g1,g2⟩
  ·have hi:=(List.getElem?_eq_some_iff.1 g1).1
   exact ⟨i,T,by rw [List.getElem?_append_left hi]; exact g1,g2,.inl ⟨hi,e⟩⟩
  ·exact ⟨LR.length+i,T,by rw [List.getElem?_append_right (by omega),Nat.add_sub_cancel_left]; exact g1,g2,.inr ⟨by omega,by rw [Nat.add_sub_cancel_left]; exact e⟩⟩
 cases k<;>cases k'
 ·obtain ⟨i,T,g1,g2,g3⟩:=El h1
  obtain ⟨j,T',k1,k2,k3⟩:=El h2
  obtain ⟨_,rfl⟩:=L.inj _ _ _ _ _ g2 k2
  have:=Kf hR g1 k1
  subst this
  exact ⟨rfl,by omega⟩
 ·obtain ⟨i,T,g1,g2,g3⟩:=El h1
  obtain ⟨j,T',k1,k2,k3⟩:=Ip h2
  have:=L.inj _ _ _ _ _ g2 k3
  simp at this
 ·obtain ⟨i,T,g1,g2,g3⟩:=El h2
  obtain ⟨j,T',k1,k2,k3⟩:=Ip h1
  have:=L.inj _ _ _ _ _ g2 k3
  simp at this
 ·obtain ⟨i,T,g1,g2,g3⟩:=Ip h1
  obtain ⟨j,T',k1,k2,k3⟩:=Ip h2
  obtain ⟨_,rfl⟩:=L.inj _ _ _ _ _ g3 k3
  have:=Kf hB g2 k2
  subst this
  exact ⟨rfl,by omega⟩
theorem wB (L:Lay w0 A m1 w) {k:Bool} {t b:Nat} (h:(Ha m1 LB LR LM fz).blk k t=some b):b<w.heap.size∧¬(Ha m1 LB LR LM fz).A b:=by
 obtain ⟨T,h1,h2⟩:=Ei h
 refine ⟨(L.bnd _ _ _ h1).1,?_⟩
 rintro ⟨_,h3 | ⟨k',t',h3,h4⟩⟩
 ·exact (L.bnd _ _ _ h1).2.2 h3
 ·obtain ⟨rfl,rfl⟩:=L.inj _ _ _ _ _ h1 h3
  exact h4 h2
theorem Mr {b:Nat} (h:(Ha m1 LB LR LM fz).avoid b):m1.avoid b:=by
 rcases h with ⟨_,h | ⟨k,t,h,_⟩⟩ | ⟨k,t,h⟩
 ·exact .inl h
 ·exact .inr ⟨k,t,h⟩
 ·obtain ⟨T,h1,_⟩:=Ei h
  exact .inr ⟨k,T,h1⟩
theorem Rg {X:List Nat} {t:Nat}:∀ {l:List Nat},t∈fW X l↔t∈l∧t∉X
 | []=>by simp [fW]
 | x::r=>by
  simp only [fW]
  split
  ·rename_i hx
   rw [Rg (l:=r)]
   constructor
   ·rintro ⟨h1,h2⟩; exact ⟨List.mem_cons_of_mem _ h1,h2⟩
   ·rintro ⟨h1,h2⟩
    rcases List.mem_cons.1 h1 with rfl | h1
    ·exact absurd (by simpa using hx) h2
    ·exact ⟨h1,h2⟩
  ·rename_i hx
   simp only [List.mem_cons,Rg (l:=r)]
   constructor
   ·rintro (rfl | ⟨h1,h2⟩)
    ·exact ⟨.inl rfl,by simpa using hx⟩
    ·exact ⟨.inr h1,h2⟩
   ·rintro ⟨rfl | h1,h2⟩
    ·exact .inl rfl
    ·exact .inr ⟨h1,h2⟩
theorem Da.hands (h:Da φ w0 A nt m S a w) (LB LR LM F:List Nat) (fz:Bool) (hF:∀t∈F,t∉LR++LM) (hl:LM.length<65):
  ∃m1,Da φ w0 A nt m1 (if fz then S.freezes F else S) a w∧fZ m m1 (Ha m1 LB LR LM fz) LB LR LM F fz:=by
 cases fz with
 | false=>
  refine ⟨m,h,fun i t hi=>Sa hi,fun i t hi=>Ya hi,fun i t hi=>gJ hi hl,fun b hb=>Mr hb,fun k t b hb hav _=>?_,fun _ _ _ _ hh=>by simp at hh⟩
  rcases hav with ⟨hh,_⟩ | ⟨k',t',h1⟩
  ·simp at hh
  ·obtain ⟨T,h2,h3⟩:=Ei h1
   obtain ⟨rfl,rfl⟩:=h.inj _ _ _ _ _ hb h2
   exact h3
 | true=>
  obtain ⟨m1,h1,h2,h3,h4,h5,h6⟩:=h.freezes F
  have same:∀t,t∈LR++LM→m1.blk false t=m.blk false t:=fun t ht=>h6 t fun hf=>hF t hf ht
  have sub:∀b,m1.avoid b→m.avoid b:=by
   rintro b (hh | ⟨k,t,hb⟩)
   ·exact .inl (h2 ▸ hh)
   ·cases k
    ·exact .inr ⟨false,t,h5 t b hb⟩
    ·exact .inr ⟨true,t,by rw [←h3]; exact hb⟩
  refine ⟨m1,h1,fun i t hi=>by rw [Sa hi,h3],fun i t hi=>by rw [Ya hi]; exact same t (List.mem_append.2 (.inl (List.mem_of_getElem? hi))),
   fun i t hi=>by rw [gJ hi hl]; exact same t (List.mem_append.2 (.inr (List.mem_of_getElem? hi))),fun b hb=>sub b (Mr hb),fun _ _ _ _ _ hh=>by simp at hh,fun t b hb hav _ ht htp=>?_⟩
  rcases Mr hav with hh | ⟨k,t',hb'⟩
  ·exact (h.bnd _ _ _ hb).2.2 (h2 ▸ hh)
  ·cases k
   ·obtain ⟨_,rfl⟩:=h.inj _ _ _ _ _ (h5 t' b hb') hb
    rw [h4 t' ht htp] at hb'
    cases hb'
   ·rw [h3] at hb'
    have:=h.inj _ _ _ _ _ hb' hb
    simp at this
end
theorem hP {c:V}:∀ {l:List V} {v:V},v∈l→c∈v.flat→c∈Qu l
 | x::r,v,hv,hc=>by
  simp only [Qu,List.mem_append]
  cases hv with
  | head=>exact .inl hc
  | tail _ hv=>exact .inr (hP hv hc)
theorem Mc (f:V→V):∀(l:List (List V)) (i:Nat),(Rf f l)[i]? = (l[i]?).map (·.map f)
 | [],i=>by simp [Rf]
 | x::r,0=>by simp [Rf]
 | x::r,i+1=>by simp [Rf,Mc f r i]
theorem Wx (f:V→V):∀(l:List (List V)),(Rf f l).length=l.length
 | []=>rfl
 | x::r=>by simp [Rf,Wx f r]
theorem Mb (S:St):∀(l:List Nat) (i:Nat),(S.given l)[i]? = (l[i]?).map fun t=>(look S.bx t).getD []
 | [],i=>by simp [St.given]
 | x::r,0=>by simp [St.given]
 | x::r,i+1=>by simp [St.given,Mb S r i]
theorem Ww (S:St):∀(l:List Nat),(S.given l).length=l.length
 | []=>rfl
 | x::r=>by simp [St.given,Ww S r]
theorem xL (S:St) (LB LR LM:List Nat) (fz:Bool):Fl (S.liftC LB LR LM fz):=by
 refine ⟨rfl,fun c h1 h2 h3=>?_⟩
 cases c with
 | own t off sz es=>
  simp only [St.liftC,kI]
  split
  ·simp
  ·split
   ·simp
   ·split<;>simp
 | ptr t k=>
  simp only [St.liftC,St.liftP]
  split
  ·simp
  ·split
   ·simp
   ·simp only [St.cl]
    split
    ·simp
    ·split<;>simp
 | clo f caps=>simp [St.liftC]
 | agg cs=>exact absurd rfl (h1 cs)
 | tup vs=>exact absurd rfl (h2 vs)
 | may b v=>exact absurd rfl (h3 b v)
 | _=>simp [St.liftC,St.liftP,Lb,Pu]
theorem KP {v:V} (h:(!Cq v)=true):Cq v=false:=by simpa using h
theorem LI {LB LR LM:List Nat} {fz:Bool} (h:Da φ w0 A nt m S a w) (h1:Da φ w0 A nt m1 S1 a w) {args:List V} {vals:List Value}
  (H:fZ m m1 (Ha m1 LB LR LM fz) LB LR LM (S.frzTags args LB LR LM) fz)
  (hlen:vals.length=args.length) (hv:∀(i:Nat) (v:V) (x:Value),args[i]? = some v→vals[i]? = some x→RT φ m w v x) (hu:Qa (fun v => !Cq v) args=true)
  (hB:Fh LB=true) (hR:Fh (LR++LM)=true) (hLB:LB.all (fun T=>(look S.bx T).isSome)=true):
  Pre φ w (Ha m1 LB LR LM fz) (S.give args LB LR LM fz) vals:=by
 have hu':∀v∈args,Cq v=false:=by
  have:∀l:List V,Qa (fun v => !Cq v) l=true→∀v∈l,Cq v=false:=by
   intro l
   induction l with
   | nil=>simp
   | cons x r ih=>
    intro hx v hv
    simp only [Qa,Bool.and_eq_true] at hx
    cases hv with
    | head=>exact KP hx.1
    | tail _ hv=>exact ih hx.2 v hv
  exact this args hu
 refine ⟨fun b hb=>?_,wC h1.toLay hB hR,fun k t b hb=>wB h1.toLay hb,by simpa [St.give] using hlen,fun i v x hi hx=>?_,fun i cs hi=>?_,fun t b cur e x hb hw=>by
  obtain ⟨T,h2,_⟩:=Ei hb
  exact h1.ones T b cur e x h2 hw⟩
 ·obtain ⟨_,hb | ⟨k,t,hb,_⟩⟩:=hb
  ·exact Nat.lt_of_lt_of_le (h1.hAlt b (h1.hA ▸ hb)) h1.lies.size
  ·exact (h1.bnd _ _ _ hb).1
 ·simp only [St.give,List.getElem?_map,Option.map_eq_some_iff] at hi
  obtain ⟨v0,hi,rfl⟩:=hi
  have hmem:=List.mem_of_getElem? hi
  have hund:=hu' v0 hmem
  have hrt:=hv i v0 x hi hx
  have hnt:∀vs,v0 ≠ .tup vs:=by rintro vs rfl; simp [Cq] at hund
  refine Lr (RW.mapW (xL S LB LR LM fz) (Vs hnt hrt) fun c y hc hy=>nA H h hy fun t off sz es e hfz n1 n2=>?_)
  rw [St.frzTags,Rg]
  refine ⟨Lo (off:=off) (sz:=sz) (es:=es) ?_,by simp [n1,n2]⟩
  rw [List.mem_append]
  refine .inl (hP hmem ?_)
  rw [Ur (Et hrt) hund,←e]
  exact hc
 ·simp only [St.give,Mc,Mb,Option.map_eq_some_iff] at hi
  obtain ⟨cs0,⟨T,hT,rfl⟩,rfl⟩:=hi
  have hsome:=List.all_eq_true.1 hLB T (List.mem_of_getElem? hT)
  obtain ⟨cs,hcs⟩:=Option.isSome_iff_exists.1 hsome
  obtain ⟨b,cur,e,g1,g2,g3⟩:=h.rb hcs
  refine ⟨b,cur,e,by rw [H.box i T hT]; exact g1,g2,fun j c hj=>?_⟩
  rw [hcs] at hj
  simp only [Option.getD_some,List.getElem?_map,Option.map_eq_some_iff] at hj
  obtain ⟨c0,hj,rfl⟩:=hj
  obtain ⟨v,k1,k2,k3⟩:=g3 j c0 hj
  refine ⟨v,k1,nA H h k2 fun t off sz es e hfz n1 n2=>?_,k3⟩
  rw [St.frzTags,Rg]
  refine ⟨Lo (off:=off) (sz:=sz) (es:=es) ?_,by simp [n1,n2]⟩
  rw [List.mem_append]
  refine .inr (List.mem_flatten.2 ⟨cs,?_,e ▸ List.mem_of_getElem? hj⟩)
  have:(S.given LB)[i]? = some cs:=by rw [Mb,hT,Option.map_some,hcs]; rfl
  exact List.mem_of_getElem? this
end Go.Ev
