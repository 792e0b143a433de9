/- The plain part of the proof: what the functions compute answers as the law says. -/
import Derived.Test.YtdmclbbhhcpjfaaDoorQvL
import Derived.Test.YtdmclbbhhcpjfaaDoorQgD
import Derived.Test.YtdmclbbhhcpjfaaDoorQvM
import Derived.Lib.ItoaLen
set_option linter.all false
section
namespace Go.Ev
noncomputable def tf (P:Prop):Bool:=@decide P (Classical.propDecidable P)
@[simp] theorem tf_iff {P:Prop}:tf P=true↔P:=by unfold tf; exact @decide_eq_true_iff P (Classical.propDecidable P)
@[simp] theorem tf_false {P:Prop}:tf P=false↔¬P:=by rw [←Bool.not_eq_true,tf_iff]
theorem Hn {P Q:Prop} (h:P↔Q):tf P=tf Q:=by rw [propext h]
theorem Cy {P:Prop} (h:P):tf P=true:=tf_iff.2 h
theorem Bs {P:Prop} (h:¬P):tf P=false:=tf_false.2 h
theorem Rm {P:Prop} [Decidable P]:decide P=tf P:=by
 by_cases h:P
 ·rw [Cy h,decide_eq_true h]
 ·rw [Bs h,decide_eq_false h]
theorem aA {P:Prop}:(!tf P)=tf (¬P):=by
 by_cases h:P
 ·rw [Cy h,Bs (not_not_intro h)]; rfl
 ·rw [Bs h,Cy h]; rfl
theorem Zz {P Q:Prop}:(tf P&&tf Q)=tf (P∧Q):=by
 by_cases h:P
 ·rw [Cy h,Bool.true_and]; exact Hn (by simp [h])
 ·rw [Bs h,Bool.false_and,Bs (fun hh=>h hh.1)]
theorem JG {P Q:Prop}:(tf P || tf Q)=tf (P∨Q):=by
 by_cases h:P
 ·rw [Cy h,Bool.true_or,Cy (.inl h)]
 ·rw [Bs h,Bool.false_or]; exact Hn (by simp [h])
theorem Qh {a b:Bool}:(bif a then b else false)=(a&&b):=by cases a<;>rfl
theorem vX {a b:Bool}:(bif a then true else b)=(a || b):=by cases a<;>rfl
theorem uG {α:Type} {P:Prop} {a b:α} (h:P):(if tf P=true then a else b)=a:=by rw [Cy h]; rfl
theorem gU {α:Type} {P:Prop} {a b:α} (h:¬P):(if tf P=true then a else b)=b:=by rw [Bs h]; rfl
abbrev kM (n:Int):Prop := -9223372036854775808≤n∧n≤9223372036854775807
theorem wr {n:Int} (h:kM n):IntKind.i64.wrap n=n:=by
 obtain ⟨h1,h2⟩:=h
 have e:IntKind.i64.wrap n=if n%18446744073709551616≥9223372036854775808 then n%18446744073709551616-18446744073709551616 else n%18446744073709551616:=by
  simp [IntKind.wrap,IntKind.bits,IntKind.signed]
 rw [e]
 split<;>omega
theorem Nr {α:Type} {l:List α} {k:Nat}:Dt l (k:Int)=l[k]? := by
 unfold Dt
 rw [if_pos (by omega)]
 simp
theorem Cc {α:Type} {l:List α} {k:Nat} (h:k<l.length):Dt l (k:Int)=some l[k]:=by
 rw [Nr,List.getElem?_eq_getElem h]
section
variable {σ ρ:Type} {step:σ→Option (σ⊕ρ)}
theorem Nt (st:Nat→σ):∀n,(∀k,k<n→step (st k)=some (.inl (st (k+1))))→Cf step (st 0)=Cf step (st n)
 | 0,_=>rfl
 | n+1,h=>by
  rw [Nt st n fun k hk=>h k (by omega),Ed (h n (by omega))]
theorem Ff (st:Nat→σ) (n:Nat) (r:ρ) (h:∀k,k<n→step (st k)=some (.inl (st (k+1)))) (he:step (st n)=some (.inr r)):Cf step (st 0)=some r:=by
 rw [Nt st n h,Fu he]
theorem Si (st:Nat→σ) (n:Nat) (ok:Nat→Prop) (bad:Nat→ρ) (fin:ρ) (h1:∀k,k<n→(∀j,j<k→ok j)→ok k→step (st k)=some (.inl (st (k+1))))
  (h2:∀k,k<n→(∀j,j<k→ok j)→¬ok k→step (st k)=some (.inr (bad k))) (he:(∀j,j<n→ok j)→step (st n)=some (.inr fin)):
  ((∀k,k<n→ok k)→Cf step (st 0)=some fin)∧(∀k,k<n→(∀j,j<k→ok j)→¬ok k→Cf step (st 0)=some (bad k)):=by
 constructor
 ·intro h
  exact Ff st n fin (fun k hk=>h1 k hk (fun j hj=>h j (by omega)) (h k hk)) (he h)
 ·intro k hk hj hn
  rw [Nt st k fun i hi=>h1 i (by omega) (fun j hj'=>hj j (by omega)) (hj i hi)]
  exact Fu (h2 k hk hj hn)
theorem Xs {n:Nat} {ok:Nat→Prop} (h:¬ ∀k,k<n→ok k):∃k,k<n∧(∀j,j<k→ok j)∧¬ok k:=by
 obtain ⟨k,hk⟩:=Classical.not_forall.1 h
 rw [Classical.not_imp] at hk
 obtain ⟨h1,h2⟩:=hk
 induction k using Nat.strongRecOn with
 | _ k ih=>
  by_cases hex:∃j,j<k∧¬ok j
  ·obtain ⟨j,hj,hn⟩:=hex
   exact ih j hj (by omega) hn
  ·exact ⟨k,h1,fun j hj=>Classical.byContradiction fun hn=>hex ⟨j,hj,hn⟩,h2⟩
end
theorem La {α:Type} {step:Int→Option (Int⊕(Unit⊕Bool))} (l:List α) (ok:Nat→α→Prop)
  (h1:∀k (hk:k<l.length),(∀j x,j<k→l[j]? = some x→ok j x)→∃v:Bool,(v=true↔¬ok k l[k])∧step (k:Int)=(if v=true then some (.inr (.inr false)) else some (.inl ((k+1:Nat):Int))))
  (h3:step (l.length:Int)=some (.inr (.inl ()))):Cf step 0=some (if tf (∀k x,l[k]? = some x→ok k x)=true then .inl () else .inr false):=by
 have pre:∀k,(∀j,j<k→∀h:j<l.length,ok j l[j])→∀j x,j<k→l[j]? = some x→ok j x:=fun k hj j x hjk hx=>by
  obtain ⟨hlt,rfl⟩:=List.getElem?_eq_some_iff.1 hx
  exact hj j hjk hlt
 have hh:=Si (step:=step) (fun k=>(k:Int)) l.length (fun k=>∀h:k<l.length,ok k l[k]) (fun _=>.inr false) (.inl ()) (fun k hk hj ho=>by
  obtain ⟨v,hv,hs⟩:=h1 k hk (pre k hj)
  rw [hs,if_neg (fun h=>hv.1 h (ho hk))]) (fun k hk hj ho=>by
  obtain ⟨v,hv,hs⟩:=h1 k hk (pre k hj)
  rw [hs,if_pos (hv.2 fun h=>ho fun _=>h)]) (fun _=>h3)
 by_cases h:∀k x,l[k]? = some x→ok k x
 ·rw [uG h]; exact hh.1 fun k hk _=>h k _ (List.getElem?_eq_getElem hk)
 ·rw [gU h]
  obtain ⟨k,hk,hj,ho⟩:=Xs (n:=l.length) (ok:=fun k=>∀h:k<l.length,ok k l[k]) fun hall=>h fun k x hx=>by
   obtain ⟨hlt,rfl⟩:=List.getElem?_eq_some_iff.1 hx
   exact hall k hlt hlt
  exact hh.2 k hk hj ho
theorem Jr {b:Bool} {P:Prop} (h:b=true↔P):some b=some (tf P):=by
 congr 1
 rw [Bool.eq_iff_iff,tf_iff,h]
theorem Me {α:Type} [Inhabited α] {g:Bool} {o:Option α} (h:g=true→∃y,o=some y):∃y,(if g=true then o else some default)=some y∧(g=true→o=some y):=by
 cases g with
 | true=>obtain ⟨y,hy⟩:=h rfl; exact ⟨y,by simpa using hy,fun _=>hy⟩
 | false=>exact ⟨default,rfl,fun h=>by cases h⟩
end Go.Ev
end
section
namespace Go.Ev
theorem Wb (a b c:Int):FK a b c=some (tf (b≤a∧a≤c)):=by
 simp only [FK,Rm,Qh,Zz,ge_iff_le]
theorem Zn (a b c:Int):GV a b c=some (tf (b≤a∧a≤c)):=by
 simp only [GV,Rm,Qh,Zz]
theorem FM (a:Int):KD a=some (tf (1≤a∧a≤1000000)):=by
 simp only [KD,Zn,Option.bind_some]
def Ih (t:Bn) (k:Nat) (x:Ah):Prop:=(1≤x.id∧x.id≤t.next-1)∧(∀y,0<k→t.Ae[k-1]? = some y→y.id<x.id)∧0≤x.Bl∧x.Bl≤x.cap∧(x.Cs=false→t.clock<x.Bl)
def Hp (t:Bn):Prop:=0≤t.clock∧(1≤t.next∧t.next≤1000000)∧t.Ae.length≤40∧∀k x,t.Ae[k]? = some x→Ih t k x
theorem dH (t:Bn) (hn:1≤t.next∧t.next≤1000000) (hl:t.Ae.length≤40):
  Cf (Rs t) 0=some (if tf (∀k x,t.Ae[k]? = some x→Ih t k x)=true then .inl () else .inr false):=by
 refine La t.Ae _ (fun k hk _=>?_) ?_
 ·have hw:IntKind.i64.wrap (t.next-1)=t.next-1:=wr ⟨by omega,by omega⟩
  have hw2:IntKind.i64.wrap ((k:Int)-1)=(k:Int)-1:=wr ⟨by omega,by omega⟩
  have hw3:IntKind.i64.wrap ((k:Int)+1)=((k+1:Nat):Int):=wr ⟨by omega,by omega⟩
  simp only [Rs]
  rw [if_pos (decide_eq_true (by omega)),Cc hk]
  generalize hx:t.Ae[k]=x
  simp only [Option.bind_some,Wb,hw,hw2]
  have hm:0<k→Dt t.Ae ((k:Int)-1)=t.Ae[k-1]? := fun h=>by
   have:((k:Int)-1)=((k-1:Nat):Int):=by omega
   rw [this,Nr]
  obtain ⟨y,h1,h2⟩:=Me (o:=Dt t.Ae ((k:Int)-1)) (g:=((!tf (1≤x.id∧x.id≤t.next-1))==false&&decide ((k:Int)>0)==true)) (fun h=>by
   rw [hm (by simp at h; omega)]
   exact ⟨_,List.getElem?_eq_getElem (by omega)⟩)
  rw [h1]
  simp only [Option.bind_some,Bv,hw3]
  refine ⟨_,?_,rfl⟩
  simp only [Rm,vX,Qh,aA,Zz,JG,ge_iff_le,gt_iff_lt] at h2 ⊢
  by_cases hk0:0<k
  ·by_cases hr:1≤x.id∧x.id≤t.next-1
   ·have hy:t.Ae[k-1]? = some y:=by rw [←hm hk0]; exact h2 (by simp [tf_iff,tf_false,hr]; omega)
    have e3:(∀z,0<k→t.Ae[k-1]? = some z→z.id<x.id)↔y.id<x.id:=by
     rw [hy]; exact ⟨fun h=>h y hk0 rfl,fun h z _ hz=>by cases hz; exact h⟩
    unfold Ih
    rw [e3]
    cases x.Cs<;>simp [tf_iff]<;>omega
   ·have:¬Ih t k x:=fun h=>hr h.1
    simp [tf_iff,this,hr]
  ·have e3:(∀z,0<k→t.Ae[k-1]? = some z→z.id<x.id)↔True:=⟨fun _=>trivial,fun _ z h=>absurd h hk0⟩
   unfold Ih
   rw [e3]
   cases x.Cs<;>simp [tf_iff]<;>omega
 ·simp only [Rs]
  rw [if_neg (by simp)]
end Go.Ev
namespace Go.Ev
theorem FE (t:Bn):JR t=some (tf (Hp t)):=by
 simp only [JR,Wb]
 obtain ⟨r,h1,h2⟩:=Me (o:=some (tf (1≤t.next∧t.next≤1000000))) (g:=(decide (t.clock<0)==false)) (fun _=>⟨_,rfl⟩)
 rw [h1]
 simp only [Option.bind_some,Bv]
 by_cases hc:t.clock<0
 ·rw [if_pos (by simp [hc])]
  exact Jr (by simp [Hp]; omega)
 ·have hr:r=tf (1≤t.next∧t.next≤1000000):=by simpa [hc,eq_comm] using h2 (by simp [hc])
  subst hr
  by_cases hn:1≤t.next∧t.next≤1000000
  ·by_cases hl:t.Ae.length≤40
   ·rw [if_neg (by simp [hc,tf_iff,hn]; omega),dH t hn hl]
    by_cases h:∀k x,t.Ae[k]? = some x→Ih t k x
    ·rw [uG h]; exact Jr (by simp [Hp,hn,hl]; exact ⟨by omega,h⟩)
    ·rw [gU h]; exact Jr ⟨(fun hh=>by cases hh),fun hh=>absurd hh.2.2.2 h⟩
   ·rw [if_pos (by simp; right; omega)]
    exact Jr (by simp [Hp,hl])
  ·rw [if_pos (by simp [tf_iff,tf_false,hn])]
   exact Jr (by simp [Hp,hn])
theorem gM (t:Bn) (hl:t.Ae.length≤1048576):IN t=some (t.Ae.map Ah.id):=by
 have h:=Ff (step:=Ry t) (fun k=>((t.Ae.take k).map Ah.id,(k:Int))) t.Ae.length (t.Ae.map Ah.id) (fun k hk=>by
  have hw3:IntKind.i64.wrap ((k:Int)+1)=((k+1:Nat):Int):=wr ⟨by omega,by omega⟩
  simp only [Ry]
  rw [if_pos (decide_eq_true (by omega)),Cc hk]
  simp only [Option.bind_some,hw3]
  rw [if_pos (by simp; omega),List.take_succ_eq_append_getElem hk,List.map_append]
  rfl) (by
  simp only [Ry]
  rw [if_neg (by simp),List.take_length])
 simp only [IN]
 rw [show ([]:List Int)=(t.Ae.take 0).map Ah.id from rfl,show (0:Int)=((0:Nat):Int) from rfl,h]
 rfl
def Gl (l:List Int) (a b:Int):Prop:=∀k x,l[k]? = some x→(a≤x∧x≤b)∧∀y,0<k→l[k-1]? = some y→y<x
theorem Wc (l:List Int) (a b:Int) (hl:l.length≤1048576):FN l a b=some (tf (Gl l a b)):=by
 have h:Cf (Rx l a b) 0=some (if tf (Gl l a b)=true then .inl () else .inr false):=by
  refine La l _ (fun k hk _=>?_) ?_
  ·have hw2:IntKind.i64.wrap ((k:Int)-1)=(k:Int)-1:=wr ⟨by omega,by omega⟩
   have hw3:IntKind.i64.wrap ((k:Int)+1)=((k+1:Nat):Int):=wr ⟨by omega,by omega⟩
   simp only [Rx]
   rw [if_pos (decide_eq_true (by omega)),Cc hk]
   generalize hx:l[k]=x
   simp only [Option.bind_some,Zn,hw2]
   have hm:0<k→Dt l ((k:Int)-1)=l[k-1]? := fun h=>by
    have:((k:Int)-1)=((k-1:Nat):Int):=by omega
    rw [this,Nr]
   obtain ⟨y,h1,h2⟩:=Me (o:=Dt l ((k:Int)-1)) (g:=((!tf (a≤x∧x≤b))==false&&decide ((k:Int)>0)==true)) (fun h=>by
    rw [hm (by simp at h; omega)]
    exact ⟨_,List.getElem?_eq_getElem (by omega)⟩)
   rw [h1]
   simp only [Option.bind_some,Bv,hw3]
   refine ⟨_,?_,rfl⟩
   by_cases hr:a≤x∧x≤b
   ·by_cases hk0:0<k
    ·have hy:l[k-1]? = some y:=by rw [←hm hk0]; exact h2 (by simp [tf_iff,hr]; omega)
     have e3:(∀z,0<k→l[k-1]? = some z→z<x)↔y<x:=by
      rw [hy]; exact ⟨fun h=>h y hk0 rfl,fun h z _ hz=>by cases hz; exact h⟩
     rw [e3]
     simp [hr]; omega
    ·have e3:(∀z,0<k→l[k-1]? = some z→z<x)↔True:=⟨fun _=>trivial,fun _ z h=>absurd h hk0⟩
     rw [e3]
     simp [hr]; omega
   ·have:tf (a≤x∧x≤b)=false:=Bs hr
    rw [this]; simp [hr]
  ·simp only [Rx]
   rw [if_neg (by simp)]
 simp only [FN,h,Option.bind_some]
 split
 ·rename_i e; split at e
  ·rename_i hh; rw [hh]
  ·cases e
 ·rename_i q e; split at e
  ·cases e
  ·rename_i hh; cases e; rw [Bool.not_eq_true] at hh; rw [hh]
theorem sD (l:List Ah) (f:Ah→Option Bool) (p:Ah→Bool) (hf:∀x∈l,f x=some (p x)) (hl:l.length≤1048576):∃n:Int,gI l f=some n∧(0≤n↔∃x∈l,p x=true):=by
 have hh:=Si (step:=Ls l f) (fun k=>(k:Int)) l.length (fun k=>∀h:k<l.length,p l[k]=false) (fun k=>.inr (k:Int)) (.inl ()) (fun k hk _ ho=>by
  simp only [Ls]
  rw [if_pos (decide_eq_true (by omega)),Cc hk]
  simp only [Option.bind_some,hf _ (List.getElem_mem hk),ho hk,wr (n:=(k:Int)+1) ⟨by omega,by omega⟩]
  rfl) (fun k hk _ ho=>by
  have:p l[k]=true:=Classical.byContradiction fun h=>ho fun _=>by simpa using h
  simp only [Ls]
  rw [if_pos (decide_eq_true (by omega)),Cc hk]
  simp only [Option.bind_some,hf _ (List.getElem_mem hk),this]
  rfl) (fun _=>by
  simp only [Ls]
  rw [if_neg (by simp)])
 by_cases h:∀k,k<l.length→∀h:k<l.length,p l[k]=false
 ·refine ⟨-1,?_,by simp; intro x hx; obtain ⟨k,hk,rfl⟩:=List.getElem_of_mem hx; exact h k hk hk⟩
  simp only [gI]
  rw [show (0:Int)=((0:Nat):Int) from rfl,hh.1 h]
  rfl
 ·obtain ⟨k,hk,hj,ho⟩:=Xs h
  refine ⟨k,?_,⟨fun _=>⟨l[k],List.getElem_mem hk,Classical.byContradiction fun h=>ho fun _=>by simpa using h⟩,fun _=>by omega⟩⟩
  simp only [gI]
  rw [show (0:Int)=((0:Nat):Int) from rfl,hh.2 k hk hj ho]
  rfl
theorem gN (l:List Ah) (f:Ah→Option Bool) (p:Ah→Bool) (hf:∀x∈l,f x=some (p x)) (hl:l.length≤1048576):IP l f=some (tf (∀x∈l,p x=true)):=by
 obtain ⟨n,h1,h2⟩:=sD l (fun z=>gH z f) (fun x => !p x) (fun x hx=>by simp [gH,hf x hx]) hl
 simp only [IP,FA,h1,Option.bind_some]
 refine Jr ?_
 have:(0≤n)↔∃x∈l,(!p x)=true:=h2
 simp
 rw [←Int.not_le,this]
 simp
theorem gO (x:Ah) (t:Bn):GU x t=some (tf ((0≤x.Bl∧x.Bl≤x.cap)∧(x.Cs=false→t.clock<x.Bl))):=by
 simp only [GU,Zn,Option.bind_some,Bv]
 exact Jr (by cases x.Cs<;>simp [tf_iff,Qh])
theorem FG (t:Bn) (hl:t.Ae.length≤1048576) (hn:kM t.next):JT t=some (tf (Hp t)):=by
 simp only [JT,FM,gM t hl]
 obtain ⟨r1,h1,k1⟩:=Me (o:=some (tf (1≤t.next∧t.next≤1000000))) (g:=(decide (t.clock≥0)==true)) (fun _=>⟨_,rfl⟩)
 rw [h1]; simp only [Option.bind_some]
 generalize hg:(bif (bif decide (t.clock≥0) then r1 else false) then decide ((t.Ae.length:Int)≤40) else false)=b
 have hb:b=true↔0≤t.clock∧(1≤t.next∧t.next≤1000000)∧t.Ae.length≤40:=by
  rw [←hg]
  by_cases hc:0≤t.clock
  ·have:=k1 (by simp [hc]); simp only [Option.some.injEq] at this; rw [←this]; simp [hc]; omega
  ·simp [hc]
 obtain ⟨r3,h3,k3⟩:=Me (o:=some (t.Ae.map Ah.id)) (g:=b==true) (fun _=>⟨_,rfl⟩)
 rw [h3]; simp only [Option.bind_some]
 obtain ⟨r5,h5,k5⟩:=Me (o:=FN r3 1 (IntKind.i64.wrap (t.next-1))) (g:=b==true) (fun h=>by
  have:=k3 h; simp only [Option.some.injEq] at this; rw [←this]
  exact ⟨_,Wc _ _ _ (by simpa using hl)⟩)
 rw [h5]; simp only [Option.bind_some]
 obtain ⟨r7,h7,k7⟩:=Me (o:=IP t.Ae (fun z=>GU z t)) (g:=(bif b then r5 else false)==true) (fun h=>⟨_,gN _ _ _ (fun x _=>gO x t) hl⟩)
 rw [h7]; simp only [Option.bind_some,Bv]
 refine Jr ?_
 by_cases hbt:b=true
 ·have hbb:=hb.1 hbt
  have hw:IntKind.i64.wrap (t.next-1)=t.next-1:=wr ⟨by omega,by omega⟩
  have e3:=k3 (by simp [hbt]); simp only [Option.some.injEq] at e3
  have e5:=k5 (by simp [hbt]); rw [←e3,Wc _ _ _ (by simpa using hl),hw] at e5; simp only [Option.some.injEq] at e5
  subst hbt
  simp only [cond_true] at k7 ⊢
  by_cases h5t:r5=true
  ·have e7:=k7 (by simp [h5t]); rw [gN _ _ _ (fun x _=>gO x t) hl] at e7; simp only [Option.some.injEq] at e7
   rw [h5t,←e7]
   rw [h5t,tf_iff] at e5
   simp only [cond_true,tf_iff,Hp,hbb,true_and]
   constructor
   ·intro h k x hx
    have h1:=e5 k x.id (by simp [hx])
    have h2:=h x (List.mem_of_getElem? hx)
    exact ⟨h1.1,fun y hk hy=>h1.2 y.id hk (by simp [hy]),h2.1.1,h2.1.2,h2.2⟩
   ·intro h x hx
    obtain ⟨k,hk,rfl⟩:=List.getElem_of_mem hx
    have:=h k _ (List.getElem?_eq_getElem hk)
    exact ⟨⟨this.2.2.1,this.2.2.2.1⟩,this.2.2.2.2⟩
  ·simp only [Bool.not_eq_true] at h5t
   rw [h5t] at e5 ⊢
   rw [tf_false] at e5
   simp only [cond_false,Bool.false_eq_true,false_iff]
   intro h
   refine e5 fun k x hx=>?_
   simp only [List.getElem?_map,Option.map_eq_some_iff] at hx
   obtain ⟨z,hz,rfl⟩:=hx
   have:=h.2.2.2 k z hz
   refine ⟨this.1,fun y hk hy=>?_⟩
   simp only [List.getElem?_map,Option.map_eq_some_iff] at hy
   obtain ⟨u,hu,rfl⟩:=hy
   exact this.2.1 u hk hu
 ·have hbf:b=false:=by simpa using hbt
  subst hbf
  simp only [cond_false,Bool.false_eq_true,false_iff]
  intro h
  exact hbt (hb.2 ⟨h.1,h.2.1,h.2.2.1⟩)
theorem FL (l:List Ah) (hl:l.length≤1048576):KC l=some l:=by
 have h:=Ff (step:=Oz l) (fun k=>(l.take k++List.replicate (l.length-k) (Ah.mk 0 0 0 false),(k:Int))) l.length l (fun k hk=>by
  have hw3:IntKind.i64.wrap ((k:Int)+1)=((k+1:Nat):Int):=wr ⟨by omega,by omega⟩
  have hlen:k<(l.take k++List.replicate (l.length-k) (Ah.mk 0 0 0 false)).length:=by simp; omega
  simp only [Oz]
  rw [if_pos (decide_eq_true (by omega)),Cc hk,Cc hlen]
  simp only [Option.bind_some,EZ,hw3,Int.toNat_natCast]
  rw [List.getElem?_eq_getElem hlen]
  simp only [Option.bind_some]
  congr 3
  rw [List.set_append,if_neg (by simp; omega),List.take_succ_eq_append_getElem hk,List.append_assoc]
  congr 1
  have e:l.length-k=(l.length-(k+1))+1:=by omega
  have e2:k-(l.take k).length=0:=by simp; omega
  rw [e,List.replicate_succ,e2]
  rfl) (by
  simp only [Oz]
  rw [if_neg (by simp)]
  simp)
 simp only [KC]
 rw [if_pos (by omega),if_pos (by omega)]
 simp only [List.take_zero,List.nil_append,Nat.sub_zero] at h
 rw [Int.toNat_natCast]
 have h':Cf (Oz l) (List.replicate l.length (Ah.mk 0 0 0 false),0)=some l:=h
 rw [h']
 rfl
theorem FF (t:Bn) (hl:t.Ae.length≤1048576):JS t=some t:=by
 simp [JS,FL _ hl]
theorem sC (a b:Ah):sB a b=some (tf (a=b)):=by
 unfold sB
 obtain ⟨a1,a2,a3,a4⟩:=a
 obtain ⟨b1,b2,b3,b4⟩:=b
 by_cases h1:a1=b1<;>by_cases h2:a2=b2<;>by_cases h3:a3=b3<;>by_cases h4:a4=b4<;>simp [h1,h2,h3,h4,tf]
theorem FP (a b:List Ah) (hl:a.length≤1048576):IQ a b=some (tf (a=b)):=by
 by_cases hlen:a.length=b.length
 ·have h:Cf (Rz a b) 0=some (if tf (∀(k:Nat) (x:Ah),a[k]? = some x→b[k]? = some x)=true then .inl () else .inr false):=by
   refine La a _ (fun k hk _=>?_) ?_
   ·have hw3:IntKind.i64.wrap ((k:Int)+1)=((k+1:Nat):Int):=wr ⟨by omega,by omega⟩
    simp only [Rz]
    rw [if_pos (decide_eq_true (by omega)),Cc hk,Cc (l:=b) (k:=k) (by omega)]
    simp only [Option.bind_some,sC,hw3]
    refine ⟨_,?_,rfl⟩
    rw [List.getElem?_eq_getElem (by omega)]
    simp only [aA,tf_iff,Option.some.injEq]
    exact not_congr eq_comm
   ·simp only [Rz]
    rw [if_neg (by simp)]
  have e:(∀(k:Nat) (x:Ah),a[k]? = some x→b[k]? = some x)↔a=b:=by
   constructor
   ·intro h
    apply List.ext_getElem hlen
    intro k h1 h2
    have:=h k _ (List.getElem?_eq_getElem h1)
    rw [List.getElem?_eq_getElem h2] at this
    exact (Option.some.inj this).symm
   ·rintro rfl k x hx; exact hx
  rw [Hn e] at h
  simp only [IQ]
  rw [if_neg (by simp [hlen]),h]
  by_cases hab:a=b
  ·rw [Cy hab]; rfl
  ·rw [Bs hab]; rfl
 ·simp only [IQ]
  rw [if_pos (by simp; omega)]
  exact Jr (by simp; rintro rfl; exact hlen rfl)
theorem FH (a b:Bn) (hl:a.Ae.length≤1048576):JU a b=some (tf (a=b)):=by
 simp only [JU,FP _ _ hl]
 obtain ⟨a1,a2,a3⟩:=a
 obtain ⟨b1,b2,b3⟩:=b
 by_cases h1:a1=b1<;>by_cases h2:a2=b2<;>by_cases h3:a3=b3<;>simp [h1,h2,h3,tf]
theorem FJ (l:List Ah) (n:Int) (hn : -1≤n∧n≤1048576) (hl:l.length≤9223372036854775807):∃r,KB l n=some r∧(0≤r→r≤1048576∧r=n-l.length) ∧ -1≤r:=by
 have hw:IntKind.i64.wrap (n-l.length)=n-l.length:=wr ⟨by omega,by omega⟩
 simp only [KB,hw]
 by_cases h:n-l.length<0
 ·exact ⟨-1,by rw [if_pos (by simpa using h)],by omega,by omega⟩
 ·exact ⟨n-l.length,by rw [if_neg (by simpa using h)],by omega,by omega⟩
theorem FD (t:Bn) (n:Int) (hn : -1≤n∧n≤1048576) (hl:t.Ae.length≤9223372036854775807):∃r,JQ t n=some r∧(0≤r→r≤1048576∧r=n-t.Ae.length) ∧ -1≤r:=by
 obtain ⟨r,h1,h2,h3⟩:=FJ t.Ae n hn hl
 simp only [JQ,h1,Option.bind_some]
 by_cases h:r<0
 ·exact ⟨-1,by rw [if_pos (by simpa using h)],by omega,by omega⟩
 ·exact ⟨r,by rw [if_neg (by simpa using h)],h2,h3⟩
end Go.Ev
end
section
namespace Go.Ev
theorem uI {σ ρ:Type} {step:σ→Option (σ⊕ρ)} (I:σ→Prop) (μ:σ→Nat) (R:ρ→Prop) (s0:σ) (h0:I s0)
  (h:∀s,I s→(∃s',step s=some (.inl s')∧I s'∧μ s'<μ s)∨(∃r,step s=some (.inr r)∧R r)):∃r,Cf step s0=some r∧R r:=by
 have key:∀(n:Nat) (s0:σ),μ s0<n→I s0→∃r,Cf step s0=some r∧R r:=by
  intro n
  induction n with
  | zero=>intro s0 hn; omega
  | succ n ih=>
   intro s0 hn hI
   rcases h s0 hI with ⟨s',h1,h2,h3⟩ | ⟨r,h1,h2⟩
   ·obtain ⟨r,h4,h5⟩:=ih s' (by omega) h2
    exact ⟨r,by rw [Ed h1,h4],h5⟩
   ·exact ⟨r,Fu h1,h2⟩
 exact key (μ s0+1) s0 (by omega) h0
theorem w1 {k:Nat} (h:k<4611686018427387904):IntKind.i64.wrap ((k:Int)+1)=((k+1:Nat):Int):=wr ⟨by omega,by omega⟩
def Hv {α:Type} (l:List α) (p:α→Bool):Int:=match l.findIdx? p with
 | some k=>(k:Int)
 | none => -1
theorem Zp {α:Type} (l:List α) (f:α→Option Bool) (p:α→Bool) (hf:∀x∈l,f x=some (p x)) (hl:l.length≤4611686018427387903) {step:Int→Option (Int⊕(Unit⊕Int))}
  (hs:∀s,step s=if decide (s<(l.length:Int))=true then (Dt l s).bind fun y=>(f y).bind fun r=>if r=true then some (.inr (.inr s)) else some (.inl (IntKind.i64.wrap (s+1))) else some (.inr (.inl ()))):
  (Cf step 0).bind (fun r=>match r with | .inl ()=>some (-1) | .inr q=>some q)=some (Hv l p):=by
 have go:∀k (hk:k<l.length),p l[k]=false→step (k:Int)=some (.inl ((k+1:Nat):Int)):=fun k hk hp=>by
  rw [hs,if_pos (decide_eq_true (by omega)),Cc hk]
  simp [hf _ (List.getElem_mem hk),hp,w1 (show k<4611686018427387904 by omega)]
 unfold Hv
 cases hfi:l.findIdx? p with
 | none=>
  have hall:∀x∈l,p x=false:=by simpa using List.findIdx?_eq_none_iff.1 hfi
  have:=Ff (step:=step) (fun k=>(k:Int)) l.length (.inl ()) (fun k hk=>go k hk (hall _ (List.getElem_mem hk))) (by rw [hs,if_neg (by simp)])
  rw [show (0:Int)=((0:Nat):Int) from rfl,this]
  rfl
 | some k=>
  obtain ⟨hk,hp,hj⟩:=List.findIdx?_eq_some_iff_getElem.1 hfi
  have:=Nt (step:=step) (fun k=>(k:Int)) k (fun j hj'=>go j (by omega) (by simpa using hj j hj'))
  rw [show (0:Int)=((0:Nat):Int) from rfl,this,Fu (r:=.inr (k:Int)) (by
   rw [hs,if_pos (decide_eq_true (by omega)),Cc hk]
   simp [hf _ (List.getElem_mem hk),hp])]
  rfl
theorem Zm {α:Type} (l:List α) (p:α→Bool):decide (Hv l p≥0)=l.any p:=by
 unfold Hv
 cases hfi:l.findIdx? p with
 | none=>
  have hall:∀x∈l,p x=false:=by simpa using List.findIdx?_eq_none_iff.1 hfi
  rw [show l.any p=false from List.any_eq_false.2 fun x hx=>by simp [hall x hx]]
  rfl
 | some k=>
  obtain ⟨hk,hp,hj⟩:=List.findIdx?_eq_some_iff_getElem.1 hfi
  rw [show l.any p=true from List.any_eq_true.2 ⟨_,List.getElem_mem hk,hp⟩]
  simp
theorem kV {α:Type} (l:List α) (p:α→Bool):(!l.any fun x => !p x)=l.all p:=by
 induction l with
 | nil=>rfl
 | cons x r ih=>simp only [List.any_cons,List.all_cons,Bool.not_or,Bool.not_not,ih]
theorem bU {α β:Type} (l:List β) (F:β→α) (z:α) {step:List α×Int→Option ((List α×Int)⊕List α)}
  (hs:∀k (hk:k<l.length) (p:List α),p.length=l.length→step (p,(k:Int))=some (.inl (p.set k (F l[k]),((k+1:Nat):Int)))) (he:∀p:List α,p.length=l.length→step (p,(l.length:Int))=some (.inr p)):
  Cf step (List.replicate l.length z,0)=some (l.map F):=by
 have h:=Ff (step:=step) (fun k=>((l.take k).map F++List.replicate (l.length-k) z,(k:Int))) l.length (l.map F) (fun k hk=>by
  rw [hs k hk _ (by simp; omega)]
  congr 3
  rw [List.set_append,if_neg (by simp; omega),List.take_succ_eq_append_getElem hk,List.map_append,List.append_assoc]
  congr 1
  have e:l.length-k=(l.length-(k+1))+1:=by omega
  have e2:k-((l.take k).map F).length=0:=by simp; omega
  rw [e,List.replicate_succ,e2]
  rfl) (by
  rw [he _ (by simp)]
  simp)
 simpa using h
theorem Vm {α:Type} (l:List α) {step:Int→Option (Int⊕(Unit⊕Bool))}
  (hs:∀k,k<l.length→step (k:Int)=some (.inl ((k+1:Nat):Int))) (he:step (l.length:Int)=some (.inr (.inl ()))):Cf step 0=some (.inl ()):=
 Ff (step:=step) (fun k=>(k:Int)) l.length (.inl ()) hs he
def hY {α:Type} (mk:Int→α→α) (w:Nat) (l:List α) (a:Int):List α:=l.mapIdx fun i x=>mk (a+(w:Int)*(i:Int)) x
@[simp] theorem marked_len {α:Type} (mk:Int→α→α) (w:Nat) (l:List α) (a:Int):(hY mk w l a).length=l.length:=by simp [hY]
end Go.Ev
end
section
set_option maxHeartbeats 1000000
namespace Go.Ev
theorem cT (l:List Int) (hl:l.length≤1048576):JV l l=some true:=by
 have h:=Vm l (step:=Rt l l) (fun k hk=>by
  simp only [Rt]
  rw [if_pos (decide_eq_true (by omega)),Cc hk]
  simp only [Option.bind_some]
  rw [if_neg (by simp),w1 (show k<4611686018427387904 by omega)]) (by
  simp only [Rt]
  rw [if_neg (by simp)])
 unfold JV
 rw [if_neg (by simp),h]
 rfl
theorem sT (l:List Int) (hl:l.length≤1048576):JW l=some l:=by
 have h:=bU l (fun x=>x) 0 (step:=Ru l) (fun k hk p hp=>by
  simp only [Ru]
  rw [if_pos (decide_eq_true (by omega)),Cc hk]
  simp only [Option.bind_some]
  rw [Cc (l:=p) (k:=k) (by omega)]
  simp only [Option.bind_some,Int.toNat_natCast,w1 (show k<4611686018427387904 by omega)]
  rw [List.getElem?_eq_getElem (by omega)]
  rfl) (fun p hp=>by
  simp only [Ru]
  rw [if_neg (by simp)])
 simp only [List.map_id'] at h
 unfold JW
 rw [if_pos (by omega),if_pos (by omega),Int.toNat_natCast]
 simp only [h,Option.bind_some]
theorem Gl.lt {l:List Int} {a b:Int} (h:Gl l a b) {i j:Nat} (hj:j<l.length) (hij:i<j):l[i]<l[j]:=by
 induction j with
 | zero=>omega
 | succ j ih=>
  have h1:=(h (j+1) l[j+1] (List.getElem?_eq_getElem hj)).2 l[j] (by omega) (List.getElem?_eq_getElem (by omega))
  by_cases e:i=j
  ·subst e; exact h1
  ·have:=ih (by omega) (by omega); omega
theorem FS (l:List Int) (a:Int) (ha:kM (a-1)) (hl:l.length≤1048576):KE l a=some (tf (Gl l 1 (a-1))):=by
 have h:Cf (Sa l a) 0=some (if tf (Gl l 1 (a-1))=true then .inl () else .inr false):=by
  refine La l _ (fun k hk _=>?_) ?_
  ·have hw2:IntKind.i64.wrap ((k:Int)-1)=(k:Int)-1:=wr ⟨by omega,by omega⟩
   have hw3:IntKind.i64.wrap ((k:Int)+1)=((k+1:Nat):Int):=wr ⟨by omega,by omega⟩
   simp only [Sa]
   rw [if_pos (decide_eq_true (by omega)),Cc hk,wr ha]
   generalize hx:l[k]=x
   simp only [Option.bind_some,Wb,hw2]
   have hm:0<k→Dt l ((k:Int)-1)=l[k-1]? := fun h=>by
    have:((k:Int)-1)=((k-1:Nat):Int):=by omega
    rw [this,Nr]
   obtain ⟨y,h1,h2⟩:=Me (o:=Dt l ((k:Int)-1)) (g:=((!tf (1≤x∧x≤a-1))==false&&decide ((k:Int)>0)==true)) (fun h=>by
    rw [hm (by simp at h; omega)]
    exact ⟨_,List.getElem?_eq_getElem (by omega)⟩)
   have hx':Dt l (k:Int)=some x:=by rw [Cc hk,hx]
   obtain ⟨z,h3,h4⟩:=Me (o:=some x) (g:=((!tf (1≤x∧x≤a-1))==false&&decide ((k:Int)>0)==true)) (fun h=>⟨_,rfl⟩)
   rw [h1]
   simp only [Option.bind_some,hx',h3,Bv,hw3]
   refine ⟨_,?_,rfl⟩
   by_cases hr:1≤x∧x≤a-1
   ·by_cases hk0:0<k
    ·have hg:((!tf (1≤x∧x≤a-1))==false&&decide ((k:Int)>0)==true)=true:=by simp [tf_iff,hr]; omega
     have hy:l[k-1]? = some y:=by rw [←hm hk0]; exact h2 hg
     have hz:x=z:=Option.some.inj (h4 hg)
     subst hz
     have e3:(∀z,0<k→l[k-1]? = some z→z<x)↔y<x:=by
      rw [hy]; exact ⟨fun h=>h y hk0 rfl,fun h z _ hz=>by cases hz; exact h⟩
     rw [e3]
     simp [hr]; omega
    ·have e3:(∀z,0<k→l[k-1]? = some z→z<x)↔True:=⟨fun _=>trivial,fun _ z h=>absurd h hk0⟩
     rw [e3]
     simp [hr]; omega
   ·have:tf (1≤x∧x≤a-1)=false:=Bs hr
    rw [this]; simp [hr]
  ·simp only [Sa]
   rw [if_neg (by simp)]
 simp only [KE,h,Option.bind_some]
 split
 ·rename_i e; split at e
  ·rename_i hh; rw [hh]
  ·cases e
 ·rename_i q e; split at e
  ·cases e
  ·rename_i hh; cases e; simp only [Bool.not_eq_true] at hh; rw [hh]
end Go.Ev
end
section
namespace Go.Ev
theorem sF (a b:Int):sE a b=some (if a<b then -1 else if b<a then 1 else 0):=by
 simp only [sE,sM,Option.bind_some]
 simp
 split
 ·rfl
 ·split<;>rfl
theorem Hp.lt {t:Bn} (h:Hp t) {i j:Nat} (hj:j<t.Ae.length) (hij:i<j):(t.Ae[i]'(by omega)).id<t.Ae[j].id:=by
 induction j with
 | zero=>omega
 | succ j ih=>
  have h1:=(h.2.2.2 (j+1) _ (List.getElem?_eq_getElem hj)).2.1 t.Ae[j] (by omega) (by simp [List.getElem?_eq_getElem (show j<t.Ae.length by omega)])
  by_cases e:i=j
  ·subst e; exact h1
  ·have:=ih (by omega) (by omega); omega
end Go.Ev
end
section
namespace Go.Ev
theorem gX {σ ρ:Type} {step:σ→Option (σ⊕ρ)} (I:σ→Prop) (μ:σ→Nat) (R:ρ→Prop)
  (h:∀s,I s→(∃s',step s=some (.inl s')∧I s'∧μ s'<μ s)∨(∃r,step s=some (.inr r)∧R r)):∀(n:Nat) (s0:σ),μ s0<n→I s0→∃r,Cf step s0=some r∧R r:=by
 intro n
 induction n with
 | zero=>intro s0 hn; omega
 | succ n ih=>
  intro s0 hn hI
  rcases h s0 hI with ⟨s',h1,h2,h3⟩ | ⟨r,h1,h2⟩
  ·obtain ⟨r,h4,h5⟩:=ih s' (by omega) h2
   exact ⟨r,by rw [Ed h1,h4],h5⟩
  ·exact ⟨r,Fu h1,h2⟩
theorem iter_inv' {σ ρ:Type} {step:σ→Option (σ⊕ρ)} (I:σ→Prop) (μ:σ→Nat) (R:ρ→Prop) (s0:σ) (h0:I s0)
  (h:∀s,I s→(∃s',step s=some (.inl s')∧I s'∧μ s'<μ s)∨(∃r,step s=some (.inr r)∧R r)):∃r,Cf step s0=some r∧R r:=
 gX I μ R h (μ s0+1) s0 (by omega) h0
def Qe (l:List Ah) (x n:Int):Prop:=(n = -1∧∀y∈l,y.id≠x)∨∃k,∃h:k<l.length,n=(k:Int)∧l[k].id=x
theorem gP (t:Bn) (x:Int) (hl:t.Ae.length≤1048576):∃n,GW t x=some n∧Qe t.Ae x n:=by
 obtain ⟨r,h1,h2⟩:=iter_inv' (step:=Wd t x) (fun s=>∃k:Nat,s=(k:Int)∧k≤t.Ae.length∧∀j,∀h:j<t.Ae.length,j<k→t.Ae[j].id≠x) (fun s=>(t.Ae.length-s).toNat)
  (fun r=>(r = .inl ()∧∀y∈t.Ae,y.id≠x)∨∃n,r = .inr n∧Qe t.Ae x n) 0 ⟨0,rfl,by omega,by intros; omega⟩ (by
   rintro _ ⟨k,rfl,hk,hj⟩
   simp only [Wd]
   by_cases hlt:k<t.Ae.length
   ·rw [if_pos (decide_eq_true (by omega)),Cc hlt]
    simp only [Option.bind_some,wr (n:=(k:Int)+1) ⟨by omega,by omega⟩]
    by_cases hp:t.Ae[k].id=x
    ·rw [if_pos (by simp [hp])]
     exact .inr ⟨_,rfl,.inr ⟨_,rfl,.inr ⟨k,hlt,rfl,hp⟩⟩⟩
    ·rw [if_neg (by simp [hp])]
     refine .inl ⟨_,rfl,⟨k+1,rfl,by omega,fun j h hj2=>?_⟩,by omega⟩
     by_cases e:j=k
     ·subst e; exact hp
     ·exact hj j h (by omega)
   ·rw [if_neg (by simp; omega)]
    refine .inr ⟨_,rfl,.inl ⟨rfl,fun y hy=>?_⟩⟩
    obtain ⟨j,hj1,rfl⟩:=List.getElem_of_mem hy
    exact hj j hj1 (by omega))
 simp only [GW,h1,Option.bind_some]
 rcases h2 with ⟨rfl,h2⟩ | ⟨n,rfl,h2⟩
 ·exact ⟨-1,rfl,.inl ⟨rfl,h2⟩⟩
 ·exact ⟨n,rfl,h2⟩
theorem MX (a:Nat) (h:a≤4194304):IntKind.i64.wrap (FW .u64 (IntKind.u64.wrap (IntKind.i64.wrap (a:Int))) 1)=((a / 2:Nat):Int):=by
 have h1:IntKind.u64.wrap (a:Int)=a:=by
  have e:IntKind.u64.wrap (a:Int)=(a:Int)%18446744073709551616:=by simp [IntKind.wrap,IntKind.bits,IntKind.signed]
  rw [e]; omega
 have h2:(2:Int)^min (1:Int).toNat 64=2:=by decide
 rw [wr (n:=(a:Int)) ⟨by omega,by omega⟩,h1]
 simp only [FW,h2]
 rw [Int.fdiv_eq_ediv_of_nonneg _ (by omega),wr ⟨by omega,by omega⟩]
 omega
theorem bC (x:Ah) (a:Int):cQ x a=some (if x.id<a then -1 else if a<x.id then 1 else 0):=by simp [cQ,sF]
theorem FR (t:Bn) (h:Hp t) (x n:Int) (hn:Qe t.Ae x n):∃i b,IS t x=some (i,b)∧(b=true→i=n∧0≤n)∧(b=false→n = -1):=by
 have hl:=h.2.2.1
 obtain ⟨r,h1,h2⟩:=iter_inv' (step:=Qn t.Ae x (fun a b=>cQ a b)) (fun s=>∃i j:Nat,s=((i:Int),(j:Int))∧i≤j∧j≤t.Ae.length∧(∀k,∀h:k<t.Ae.length,k<i→t.Ae[k].id<x)∧∀k,∀h:k<t.Ae.length,j≤k→x≤t.Ae[k].id)
  (fun s=>(s.2-s.1).toNat) (fun r=>∃i:Nat,r=i∧i≤t.Ae.length∧(∀k,∀h:k<t.Ae.length,k<i→t.Ae[k].id<x)∧∀k,∀h:k<t.Ae.length,i≤k→x≤t.Ae[k].id) (0,(t.Ae.length:Int))
  ⟨0,t.Ae.length,rfl,by omega,by omega,by intros; omega,by intros; omega⟩ (by
   rintro _ ⟨i,j,rfl,hij,hj,ha,hb⟩
   simp only [Qn]
   by_cases hlt:i<j
   ·have e:(i:Int)+(j:Int)=((i+j:Nat):Int):=by omega
    rw [if_pos (decide_eq_true (by omega)),e,MX _ (by omega)]
    have hm:(i+j) / 2<t.Ae.length:=by omega
    simp only [Bv,Cc hm,Option.bind_some,bC]
    have hw:IntKind.i64.wrap (((i+j) / 2:Nat)+1:Int)=(((i+j) / 2+1:Nat):Int):=wr ⟨by omega,by omega⟩
    rw [hw]
    left
    by_cases hc:t.Ae[(i+j) / 2].id<x
    ·rw [if_pos hc,if_pos (by decide)]
     refine ⟨_,rfl,⟨_,j,rfl,by omega,hj,fun k hk hki=>?_,hb⟩,by simp only; omega⟩
     by_cases e:k=(i+j) / 2
     ·subst e; exact hc
     ·have:=h.lt hm (show k<(i+j) / 2 by omega); omega
    ·have:¬(if t.Ae[(i+j) / 2].id<x then (-1:Int) else if x<t.Ae[(i+j) / 2].id then 1 else 0)<0:=by
      rw [if_neg hc]; split<;>omega
     rw [if_neg (by simpa using this)]
     refine ⟨_,rfl,⟨i,_,rfl,by omega,by omega,ha,fun k hk hki=>?_⟩,by simp only; omega⟩
     by_cases e:k=(i+j) / 2
     ·subst e; omega
     ·have:=h.lt hk (show (i+j) / 2<k by omega); omega
   ·rw [if_neg (by simp; omega)]
    exact .inr ⟨_,rfl,i,rfl,by omega,ha,fun k hk hki=>hb k hk (by omega)⟩)
 obtain ⟨i,rfl,hi,ha,hb⟩:=h2
 simp only [IS,FB,h1,Option.bind_some]
 by_cases hlt:i<t.Ae.length
 ·have hd:(decide ((i:Int)<(t.Ae.length:Int))==true)=true:=by simp; omega
  simp only [hd,if_true,Cc hlt,Option.bind_some,bC]
  refine ⟨_,_,rfl,?_,?_⟩
  ·intro hh
   have hx:t.Ae[i].id=x:=by
    have:=hb i hlt (by omega)
    rw [decide_eq_true (by omega)] at hh
    simp at hh
    split at hh
    ·omega
    ·split at hh<;>omega
   rcases hn with ⟨rfl,hn⟩ | ⟨k,hk,rfl,hkx⟩
   ·exact absurd hx (hn _ (List.getElem_mem _))
   ·by_cases e:k=i
    ·subst e; exact ⟨rfl,by omega⟩
    ·by_cases e2:k<i
     ·have:=ha k hk e2; omega
     ·have:=h.lt hk (show i<k by omega); omega
  ·intro hh
   rcases hn with ⟨rfl,hn⟩ | ⟨k,hk,rfl,hkx⟩
   ·rfl
   ·exfalso
    have hne:t.Ae[i].id≠x:=fun e=>by
     rw [decide_eq_true (by omega),e] at hh
     simp at hh
    have:=hb i hlt (by omega)
    by_cases e:k=i
    ·subst e; exact hne hkx
    ·by_cases e2:k<i
     ·have:=ha k hk e2; omega
     ·have:=h.lt hk (show i<k by omega); omega
 ·have hd:¬(decide ((i:Int)<(t.Ae.length:Int))==true)=true:=by simp; omega
  simp only [hd,if_false,Option.bind_some]
  refine ⟨_,_,rfl,?_,?_⟩
  ·rw [decide_eq_false (by omega)]; intro hh; cases hh
  ·intro _
   rcases hn with ⟨rfl,hn⟩ | ⟨k,hk,rfl,hkx⟩
   ·rfl
   ·have:=ha k hk (by omega); omega
end Go.Ev
end
section
namespace Go.Ev
theorem bD (l:List Int) (f:Int→Option Bool) (p:Int→Bool) (hf:∀x∈l,f x=some (p x)) (hl:l.length≤4611686018427387903):sI l f=some (Hv l p):=Zp l f p hf hl (fun _=>rfl)
theorem sK (l:List Int) (f:Int→Option Bool) (p:Int→Bool) (hf:∀x∈l,f x=some (p x)) (hl:l.length≤4611686018427387903):sJ l f=some (l.any p):=by
 unfold sJ; rw [bD l f p hf hl]; simp only [Option.bind_some,Zm]
theorem FU (l:List Int) (f:Int→Option Bool) (p:Int→Bool) (hf:∀x∈l,f x=some (p x)) (hl:l.length≤4611686018427387903):KI l f=some (l.all p):=by
 unfold KI; rw [sK l _ (fun x => !p x) (fun x hx=>by simp [sL,hf x hx]) hl]; simp only [Option.bind_some,kV]
theorem FT (l:List An) (hl:l.length≤1048576) (hE:∀x∈l,FC x=some x):KG l=some l:=by
 have h:=bU l id default (step:=Pa l) (fun k hk p hp=>by
  simp only [Pa]
  rw [if_pos (decide_eq_true (by omega)),Cc hk]
  simp only [Option.bind_some]
  rw [hE _ (List.getElem_mem hk)]
  simp only [Option.bind_some]
  rw [Cc (l:=p) (k:=k) (by omega)]
  simp only [Option.bind_some,Int.toNat_natCast]
  rw [List.getElem?_eq_getElem (by omega)]
  simp only [Option.bind_some,w1 (show k<4611686018427387904 by omega)]
  rfl) (fun p hp=>by
  simp only [Pa]
  rw [if_neg (by simp)])
 rw [List.map_id] at h
 unfold KG
 rw [if_pos (by omega),if_pos (by omega)]
 simp only [Int.toNat_natCast,Bv]
 first
 | (rw [show (Cf (Pa l) (List.replicate l.length default,0))=_ from h]; rfl)
 | (erw [h]; rfl)
theorem cR (a:An):gK a a=some true:=by simp [gK]
theorem gQ (l:List An) (hl:l.length≤1048576) (hE:∀x∈l,gK x x=some true):KJ l l=some true:=by
 have h:=Vm l (step:=Sc l l) (fun k hk=>by
  simp only [Sc]
  rw [if_pos (decide_eq_true (by omega)),Cc hk]
  simp [w1 (show k<4611686018427387904 by omega),hE _ (List.getElem_mem hk)]) (by
  simp only [Sc]
  rw [if_neg (by simp)])
 unfold KJ
 rw [if_neg (by simp),h]
 rfl
end Go.Ev
end
section
set_option maxHeartbeats 1000000
namespace Go.Ev
abbrev Jt (t:Bn) (x:Int):Prop:=∀y∈t.Ae,y.id≠x
abbrev Xd (l:List An) (x:Int):Prop:=∀y∈l,y.Ap≠x
theorem Ut {l:List Ah} {x n:Int} (h:Qe l x n):n<0↔∀y∈l,y.id≠x:=by
 rcases h with ⟨rfl,h⟩ | ⟨k,hk,rfl,h⟩
 ·exact ⟨fun _=>h,fun _=>by omega⟩
 ·exact ⟨fun hh=>by omega,fun hh=>absurd h (hh _ (List.getElem_mem hk))⟩
theorem Ur (t:Bn) (x:Int) (hl:t.Ae.length≤1048576):∃n,GW t x=some n∧decide (n<0)=tf (Jt t x)∧decide (n≥0) = !tf (Jt t x):=by
 obtain ⟨n,h1,h2⟩:=gP t x hl
 have h3:=Ut h2
 refine ⟨n,h1,?_,?_⟩
 ·rw [Rm]; exact Hn h3
 ·rw [Rm,aA]
  refine Hn ⟨fun h hh=>?_,fun h=>Classical.byContradiction fun hh=>h (h3.1 (by omega))⟩
  have:=h3.2 hh
  omega
theorem cP (t:Bn) (h:Hp t) (x:Int):∃i b,IS t x=some (i,b)∧(!b)=tf (Jt t x):=by
 obtain ⟨n,_,h2⟩:=gP t x (by have:=h.2.2.1; omega)
 obtain ⟨i,b,e1,e2,e3⟩:=FR t h x n h2
 have h3:=Ut h2
 refine ⟨i,b,e1,?_⟩
 cases b with
 | true=>
  have:=(e2 rfl).2
  exact (Bs fun hh=>by have:=h3.2 hh; omega).symm
 | false=>
  have:=e3 rfl
  exact (Cy (h3.1 (by omega))).symm
theorem Pp (v:Aw) (x:Int) (hl:v.Ab.length≤1048576):∃n,sG v x=some n∧decide (n<0)=tf (Xd v.Ab x):=by
 obtain ⟨r,h1,h2⟩:=uI (step:=Qo v x) (fun s=>∃k:Nat,s=(k:Int)∧k≤v.Ab.length∧∀j,∀h:j<v.Ab.length,j<k→v.Ab[j].Ap≠x) (fun s=>(v.Ab.length-s).toNat)
  (fun r=>(r = .inl ()∧Xd v.Ab x)∨∃n:Nat,r = .inr (n:Int)∧¬Xd v.Ab x) 0 ⟨0,rfl,by omega,by intros; omega⟩ (by
   rintro _ ⟨k,rfl,hk,hj⟩
   simp only [Qo]
   by_cases hlt:k<v.Ab.length
   ·rw [if_pos (decide_eq_true (by omega)),Cc hlt]
    simp only [Option.bind_some,w1 (show k<4611686018427387904 by omega)]
    by_cases hp:v.Ab[k].Ap=x
    ·rw [if_pos (by simp [hp])]
     exact .inr ⟨_,rfl,.inr ⟨k,rfl,fun hh=>hh _ (List.getElem_mem hlt) hp⟩⟩
    ·rw [if_neg (by simp [hp])]
     refine .inl ⟨_,rfl,⟨k+1,rfl,by omega,fun j h hj2=>?_⟩,by omega⟩
     by_cases e:j=k
     ·subst e; exact hp
     ·exact hj j h (by omega)
   ·rw [if_neg (by simp; omega)]
    refine .inr ⟨_,rfl,.inl ⟨rfl,fun y hy=>?_⟩⟩
    obtain ⟨j,hj1,rfl⟩:=List.getElem_of_mem hy
    exact hj j hj1 (by omega))
 simp only [sG,h1,Option.bind_some]
 rcases h2 with ⟨rfl,h2⟩ | ⟨n,rfl,h2⟩
 ·exact ⟨-1,rfl,by rw [Cy h2]; decide⟩
 ·exact ⟨n,rfl,by rw [Bs h2]; simp⟩
theorem Uz (l:List An) (hl:l.length≤1048576):GX l=some (l.map An.Ap):=by
 have h:=Ff (step:=Sb l) (fun k=>((l.take k).map An.Ap,(k:Int))) l.length (l.map An.Ap) (fun k hk=>by
  simp only [Sb]
  rw [if_pos (decide_eq_true (by omega)),Cc hk]
  simp only [Option.bind_some,w1 (show k<4611686018427387904 by omega)]
  rw [if_pos (by simp; omega),List.take_succ_eq_append_getElem hk,List.map_append]
  rfl) (by
  simp only [Sb]
  rw [if_neg (by simp),List.take_length])
 simp only [GX]
 rw [show (([]:List Int),(0:Int))=((l.take 0).map An.Ap,((0:Nat):Int)) from rfl,h]
 rfl
theorem Zi (a b:List Int) (ha:a.length≤1048576) (hb:b.length≤1048576):sH [a,b]=some (a++b):=by
 have wa:IntKind.i64.wrap (0+(a.length:Int))=(a.length:Int):=by rw [wr ⟨by omega,by omega⟩]; omega
 have wb:IntKind.i64.wrap ((a.length:Int)+(b.length:Int))=(a.length:Int)+(b.length:Int):=wr ⟨by omega,by omega⟩
 have k1:IntKind.i64.wrap ((0:Int)+1)=1:=by decide
 have k2:IntKind.i64.wrap ((1:Int)+1)=2:=by decide
 have s0:Hw [a,b] (0,0)=some (.inl ((a.length:Int),1)):=by
  simp only [Hw,Qp]
  rw [if_pos (by simp),show Dt [a,b] (0:Int)=some a from rfl]
  simp only [Option.bind_some,wa,k1]
  rw [if_neg (by simp)]
 have s1:Hw [a,b] ((a.length:Int),1)=some (.inl ((a.length:Int)+(b.length:Int),2)):=by
  simp only [Hw,Qp]
  rw [if_pos (by simp),show Dt [a,b] (1:Int)=some b from rfl]
  simp only [Option.bind_some,wb,k2]
  rw [if_neg (by simp; omega)]
 have s2:Hw [a,b] ((a.length:Int)+(b.length:Int),2)=some (.inr ((a.length:Int)+(b.length:Int))):=by
  simp only [Hw]
  rw [if_neg (by simp)]
 have u0:Hx [a,b] ([],0)=some (.inl (a,1)):=by
  simp only [Hx]
  rw [if_pos (by simp),show Dt [a,b] (0:Int)=some a from rfl]
  simp only [Option.bind_some,k1,List.nil_append]
  rw [if_pos (by simp; omega)]
 have u1:Hx [a,b] (a,1)=some (.inl (a++b,2)):=by
  simp only [Hx]
  rw [if_pos (by simp),show Dt [a,b] (1:Int)=some b from rfl]
  simp only [Option.bind_some,k2]
  rw [if_pos (by omega)]
 have u2:Hx [a,b] (a++b,2)=some (.inr (a++b)):=by
  simp only [Hx]
  rw [if_neg (by simp)]
 have hg:sN ([]:List Int) ((a.length:Int)+(b.length:Int))=some []:=by
  unfold sN
  rw [if_pos ⟨by omega,by simp; omega⟩]
 simp only [sH,Ed s0,Ed s1,Fu s2,Option.bind_some,hg,Ed u0,Ed u1,Fu u2]
def Nb:List Int→List (Int×Bool)→List (Int×Bool)
 | [],l=>l
 | x::r,l=>Nb r (Mf l x true)
theorem Uy (x n:Int) (b:Bool):∀l:List (Int×Bool),Im (Mf l n b) x=if n=x then b else Im l x
 | []=>by simp [Mf,Im]
 | (k,c)::r=>by
  simp only [Mf]
  by_cases h:k=n
  ·subst h
   simp only [if_true,Im]
   split<;>rfl
  ·simp only [h,if_false,Im,Uy x n b r]
   by_cases h2:k=x
   ·subst h2
    simp [Ne.symm h]
   ·simp [h2]
theorem Ux (x:Int):∀(r:List Int) (l:List (Int×Bool)),Im (Nb r l) x=(decide (x∈r) || Im l x)
 | [],l=>by simp [Nb]
 | y::r,l=>by
  rw [Nb,Ux x r,Uy]
  by_cases h:y=x
  ·subst h; simp
  ·by_cases h2:x∈r
   ·simp [h2]
   ·simp [h,h2,Ne.symm h]
theorem iW (r:List Int) (hl:r.length≤4194304):∃m,Cf (Pb r) (0,[])=some m∧∀x,Im m x=decide (x∈r):=by
 have h:=Ff (step:=Pb r) (fun k=>((k:Int),Nb (r.take k) [])) r.length (Nb r []) (fun k hk=>by
  simp only [Pb]
  rw [if_pos (decide_eq_true (by omega)),Cc hk]
  simp only [Option.bind_some,Int.toNat_natCast]
  rw [List.getElem?_eq_getElem hk]
  simp only [Option.bind_some,w1 (show k<4611686018427387904 by omega)]
  congr 3
  rw [List.take_succ_eq_append_getElem hk]
  generalize r.take k=q
  generalize ([]:List (Int×Bool))=l
  induction q generalizing l with
  | nil=>rfl
  | cons y q ih=>exact ih _) (by
  simp only [Pb]
  rw [if_neg (by simp),List.take_length])
 refine ⟨Nb r [],h,fun x=>?_⟩
 rw [Ux]
 simp [Im]
def Nf (v:Aw) (x:Int):Prop:=¬Jt v.table x∨¬Xd v.Ab x
theorem Ve (v:Aw) (x:Int):x∈v.table.Ae.map Ah.id++v.Ab.map An.Ap↔Nf v x:=by
 simp [Nf]
theorem Wa {α:Type} (l:List α) (p:α→Bool):(Hv l p = -1∧∀x∈l,p x=false)∨∃k,∃h:k<l.length,Hv l p=(k:Int)∧p l[k]=true:=by
 unfold Hv
 cases hf:l.findIdx? p with
 | none=>exact .inl ⟨rfl,fun x hx=>List.findIdx?_eq_none_iff.1 hf x hx⟩
 | some k=>
  obtain ⟨h,h1,_⟩:=List.findIdx?_eq_some_iff_getElem.1 hf
  exact .inr ⟨k,h,rfl,h1⟩
theorem jL (v:Aw) (h1:v.table.Ae.length≤1048576) (h2:v.Ab.length≤1048576) (h3:v.Ac.length≤1048576):∃q,KH v=some q∧(!q.2)=tf (∀a∈v.Ac,Nf v a):=by
 obtain ⟨m,m1,m2⟩:=iW (v.table.Ae.map Ah.id++v.Ab.map An.Ap) (by simp; omega)
 have hp:∀x∈v.Ac,(fun z=>gJ z m) x=some (!decide (x∈v.table.Ae.map Ah.id++v.Ab.map An.Ap)):=fun x _=>by simp only [gJ,m2]
 have hf:=bD v.Ac _ (fun x => !decide (x∈v.table.Ae.map Ah.id++v.Ab.map An.Ap)) hp (by omega)
 simp only [KH,gM v.table h1,Uz v.Ab h2,Option.bind_some,Zi _ _ (show (v.table.Ae.map Ah.id).length≤1048576 by simpa using h1) (show (v.Ab.map An.Ap).length≤1048576 by simpa using h2),m1,hf]
 rcases Wa v.Ac (fun x => !decide (x∈v.table.Ae.map Ah.id++v.Ab.map An.Ap)) with ⟨e1,e2⟩ | ⟨k,hk,e1,e2⟩
 ·rw [e1,if_pos (by decide)]
  refine ⟨_,rfl,(Cy fun a ha=>?_).symm⟩
  have:=e2 a ha
  simp only [Bool.not_eq_false',decide_eq_true_eq] at this
  exact (Ve v a).1 this
 ·rw [e1,if_neg (by simp),Cc hk]
  refine ⟨_,rfl,(Bs fun hh=>?_).symm⟩
  simp only [Bool.not_eq_true',decide_eq_false_iff_not] at e2
  exact e2 ((Ve v _).2 (hh _ (List.getElem_mem hk)))
theorem sX (v:Aw) (h1:v.table.Ae.length≤1048576) (h2:v.Ab.length≤1048576) (h3:v.Ac.length≤1048576) (hpos:∀a∈v.Ac,1≤a):∃n,KF v=some n∧(n==0)=tf (∀a∈v.Ac,Nf v a):=by
 obtain ⟨r,e1,e2⟩:=uI (step:=We v) (fun s=>∃k:Nat,s=(k:Int)∧k≤v.Ac.length∧∀j,∀h:j<v.Ac.length,j<k→Nf v v.Ac[j]) (fun s=>(v.Ac.length-s).toNat)
  (fun r=>(r = .inl ()∧∀a∈v.Ac,Nf v a)∨∃a,r = .inr a∧a∈v.Ac∧¬Nf v a) 0 ⟨0,rfl,by omega,by intros; omega⟩ (by
   rintro _ ⟨k,rfl,hk,hj⟩
   simp only [We]
   by_cases hlt:k<v.Ac.length
   ·rw [if_pos (decide_eq_true (by omega)),Cc hlt]
    obtain ⟨n,f1,f2,_⟩:=Ur v.table v.Ac[k] h1
    obtain ⟨n2,f3,f4⟩:=Pp v v.Ac[k] h2
    simp only [Option.bind_some,f1,f2,w1 (show k<4611686018427387904 by omega)]
    by_cases hn:Jt v.table v.Ac[k]
    ·simp only [Cy hn,beq_self_eq_true,if_true,Option.bind_some,f3,f4,cond_true]
     by_cases hi:Xd v.Ab v.Ac[k]
     ·rw [if_pos (Cy hi)]
      refine .inr ⟨_,rfl,.inr ⟨_,rfl,List.getElem_mem hlt,?_⟩⟩
      rintro (hh | hh)
      ·exact hh hn
      ·exact hh hi
     ·rw [if_neg (by simp [Bs hi])]
      refine .inl ⟨_,rfl,⟨k+1,rfl,by omega,fun j h hj2=>?_⟩,by omega⟩
      by_cases e:j=k
      ·subst e; exact .inr hi
      ·exact hj j h (by omega)
    ·simp only [Bs hn,show (false==true)=false from rfl,Bool.false_eq_true,if_false,Option.bind_some,cond_false]
     obtain ⟨d,d1,_⟩:=Pp v v.Ac[k] h2
     refine .inl ⟨_,rfl,⟨k+1,rfl,by omega,fun j h hj2=>?_⟩,by omega⟩
     by_cases e:j=k
     ·subst e; exact .inl hn
     ·exact hj j h (by omega)
   ·rw [if_neg (by simp; omega)]
    refine .inr ⟨_,rfl,.inl ⟨rfl,fun y hy=>?_⟩⟩
    obtain ⟨j,hj1,rfl⟩:=List.getElem_of_mem hy
    exact hj j hj1 (by omega))
 simp only [KF,e1,Option.bind_some]
 rcases e2 with ⟨rfl,e2⟩ | ⟨a,rfl,e2,e3⟩
 ·exact ⟨0,rfl,by rw [Cy e2]; rfl⟩
 ·refine ⟨a,rfl,?_⟩
  rw [Bs fun hh=>e3 (hh a e2)]
  have:=hpos a e2
  simp; omega
abbrev Qz (v:Aw) (k:Nat) (x:An):Prop:=(1≤x.Ap∧x.Ap≤v.table.next-1)∧(∀y,0<k→v.Ab[k-1]? = some y→y.Ap<x.Ap)∧Jt v.table x.Ap
theorem Wh (v:Aw) (hn:1≤v.table.next∧v.table.next≤1000000) (h1:v.table.Ae.length≤1048576) (h2:v.Ab.length≤1048576):
  Cf (Rv v) 0=some (if tf (∀k x,v.Ab[k]? = some x→Qz v k x)=true then .inl () else .inr false):=by
 refine La v.Ab _ (fun k hk _=>?_) ?_
 ·have hw2:IntKind.i64.wrap ((k:Int)-1)=(k:Int)-1:=wr ⟨by omega,by omega⟩
  have hw4:IntKind.i64.wrap (v.table.next-1)=v.table.next-1:=wr ⟨by omega,by omega⟩
  simp only [Rv]
  rw [if_pos (decide_eq_true (by omega)),Cc hk]
  generalize hx:v.Ab[k]=x
  obtain ⟨n,f1,f2,f3⟩:=Ur v.table x.Ap h1
  simp only [Option.bind_some,Wb,hw2,hw4,f1,w1 (show k<4611686018427387904 by omega)]
  have hm:0<k→Dt v.Ab ((k:Int)-1)=v.Ab[k-1]? := fun h=>by
   have:((k:Int)-1)=((k-1:Nat):Int):=by omega
   rw [this,Nr]
  obtain ⟨y,q1,q2⟩:=Me (o:=Dt v.Ab ((k:Int)-1)) (g:=((!tf (1≤x.Ap∧x.Ap≤v.table.next-1))==false&&decide ((k:Int)>0)==true)) (fun h=>by
   rw [hm (by simp at h; omega)]
   exact ⟨_,List.getElem?_eq_getElem (by omega)⟩)
  rw [q1]
  simp only [Option.bind_some,Bv]
  by_cases hr:1≤x.Ap∧x.Ap≤v.table.next-1
  ·simp only [Cy hr,Bool.not_true,cond_false]
   by_cases hk0:0<k
   ·have hg:((!tf (1≤x.Ap∧x.Ap≤v.table.next-1))==false&&decide ((k:Int)>0)==true)=true:=by simp [tf_iff,hr]; omega
    have hy:v.Ab[k-1]? = some y:=by rw [←hm hk0]; exact q2 hg
    have e3:(∀z,0<k→v.Ab[k-1]? = some z→z.Ap<x.Ap)↔y.Ap<x.Ap:=by
     rw [hy]; exact ⟨fun h=>h y hk0 rfl,fun h z _ hz=>by cases hz; exact h⟩
    rw [decide_eq_true (show (k:Int)>0 by omega)]
    simp only [cond_true]
    by_cases hyx:y.Ap<x.Ap
    ·rw [decide_eq_false (show ¬y.Ap≥x.Ap by omega)]
     simp only [beq_self_eq_true,if_true,Option.bind_some,cond_false,f3]
     refine ⟨_,?_,rfl⟩
     simp [Qz,hr,e3,hyx]
    ·rw [decide_eq_true (show y.Ap≥x.Ap by omega)]
     simp only [show (true==false)=false from rfl,Bool.false_eq_true,if_false,Option.bind_some,cond_true]
     refine ⟨true,?_,by simp⟩
     simp [Qz,e3,hyx]
   ·have e3:(∀z,0<k→v.Ab[k-1]? = some z→z.Ap<x.Ap)↔True:=⟨fun _=>trivial,fun _ z h=>absurd h hk0⟩
    rw [decide_eq_false (show ¬(k:Int)>0 by omega)]
    simp only [cond_false,beq_self_eq_true,if_true,Option.bind_some,f3]
    refine ⟨_,?_,rfl⟩
    simp [Qz,hr,e3]
  ·simp only [Bs hr,Bool.not_false,cond_true,show (true==false)=false from rfl,Bool.false_eq_true,if_false,Option.bind_some]
   refine ⟨true,?_,by simp⟩
   simp [Qz,hr]
 ·simp only [Rv]
  rw [if_neg (by simp)]
theorem Pq (v:Aw):(∀k x,v.Ab[k]? = some x→Qz v k x)↔Gl (v.Ab.map An.Ap) 1 (v.table.next-1)∧∀x∈v.Ab.map An.Ap,Jt v.table x:=by
 constructor
 ·intro h
  refine ⟨fun k x hx=>?_,fun x hx=>?_⟩
  ·rw [List.getElem?_map,Option.map_eq_some_iff] at hx
   obtain ⟨i,hi,rfl⟩:=hx
   obtain ⟨a1,a2,_⟩:=h k i hi
   refine ⟨a1,fun y hp hy=>?_⟩
   rw [List.getElem?_map,Option.map_eq_some_iff] at hy
   obtain ⟨j,hj,rfl⟩:=hy
   exact a2 j hp hj
  ·obtain ⟨i,hi,rfl⟩:=List.mem_map.1 hx
   obtain ⟨k,hk,rfl⟩:=List.getElem_of_mem hi
   exact (h k _ (List.getElem?_eq_getElem hk)).2.2
 ·rintro ⟨h1,h2⟩ k x hx
  have hl:(v.Ab.map An.Ap)[k]? = some x.Ap:=by rw [List.getElem?_map,hx]; rfl
  obtain ⟨a1,a2⟩:=h1 k _ hl
  refine ⟨a1,fun y hp hy=>a2 _ hp (by rw [List.getElem?_map,hy]; rfl),h2 _ (List.mem_map.2 ⟨x,List.mem_of_getElem? hx,rfl⟩)⟩
def Ml (v:Aw):Prop:=Hp v.table∧v.Ab.length≤40∧v.Ac.length≤80∧Gl v.Ac 1 (v.table.next-1)∧Gl (v.Ab.map An.Ap) 1 (v.table.next-1)∧(∀x∈v.Ab.map An.Ap,Jt v.table x)∧∀a∈v.Ac,Nf v a
theorem Zy (v:Aw) (h1:v.table.Ae.length≤1048576) (h2:v.Ab.length≤1048576) (h3:v.Ac.length≤1048576) (hn:kM v.table.next):JY v=some (tf (Ml v)):=by
 simp only [JY,FE,Option.bind_some]
 by_cases p1:Hp v.table
 ·have hn1:=p1.2.1
  have hw4:IntKind.i64.wrap (v.table.next-1)=v.table.next-1:=wr ⟨by omega,by omega⟩
  simp only [Cy p1,Bool.not_true,cond_false]
  by_cases p2:v.Ab.length≤40
  ·rw [decide_eq_false (show ¬(v.Ab.length:Int)>40 by omega)]
   simp only [cond_false]
   by_cases p3:v.Ac.length≤80
   ·rw [decide_eq_false (show ¬(v.Ac.length:Int)>80 by omega)]
    simp only [beq_self_eq_true,if_true,FS v.Ac v.table.next ⟨by omega,by omega⟩ h3,Option.bind_some,Bv,cond_false]
    by_cases p4:Gl v.Ac 1 (v.table.next-1)
    ·rw [if_neg (by simp [Cy p4]),Wh v hn1 h1 h2]
     by_cases p5:∀k x,v.Ab[k]? = some x→Qz v k x
     ·simp only [Cy p5,if_true,Option.bind_some]
      obtain ⟨n,e1,e2⟩:=sX v h1 h2 h3 (fun a ha=>(by
       obtain ⟨k,hk,rfl⟩:=List.getElem_of_mem ha
       exact (p4 k _ (List.getElem?_eq_getElem hk)).1.1))
      simp only [e1,Option.bind_some,e2]
      refine congrArg some (Hn ⟨fun h=>?_,fun h=>h.2.2.2.2.2.2⟩)
      obtain ⟨q1,q2⟩:=(Pq v).1 p5
      exact ⟨p1,p2,p3,p4,q1,q2,h⟩
     ·simp only [Bs p5,Bool.false_eq_true,if_false,Option.bind_some]
      refine congrArg some (Bs fun h=>p5 ((Pq v).2 ⟨h.2.2.2.2.1,h.2.2.2.2.2.1⟩)).symm
    ·rw [if_pos (by simp [Bs p4])]
     exact congrArg some (Bs fun h=>p4 h.2.2.2.1).symm
   ·rw [decide_eq_true (show (v.Ac.length:Int)>80 by omega)]
    simp only [show (true==false)=false from rfl,Bool.false_eq_true,if_false,Option.bind_some,Bv,cond_true,if_true]
    exact congrArg some (Bs fun h=>p3 h.2.2.1).symm
  ·rw [decide_eq_true (show (v.Ab.length:Int)>40 by omega)]
   simp only [cond_true,show (true==false)=false from rfl,Bool.false_eq_true,if_false,Option.bind_some,Bv,if_true]
   exact congrArg some (Bs fun h=>p2 h.2.1).symm
 ·simp only [Bs p1,Bool.not_false,cond_true,show (true==false)=false from rfl,Bool.false_eq_true,if_false,Option.bind_some,Bv,if_true]
  exact congrArg some (Bs fun h=>p1 h.1).symm
theorem Zo (v:Aw) (h1:v.table.Ae.length≤1048576) (h2:v.Ab.length≤1048576) (h3:v.Ac.length≤1048576) (hn:kM v.table.next):JZ v=some (tf (Ml v)):=by
 simp only [JZ,FG v.table h1 hn,Option.bind_some]
 by_cases p1:Hp v.table
 ·have hn1:=p1.2.1
  have hw4:IntKind.i64.wrap (v.table.next-1)=v.table.next-1:=wr ⟨by omega,by omega⟩
  simp only [Cy p1,Bool.not_true,cond_false,hw4]
  by_cases p2:v.Ab.length≤40
  ·rw [decide_eq_false (show ¬(v.Ab.length:Int)>40 by omega)]
   simp only [cond_false,beq_self_eq_true,if_true,Uz v.Ab h2,Option.bind_some,Wc _ 1 (v.table.next-1) (show (v.Ab.map An.Ap).length≤1048576 by simpa using h2)]
   by_cases p5:Gl (v.Ab.map An.Ap) 1 (v.table.next-1)
   ·simp only [Cy p5,Bool.not_true,cond_false]
    by_cases p3:v.Ac.length≤80
    ·rw [decide_eq_false (show ¬(v.Ac.length:Int)>80 by omega)]
     simp only [beq_self_eq_true,if_true,Wc v.Ac 1 (v.table.next-1) h3,Option.bind_some,Bv,cond_false]
     by_cases p4:Gl v.Ac 1 (v.table.next-1)
     ·rw [if_neg (by simp [Cy p4])]
      obtain ⟨q,e1,e2⟩:=jL v h1 h2 h3
      simp only [e1,Option.bind_some,e2]
      have hp:∀x∈v.Ab.map An.Ap,(fun z=>IT z v) x=some (tf (Jt v.table x)):=fun x _=>by
       obtain ⟨i,b,f1,f2⟩:=cP v.table p1 x
       simp only [IT,f1,Option.bind_some,f2]
      have hall:=FU (v.Ab.map An.Ap) _ (fun x=>tf (Jt v.table x)) hp (by simp; omega)
      have e4:(v.Ab.map An.Ap).all (fun x=>tf (Jt v.table x))=tf (∀x∈v.Ab.map An.Ap,Jt v.table x):=by
       rw [Bool.eq_iff_iff,tf_iff,List.all_eq_true]
       exact ⟨fun h x hx=>tf_iff.1 (h x hx),fun h x hx=>tf_iff.2 (h x hx)⟩
      by_cases p7:∀a∈v.Ac,Nf v a
      ·simp only [Cy p7,beq_self_eq_true,if_true,Option.bind_some,hall,e4,cond_true]
       exact congrArg some (Hn ⟨fun h=>⟨p1,p2,p3,p4,p5,h,p7⟩,fun h=>h.2.2.2.2.2.1⟩)
      ·simp only [Bs p7,show (false==true)=false from rfl,Bool.false_eq_true,if_false,Option.bind_some,cond_false]
       exact congrArg some (Bs fun h=>p7 h.2.2.2.2.2.2).symm
     ·rw [if_pos (by simp [Bs p4])]
      exact congrArg some (Bs fun h=>p4 h.2.2.2.1).symm
    ·rw [decide_eq_true (show (v.Ac.length:Int)>80 by omega)]
     simp only [show (true==false)=false from rfl,Bool.false_eq_true,if_false,Option.bind_some,Bv,cond_true,if_true]
     exact congrArg some (Bs fun h=>p3 h.2.2.1).symm
   ·simp only [Bs p5,Bool.not_false,cond_true,show (true==false)=false from rfl,Bool.false_eq_true,if_false,Option.bind_some,Bv,if_true]
    exact congrArg some (Bs fun h=>p5 h.2.2.2.2.1).symm
  ·rw [decide_eq_true (show (v.Ab.length:Int)>40 by omega)]
   simp only [cond_true,show (true==false)=false from rfl,Bool.false_eq_true,if_false,Option.bind_some,Bv,if_true]
   exact congrArg some (Bs fun h=>p2 h.2.1).symm
 ·simp only [Bs p1,Bool.not_false,cond_true,show (true==false)=false from rfl,Bool.false_eq_true,if_false,Option.bind_some,Bv,if_true]
  exact congrArg some (Bs fun h=>p1 h.1).symm
theorem jQ (v:Aw) (h1:v.table.Ae.length≤1048576) (h2:v.Ab.length≤1048576) (h3:v.Ac.length≤1048576):GT v=some v:=by
 simp only [GT,FF v.table h1,FT v.Ab h2 (fun _ _=>rfl),sT v.Ac h3,Option.bind_some]
theorem gB (v:Aw) (h1:v.table.Ae.length≤1048576) (h2:v.Ab.length≤1048576) (h3:v.Ac.length≤1048576):KA v v=some true:=by
 simp [KA,FH v.table v.table h1,gQ v.Ab h2 (fun x _=>cR x),cT v.Ac h3]
theorem jN (v:Aw) (o:Hk v):∃r,JX v 1048576=some r∧(0≤r→v.table.Ae.length≤1048576∧v.Ab.length≤1048576∧v.Ac.length≤1048576):=by
 have hl:=o.1.2.2.1
 have hi:=o.2.1.1
 have ha:=o.2.2.1.1
 obtain ⟨r1,e1,e2⟩:=FD v.table 1048576 (by omega) hl
 simp only [JX,e1,Option.bind_some]
 by_cases n1:r1<0
 ·rw [if_pos (decide_eq_true n1)]; exact ⟨_,rfl,fun h=>by omega⟩
 ·rw [if_neg (by simpa using n1)]
  obtain ⟨b1,b2⟩:=e2.1 (by omega)
  have hw:IntKind.i64.wrap (r1-(v.Ab.length:Int))=r1-(v.Ab.length:Int):=wr ⟨by omega,by omega⟩
  simp only [MV,hw]
  by_cases n2:r1-(v.Ab.length:Int)<0
  ·rw [if_pos (decide_eq_true n2)]
   simp only [Option.bind_some]
   rw [if_pos (by decide)]
   exact ⟨_,rfl,fun h=>by omega⟩
  ·rw [if_neg (by simpa using n2)]
   simp only [Option.bind_some]
   rw [if_neg (by simpa using n2)]
   have hw2:IntKind.i64.wrap (r1-(v.Ab.length:Int)-(v.Ac.length:Int))=r1-(v.Ab.length:Int)-(v.Ac.length:Int):=wr ⟨by omega,by omega⟩
   simp only [MW,hw2]
   by_cases n3:r1-(v.Ab.length:Int)-(v.Ac.length:Int)<0
   ·rw [if_pos (decide_eq_true n3)]
    simp only [Option.bind_some]
    rw [if_pos (by decide)]
    exact ⟨_,rfl,fun h=>by omega⟩
   ·rw [if_neg (by simpa using n3)]
    simp only [Option.bind_some]
    rw [if_neg (by simpa using n3)]
    exact ⟨_,rfl,fun _=>⟨by omega,by omega,by omega⟩⟩
end Go.Ev
end
section
set_option maxHeartbeats 1000000
namespace Go.Ev
theorem Qy {σ ρ:Type} {step step':σ→Option (σ⊕ρ)} (I:σ→Prop) (μ:σ→Nat) (R:ρ→Prop)
  (h:∀s,I s→(∃s',step s=some (.inl s')∧step' s=some (.inl s')∧I s'∧μ s'<μ s)∨(∃r,step s=some (.inr r)∧step' s=some (.inr r)∧R r)):
  ∀(n:Nat) (s0:σ),μ s0<n→I s0→∃r,Cf step s0=some r∧Cf step' s0=some r∧R r
 | 0,_,hn,_=>by omega
 | n+1,s0,hn,hI=>by
  rcases h s0 hI with ⟨s',h1,h2,h3,h4⟩ | ⟨r,h1,h2,h3⟩
  ·obtain ⟨r,r1,r2,r3⟩:=Qy I μ R h n s' (by omega) h3
   exact ⟨r,by rw [Ed h1,r1],by rw [Ed h2,r2],r3⟩
  ·exact ⟨r,Fu h1,Fu h2,h3⟩
theorem JJ (n:Nat):(b8 (n:Int)).toNat=n%256:=by
 have:=bV (n:Int)
 unfold b8
 rw [kC] at this
 have e:((u8 (IntKind.u8.wrap (n:Int))).toNat:Int)=(n:Int)%256:=by rw [kC]; exact this
 omega
theorem uB (n:Nat) (h:n≤200):b8 (IntKind.i64.wrap (48+(n:Int)))=UInt8.ofNat (48+n):=by
 have e:IntKind.i64.wrap (48+(n:Int))=((48+n:Nat):Int):=by rw [wr ⟨by omega,by omega⟩]; omega
 rw [e]
 apply UInt8.toNat_inj.1
 rw [JJ]; simp
theorem aX (u:Nat) (h:u<18446744073709551616):(Lib.decDigits u).length≤20:=by rw [Lib.decDigits_length]; exact Lib.nDigits_le20 u h
theorem Rw:∀(k n f:Nat),n<10^(k+1)→n≤9223372036854775807→k≤f→Np (f+1) (n:Int)=some (Lib.decDigits n)
 | k,n,f,h,hn,hf=>by
  show Kw (Np f) (n:Int)=_
  unfold Kw
  have hne:(n:Int) ≠ -9223372036854775808:=by omega
  rw [if_neg (by simpa using hne),if_neg (by simp)]
  by_cases h10:n<10
  ·rw [if_pos (decide_eq_true (by omega)),uB n (by omega),Lib.decDigits_one h10]
  ·rw [if_neg (by simp; omega)]
   have e1:IntKind.i64.wrap ((n:Int).tdiv 10)=((n / 10:Nat):Int):=by
    rw [Int.tdiv_eq_ediv_of_nonneg (by omega),wr ⟨by omega,by omega⟩]; omega
   have e2:(n:Int).tmod 10=((n%10:Nat):Int):=by rw [Int.tmod_eq_emod_of_nonneg (by omega)]; omega
   cases k with
   | zero=>simp at h; omega
   | succ k=>
    cases f with
    | zero=>omega
    | succ f=>
     have hd:n / 10<10^(k+1):=by
      have:10^(k+1+1)=10^(k+1)*10:=Nat.pow_succ ..
      omega
     rw [e1,Rw k (n / 10) f hd (by omega) (by omega),e2,uB _ (by omega)]
     have hl:=aX (n / 10) (by omega)
     simp only [Option.bind_some]
     rw [if_pos (by simp; omega)]
     rw [show Lib.decDigits n=Lib.decDigits (n / 10)++[UInt8.ofNat (48+n%10)] from by rw [Lib.decDigits,dif_neg h10]]
theorem rV:(45:UInt8)::Lib.decDigits 9223372036854775808=[45,57,50,50,51,51,55,50,48,51,54,56,53,52,55,55,53,56,48,56]:=by
 simp [Lib.decDigits]
theorem Lt (x:Int) (h:kM x):Np Fs x=some (Lib.itoa x):=by
 have h1 : -9223372036854775808≤x:=h.1
 have h2:x≤9223372036854775807:=h.2
 unfold Fs
 show Kw (Np 1048575) x=_
 unfold Kw
 by_cases hm:x = -9223372036854775808
 ·subst hm
  rw [if_pos (by decide)]
  simp only [Bv]
  rw [←rV]
  rfl
 ·rw [if_neg (by simpa using hm)]
  by_cases h0:x<0
  ·rw [if_pos (decide_eq_true h0)]
   have e1:IntKind.i64.wrap (0-x)=((x.natAbs:Nat):Int):=by rw [wr ⟨by omega,by omega⟩]; omega
   have hp:x.natAbs<10^(19+1):=by omega
   rw [e1,Rw 19 x.natAbs 1048574 hp (by omega) (by omega)]
   have hl:=aX x.natAbs (by omega)
   simp only [Option.bind_some]
   rw [if_pos (by simp; omega)]
   unfold Lib.itoa
   rw [if_pos h0]
   rfl
  ·have hx:x=((x.toNat:Nat):Int):=by omega
   have hp:x.toNat<10^(19+1):=by omega
   have e:=Rw 19 x.toNat 1048575 hp (by omega) (by omega)
   rw [←hx] at e
   have e':Kw (Np 1048575) x=some (Lib.decDigits x.toNat):=e
   unfold Kw at e'
   rw [if_neg (by simpa using hm),if_neg (by simpa using h0)] at e'
   rw [if_neg (by simpa using h0),e']
   unfold Lib.itoa
   rw [if_neg h0]
theorem Lu (x:Int) (h:kM x):Tp x=some (Lib.itoa x):=by
 simp only [Tp]
 rw [if_pos ⟨h.1,h.2⟩]
theorem Pc (x:Int) (h:kM x):(Lib.itoa x).length≤21:=Lib.itoa_length_le x h.1 h.2
def TI {α:Type} (l:List α) (B:Nat) (s:List UInt8×Int):Prop:=∃k:Nat,s.2=(k:Int)∧k≤l.length∧s.1.length≤B+100*k
theorem sU (v:Aw) (o:Hk v) (h1:v.table.Ae.length≤1048576) (B:Nat) (hB:B≤1000000000) (s:List UInt8×Int) (hs:TI v.table.Ae B s):
  (∃s',Hy v s=some (.inl s')∧Je v s=some (.inl s')∧TI v.table.Ae B s'∧((v.table.Ae.length:Int)-s'.2).toNat<((v.table.Ae.length:Int)-s.2).toNat)∨(∃r,Hy v s=some (.inr r)∧Je v s=some (.inr r)∧r.length≤B+104857600):=by
 obtain ⟨p,_⟩:=s
 obtain ⟨k,rfl,hk,hl⟩:=hs
 simp only at hl
 by_cases h0:k<v.table.Ae.length
 ·have hx:=o.1.2.2.2 _ (List.getElem_mem h0)
  have i1:=Pc _ hx.1
  have i2:=Pc _ hx.2.1
  have i3:=Pc _ hx.2.2.1
  have hg:∀b:Bool,∃w:List UInt8,To b ([113,117,101,117,101,100]:List UInt8) ([108,101,97,115,101]:List UInt8)=some w∧w.length≤6:=fun b=>by
   cases b
   ·exact ⟨_,rfl,by simp⟩
   ·exact ⟨_,rfl,by simp⟩
  have key:∃s',Hy v (p,(k:Int))=some (.inl s')∧Je v (p,(k:Int))=some (.inl s')∧s'.2=((k+1:Nat):Int)∧s'.1.length≤p.length+100:=by
   simp only [Hy,Je,Qq]
   rw [if_pos (decide_eq_true (by omega)),if_pos (decide_eq_true (by omega)),Cc h0]
   simp only [Option.bind_some,Lt _ hx.1,Lt _ hx.2.1,Lt _ hx.2.2.1,Lu _ hx.1,Lu _ hx.2.1,Lu _ hx.2.2.1,w1 (show k<4611686018427387904 by omega)]
   cases hq:v.table.Ae[k].Cs
   ·simp only [To,Bool.false_eq_true,if_false,Option.bind_some,Bv]
    rw [if_pos (by simp),if_pos (by simp; omega),if_pos (by simp; omega),if_pos (by simp; omega),if_pos (by simp; omega),if_pos (by simp; omega),if_pos (by simp; omega),if_pos (by simp; omega),
     if_pos (by simp; omega),if_pos (by simp; omega),if_pos (by simp; omega),if_pos (by simp; omega),if_pos (by simp; omega),if_pos (by simp; omega),if_pos (by simp; omega)]
    exact ⟨_,rfl,rfl,rfl,by simp; omega⟩
   ·simp only [To,if_true,Option.bind_some,Bv]
    rw [if_pos (by simp),if_pos (by simp; omega),if_pos (by simp; omega),if_pos (by simp; omega),if_pos (by simp; omega),if_pos (by simp; omega),if_pos (by simp; omega),if_pos (by simp; omega),
     if_pos (by simp; omega),if_pos (by simp; omega),if_pos (by simp; omega),if_pos (by simp; omega),if_pos (by simp; omega),if_pos (by simp; omega),if_pos (by simp; omega)]
    exact ⟨_,rfl,rfl,rfl,by simp; omega⟩
  obtain ⟨s',k1,k2,k3,k4⟩:=key
  exact .inl ⟨s',k1,k2,⟨k+1,k3,h0,by omega⟩,by rw [k3]; simp only; omega⟩
 ·refine .inr ⟨p,?_,?_,by omega⟩
  ·simp only [Hy]; rw [if_neg (by simp; omega)]
  ·simp only [Je]; rw [if_neg (by simp; omega)]
theorem sV (v:Aw) (o:Hk v) (h1:v.Ab.length≤1048576) (B:Nat) (hB:B≤1000000000) (s:List UInt8×Int) (hs:TI v.Ab B s):
  (∃s',Hz v s=some (.inl s')∧Jf v s=some (.inl s')∧TI v.Ab B s'∧((v.Ab.length:Int)-s'.2).toNat<((v.Ab.length:Int)-s.2).toNat)∨(∃r,Hz v s=some (.inr r)∧Jf v s=some (.inr r)∧r.length≤B+104857600):=by
 obtain ⟨p,_⟩:=s
 obtain ⟨k,rfl,hk,hl⟩:=hs
 simp only at hl
 by_cases h0:k<v.Ab.length
 ·have hx:=o.2.1.2 _ (List.getElem_mem h0)
  have i1:=Pc _ hx.1
  have key:∃s',Hz v (p,(k:Int))=some (.inl s')∧Jf v (p,(k:Int))=some (.inl s')∧s'.2=((k+1:Nat):Int)∧s'.1.length≤p.length+100:=by
   simp only [Hz,Jf,Qr]
   rw [if_pos (decide_eq_true (by omega)),if_pos (decide_eq_true (by omega)),Cc h0]
   simp only [Option.bind_some,Lt _ hx.1,Lu _ hx.1,w1 (show k<4611686018427387904 by omega)]
   cases hq:v.Ab[k].Qd
   ·simp only [To,Bool.false_eq_true,if_false,Option.bind_some,Bv]
    rw [if_pos (by simp),if_pos (by simp; omega),if_pos (by simp; omega),if_pos (by simp; omega),if_pos (by simp; omega),if_pos (by simp; omega),if_pos (by simp; omega)]
    exact ⟨_,rfl,rfl,rfl,by simp; omega⟩
   ·simp only [To,if_true,Option.bind_some,Bv]
    rw [if_pos (by simp),if_pos (by simp; omega),if_pos (by simp; omega),if_pos (by simp; omega),if_pos (by simp; omega),if_pos (by simp; omega),if_pos (by simp; omega)]
    exact ⟨_,rfl,rfl,rfl,by simp; omega⟩
  obtain ⟨s',k1,k2,k3,k4⟩:=key
  exact .inl ⟨s',k1,k2,⟨k+1,k3,h0,by omega⟩,by rw [k3]; simp only; omega⟩
 ·refine .inr ⟨p,?_,?_,by omega⟩
  ·simp only [Hz]; rw [if_neg (by simp; omega)]
  ·simp only [Jf]; rw [if_neg (by simp; omega)]
theorem sW (v:Aw) (o:Hk v) (h1:v.Ac.length≤1048576) (B:Nat) (hB:B≤1000000000) (s:List UInt8×Int) (hs:TI v.Ac B s):
  (∃s',Ia v s=some (.inl s')∧Jg v s=some (.inl s')∧TI v.Ac B s'∧((v.Ac.length:Int)-s'.2).toNat<((v.Ac.length:Int)-s.2).toNat)∨(∃r,Ia v s=some (.inr r)∧Jg v s=some (.inr r)∧r.length≤B+104857600):=by
 obtain ⟨p,_⟩:=s
 obtain ⟨k,rfl,hk,hl⟩:=hs
 simp only at hl
 by_cases h0:k<v.Ac.length
 ·have hx:=o.2.2.1.2 _ (List.getElem_mem h0)
  have i1:=Pc _ hx
  have key:∃s',Ia v (p,(k:Int))=some (.inl s')∧Jg v (p,(k:Int))=some (.inl s')∧s'.2=((k+1:Nat):Int)∧s'.1.length≤p.length+100:=by
   simp only [Ia,Jg]
   rw [if_pos (decide_eq_true (by omega)),if_pos (decide_eq_true (by omega)),Cc h0]
   simp only [Option.bind_some,Lt _ hx,Lu _ hx,w1 (show k<4611686018427387904 by omega)]
   rw [if_pos (by simp; omega),if_pos (by simp; omega)]
   exact ⟨_,rfl,rfl,rfl,by simp; omega⟩
  obtain ⟨s',k1,k2,k3,k4⟩:=key
  exact .inl ⟨s',k1,k2,⟨k+1,k3,h0,by omega⟩,by rw [k3]; simp only; omega⟩
 ·refine .inr ⟨p,?_,?_,by omega⟩
  ·simp only [Ia]; rw [if_neg (by simp; omega)]
  ·simp only [Jg]; rw [if_neg (by simp; omega)]
theorem dJ (v:Aw) (o:Hk v) (h1:v.table.Ae.length≤1048576) (h2:v.Ab.length≤1048576) (h3:v.Ac.length≤1048576):∃t,sO v=some t∧sR v=some t:=by
 have hc:kM v.table.clock:=o.1.1
 have ic:=Pc _ hc
 have rest:∀(w:List UInt8),w.length≤6→∃t,No v w=some t ∧
   (if ([118,97,117,108,116,32]:List UInt8).length+w.length≤9223372036854775807 then
    if (([118,97,117,108,116,32]:List UInt8)++w).length+([32]:List UInt8).length≤9223372036854775807 then
     (Tp v.table.clock).bind fun r5=>
     if ((([118,97,117,108,116,32]:List UInt8)++w)++([32]:List UInt8)).length+r5.length≤9223372036854775807 then
     if (((([118,97,117,108,116,32]:List UInt8)++w)++([32]:List UInt8))++r5).length+([10]:List UInt8).length≤9223372036854775807 then
     Bv ((((([118,97,117,108,116,32]:List UInt8)++w)++([32]:List UInt8))++r5)++([10]:List UInt8)) fun v9=>
     (Cf (Hy v) (v9,0)).bind fun r79=>
     (Cf (Hz v) (r79,0)).bind fun r123=>
     if r123.length+([97,99,99,111,117,110,116,115]:List UInt8).length≤9223372036854775807 then
     (Cf (Ia v) ((r123++([97,99,99,111,117,110,116,115]:List UInt8)),0)).bind fun r154=>
     if r154.length+([10]:List UInt8).length≤9223372036854775807 then some (r154++([10]:List UInt8)) else none
     else none
     else none
     else none
    else none
   else none)=some t:=fun w hw=>by
  obtain ⟨a,a1,a2,a3⟩:=Qy (TI v.table.Ae 100) (fun s=>((v.table.Ae.length:Int)-s.2).toNat) (fun r:List UInt8=>r.length≤100+104857600) (sU v o h1 100 (by omega)) _ ((((([118,97,117,108,116,32]:List UInt8)++w)++([32]:List UInt8))++Lib.itoa v.table.clock)++([10]:List UInt8),0) (Nat.lt_succ_self _) ⟨0,rfl,by omega,by simp; omega⟩
  obtain ⟨b,b1,b2,b3⟩:=Qy (TI v.Ab 104857700) (fun s=>((v.Ab.length:Int)-s.2).toNat) (fun r:List UInt8=>r.length≤104857700+104857600) (sV v o h2 104857700 (by omega)) _ (a,0) (Nat.lt_succ_self _) ⟨0,rfl,by omega,by simp only; omega⟩
  obtain ⟨c,c1,c2,c3⟩:=Qy (TI v.Ac 209715400) (fun s=>((v.Ac.length:Int)-s.2).toNat) (fun r:List UInt8=>r.length≤209715400+104857600) (sW v o h3 209715400 (by omega)) _ (b++([97,99,99,111,117,110,116,115]:List UInt8),0) (Nat.lt_succ_self _) ⟨0,rfl,by omega,by simp; omega⟩
  refine ⟨c++[10],?_,?_⟩
  ·simp only [No,Lt _ hc,Option.bind_some,Bv]
   rw [if_pos (by simp; omega),if_pos (by simp; omega),if_pos (by simp; omega),if_pos (by simp; omega),a2]
   simp only [Option.bind_some,b2]
   rw [if_pos (by simp; omega),c2]
   simp only [Option.bind_some]
   rw [if_pos (by simp; omega)]
  ·simp only [Lu _ hc,Option.bind_some,Bv]
   rw [if_pos (by simp; omega),if_pos (by simp; omega),if_pos (by simp; omega),if_pos (by simp; omega),a1]
   simp only [Option.bind_some,b1]
   rw [if_pos (by simp; omega),c1]
   simp only [Option.bind_some]
   rw [if_pos (by simp; omega)]
 simp only [sO,sR,To]
 cases hs:v.Fa
 ·obtain ⟨t,t1,t2⟩:=rest ([111,112,101,110]:List UInt8) (by simp)
  exact ⟨t,t2,t1⟩
 ·obtain ⟨t,t1,t2⟩:=rest ([115,101,97,108,101,100]:List UInt8) (by simp)
  exact ⟨t,t2,t1⟩
theorem gL (v:Aw) (o:Hk v):FI v=some true:=by
 obtain ⟨r,e1,e2⟩:=jN v o
 unfold FI
 rw [e1,Option.bind_some]
 by_cases hr:r<0
 ·rw [if_pos (decide_eq_true hr)]
 ·rw [if_neg (by simpa using hr)]
  obtain ⟨h1,h2,h3⟩:=e2 (by omega)
  have hn:kM v.table.next:=o.1.2.1
  obtain ⟨t,t1,t2⟩:=dJ v o h1 h2 h3
  have key:∃q,sP v=some q∧sQ v=some q:=by
   simp only [sP,sQ,Zy v h1 h2 h3 hn,Zo v h1 h2 h3 hn,Option.bind_some,t1,t2]
   cases tf (Ml v)
   ·exact ⟨_,rfl,rfl⟩
   ·exact ⟨_,rfl,rfl⟩
  obtain ⟨q,q1,q2⟩:=key
  simp [jQ v h1 h2 h3,q1,q2,gB v h1 h2 h3]
end Go.Ev
end
