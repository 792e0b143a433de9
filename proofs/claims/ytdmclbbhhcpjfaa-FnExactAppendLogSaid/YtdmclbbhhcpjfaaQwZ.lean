/- The plain part of the proof: what the functions compute answers as the law says. -/
import Derived.Test.YtdmclbbhhcpjfaaQvL
import Derived.Test.YtdmclbbhhcpjfaaQvM
import Derived.Test.YtdmclbbhhcpjfaaQgD
set_option linter.all false
section
namespace Go.Ev
noncomputable def tf (P:Prop):Bool:=@decide P (Classical.propDecidable P)
@[simp] theorem tf_iff {P:Prop}:tf P=true↔P:=by unfold tf; exact @decide_eq_true_iff P (Classical.propDecidable P)
@[simp] theorem tf_false {P:Prop}:tf P=false↔¬P:=by rw [←Bool.not_eq_true,tf_iff]
abbrev QJ (n:Int):Prop := -9223372036854775808≤n∧n≤9223372036854775807
theorem wr {n:Int} (h:QJ n):IntKind.i64.wrap n=n:=by
 obtain ⟨h1,h2⟩:=h
 have e:IntKind.i64.wrap n=if n%18446744073709551616≥9223372036854775808 then n%18446744073709551616-18446744073709551616 else n%18446744073709551616:=by
  simp [IntKind.wrap,IntKind.bits,IntKind.signed]
 rw [e]
 split<;>omega
theorem DY {α:Type} {l:List α} {k:Nat}:Gb l (k:Int)=l[k]? := by
 unfold Gb
 rw [if_pos (by omega)]
 simp
theorem Cl {α:Type} {l:List α} {k:Nat} (h:k<l.length):Gb l (k:Int)=some l[k]:=by
 rw [DY,List.getElem?_eq_getElem h]
section
variable {σ ρ:Type} {step:σ→Option (σ⊕ρ)}
theorem Lc (st:Nat→σ):∀n,(∀k,k<n→step (st k)=some (.inl (st (k+1))))→Bn step (st 0)=Bn step (st n)
 | 0,_=>rfl
 | n+1,h=>by
  rw [Lc st n fun k hk=>h k (by omega),Hb (h n (by omega))]
theorem Cc (st:Nat→σ) (n:Nat) (r:ρ) (h:∀k,k<n→step (st k)=some (.inl (st (k+1)))) (he:step (st n)=some (.inr r)):Bn step (st 0)=some r:=by
 rw [Lc st n h,Fk he]
theorem Yt {n:Nat} {ok:Nat→Prop} (h:¬ ∀k,k<n→ok k):∃k,k<n∧(∀j,j<k→ok j)∧¬ok k:=by
 obtain ⟨k,hk⟩:=Classical.not_forall.1 h
 rw [Classical.not_imp] at hk
 obtain ⟨h1,h2⟩:=hk
 induction k using Nat.strongRecOn with
 | _ k ih=>
  by_cases hex:∃j,j<k∧¬ok j
  ·obtain ⟨j,hj,hn⟩:=hex
   exact ih j hj (by omega) hn
  ·exact ⟨k,h1,fun j hj=>Classical.byContradiction fun hn=>hex ⟨j,hj,hn⟩,h2⟩
end
end Go.Ev
end
section
namespace Go.Ev
theorem cM {σ ρ:Type} {step:σ→Option (σ⊕ρ)} (I:σ→Prop) (μ:σ→Nat) (R:ρ→Prop) (s0:σ) (h0:I s0)
  (h:∀s,I s→(∃s',step s=some (.inl s')∧I s'∧μ s'<μ s)∨(∃r,step s=some (.inr r)∧R r)):∃r,Bn step s0=some r∧R r:=by
 have key:∀(n:Nat) (s0:σ),μ s0<n→I s0→∃r,Bn step s0=some r∧R r:=by
  intro n
  induction n with
  | zero=>intro s0 hn; omega
  | succ n ih=>
   intro s0 hn hI
   rcases h s0 hI with ⟨s',h1,h2,h3⟩ | ⟨r,h1,h2⟩
   ·obtain ⟨r,h4,h5⟩:=ih s' (by omega) h2
    exact ⟨r,by rw [Hb h1,h4],h5⟩
   ·exact ⟨r,Fk h1,h2⟩
 exact key (μ s0+1) s0 (by omega) h0
theorem w1 {k:Nat} (h:k<4611686018427387904):IntKind.i64.wrap ((k:Int)+1)=((k+1:Nat):Int):=wr ⟨by omega,by omega⟩
theorem mS {α:Type} (l:List α) (a b:Nat) (h:a≤b) (h2:b≤l.length):Uk l (a:Int) (b:Int)=some ((l.take b).drop a):=by
 unfold Uk
 rw [if_pos ⟨by omega,by omega,by omega⟩]
 simp
def Ol {α:Type} (l:List α) (p:α→Bool):Int:=match l.findIdx? p with
 | some k=>(k:Int)
 | none => -1
theorem aO {α:Type} (l:List α) (f:α→Option Bool) (p:α→Bool) (hf:∀x∈l,f x=some (p x)) (hl:l.length≤4611686018427387903) {step:Int→Option (Int⊕(Unit⊕Int))}
  (hs:∀s,step s=if decide (s<(l.length:Int))=true then (Gb l s).bind fun y=>(f y).bind fun r=>if r=true then some (.inr (.inr s)) else some (.inl (IntKind.i64.wrap (s+1))) else some (.inr (.inl ()))):
  (Bn step 0).bind (fun r=>match r with | .inl ()=>some (-1) | .inr q=>some q)=some (Ol l p):=by
 have go:∀k (hk:k<l.length),p l[k]=false→step (k:Int)=some (.inl ((k+1:Nat):Int)):=fun k hk hp=>by
  rw [hs,if_pos (decide_eq_true (by omega)),Cl hk]
  simp [hf _ (List.getElem_mem hk),hp,w1 (show k<4611686018427387904 by omega)]
 unfold Ol
 cases hfi:l.findIdx? p with
 | none=>
  have hall:∀x∈l,p x=false:=by simpa using List.findIdx?_eq_none_iff.1 hfi
  have:=Cc (step:=step) (fun k=>(k:Int)) l.length (.inl ()) (fun k hk=>go k hk (hall _ (List.getElem_mem hk))) (by rw [hs,if_neg (by simp)])
  rw [show (0:Int)=((0:Nat):Int) from rfl,this]
  rfl
 | some k=>
  obtain ⟨hk,hp,hj⟩:=List.findIdx?_eq_some_iff_getElem.1 hfi
  have:=Lc (step:=step) (fun k=>(k:Int)) k (fun j hj'=>go j (by omega) (by simpa using hj j hj'))
  rw [show (0:Int)=((0:Nat):Int) from rfl,this,Fk (r:=.inr (k:Int)) (by
   rw [hs,if_pos (decide_eq_true (by omega)),Cl hk]
   simp [hf _ (List.getElem_mem hk),hp])]
  rfl
theorem aI {α:Type} (l:List α) (p:α→Bool):decide (Ol l p≥0)=l.any p:=by
 unfold Ol
 cases hfi:l.findIdx? p with
 | none=>
  have hall:∀x∈l,p x=false:=by simpa using List.findIdx?_eq_none_iff.1 hfi
  rw [show l.any p=false from List.any_eq_false.2 fun x hx=>by simp [hall x hx]]
  rfl
 | some k=>
  obtain ⟨hk,hp,hj⟩:=List.findIdx?_eq_some_iff_getElem.1 hfi
  rw [show l.any p=true from List.any_eq_true.2 ⟨_,List.getElem_mem hk,hp⟩]
  simp
theorem oF {α:Type} (l:List α) (p:α→Bool):(!l.any fun x => !p x)=l.all p:=by
 induction l with
 | nil=>rfl
 | cons x r ih=>simp only [List.any_cons,List.all_cons,Bool.not_or,Bool.not_not,ih]
theorem dH {α β:Type} (l:List β) (F:β→α) (z:α) {step:List α×Int→Option ((List α×Int)⊕List α)}
  (hs:∀k (hk:k<l.length) (p:List α),p.length=l.length→step (p,(k:Int))=some (.inl (p.set k (F l[k]),((k+1:Nat):Int)))) (he:∀p:List α,p.length=l.length→step (p,(l.length:Int))=some (.inr p)):
  Bn step (List.replicate l.length z,0)=some (l.map F):=by
 have h:=Cc (step:=step) (fun k=>((l.take k).map F++List.replicate (l.length-k) z,(k:Int))) l.length (l.map F) (fun k hk=>by
  rw [hs k hk _ (by simp; omega)]
  congr 3
  rw [List.set_append,if_neg (by simp; omega),List.take_succ_eq_append_getElem hk,List.map_append,List.append_assoc]
  congr 1
  have e:l.length-k=(l.length-(k+1))+1:=by omega
  have e2:k-((l.take k).map F).length=0:=by simp; omega
  rw [e,List.replicate_succ,e2]
  rfl) (by
  rw [he _ (by simp)]
  simp)
 simpa using h
theorem Wj {α:Type} (l:List α) {step:Int→Option (Int⊕(Unit⊕Bool))}
  (hs:∀k,k<l.length→step (k:Int)=some (.inl ((k+1:Nat):Int))) (he:step (l.length:Int)=some (.inr (.inl ()))):Bn step 0=some (.inl ()):=
 Cc (step:=step) (fun k=>(k:Int)) l.length (.inl ()) hs he
def Eg {α:Type} (mk:Int→α→α) (w:Nat) (l:List α) (a:Int):List α:=l.mapIdx fun i x=>mk (a+(w:Int)*(i:Int)) x
@[simp] theorem marked_len {α:Type} (mk:Int→α→α) (w:Nat) (l:List α) (a:Int):(Eg mk w l a).length=l.length:=by simp [Eg]
theorem aS {α:Type} (mk:Int→α→α) (w:Nat) (l:List α) (a:Int) (k:Nat) (h:k<(Eg mk w l a).length):
  (Eg mk w l a)[k]=mk (a+(w:Int)*(k:Int)) (l[k]'(by simpa using h)):=by simp [Eg]
theorem fB {α:Type} (mk:Int→α→α) (w:Nat) (l:List α) (a:Int) {step:List α×Int×Int→Option ((List α×Int×Int)⊕(List α×Int))}
  (hs:∀k (p:List α) (hp:p.length=l.length) (hk:k<l.length),step (p,a+(w:Int)*(k:Int),(k:Int))=some (.inl (p.set k (mk (a+(w:Int)*(k:Int)) (p[k]'(by omega))),a+(w:Int)*((k+1:Nat):Int),((k+1:Nat):Int))))
  (he:∀(p:List α) c,p.length=l.length→step (p,c,(l.length:Int))=some (.inr (p,c))):
  Bn step (l,a,0)=some (Eg mk w l a,a+(w:Int)*(l.length:Int)):=by
 have h:=Cc (step:=step) (fun k=>(l.mapIdx (fun i x=>if i<k then mk (a+(w:Int)*(i:Int)) x else x),a+(w:Int)*(k:Int),(k:Int))) l.length (Eg mk w l a,a+(w:Int)*(l.length:Int)) (fun k hk=>by
  rw [hs k _ (by simp) hk]
  congr 3
  apply List.ext_getElem
  ·simp
  ·intro j h1 h2
   simp only [List.length_set,List.length_mapIdx] at h1
   simp only [List.getElem_set,List.getElem_mapIdx]
   by_cases e:k=j
   ·subst e; simp
   ·rw [if_neg e]
    by_cases e2:j<k
    ·simp [e2,show j<k+1 by omega]
    ·simp [e2,show ¬j<k+1 by omega]) (by
  rw [he _ _ (by simp)]
  congr 3
  unfold Eg
  apply List.ext_getElem
  ·simp
  ·intro j h1 h2
   simp only [List.length_mapIdx] at h1
   simp [h1])
 simp only [Nat.not_lt_zero,if_false] at h
 have e0:l.mapIdx (fun (_:Nat) (x:α)=>x)=l:=by
  apply List.ext_getElem
  ·simp
  ·intro j h1 h2; simp
 have h':Bn step (l.mapIdx (fun (_:Nat) (x:α)=>x),a+(w:Int)*((0:Nat):Int),((0:Nat):Int))=some (Eg mk w l a,a+(w:Int)*(l.length:Int)):=h
 rw [e0] at h'
 simpa using h'
theorem gJ {n:Nat} (ok:Nat→Bool) {step:Int→Option (Int⊕(Unit⊕Bool))}
  (hs:∀k,k<n→(∀j,j<k→ok j=true)→step (k:Int)=if (!ok k)=true then some (.inr (.inr false)) else some (.inl ((k+1:Nat):Int))) (he:step (n:Int)=some (.inr (.inl ()))):
  (Bn step 0).bind (fun r=>match r with | .inl ()=>some true | .inr q=>some q)=some ((List.range n).all ok):=by
 by_cases h:∀k,k<n→ok k=true
 ·have:=Cc (step:=step) (fun k=>(k:Int)) n (.inl ()) (fun k hk=>by rw [hs k hk (fun j hj=>h j (by omega)),h k hk]; rfl) he
  rw [show (0:Int)=((0:Nat):Int) from rfl,this]
  rw [show (List.range n).all ok=true from List.all_eq_true.2 fun x hx=>h x (List.mem_range.1 hx)]
  rfl
 ·obtain ⟨k,hk,hj,hn⟩:=Yt h
  have hf:ok k=false:=by simpa using hn
  have:=Lc (step:=step) (fun k=>(k:Int)) k (fun j hj'=>by rw [hs j (by omega) (fun i hi=>hj i (by omega)),hj j hj']; rfl)
  rw [show (0:Int)=((0:Nat):Int) from rfl,this,Fk (r:=.inr false) (by rw [hs k hk hj,hf]; rfl)]
  rw [show (List.range n).all ok=false from List.all_eq_false.2 ⟨k,List.mem_range.2 hk,by simp [hf]⟩]
  rfl
theorem fH {α:Type} [Inhabited α] (l:List α) (p:α→Bool):((List.range l.length).all fun k=>p (l[k]?.getD default))=l.all p:=by
 rw [Bool.eq_iff_iff]
 simp only [List.all_eq_true,List.mem_range]
 constructor
 ·intro h x hx
  obtain ⟨k,hk,rfl⟩:=List.getElem_of_mem hx
  have:=h k hk
  rwa [List.getElem?_eq_getElem hk] at this
 ·intro h k hk
  rw [List.getElem?_eq_getElem hk]
  exact h _ (List.getElem_mem hk)
end Go.Ev
end
section
namespace Go.Ev
def Je {α:Type} (wd:α→Nat):List α→Nat
 | []=>0
 | x::r=>wd x+Je wd r
def Gh {α:Type} (mk:Int→α→α) (wd:α→Nat):List α→Int→List α
 | [],_=>[]
 | x::r,a=>mk a x::Gh mk wd r (a+(wd x:Int))
@[simp] theorem markv_len {α:Type} (mk:Int→α→α) (wd:α→Nat):∀(l:List α) (a:Int),(Gh mk wd l a).length=l.length
 | [],_=>rfl
 | x::r,a=>by simp [Gh,markv_len mk wd r]
theorem Xs {α:Type} {wd:α→Nat} {B:Nat}:∀ {l:List α},(∀x∈l,wd x≤B)→Je wd l≤B*l.length
 | [],_=>by simp [Je]
 | x::r,h=>by
  have h1:=h x (by simp)
  have h2:=Xs (l:=r) (fun y hy=>h y (by simp [hy]))
  simp only [Je,List.length_cons,Nat.mul_add,Nat.mul_one]
  omega
theorem Tt {α:Type} (mk:Int→α→α) (wd:α→Nat) (P:α→Prop) (B:Int) {step:List α×Int×Int→Option ((List α×Int×Int)⊕(List α×Int))}
  (hs:∀(k:Nat) (p:List α) (c:Int) (x:α),k<p.length→p.length≤1048576→p[k]? = some x→P x→0≤c→c+(wd x:Int)≤B→step (p,c,(k:Int))=some (.inl (p.set k (mk c x),c+(wd x:Int),((k+1:Nat):Int))))
  (he:∀(p:List α) c,step (p,c,(p.length:Int))=some (.inr (p,c))):
  ∀(rest pre:List α) (c:Int),pre.length+rest.length≤1048576→(∀x∈rest,P x)→0≤c→c+(Je wd rest:Int)≤B →
   Bn step (pre++rest,c,(pre.length:Int))=some (pre++Gh mk wd rest c,c+(Je wd rest:Int))
 | [],pre,c,_,_,_,_=>by
  refine Fk ?_
  have:=he pre c
  simpa [Gh,Je] using this
 | x::r,pre,c,hl,hP,h0,hB=>by
  simp only [Je] at hB ⊢
  have hx:(pre++x::r)[pre.length]? = some x:=by simp
  have h1:=hs pre.length (pre++x::r) c x (by simp) (by simpa using hl) hx (hP x (by simp)) h0 (by omega)
  rw [Hb h1]
  have e:(pre++x::r).set pre.length (mk c x)=(pre++[mk c x])++r:=by
   rw [List.set_append,if_neg (by omega),Nat.sub_self]; simp
  have ih:=Tt mk wd P B hs he r (pre++[mk c x]) (c+(wd x:Int)) (by simp only [List.length_append,List.length_cons,List.length_nil] at hl ⊢; omega) (fun y hy=>hP y (by simp [hy])) (by omega) (by omega)
  rw [e]
  rw [show (pre++[mk c x]).length=pre.length+1 by simp] at ih
  rw [ih]
  simp only [Gh,List.append_assoc,List.singleton_append]
  congr 2
  push_cast; omega
theorem Th {α:Type} (mk:Int→α→α) (wd:α→Nat) (P:α→Prop) (B:Int) (L:List α) (hL:L.length≤1048576) {step:Int×Int→Option ((Int×Int)⊕(Int⊕Int))}
  (hs:∀(k:Nat) (c:Int) (x:α),k<L.length→L[k]? = some (mk c x)→P x→0≤c→c+(wd x:Int)≤B→step (c,(k:Int))=some (.inl (c+(wd x:Int),((k+1:Nat):Int))))
  (he:∀c,step (c,(L.length:Int))=some (.inr (.inl c))):
  ∀(rest pre:List α) (c:Int),L=pre++Gh mk wd rest c→(∀x∈rest,P x)→0≤c→c+(Je wd rest:Int)≤B →
   Bn step (c,(pre.length:Int))=some (.inl (c+(Je wd rest:Int)))
 | [],pre,c,hE,_,_,_=>by
  refine Fk ?_
  have:=he c
  rw [hE] at this
  simpa [Gh,Je] using this
 | x::r,pre,c,hE,hP,h0,hB=>by
  simp only [Je] at hB ⊢
  simp only [Gh] at hE
  have hk:pre.length<L.length:=by rw [hE]; simp
  have hx:L[pre.length]? = some (mk c x):=by rw [hE]; simp
  rw [Hb (hs pre.length c x hk hx (hP x (by simp)) h0 (by omega))]
  have ih:=Th mk wd P B L hL hs he r (pre++[mk c x]) (c+(wd x:Int)) (by rw [hE]; simp) (fun y hy=>hP y (by simp [hy])) (by omega) (by omega)
  rw [show (pre++[mk c x]).length=pre.length+1 by simp] at ih
  rw [ih]
  congr 2
  push_cast; omega
theorem mU {α:Type} (l:List α) (hl:l.length≤4611686018427387903) (Q:α→Prop) (n:Int) (hn:n≤1048576) {step:Int×Int→Option ((Int×Int)⊕(Int⊕Int))}
  (hs:∀(k:Nat) (c:Int) (hk:k<l.length),0≤c→c≤1048576→(step (c,(k:Int))=some (.inr (.inr (-1))))∨∃c',0≤c'∧c'≤c∧Q l[k]∧step (c,(k:Int))=some (.inl (c',((k+1:Nat):Int))))
  (he:∀c,step (c,(l.length:Int))=some (.inr (.inl c))) (h0:0≤n):
  ∃r,Bn step (n,0)=some r∧(r = .inr (-1)∨∃c,r = .inl c∧0≤c∧c≤n∧∀x∈l,Q x):=by
 refine cM (fun s=>∃k:Nat,s.2=(k:Int)∧k≤l.length∧0≤s.1∧s.1≤n∧∀x∈l.take k,Q x) (fun s=>l.length-s.2.toNat) _ (n,0) ⟨0,rfl,Nat.zero_le _,h0,Int.le_refl _,by simp⟩ ?_
 rintro ⟨c,kk⟩ ⟨k,rfl,hk,c0,c1,hq⟩
 dsimp only at c0 c1 ⊢
 by_cases h:k<l.length
 ·rcases hs k c h c0 (by omega) with h1 | ⟨c',d0,d1,d2,h1⟩
  ·exact .inr ⟨_,h1,.inl rfl⟩
  ·refine .inl ⟨_,h1,⟨k+1,rfl,h,d0,by dsimp only; omega,fun x hx=>?_⟩,?_⟩
   ·rw [List.take_succ_eq_append_getElem h] at hx
    rcases List.mem_append.1 hx with hx | hx
    ·exact hq x hx
    ·rw [List.mem_singleton] at hx; rw [hx]; exact d2
   ·simp only [Int.toNat_natCast]; omega
 ·obtain rfl:k=l.length:=by omega
  rw [List.take_length] at hq
  exact .inr ⟨_,he c,.inr ⟨c,rfl,c0,c1,hq⟩⟩
end Go.Ev
end
section
namespace Go.Ev
theorem DX (l:List Aa) (f:Aa→Option Bool) (p:Aa→Bool) (hf:∀x∈l,f x=some (p x)) (hl:l.length≤4611686018427387903):IK l f=some (Ol l p):=aO l f p hf hl (fun _=>rfl)
theorem DO (l:List Aa) (f:Aa→Option Bool) (p:Aa→Bool) (hf:∀x∈l,f x=some (p x)) (hl:l.length≤4611686018427387903):DN l f=some (l.any p):=by
 unfold DN; rw [DX l f p hf hl]; simp only [Option.bind_some,aI]
theorem CW (l:List Aa) (f:Aa→Option Bool) (p:Aa→Bool) (hf:∀x∈l,f x=some (p x)) (hl:l.length≤4611686018427387903):CU l f=some (l.all p):=by
 unfold CU; rw [DO l _ (fun x => !p x) (fun x hx=>by simp [DQ,hf x hx]) hl]; simp only [Option.bind_some,oF]
theorem Me (l:List UInt8) (hl:l.length≤1048576):Yn l=some l:=by
 unfold Yn; rw [if_pos (by simp; omega)]
end Go.Ev
end
section
namespace Go.Ev
def Qy (s:Aa):Prop:=(0≤s.at_∧s.at_≤127)∧s.data.length=32
def Gc (d:Af):Prop:=d.held.length%32=0∧d.held.length≤4096∧d.Ab.length≤4096∧∀s∈d.Ab,Qy s
def En (b:List UInt8) (n:Nat):List UInt8:=b++List.replicate (n-b.length) 0
@[simp] theorem padB_len (b:List UInt8) (n:Nat):(En b n).length=max b.length n:=by simp [En]; omega
def Lm (b:List UInt8) (k:Nat) (d:List UInt8):List UInt8:=(En b (32*(k+1))).take (32*k)++d++(En b (32*(k+1))).drop (32*k+32)
theorem mD (b:List UInt8) (k:Nat) (d:List UInt8) (h:d.length=32):(Lm b k d).length=max b.length (32*(k+1)):=by
 simp [Lm,h]; omega
def Bx (d:Af):List UInt8:=d.Ab.foldl (fun b s=>Lm b s.at_.toNat s.data) d.held
theorem Te (l:List Aa) (b:List UInt8) (hl:∀s∈l,Qy s) (h1:b.length%32=0) (h2:b.length≤4096):
  (l.foldl (fun b s=>Lm b s.at_.toNat s.data) b).length%32=0∧(l.foldl (fun b s=>Lm b s.at_.toNat s.data) b).length≤4096∧b.length≤(l.foldl (fun b s=>Lm b s.at_.toNat s.data) b).length:=by
 induction l generalizing b with
 | nil=>exact ⟨h1,h2,Nat.le_refl _⟩
 | cons s r ih=>
  have hs:=hl s (by simp)
  have hlen:=mD b s.at_.toNat s.data hs.2
  have:=hs.1
  obtain ⟨i1,i2,i3⟩:=ih (Lm b s.at_.toNat s.data) (fun x hx=>hl x (by simp [hx])) (by rw [hlen]; omega) (by rw [hlen]; omega)
  exact ⟨i1,i2,by have:=i3; simp only [List.foldl_cons]; omega⟩
theorem Wg (d:Af) (h:Gc d):(Bx d).length%32=0∧(Bx d).length≤4096∧d.held.length≤(Bx d).length:=Te d.Ab d.held h.2.2.2 h.1 h.2.1
theorem nH {k:Nat} (h:k≤1099511627776):IntKind.i64.wrap (32*(k:Int))=((32*k:Nat):Int):=by rw [wr ⟨by omega,by omega⟩]; omega
theorem wr32' {k:Nat} (h:k≤1099511627776):IntKind.i64.wrap ((k:Int)*32)=((32*k:Nat):Int):=by rw [wr ⟨by omega,by omega⟩]; omega
theorem Ue (b:List UInt8) (k:Nat) (d:List UInt8) (h:d.length=32) (hb:32*(k+1)≤b.length):
  ((Uk b ((32*k:Nat):Int) (b.length:Int)).bind fun s=>Bu (ovl b (((32*k:Nat):Int)).toNat (d.take s.length)) fun v=>some v)=some (Lm b k d):=by
 rw [mS _ _ _ (by omega) (Nat.le_refl _)]
 simp only [Option.bind_some,Bu,Int.toNat_natCast,List.take_length,List.length_drop]
 rw [List.take_of_length_le (by omega)]
 congr 1
 have hp:En b (32*(k+1))=b:=by simp [En,show 32*(k+1)-b.length=0 by omega]
 unfold Lm
 rw [hp]
 apply List.ext_getElem
 ·simp [ovl]; omega
 ·intro i h1 h2
  simp only [ovl,List.length_mapIdx] at h1
  simp only [ovl,List.getElem_mapIdx,List.getElem_append,List.length_take,List.length_append]
  by_cases c1:32*k≤i
  ·rw [if_pos c1]
   by_cases c2:i<32*k+32
   ·rw [dif_pos (by omega),dif_neg (by omega),List.getElem?_eq_getElem (by omega)]
    simp only [Option.getD_some]
    congr 1; omega
   ·rw [dif_neg (by omega),List.getElem?_eq_none (by omega)]
    simp only [Option.getD_none,List.getElem_drop]
    congr 1; omega
  ·rw [if_neg c1,dif_pos (by omega),dif_pos (by omega),List.getElem_take]
theorem cD (b:List UInt8) (s:Aa) (hs:Qy s) (hb:b.length≤1048576):DJ b s=some (Lm b s.at_.toNat s.data):=by
 obtain ⟨k,hk⟩:∃k:Nat,s.at_=k:=⟨s.at_.toNat,by have:=hs.1; omega⟩
 have hk1:k≤127:=by have:=hs.1; omega
 have e1:IntKind.i64.wrap (s.at_+1)=((k+1:Nat):Int):=by rw [hk]; exact w1 (by omega)
 have e2:=nH (show k+1≤1099511627776 by omega)
 have e3:IntKind.i64.wrap (32*s.at_)=((32*k:Nat):Int):=by rw [hk]; exact nH (by omega)
 simp only [DJ,Bu,e1,e2]
 have e4:s.at_.toNat=k:=by omega
 rw [e4]
 by_cases hlt:b.length<32*(k+1)
 ·have e5:IntKind.i64.wrap (((32*(k+1):Nat):Int)-(b.length:Int))=((32*(k+1)-b.length:Nat):Int):=by rw [wr ⟨by omega,by omega⟩]; omega
  rw [if_pos (decide_eq_true (by omega)),e5,if_pos (by omega),if_pos (by omega)]
  simp only [Ox,e3,Int.toNat_natCast]
  have hlen:(b++List.replicate (32*(k+1)-b.length) (0:UInt8)).length=32*(k+1):=by simp; omega
  have:=Ue (b++List.replicate (32*(k+1)-b.length) 0) k s.data hs.2 (by omega)
  simp only [Int.toNat_natCast] at this
  rw [this]
  congr 1
  have hp:En (b++List.replicate (32*(k+1)-b.length) 0) (32*(k+1))=En b (32*(k+1)):=by
   conv=>lhs; unfold En
   rw [hlen]
   simp [En]
  unfold Lm
  rw [hp]
 ·rw [if_neg (by simp; omega)]
  simp only [Ox,e3]
  exact Ue b k s.data hs.2 (by omega)
theorem cH (b:List UInt8) (s:Aa) (hs:Qy s) (hb:b.length≤1048576) (h32:b.length%32=0):DT b s=some (Lm b s.at_.toNat s.data):=by
 obtain ⟨k,hk⟩:∃k:Nat,s.at_=k:=⟨s.at_.toNat,by have:=hs.1; omega⟩
 have hk1:k≤127:=by have:=hs.1; omega
 have e1:IntKind.i64.wrap (s.at_+1)=((k+1:Nat):Int):=by rw [hk]; exact w1 (by omega)
 have e2:=wr32' (show k+1≤1099511627776 by omega)
 have e3:IntKind.i64.wrap (s.at_*32)=((32*k:Nat):Int):=by rw [hk]; exact wr32' (by omega)
 have e4:s.at_.toNat=k:=by omega
 rw [e4]
 obtain ⟨r,h1,h2⟩:=cM (step:=Pa s) (fun t=>(∃n,t=b++List.replicate n 0)∧t.length%32=0∧b.length≤t.length∧t.length≤max b.length (32*(k+1))) (fun t=>1048576+4096-t.length) (fun r=>r=En b (32*(k+1))) b ⟨⟨0,by simp⟩,h32,Nat.le_refl _,by omega⟩ (by
  rintro t ⟨⟨n,hn⟩,t1,t2,t3⟩
  simp only [Pa,Bu,e1,e2]
  by_cases hlt:t.length<32*(k+1)
  ·rw [if_pos (decide_eq_true (by omega)),if_pos (by omega),if_pos (by omega)]
   refine .inl ⟨_,rfl,⟨⟨n+32,?_⟩,by simp; omega,by simp; omega,by simp; omega⟩,by simp; omega⟩
   rw [hn,List.append_assoc,List.replicate_append_replicate]
   rfl
  ·rw [if_neg (by simp; omega)]
   refine .inr ⟨_,rfl,?_⟩
   subst hn
   simp only [List.length_append,List.length_replicate] at t3 hlt
   unfold En
   congr 2
   omega)
 subst h2
 simp only [DT,List.nil_append]
 rw [if_pos (by simp; omega),h1]
 simp only [Option.bind_some,e3]
 have:=Ue (En b (32*(k+1))) k s.data hs.2 (by simp; omega)
 rw [this]
 congr 1
 have hp:En (En b (32*(k+1))) (32*(k+1))=En b (32*(k+1)):=by
  have e0:32*(k+1)-(En b (32*(k+1))).length=0:=by simp; omega
  show En b (32*(k+1))++List.replicate (32*(k+1)-(En b (32*(k+1))).length) 0=_
  rw [e0]
  simp
 unfold Lm
 rw [hp]
theorem Ly (l:List Aa) (b:List UInt8) (hl:∀s∈l,Qy s) (hn:l.length≤1048576) (h1:b.length%32=0) (h2:b.length≤4096) {step:List UInt8×Int→Option ((List UInt8×Int)⊕List UInt8)}
  (hs:∀k (hk:k<l.length) (p:List UInt8),p.length%32=0→p.length≤4096→step (p,(k:Int))=some (.inl (Lm p l[k].at_.toNat l[k].data,((k+1:Nat):Int)))) (he:∀p,step (p,(l.length:Int))=some (.inr p)):
  Bn step (b,0)=some (l.foldl (fun b s=>Lm b s.at_.toNat s.data) b):=by
 have h:=Cc (step:=step) (fun k=>((l.take k).foldl (fun b s=>Lm b s.at_.toNat s.data) b,(k:Int))) l.length (l.foldl (fun b s=>Lm b s.at_.toNat s.data) b) (fun k hk=>by
  have hf:=Te (l.take k) b (fun s hs'=>hl s (List.mem_of_mem_take hs')) h1 h2
  rw [hs k hk _ hf.1 hf.2.1,List.take_succ_eq_append_getElem hk,List.foldl_append]
  rfl) (by
  rw [he,List.take_length])
 exact h
theorem CS (d:Af) (h:Gc d):Ym d=some (Bx d):=by
 have hh:=h.2.1; have hw:=h.2.2.1
 have hl:=Ly d.Ab d.held h.2.2.2 (by omega) h.1 h.2.1 (step:=If d) (fun k hk p p1 p2=>by
  simp only [If]
  rw [if_pos (decide_eq_true (by omega)),Cl hk]
  simp only [Option.bind_some,cD p _ (h.2.2.2 _ (List.getElem_mem hk)) (by omega),w1 (show k<4611686018427387904 by omega)]) (fun p=>by
  simp only [If]
  rw [if_neg (by simp)])
 simp only [Ym,Me d.held (by omega),Option.bind_some,hl]
 rfl
theorem DI (d:Af) (h:Gc d):Uv d=some (Bx d):=by
 have hh:=h.2.1; have hw:=h.2.2.1
 have hl:=Ly d.Ab d.held h.2.2.2 (by omega) h.1 h.2.1 (step:=Ih d) (fun k hk p p1 p2=>by
  simp only [Ih]
  rw [if_pos (decide_eq_true (by omega)),Cl hk]
  simp only [Option.bind_some,cH p _ (h.2.2.2 _ (List.getElem_mem hk)) (by omega) p1,w1 (show k<4611686018427387904 by omega)]) (fun p=>by
  simp only [Ih]
  rw [if_neg (by simp)])
 simp only [Uv,List.nil_append]
 rw [if_pos (by simp; omega),hl]
 rfl
def nI (all:List UInt8) (k:Nat) (data:List UInt8):List UInt8:=ovl (En all (32*((k+data.length-1) / 32+1))) k data
def eF (all:List UInt8) (k:Nat):List UInt8:=(all.drop (32*k)).take 32
def Ng (all:List UInt8) (a n:Nat):List Aa:=(List.range' a n).map fun (k:Nat)=>Aa.mk (k:Int) (eF all k)
def Jz (d:Af) (k:Nat) (data:List UInt8):Af:=
 if data.length=0 then d else Af.mk d.held (d.Ab++Ng (nI (Bx d) k data) (k / 32) ((k+data.length-1) / 32+1-k / 32))
theorem Sw (all:List UInt8) (k:Nat) (h:32*(k+1)≤all.length):(eF all k).length=32:=by simp [eF]; omega
theorem dE (all:List UInt8) (k:Nat) (h:32*(k+1)≤all.length):Uk all ((32*k:Nat):Int) ((32*(k+1):Nat):Int)=some (eF all k):=by
 rw [mS _ _ _ (by omega) h]
 unfold eF
 rw [List.drop_take]
 congr 2
 omega
theorem Xy (all:List UInt8) (k:Nat) (data:List UInt8):(nI all k data).length=max all.length (32*((k+data.length-1) / 32+1)):=by
 unfold nI; rw [EG,padB_len]
theorem lV (d:Af) (h:Gc d):DW d=some d:=by
 have hh:=h.2.1; have hw:=h.2.2.1
 have hl:=Cc (step:=Ml d) (fun k=>((k:Int),d.Ab.take k)) d.Ab.length d.Ab (fun k hk=>by
  have hd:=(h.2.2.2 _ (List.getElem_mem hk)).2
  simp only [Ml]
  rw [if_pos (decide_eq_true (by omega)),Cl hk]
  simp only [Option.bind_some,Me d.Ab[k].data (by omega),w1 (show k<4611686018427387904 by omega)]
  rw [if_pos (by simp; omega),List.take_succ_eq_append_getElem hk]) (by
  simp only [Ml]
  rw [if_neg (by simp),List.take_length])
 have hl':Bn (Ml d) (0,([]:List Aa))=some d.Ab:=hl
 simp only [DW,Me d.held (by omega),Option.bind_some,hl']
theorem Wm (all:List UInt8) (l0:List Aa) (a n:Nat) (hall:32*(a+n)≤all.length) (hn:all.length≤1048576) {step:Int×List Aa→Option ((Int×List Aa)⊕List Aa)}
  (hs:∀k (p:List Aa),a≤k→k<a+n→p.length≤l0.length+n→step ((k:Int),p)=some (.inl (((k+1:Nat):Int),p++[Aa.mk (k:Int) (eF all k)]))) (he:∀p,step (((a+n:Nat):Int),p)=some (.inr p)):
  Bn step ((a:Int),l0)=some (l0++Ng all a n):=by
 have h:=Cc (step:=step) (fun k=>(((a+k:Nat):Int),l0++Ng all a k)) n (l0++Ng all a n) (fun k hk=>by
  rw [hs (a+k) _ (by omega) (by omega) (by simp [Ng]; omega),List.append_assoc]
  congr 4
  unfold Ng
  rw [←List.range'_append_1 (s:=a) (m:=k) (n:=1),List.map_append]
  rfl) (he _)
 simpa [Ng] using h
theorem DM (d:Af) (h:Gc d) (k:Nat) (data:List UInt8) (hk:k+data.length≤4096):DL d (k:Int) data=some (Jz d k data):=by
 simp only [DL,lV d h,Option.bind_some]
 by_cases h0:data.length=0
 ·rw [if_pos (by simp [h0])]
  simp [Jz,h0]
 ·rw [if_neg (by simpa using h0),CS d h]
  obtain ⟨r1,r2,r3⟩:=Wg d h
  have e0:IntKind.i64.wrap ((k:Int)+(data.length:Int))=((k+data.length:Nat):Int):=by rw [wr ⟨by omega,by omega⟩]; omega
  have e1:IntKind.i64.wrap (((k+data.length:Nat):Int)-1)=((k+data.length-1:Nat):Int):=by rw [wr ⟨by omega,by omega⟩]; omega
  have e2:(((k+data.length-1:Nat):Int)).tdiv 32=(((k+data.length-1) / 32:Nat):Int):=by rw [Int.tdiv_eq_ediv_of_nonneg (by omega)]; omega
  generalize hq:(k+data.length-1) / 32=q at e2
  have hq1:q≤128:=by omega
  have e3:IntKind.i64.wrap ((q:Nat):Int)=(q:Int):=wr ⟨by omega,by omega⟩
  have e4:=w1 (show q<4611686018427387904 by omega)
  have e5:=nH (show q+1≤1099511627776 by omega)
  have e6:IntKind.i64.wrap (((k:Int)).tdiv 32)=((k / 32:Nat):Int):=by
   rw [Int.tdiv_eq_ediv_of_nonneg (by omega),wr ⟨by omega,by omega⟩]; omega
  simp only [Option.bind_some,e0,e1,e2,e3,e4,e5,Bu]
  have key:∀p:List UInt8,p=En (Bx d) (32*(q+1))→Oy (k:Int) data d (q:Int) p=some (Jz d k data):=by
   rintro p rfl
   have hpl:(En (Bx d) (32*(q+1))).length=max (Bx d).length (32*(q+1)):=padB_len _ _
   simp only [Oy]
   rw [mS _ _ _ (by omega) (Nat.le_refl _)]
   simp only [Option.bind_some,e6]
   have hd:(data.take ((En (Bx d) (32*(q+1))).take (En (Bx d) (32*(q+1))).length |>.drop k).length)=data:=List.take_of_length_le (by simp; omega)
   have hw0:ovl (En (Bx d) (32*(q+1))) k data=nI (Bx d) k data:=by unfold nI; rw [hq]
   have hwl:(nI (Bx d) k data).length=max (Bx d).length (32*(q+1)):=by rw [Xy,hq]
   have hle:k / 32≤q:=by omega
   have hw:=h.2.2.1
   have hl:=Wm (nI (Bx d) k data) d.Ab (k / 32) (q+1-k / 32) (by omega) (by omega) (step:=Oz (k:Int) data (q:Int) (En (Bx d) (32*(q+1))) ((En (Bx d) (32*(q+1))).take (En (Bx d) (32*(q+1))).length |>.drop k)) (fun j p j1 j2 j3=>by
    simp only [Oz]
    rw [if_pos (decide_eq_true (by omega)),hd,w1 (show j<4611686018427387904 by omega),nH (show j≤1099511627776 by omega),nH (show j+1≤1099511627776 by omega)]
    simp only [Int.toNat_natCast,hw0]
    rw [dE _ _ (by omega)]
    simp only [Option.bind_some]
    rw [Me _ (by rw [Sw _ _ (by omega)]; omega)]
    simp only [Option.bind_some]
    rw [if_pos (by simp; omega)]) (fun p=>by
    simp only [Oz]
    rw [if_neg (by simp; omega)])
   rw [hl]
   simp only [Option.bind_some,Jz]
   rw [if_neg h0,hq]
  by_cases hlt:(Bx d).length<32*(q+1)
  ·have e7:IntKind.i64.wrap (((32*(q+1):Nat):Int)-((Bx d).length:Int))=((32*(q+1)-(Bx d).length:Nat):Int):=by rw [wr ⟨by omega,by omega⟩]; omega
   rw [if_pos (decide_eq_true (by omega)),e7,if_pos (by omega),if_pos (by omega)]
   refine key _ ?_
   unfold En
   rw [Int.toNat_natCast]
  ·rw [if_neg (by simp; omega)]
   refine key _ ?_
   unfold En
   rw [show 32*(q+1)-(Bx d).length=0 by omega]
   simp
end Go.Ev
end
section
namespace Go.Ev
end Go.Ev
end
section
namespace Go.Ev
end Go.Ev
end
section
namespace Go.Ev
theorem MG (a b c:Int) (h:b≤a∧a≤c):nX a b c=some true:=by simp [nX,h.1,h.2]
theorem fM (all:List UInt8) (a n:Nat):(Ng all a n).length=n:=by simp [Ng]
theorem kC:Gc (Af.mk [] []):=⟨by simp,by simp,by simp,by simp⟩
end Go.Ev
end
section
namespace Go.Ev
theorem kY (k:IntKind) (a b:Nat) (ha:a<2^k.bits) (hb:b<2^k.bits):eV k (a:Int) (b:Int)=k.wrap ((a &&& b:Nat):Int):=by
 unfold eV
 rw [BitVec.ofInt_natCast,BitVec.ofInt_natCast,BitVec.toNat_and,BitVec.toNat_ofNat,BitVec.toNat_ofNat,Nat.mod_eq_of_lt ha,Nat.mod_eq_of_lt hb]
theorem EA (k:IntKind) (a b:Nat) (ha:a<2^k.bits) (hb:b<2^k.bits):MY k (a:Int) (b:Int)=k.wrap ((a ||| b:Nat):Int):=by
 unfold MY
 rw [BitVec.ofInt_natCast,BitVec.ofInt_natCast,BitVec.toNat_or,BitVec.toNat_ofNat,BitVec.toNat_ofNat,Nat.mod_eq_of_lt ha,Nat.mod_eq_of_lt hb]
theorem Iv (k:IntKind) (a b:Nat) (ha:a<2^k.bits) (hb:b<2^k.bits):Rt k (a:Int) (b:Int)=k.wrap ((a ^^^ b:Nat):Int):=by
 unfold Rt
 rw [BitVec.ofInt_natCast,BitVec.ofInt_natCast,BitVec.toNat_xor,BitVec.toNat_ofNat,BitVec.toNat_ofNat,Nat.mod_eq_of_lt ha,Nat.mod_eq_of_lt hb]
theorem nL {n:Nat} (h:n<4294967296):IntKind.u32.wrap (n:Int)=(n:Int):=by
 have e:IntKind.u32.wrap (n:Int)=(n:Int)%4294967296:=by simp [IntKind.wrap,IntKind.bits,IntKind.signed]
 rw [e]; omega
theorem Pt {n:Nat} (h:n<9223372036854775808):IntKind.i64.wrap (n:Int)=(n:Int):=wr ⟨by omega,by omega⟩
theorem Ww (n:Nat):(b8 (n:Int)).toNat=n%256:=by
 have:=dJ (n:Int)
 unfold b8
 rw [nJ] at this
 have e:((u8 (IntKind.u8.wrap (n:Int))).toNat:Int)=(n:Int)%256:=by rw [nJ]; exact this
 omega
def Jk (c:Nat):Nat:=if c%2=1 then (c / 2) ^^^ 3988292384 else c / 2
def Ax:Nat→Nat→Nat
 | 0,c=>c
 | n+1,c=>Jk (Ax n c)
def Dy (c:Nat) (y:UInt8):Nat:=Ax 8 (c ^^^ y.toNat)
def Kf (b:List UInt8):Nat:=(b.foldl Dy 4294967295) ^^^ 4294967295
theorem Nh {a b:Nat} (ha:a<4294967296) (hb:b<4294967296):a ^^^ b<4294967296:=Nat.xor_lt_two_pow (n:=32) ha hb
theorem aF {c:Nat} (h:c<4294967296):Jk c<4294967296:=by
 unfold Jk
 split
 ·exact Nh (by omega) (by omega)
 ·omega
theorem Ic {c:Nat} (h:c<4294967296):∀n,Ax n c<4294967296
 | 0=>h
 | n+1=>aF (Ic h n)
theorem aE {c:Nat} (y:UInt8) (h:c<4294967296):Dy c y<4294967296:=Ic (Nh h (by have:=y.toNat_lt; omega)) 8
theorem Hm (b:List UInt8):∀ {c:Nat},c<4294967296→b.foldl Dy c<4294967296:=by
 induction b with
 | nil=>exact fun h=>h
 | cons y r ih=>exact fun h=>ih (aE y h)
theorem Xa (b:List UInt8):Kf b<4294967296:=Nh (Hm b (by omega)) (by omega)
theorem PZ:(2:Int)^min (1:Int).toNat 64=2:=by decide
theorem PT {c:Nat}:Ux .u32 (c:Int) 1=((c / 2:Nat):Int):=by
 unfold Ux
 rw [PZ,Int.fdiv_eq_ediv_of_nonneg _ (by omega)]
 omega
theorem aM {c:Nat} (h:c<4294967296):Bn Mh ((c:Int),0)=some ((Ax 8 c:Nat):Int):=by
 refine Cc (step:=Mh) (fun k=>((Ax k c:Nat),(k:Int))) 8 _ (fun k hk=>?_) ?_
 ·have hc:=Ic h k
  have e1:eV .u32 ((Ax k c:Nat):Int) 1=((Ax k c%2:Nat):Int):=by
   have:=kY .u32 (Ax k c) 1 (by simpa [IntKind.bits] using hc) (by decide)
   rw [Nat.and_one_is_mod,nL (by omega)] at this
   exact this
  simp only [Mh,Sd]
  rw [if_pos (decide_eq_true (by omega)),e1,w1 (by omega),PT]
  have es:Ax (k+1) c=Jk (Ax k c):=rfl
  rw [es]
  unfold Jk
  by_cases h2:Ax k c%2=1
  ·rw [if_pos (by simp [h2]),if_pos h2]
   have:=Iv .u32 (Ax k c / 2) 3988292384 (by simp [IntKind.bits]; omega) (by decide)
   rw [nL (Nh (by omega) (by omega))] at this
   rw [show Rt .u32 ((Ax k c / 2:Nat):Int) 3988292384=_ from this]
  ·rw [if_neg (by simp; omega),if_neg h2]
 ·simp only [Mh]
  rw [if_neg (by decide)]
theorem cF (b:List UInt8) (hb:b.length≤1048576):kU b=some ((Kf b:Nat):Int):=by
 have h:=Cc (step:=Mg b) (fun k=>((((b.take k).foldl Dy 4294967295:Nat):Int),(k:Int))) b.length ((b.foldl Dy 4294967295:Nat):Int) (fun k hk=>by
  have hc:=Hm (b.take k) (c:=4294967295) (by omega)
  have hy:(b[k].toNat)<256:=b[k].toNat_lt
  simp only [Mg]
  rw [if_pos (decide_eq_true (by omega)),Cl hk]
  simp only [Option.bind_some]
  rw [nL (show b[k].toNat<4294967296 by omega),Iv .u32 _ _ (by simpa [IntKind.bits] using hc) (by simp [IntKind.bits]; omega),nL (Nh hc (by omega)),aM (Nh hc (by omega))]
  simp only [Option.bind_some,w1 (show k<4611686018427387904 by omega)]
  rw [List.take_succ_eq_append_getElem hk,List.foldl_append]
  rfl) (by
  simp only [Mg]
  rw [if_neg (by simp),List.take_length])
 have hc:=Hm b (c:=4294967295) (by omega)
 have h':Bn (Mg b) (4294967295,0)=some ((b.foldl Dy 4294967295:Nat):Int):=h
 simp only [kU,h',Option.bind_some]
 have e:MJ .u32 ((b.foldl Dy 4294967295:Nat):Int)=((Kf b:Nat):Int):=by
  have:=Iv .u32 4294967295 (b.foldl Dy 4294967295) (by decide) (by simpa [IntKind.bits] using hc)
  rw [nL (Nh (by omega) hc),Nat.xor_comm] at this
  exact this
 rw [e,Pt (by have:=Xa b; omega)]
def Ck (n i:Nat):UInt8:=b8 ((n / 2^(8*i):Nat):Int)
def Hk (n m:Nat):List UInt8:=(List.range m).map fun j=>Ck n (m-1-j)
@[simp] theorem bigB_len (n m:Nat):(Hk n m).length=m:=by simp [Hk]
theorem PV {n i:Nat} (hi:i≤7):Ux .i64 (n:Int) ((8*i:Nat):Int)=((n / 2^(8*i):Nat):Int):=by
 unfold Ux
 have e:min (((8*i:Nat):Int)).toNat 64=8*i:=by omega
 rw [e,Int.fdiv_eq_ediv_of_nonneg _ (by exact Int.pow_nonneg (by omega))]
 simp
theorem cE (n m:Nat) (hm:m≤8):aL (n:Int) (m:Int)=some (Hk n m):=by
 have h:=Cc (step:=Mf (n:Int) (m:Int)) (fun k=>((List.range m).map (fun j=>if m-k≤j then Ck n (m-1-j) else 0),(k:Int))) m (Hk n m) (fun k hk=>by
  have e1:IntKind.i64.wrap (8*(k:Int))=((8*k:Nat):Int):=by rw [wr ⟨by omega,by omega⟩]; omega
  have e2:IntKind.i64.wrap ((m:Int)-1)=((m-1:Nat):Int):=by rw [wr ⟨by omega,by omega⟩]; omega
  have e3:IntKind.i64.wrap (((m-1:Nat):Int)-(k:Int))=((m-1-k:Nat):Int):=by rw [wr ⟨by omega,by omega⟩]; omega
  simp only [Mf,e1,e2,e3,Int.toNat_natCast,List.length_replicate]
  rw [if_pos (decide_eq_true (by omega)),if_pos (by omega),Cl (by simp; omega)]
  simp only [Option.bind_some]
  rw [List.getElem?_eq_getElem (by simp; omega)]
  simp only [Option.bind_some,PV (show k≤7 by omega),w1 (show k<4611686018427387904 by omega)]
  congr 3
  apply List.ext_getElem
  ·simp
  ·intro j j1 j2
   simp only [List.length_set,List.length_map,List.length_range] at j1
   simp only [List.getElem_set,List.getElem_map,List.getElem_range]
   by_cases c:m-1-k=j
   ·rw [if_pos c,if_pos (by omega)]
    unfold Ck
    congr 4; omega
   ·rw [if_neg c]
    by_cases c2:m-k≤j
    ·rw [if_pos c2,if_pos (by omega)]
    ·rw [if_neg c2,if_neg (by omega)]) (by
  simp only [Mf,Int.toNat_natCast,List.length_replicate]
  rw [if_neg (by simp)]
  congr 2
  unfold Hk
  apply List.map_congr_left
  intro j hj
  rw [if_pos (by omega)])
 have h0:(List.range m).map (fun j=>if m-0≤j then Ck n (m-1-j) else (0:UInt8))=List.replicate m 0:=by
  apply List.ext_getElem
  ·simp
  ·intro j j1 j2
   simp only [List.length_map,List.length_range] at j1
   simp only [List.getElem_map,List.getElem_range,List.getElem_replicate]
   rw [if_neg (by omega)]
 have h':Bn (Mf (n:Int) (m:Int)) (List.replicate m 0,0)=some (Hk n m):=by rw [←h0]; exact h
 simp only [aL,Int.toNat_natCast]
 rw [if_pos (by omega),if_pos (by omega),h']
 rfl
def Gk (l:List UInt8):Nat:=l.foldl (fun n y=>n*256+y.toNat) 0
theorem bS (l:List UInt8):∀(c k:Nat),c<256^k→l.foldl (fun n y=>n*256+y.toNat) c<256^(k+l.length):=by
 induction l with
 | nil=>exact fun c k h=>h
 | cons y r ih=>
  intro c k h
  have hy:=y.toNat_lt
  have:=ih (c*256+y.toNat) (k+1) (by rw [Nat.pow_succ]; omega)
  rw [List.length_cons,show k+(r.length+1)=k+1+r.length by omega]
  exact this
theorem cG (l:List UInt8) (hl:l.length≤7):kV l=some ((Gk l:Nat):Int):=by
 have h:=Cc (step:=Mi l) (fun k=>((((l.take k).foldl (fun n y=>n*256+y.toNat) 0:Nat):Int),(k:Int))) l.length ((Gk l:Nat):Int) (fun k hk=>by
  have hb:=bS (l.take k) 0 0 (by simp)
  rw [Nat.zero_add] at hb
  have hpw:256^(l.take k).length≤256^6:=Nat.pow_le_pow_right (by omega) (by simp; omega)
  have h6:(256:Nat)^6=281474976710656:=by decide
  generalize hc:(l.take k).foldl (fun n y=>n*256+y.toNat) 0=c at hb
  have hy:l[k].toNat<256:=l[k].toNat_lt
  have e1:EB .i64 (c:Int) 8=((c*256:Nat):Int):=by
   unfold EB
   have:(2:Int)^min (8:Int).toNat IntKind.i64.bits=256:=by decide
   rw [this,wr ⟨by omega,by omega⟩]; omega
  have e2:c*256 ||| l[k].toNat=c*256+l[k].toNat:=by
   have:=Nat.shiftLeft_add_eq_or_of_lt (a:=c) (b:=l[k].toNat) (i:=8) (by omega)
   rw [Nat.shiftLeft_eq] at this
   exact this.symm
  simp only [Mi]
  rw [if_pos (decide_eq_true (by omega)),Cl hk]
  simp only [Option.bind_some]
  rw [Pt (show l[k].toNat<9223372036854775808 by omega),e1,EA .i64 _ _ (by simp [IntKind.bits]; omega) (by simp [IntKind.bits]; omega),e2,Pt (by omega),w1 (show k<4611686018427387904 by omega)]
  rw [List.take_succ_eq_append_getElem hk,List.foldl_append,hc]
  rfl) (by
  simp only [Mi]
  rw [if_neg (by simp),List.take_length]
  rfl)
 have h':Bn (Mi l) (0,0)=some ((Gk l:Nat):Int):=h
 simp only [kV,h',Option.bind_some]
theorem dW (n:Nat) (h:n<4294967296):Gk (Hk n 4)=n:=by
 have e:Hk n 4=[Ck n 3,Ck n 2,Ck n 1,Ck n 0]:=rfl
 rw [e]
 simp only [Gk,List.foldl_cons,List.foldl_nil,Ck,Ww]
 omega
end Go.Ev
end
section
namespace Go.Ev
def Ew (p:List UInt8):List UInt8:=Hk (p.length+1) 2++p
def Db (p:List UInt8):List UInt8:=Ew p++Hk (Kf (Ew p)) 4
theorem Fw (p:List UInt8):(Ew p).length=p.length+2:=by simp [Ew]; omega
@[simp] theorem frameB_len (p:List UInt8):(Db p).length=p.length+6:=by simp [Db,Fw]
theorem CY (p:List UInt8) (hp:p.length≤65536):CX p=some (Db p):=by
 have e1:IntKind.i64.wrap ((p.length:Int)+1)=((p.length+1:Nat):Int):=w1 (by omega)
 have e2:aL ((p.length+1:Nat):Int) 2=some (Hk (p.length+1) 2):=cE (p.length+1) 2 (by omega)
 have e4:aL ((Kf (Ew p):Nat):Int) 4=some (Hk (Kf (Ew p)) 4):=cE (Kf (Ew p)) 4 (by omega)
 simp only [CX,e1,e2,Option.bind_some]
 rw [if_pos (by simp; omega),show Hk (p.length+1) 2++p=Ew p from rfl,cF _ (by rw [Fw]; omega)]
 simp only [Option.bind_some,e4]
 rw [if_pos (by rw [Fw]; simp; omega)]
 rfl
def Rk (b:List UInt8) (k:Nat):Option (List UInt8):=
 if k+2≤b.length then
  if (1≤Gk ((b.drop k).take 2)∧Gk ((b.drop k).take 2)≤2001)∧k+Gk ((b.drop k).take 2)+5≤b.length then
   if Kf ((b.drop k).take (Gk ((b.drop k).take 2)+1))=Gk ((b.drop (k+Gk ((b.drop k).take 2)+1)).take 4) then some ((b.drop (k+2)).take (Gk ((b.drop k).take 2)-1)) else none
  else none
 else none
theorem Ul {α:Type} (b:List α) (k n:Nat) (h:k+n≤b.length):Uk b (k:Int) ((k+n:Nat):Int)=some ((b.drop k).take n):=by
 rw [mS _ _ _ (by omega) h,List.drop_take]
 congr 2; omega
theorem Wl (b:List UInt8) (hb:b.length≤1048576) (l:List (List UInt8)) (k:Nat) (hl:l.length≤1048576) (hk:k≤1048576):
  Ig b (l,(k:Int))=match Rk b k with
   | none=>some (.inr (l,(k:Int)))
   | some p=>some (.inl (l++[p],((k+p.length+6:Nat):Int))):=by
 have e1:IntKind.i64.wrap ((k:Int)+2)=((k+2:Nat):Int):=by rw [wr ⟨by omega,by omega⟩]; omega
 simp only [Ig,e1]
 by_cases c1:k+2≤b.length
 ·rw [if_pos (decide_eq_true (by omega)),Ul b k 2 c1]
  simp only [Option.bind_some]
  have hn2:((b.drop k).take 2).length=2:=by simp; omega
  rw [cG _ (by omega)]
  have hnl:=bS ((b.drop k).take 2) 0 0 (by simp)
  rw [hn2] at hnl
  have hnl':Gk ((b.drop k).take 2)<65536:=by simpa [Gk] using hnl
  generalize hnv:Gk ((b.drop k).take 2)=n at hnl'
  have e2:IntKind.i64.wrap ((n:Int)-1)=(n:Int)-1:=wr ⟨by omega,by omega⟩
  have e3:IntKind.i64.wrap (((k+2:Nat):Int)+((n:Int)-1))=((k+n+1:Nat):Int):=by rw [wr ⟨by omega,by omega⟩]; omega
  have e4:IntKind.i64.wrap (((k+n+1:Nat):Int)+4)=((k+n+5:Nat):Int):=by rw [wr ⟨by omega,by omega⟩]; omega
  simp only [Option.bind_some,Bu,e2,e3,e4]
  by_cases c2:1≤n∧n≤2001
  ·rw [MG _ _ _ (by omega)]
   simp only [Option.bind_some,Bool.not_true,cond_false]
   by_cases c3:k+n+5≤b.length
   ·have e5:decide (((k+n+5:Nat):Int)>(b.length:Int))=false:=decide_eq_false (by omega)
    have s1:Uk b (k:Int) ((k+n+1:Nat):Int)=some ((b.drop k).take (n+1)):=Ul b k (n+1) (by omega)
    have s2:Uk b ((k+n+1:Nat):Int) ((k+n+5:Nat):Int)=some ((b.drop (k+n+1)).take 4):=Ul b (k+n+1) 4 (by omega)
    have s3:Uk b ((k+2:Nat):Int) ((k+n+1:Nat):Int)=some ((b.drop (k+2)).take (n-1)):=by
     have:=Ul b (k+2) (n-1) (by omega)
     rwa [show k+2+(n-1)=k+n+1 by omega] at this
    rw [e5]
    simp only [beq_self_eq_true,if_true,s1,s2,Option.bind_some]
    rw [cF _ (by simp; omega),cG _ (by simp; omega)]
    simp only [Option.bind_some,cond_false]
    by_cases c4:Kf ((b.drop k).take (n+1))=Gk ((b.drop (k+n+1)).take 4)
    ·have hx:Rk b k=some ((b.drop (k+2)).take (n-1)):=by
      unfold Rk; rw [hnv,if_pos c1,if_pos ⟨c2,c3⟩,if_pos c4]
     have hpl:((b.drop (k+2)).take (n-1)).length=n-1:=by simp; omega
     rw [hx,if_neg (by simp [c4]),s3]
     simp only [Option.bind_some]
     rw [Me _ (by omega)]
     simp only [Option.bind_some]
     rw [if_pos (by simp; omega),hpl]
     congr 4; omega
    ·have hx:Rk b k=none:=by
      unfold Rk; rw [hnv,if_pos c1,if_pos ⟨c2,c3⟩,if_neg c4]
     rw [hx,if_pos (by rw [bne_iff_ne]; intro hh; exact c4 (by omega))]
   ·have e5:decide (((k+n+5:Nat):Int)>(b.length:Int))=true:=decide_eq_true (by omega)
    have hx:Rk b k=none:=by
     unfold Rk; rw [hnv,if_pos c1,if_neg (fun h=>c3 h.2)]
    rw [hx,e5]
    rfl
  ·have e6:nX ((n:Int)-1) 0 2000=some false:=by
    unfold nX
    by_cases h1:1≤n
    ·rw [decide_eq_false (show ¬(n:Int)-1≤2000 by omega)]; cases decide ((0:Int)≤(n:Int)-1)<;>rfl
    ·rw [decide_eq_false (show ¬(0:Int)≤(n:Int)-1 by omega)]; rfl
   have hx:Rk b k=none:=by
    unfold Rk; rw [hnv,if_pos c1,if_neg (fun h=>c2 h.1)]
   rw [hx,e6]
   rfl
 ·have hx:Rk b k=none:=by
   unfold Rk; rw [if_neg c1]
  rw [hx,if_neg (by simp; omega)]
end Go.Ev
end
section
namespace Go.Ev
end Go.Ev
end
section
namespace Go.Ev
theorem DA (d:Af) (h:Gc d) (k:Nat) (data:List UInt8) (hk:k+data.length≤4096):kQ d (k:Int) data=some (Jz d k data):=by
 obtain ⟨r1,r2,r3⟩:=Wg d h
 have hw:=h.2.2.1
 have e0:IntKind.i64.wrap ((k:Int)+(data.length:Int))=((k+data.length:Nat):Int):=by rw [wr ⟨by omega,by omega⟩]; omega
 simp only [kQ,DI d h,Option.bind_some]
 obtain ⟨p,p1,p2⟩:=cM (step:=Ot (k:Int) data) (fun t=>(∃n,t=Bx d++List.replicate n 0)∧(Bx d).length≤t.length∧t.length≤max (Bx d).length (32*((k+data.length+31) / 32))) (fun t=>1048576-t.length)
  (fun r=>r=En (Bx d) (32*((k+data.length+31) / 32))∧k+data.length≤r.length∧r.length≤4096) (Bx d) ⟨⟨0,by simp⟩,Nat.le_refl _,by omega⟩ (by
  rintro t ⟨⟨n,hn⟩,t1,t2⟩
  have em:((((t.length:Int)).tmod 32) != 0) = !decide (t.length%32=0):=by
   rw [Int.tmod_eq_emod_of_nonneg (by omega),Bool.eq_iff_iff]; simp; omega
  simp only [Ot,Bu,e0,em]
  by_cases c:t.length<k+data.length∨¬t.length%32=0
  ·rw [if_pos (by
    rcases c with c | c
    ·rw [decide_eq_true (show (t.length:Int)<((k+data.length:Nat):Int) by omega)]; rfl
    ·rw [decide_eq_false c]; cases decide ((t.length:Int)<((k+data.length:Nat):Int))<;>rfl),if_pos (by simp; omega)]
   refine .inl ⟨_,rfl,⟨⟨n+1,?_⟩,by simp; omega,by simp; omega⟩,by simp; omega⟩
   rw [hn,List.append_assoc]
   congr 1
   exact (List.replicate_append_replicate (n:=n) (m:=1) (a:=(0:UInt8)))
  ·rw [if_neg (by
    rw [decide_eq_false (show ¬(t.length:Int)<((k+data.length:Nat):Int) by omega),decide_eq_true (show t.length%32=0 by omega)]; simp)]
   refine .inr ⟨_,rfl,?_,by omega,by omega⟩
   subst hn
   simp only [List.length_append,List.length_replicate] at t1 t2 c
   unfold En
   congr 2
   omega)
 obtain ⟨p2,p3,p4⟩:=p2
 rw [p1]
 simp only [Option.bind_some]
 rw [mS _ _ _ (by omega) (Nat.le_refl _)]
 simp only [Option.bind_some,List.nil_append]
 rw [if_pos (by simp; omega)]
 by_cases h0:data.length=0
 ·rw [if_pos (by simp [h0])]
  simp [Jz,h0]
 ·rw [if_neg (by simpa using h0)]
  have hq:32*((k+data.length+31) / 32)=32*((k+data.length-1) / 32+1):=by omega
  have hd:(data.take ((p.take p.length).drop k).length)=data:=List.take_of_length_le (by simp; omega)
  have hw0:ovl p k data=nI (Bx d) k data:=by unfold nI; rw [p2,hq]
  have hwl:=Xy (Bx d) k data
  have e6:IntKind.i64.wrap (((k:Int)).tdiv 32)=((k / 32:Nat):Int):=by
   rw [Int.tdiv_eq_ediv_of_nonneg (by omega),wr ⟨by omega,by omega⟩]; omega
  generalize hqq:(k+data.length-1) / 32=q at *
  have hle:k / 32≤q:=by omega
  have hl:=Wm (nI (Bx d) k data) d.Ab (k / 32) (q+1-k / 32) (by omega) (by omega) (step:=Ma (k:Int) data p ((p.take p.length).drop k)) (fun j l j1 j2 j3=>by
   simp only [Ma,e0,Bu]
   rw [wr32' (show j≤1099511627776 by omega),if_pos (decide_eq_true (by omega)),hd,w1 (show j<4611686018427387904 by omega),wr32' (show j+1≤1099511627776 by omega)]
   simp only [Int.toNat_natCast,hw0]
   rw [dE _ _ (by omega)]
   have hc:=Sw (nI (Bx d) k data) j (by omega)
   simp only [Option.bind_some,List.nil_append]
   rw [if_pos (by simp [hc]),if_pos (by simp; omega)]) (fun l=>by
   simp only [Ma,e0,Bu]
   rw [wr32' (show k / 32+(q+1-k / 32)≤1099511627776 by omega),if_neg (by simp; omega)])
  rw [e6,hl]
  simp only [Option.bind_some,Jz]
  rw [if_neg h0,hqq]
end Go.Ev
end
section
namespace Go.Ev
theorem aN {c:Nat} (h:c<4294967296):Bn Mk ((c:Int),0)=some ((Ax 8 c:Nat):Int):=by
 refine Cc (step:=Mk) (fun k=>((Ax k c:Nat),(k:Int))) 8 _ (fun k hk=>?_) ?_
 ·have hc:=Ic h k
  have e1:(((Ax k c:Nat):Int)).tmod 2=((Ax k c%2:Nat):Int):=by rw [Int.tmod_eq_emod_of_nonneg (by omega)]; omega
  have e2:(((Ax k c:Nat):Int)).tdiv 2=((Ax k c / 2:Nat):Int):=by rw [Int.tdiv_eq_ediv_of_nonneg (by omega)]; omega
  have e3:IntKind.i64.wrap ((Ax k c / 2:Nat):Int)=((Ax k c / 2:Nat):Int):=Pt (by omega)
  simp only [Mk,Se]
  rw [if_pos (decide_eq_true (by omega)),e1,w1 (by omega),e2,e3]
  have es:Ax (k+1) c=Jk (Ax k c):=rfl
  rw [es]
  unfold Jk
  by_cases h2:Ax k c%2=1
  ·rw [if_pos (by simp [h2]),if_pos h2]
   have:=Iv .i64 (Ax k c / 2) 3988292384 (by simp [IntKind.bits]; omega) (by decide)
   rw [Pt (by have:=Nh (a:=Ax k c / 2) (b:=3988292384) (by omega) (by omega); omega)] at this
   rw [show Rt .i64 ((Ax k c / 2:Nat):Int) 3988292384=_ from this]
  ·rw [if_neg (by simp; omega),if_neg h2]
 ·simp only [Mk]
  rw [if_neg (by decide)]
theorem DV (b:List UInt8) (hb:b.length≤1048576):DU b=some ((Kf b:Nat):Int):=by
 have h:=Cc (step:=Mj b) (fun k=>((((b.take k).foldl Dy 4294967295:Nat):Int),(k:Int))) b.length ((b.foldl Dy 4294967295:Nat):Int) (fun k hk=>by
  have hc:=Hm (b.take k) (c:=4294967295) (by omega)
  have hy:(b[k].toNat)<256:=b[k].toNat_lt
  have hx:=Nh hc (show b[k].toNat<4294967296 by omega)
  simp only [Mj]
  rw [if_pos (decide_eq_true (by omega)),Cl hk]
  simp only [Option.bind_some]
  rw [Pt (show b[k].toNat<9223372036854775808 by omega),Iv .i64 _ _ (by simp [IntKind.bits]; omega) (by simp [IntKind.bits]; omega),Pt (by omega),aN hx]
  simp only [Option.bind_some,w1 (show k<4611686018427387904 by omega)]
  rw [List.take_succ_eq_append_getElem hk,List.foldl_append]
  rfl) (by
  simp only [Mj]
  rw [if_neg (by simp),List.take_length])
 have hc:=Hm b (c:=4294967295) (by omega)
 have h':Bn (Mj b) (4294967295,0)=some ((b.foldl Dy 4294967295:Nat):Int):=h
 simp only [DU,h',Option.bind_some]
 have:=Iv .i64 (b.foldl Dy 4294967295) 4294967295 (by simp [IntKind.bits]; omega) (by decide)
 rw [Pt (by have:=Nh hc (show 4294967295<4294967296 by omega); omega)] at this
 rw [show Rt .i64 ((b.foldl Dy 4294967295:Nat):Int) 4294967295=_ from this]
 rfl
theorem Py {a b:Nat} (h:a%256=b%256):b8 (a:Int)=b8 (b:Int):=by
 apply UInt8.toNat_inj.1
 rw [Ww,Ww,h]
theorem cC (p:List UInt8) (hp:p.length≤65534):eT p=some (Db p):=by
 have e1:IntKind.i64.wrap ((p.length:Int)+1)=((p.length+1:Nat):Int):=w1 (by omega)
 have e2:(((p.length+1:Nat):Int)).tdiv 256=(((p.length+1) / 256:Nat):Int):=by rw [Int.tdiv_eq_ediv_of_nonneg (by omega)]; omega
 have e3:(((p.length+1:Nat):Int)).tmod 256=(((p.length+1)%256:Nat):Int):=by rw [Int.tmod_eq_emod_of_nonneg (by omega)]; omega
 have e4:IntKind.i64.wrap ((((p.length+1) / 256:Nat):Int))=(((p.length+1) / 256:Nat):Int):=Pt (by omega)
 have hh:([b8 (((p.length+1) / 256:Nat):Int),b8 (((p.length+1)%256:Nat):Int)]:List UInt8)++p=Ew p:=by
  unfold Ew
  have:Hk (p.length+1) 2=[Ck (p.length+1) 1,Ck (p.length+1) 0]:=rfl
  rw [this]
  unfold Ck
  have x1:b8 (((p.length+1) / 256:Nat):Int)=b8 (((p.length+1) / 2^(8*1):Nat):Int):=Py (by omega)
  have x2:b8 (((p.length+1)%256:Nat):Int)=b8 (((p.length+1) / 2^(8*0):Nat):Int):=Py (by omega)
  rw [x1,x2]
 simp only [eT,e1,e2,e3,e4,hh,Bu]
 rw [if_pos (by simp; omega),DV _ (by rw [Fw]; omega)]
 have hc:=Xa (Ew p)
 generalize hcv:Kf (Ew p)=c at hc
 have d1:((c:Int)).tdiv 16777216=((c / 16777216:Nat):Int):=by rw [Int.tdiv_eq_ediv_of_nonneg (by omega)]; omega
 have d2:((c:Int)).tdiv 65536=((c / 65536:Nat):Int):=by rw [Int.tdiv_eq_ediv_of_nonneg (by omega)]; omega
 have d3:((c:Int)).tdiv 256=((c / 256:Nat):Int):=by rw [Int.tdiv_eq_ediv_of_nonneg (by omega)]; omega
 have d4:((c:Int)).tmod 256=((c%256:Nat):Int):=by rw [Int.tmod_eq_emod_of_nonneg (by omega)]; omega
 have d5:((c / 65536:Nat):Int).tmod 256=((c / 65536%256:Nat):Int):=by rw [Int.tmod_eq_emod_of_nonneg (by omega)]; omega
 have d6:((c / 256:Nat):Int).tmod 256=((c / 256%256:Nat):Int):=by rw [Int.tmod_eq_emod_of_nonneg (by omega)]; omega
 simp only [Option.bind_some,d1,d2,d3,d4,Pt (show c / 16777216<9223372036854775808 by omega),Pt (show c / 65536<9223372036854775808 by omega),Pt (show c / 256<9223372036854775808 by omega),d5,d6]
 rw [if_pos (by rw [Fw]; simp; omega)]
 unfold Db
 rw [hcv]
 have:Hk c 4=[Ck c 3,Ck c 2,Ck c 1,Ck c 0]:=rfl
 rw [this]
 unfold Ck
 have x1:b8 ((c / 16777216:Nat):Int)=b8 ((c / 2^(8*3):Nat):Int):=Py (by omega)
 have x2:b8 ((c / 65536%256:Nat):Int)=b8 ((c / 2^(8*2):Nat):Int):=Py (by omega)
 have x3:b8 ((c / 256%256:Nat):Int)=b8 ((c / 2^(8*1):Nat):Int):=Py (by omega)
 have x4:b8 ((c%256:Nat):Int)=b8 ((c / 2^(8*0):Nat):Int):=Py (by omega)
 rw [x1,x2,x3,x4]
theorem Gx {n i:Nat} {y:UInt8} (h:n / 2^(8*i)%256=y.toNat):Ck n i=y:=by
 apply UInt8.toNat_inj.1
 unfold Ck
 rw [Ww,h]
theorem dX {l:List UInt8} (h:l.length=2):Hk (Gk l) 2=l:=by
 match l,h with
 | [a,b],_=>
  have ha:=a.toNat_lt; have hb:=b.toNat_lt
  show [Ck _ 1,Ck _ 0]=_
  simp only [Gk,List.foldl_cons,List.foldl_nil]
  rw [Gx (y:=a) (by omega),Gx (y:=b) (by omega)]
theorem dY {l:List UInt8} (h:l.length=4):Hk (Gk l) 4=l:=by
 match l,h with
 | [a,b,c,d],_=>
  have ha:=a.toNat_lt; have hb:=b.toNat_lt; have hc:=c.toNat_lt; have hd:=d.toNat_lt
  show [Ck _ 3,Ck _ 2,Ck _ 1,Ck _ 0]=_
  simp only [Gk,List.foldl_cons,List.foldl_nil]
  rw [Gx (y:=a) (by omega),Gx (y:=b) (by omega),Gx (y:=c) (by omega),Gx (y:=d) (by omega)]
theorem DS (b:List UInt8) (hb:b.length≤1048576) (k:Nat) (hk:k≤1048576):DR b (k:Int)=some (match Rk b k with
   | none=>([],false)
   | some p=>(p,true)):=by
 have e1:IntKind.i64.wrap ((k:Int)+2)=((k+2:Nat):Int):=by rw [wr ⟨by omega,by omega⟩]; omega
 simp only [DR,e1]
 by_cases c1:k+2≤b.length
 ·rw [if_neg (by simp; omega),Cl (by omega),w1 (by omega),Cl (by omega)]
  have hn2:(b.drop k).take 2=[b[k],b[k+1]]:=by
   rw [List.drop_eq_getElem_cons (by omega),List.drop_eq_getElem_cons (by omega)]; rfl
  have hv:Gk ((b.drop k).take 2)=b[k].toNat*256+b[k+1].toNat:=by rw [hn2]; simp [Gk]
  have hl2:((b.drop k).take 2).length=2:=by rw [hn2]; rfl
  have hx:=b[k].toNat_lt; have hy:=b[k+1].toNat_lt
  have w4:IntKind.i64.wrap (((b[k].toNat:Int))*256)=((b[k].toNat*256:Nat):Int):=by rw [wr ⟨by omega,by omega⟩]; omega
  have w5:IntKind.i64.wrap (((b[k].toNat*256:Nat):Int)+(b[k+1].toNat:Int))=((b[k].toNat*256+b[k+1].toNat:Nat):Int):=by rw [wr ⟨by omega,by omega⟩]; omega
  simp only [Option.bind_some,Pt (show b[k].toNat<9223372036854775808 by omega),Pt (show b[k+1].toNat<9223372036854775808 by omega),w4,w5,←hv]
  have hn:Gk ((b.drop k).take 2)<65536:=by omega
  have hbb:=dX hl2
  generalize hnv:Gk ((b.drop k).take 2)=n at hn hbb
  have e2:IntKind.i64.wrap ((n:Int)-1)=(n:Int)-1:=wr ⟨by omega,by omega⟩
  have e3:IntKind.i64.wrap ((k:Int)+((n:Int)-1))=(k:Int)+((n:Int)-1):=wr ⟨by omega,by omega⟩
  have e4:IntKind.i64.wrap ((k:Int)+((n:Int)-1)+6)=((k+n+5:Nat):Int):=by rw [wr ⟨by omega,by omega⟩]; omega
  simp only [Bu,e2,e3,e4]
  by_cases c2:(1≤n∧n≤2001)∧k+n+5≤b.length
  ·obtain ⟨⟨c2a,c2b⟩,c3⟩:=c2
   rw [decide_eq_false (show ¬(n:Int)-1<0 by omega),decide_eq_false (show ¬(n:Int)-1>2000 by omega),decide_eq_false (show ¬((k+n+5:Nat):Int)>(b.length:Int) by omega)]
   have e5:IntKind.i64.wrap (((k+2:Nat):Int)+((n:Int)-1))=((k+2+(n-1):Nat):Int):=by rw [wr ⟨by omega,by omega⟩]; omega
   rw [if_neg (by decide),e5,Ul b (k+2) (n-1) (by omega)]
   have hpl:((b.drop (k+2)).take (n-1)).length=n-1:=by simp; omega
   generalize hp:(b.drop (k+2)).take (n-1)=p at hpl
   simp only [Option.bind_some,List.nil_append]
   rw [if_pos (by simp; omega),cC p (by omega)]
   simp only [Option.bind_some]
   have hhead:(b.drop k).take (n+1)=Ew p:=by
    unfold Ew
    rw [hpl,show n-1+1=n by omega,hbb,←hp,←List.drop_drop (i:=2) (j:=k)]
    have:=List.take_append_drop 2 ((b.drop k).take (n+1))
    rw [←this,List.take_take,List.drop_take,show min 2 (n+1)=2 by omega,show n+1-2=n-1 by omega]
   have htail:((b.drop (k+n+1)).take 4).length=4:=by simp; omega
   have hfl:(Db p).length=n+5:=by rw [frameB_len,hpl]; omega
   have hfi:∀i (hi:i<4),(Db p)[n+1+i]'(by omega)=(Hk (Kf (Ew p)) 4)[i]'(by simp; omega):=fun i hi=>by
    unfold Db
    rw [List.getElem_append_right (by rw [Fw]; omega)]
    congr 1
    rw [Fw]; omega
   have hbi:∀i (hi:i<4),b[k+n+1+i]'(by omega)=((b.drop (k+n+1)).take 4)[i]'(by omega):=fun i hi=>by
    rw [List.getElem_take,List.getElem_drop]
   have hstep:∀i:Nat,i<4→Ii b (k:Int) ((n:Int)-1) (Db p) (i:Int)=if (!decide (((b.drop (k+n+1)).take 4)[i]? = (Hk (Kf (Ew p)) 4)[i]?))=true then some (.inr (.inr ([],false))) else some (.inl ((i+1:Nat):Int)):=fun i hi=>by
    simp only [Ii,e1,e5]
    have e6:IntKind.i64.wrap (((k+2+(n-1):Nat):Int)+(i:Int))=((k+n+1+i:Nat):Int):=by rw [wr ⟨by omega,by omega⟩]; omega
    have e7:IntKind.i64.wrap (2+((n:Int)-1))=((n+1:Nat):Int):=by rw [wr ⟨by omega,by omega⟩]; omega
    have e8:IntKind.i64.wrap (((n+1:Nat):Int)+(i:Int))=((n+1+i:Nat):Int):=by rw [wr ⟨by omega,by omega⟩]; omega
    rw [if_pos (decide_eq_true (by omega)),e6,e7,e8,Cl (by omega),Cl (by omega)]
    simp only [Option.bind_some,Int.toNat_natCast]
    rw [List.getElem?_eq_getElem (by omega),hfi i hi,hbi i hi,w1 (by omega)]
    simp only [Option.bind_some]
    rw [List.getElem?_eq_getElem (by omega),List.getElem?_eq_getElem (by simp; omega)]
    by_cases c:((b.drop (k+n+1)).take 4)[i]'(by omega)=(Hk (Kf (Ew p)) 4)[i]'(by simp; omega)
    ·rw [if_neg (by simp [c]),if_neg (by simp [c])]
    ·rw [if_pos (by
      rw [bne_iff_ne]; intro hh
      exact c (UInt8.toNat_inj.1 (by omega))),if_pos (by simpa using c)]
   have hend:Ii b (k:Int) ((n:Int)-1) (Db p) ((4:Nat):Int)=some (.inr (.inl ())):=by
    simp only [Ii]
    rw [if_neg (by decide)]
   by_cases c4:Kf ((b.drop k).take (n+1))=Gk ((b.drop (k+n+1)).take 4)
   ·have hx:Rk b k=some p:=by
     unfold Rk; rw [hnv,if_pos c1,if_pos ⟨⟨c2a,c2b⟩,c3⟩,if_pos c4,hp]
    have hb4:Hk (Kf (Ew p)) 4=(b.drop (k+n+1)).take 4:=by rw [←hhead,c4,dY htail]
    have:=Cc (step:=Ii b (k:Int) ((n:Int)-1) (Db p)) (fun i=>(i:Int)) 4 (.inl ()) (fun i hi=>by rw [hstep i hi,hb4,if_neg (by simp)]) hend
    rw [hx,show (0:Int)=((0:Nat):Int) from rfl,this]
    rfl
   ·have hx:Rk b k=none:=by
     unfold Rk; rw [hnv,if_pos c1,if_pos ⟨⟨c2a,c2b⟩,c3⟩,if_neg c4]
    obtain ⟨i,hi,hj,hno⟩:=Yt (n:=4) (ok:=fun i=>((b.drop (k+n+1)).take 4)[i]? = (Hk (Kf (Ew p)) 4)[i]?) (fun hall=>c4 (by
     have:(b.drop (k+n+1)).take 4=Hk (Kf (Ew p)) 4:=by
      apply List.ext_getElem?
      intro i
      by_cases hi:i<4
      ·exact hall i hi
      ·rw [List.getElem?_eq_none (by omega),List.getElem?_eq_none (by simp; omega)]
     rw [this,dW _ (Xa _),hhead]))
    have:=Lc (step:=Ii b (k:Int) ((n:Int)-1) (Db p)) (fun i=>(i:Int)) i (fun j hj'=>by rw [hstep j (by omega),if_neg (by simp [hj j hj'])])
    rw [hx,show (0:Int)=((0:Nat):Int) from rfl,this,Fk (r:=.inr ([],false)) (by rw [hstep i hi,if_pos (by simp [hno])])]
    rfl
  ·have hx:Rk b k=none:=by
    unfold Rk; rw [hnv,if_pos c1,if_neg c2]
   rw [hx,if_pos (by
    by_cases h1:1≤n∧n≤2001
    ·rw [decide_eq_true (show ((k+n+5:Nat):Int)>(b.length:Int) by omega)]
     cases decide ((n:Int)-1<0)<;>cases decide ((n:Int)-1>2000)<;>rfl
    ·by_cases h2:1≤n
     ·rw [decide_eq_true (show (n:Int)-1>2000 by omega)]
      cases decide ((n:Int)-1<0)<;>rfl
     ·rw [decide_eq_true (show (n:Int)-1<0 by omega)]; rfl)]
 ·have hx:Rk b k=none:=by
   unfold Rk; rw [if_neg c1]
  rw [hx,if_pos (decide_eq_true (by omega))]
end Go.Ev
end
section
namespace Go.Ev
theorem eX {σ ρ:Type} {step step':σ→Option (σ⊕ρ)} (I:σ→Prop) (μ:σ→Nat) (hs:∀s,I s→step s=step' s)
  (h:∀s,I s→(∃s',step s=some (.inl s')∧I s'∧μ s'<μ s)∨(∃r,step s=some (.inr r))) (s0:σ) (h0:I s0):Bn step s0=Bn step' s0:=by
 have key:∀(n:Nat) (s0:σ),μ s0<n→I s0→Bn step s0=Bn step' s0:=by
  intro n
  induction n with
  | zero=>intro s0 hn; omega
  | succ n ih=>
   intro s0 hn hI
   rcases h s0 hI with ⟨s',h1,h2,h3⟩ | ⟨r,h1⟩
   ·rw [Hb h1,Hb (step:=step') (by rw [←hs s0 hI]; exact h1),ih s' (by omega) h2]
   ·rw [Fk h1,Fk (step:=step') (by rw [←hs s0 hI]; exact h1)]
 exact key (μ s0+1) s0 (by omega) h0
theorem cT {b p:List UInt8} {k:Nat} (h:Rk b k=some p):k+p.length+6≤b.length:=by
 unfold Rk at h
 split at h
 ·split at h
  ·rename_i c1 c2
   split at h
   ·obtain rfl:=Option.some.inj h
    simp; omega
   ·cases h
  ·cases h
 ·cases h
theorem scan_step' (b:List UInt8) (hb:b.length≤1048576) (l:List (List UInt8)) (k:Nat) (hl:l.length≤1048576) (hk:k≤1048576):
  Ow b (l,(k:Int))=match Rk b k with
   | none=>some (.inr (l,(k:Int)))
   | some p=>some (.inl (l++[p],((k+p.length+6:Nat):Int))):=by
 simp only [Ow,DS b hb k hk,Option.bind_some]
 cases hx:Rk b k with
 | none=>rfl
 | some p=>
  have hp:=cT hx
  have e1:IntKind.i64.wrap ((p.length:Int)+6)=((p.length+6:Nat):Int):=by rw [wr ⟨by omega,by omega⟩]; omega
  have e2:IntKind.i64.wrap ((k:Int)+((p.length+6:Nat):Int))=((k+p.length+6:Nat):Int):=by rw [wr ⟨by omega,by omega⟩]; omega
  simp only [e1,e2]
  rw [if_neg (by decide),if_pos (by simp; omega)]
def Yc (b:List UInt8) (s:List (List UInt8)×Int):Prop:=∃k:Nat,s.2=(k:Int)∧k≤b.length∧6*s.1.length≤k
theorem Wk (b:List UInt8) (hb:b.length≤1048576) (s:List (List UInt8)×Int) (h:Yc b s):
  (∃s',Ig b s=some (.inl s')∧(Yc b s'∧∃p,s'.1=s.1++[p])∧((b.length:Int)-s'.2).toNat<((b.length:Int)-s.2).toNat)∨Ig b s=some (.inr s):=by
 obtain ⟨l,_⟩:=s
 obtain ⟨k,rfl,hk,hl⟩:=h
 simp only at hl
 rw [Wl b hb l k (by omega) (by omega)]
 cases hx:Rk b k with
 | none=>exact .inr rfl
 | some p=>
  have hp:=cT hx
  exact .inl ⟨_,rfl,⟨⟨k+p.length+6,rfl,by omega,by simp; omega⟩,p,rfl⟩,by simp only; omega⟩
theorem fK (b:List UInt8) (hb:b.length≤1048576):kS b=eP b:=by
 have:=eX (step:=Ig b) (step':=Ow b) (Yc b) (fun s=>((b.length:Int)-s.2).toNat) (fun s hs=>by
  obtain ⟨l,_⟩:=s
  obtain ⟨k,rfl,hk,hl⟩:=hs
  simp only at hl
  rw [Wl b hb l k (by omega) (by omega),scan_step' b hb l k (by omega) (by omega)]
  first | done | (cases Rk b k<;>rfl)) (fun s hs=>by
  rcases Wk b hb s hs with ⟨s',h1,h2,h3⟩ | h
  ·exact .inl ⟨s',h1,h2.1,h3⟩
  ·exact .inr ⟨_,h⟩) ([],0) ⟨0,rfl,by omega,by simp⟩
 simp only [eP,kS,this]
end Go.Ev
end
section
namespace Go.Ev
theorem Xd (l:List UInt8) (hl:l.length≤1048576):Xc l=some l:=by
 have h:=dH l id default (step:=Lz l) (fun k hk p hp=>by
  simp only [Lz]
  rw [if_pos (decide_eq_true (by omega)),Cl hk]
  simp only [Option.bind_some]
  rw [Cl (l:=p) (k:=k) (by omega)]
  simp only [Option.bind_some,Int.toNat_natCast]
  rw [List.getElem?_eq_getElem (by omega)]
  simp only [Option.bind_some,w1 (show k<4611686018427387904 by omega)]
  rfl) (fun p hp=>by
  simp only [Lz]
  rw [if_neg (by simp)])
 rw [List.map_id] at h
 unfold Xc
 rw [if_pos (by omega),if_pos (by omega)]
 simp only [Int.toNat_natCast,Bu]
 first
 | (rw [show (Bn (Lz l) (List.replicate l.length default,0))=_ from h]; rfl)
 | (erw [h]; rfl)
theorem Qm (l:List UInt8) (hl:l.length≤1048576):eM l l=some true:=by
 have h:=Wj l (step:=Om l l) (fun k hk=>by
  simp only [Om]
  rw [if_pos (decide_eq_true (by omega)),Cl hk]
  simp [w1 (show k<4611686018427387904 by omega)]) (by
  simp only [Om]
  rw [if_neg (by simp)])
 unfold eM
 rw [if_neg (by simp),h]
 rfl
end Go.Ev
end
section
set_option maxHeartbeats 1000000
namespace Go.Ev
theorem Xe (l:List UInt8) (a:Int) (ha:0≤a∧a≤4611686018427387904) (hl:l.length≤1048576):eN l a=some (a+(l.length:Int),Eg (fun c _=>b8 c) 1 l a):=by
 have h:=fB (fun c _=>b8 c) 1 l a (step:=On) (fun k p hp hk=>by
  simp only [On]
  rw [if_pos (decide_eq_true (by omega)),Cl (l:=p) (k:=k) (by omega)]
  simp only [Option.bind_some,Int.toNat_natCast]
  rw [List.getElem?_eq_getElem (by omega)]
  have e1:IntKind.i64.wrap (a+((1:Nat):Int)*(k:Int)+1)=a+((1:Nat):Int)*((k+1:Nat):Int):=by rw [wr ⟨by omega,by omega⟩]; omega
  simp only [Option.bind_some,w1 (show k<4611686018427387904 by omega),e1]) (fun p c hp=>by
  simp only [On]
  rw [if_neg (by simp; omega)])
 simp only [eN,h,Option.bind_some]
 simp
theorem cB (l:List UInt8) (a:Int) (ha:0≤a∧a≤4611686018427387904) (hl:l.length≤1048576):kR (Eg (fun c _=>b8 c) 1 l a) a=some (a+(l.length:Int)):=by
 have h:=Cc (step:=Mc (Eg (fun c _=>b8 c) 1 l a)) (fun k=>(a+(k:Int),(k:Int))) l.length (.inl (a+(l.length:Int))) (fun k hk=>by
  simp only [Mc]
  rw [if_pos (decide_eq_true (by simp; omega)),Cl (by simp; omega)]
  have e1:IntKind.i64.wrap (a+(k:Int)+1)=a+((k+1:Nat):Int):=by rw [wr ⟨by omega,by omega⟩]; omega
  simp only [Option.bind_some,w1 (show k<4611686018427387904 by omega),e1,aS]
  rw [if_neg (by simp)]) (by
  simp only [Mc]
  rw [if_neg (by simp)])
 have h':Bn (Mc (Eg (fun c _=>b8 c) 1 l a)) (a,0)=some (.inl (a+(l.length:Int))):=by simpa using h
 simp only [kR,h',Option.bind_some]
def Gp (s:Aa):Prop:=s.data.length≤1048576
def Ij (c:Int) (s:Aa):Aa:=Aa.mk c (Eg (fun c _=>b8 c) 1 s.data (c+1))
def Dr (s:Aa):Nat:=s.data.length+1
theorem QG {c:Int} (h:0≤c) (h2:c≤4611686018427387904):IntKind.i64.wrap (c+1)=c+1:=wr ⟨by omega,by omega⟩
theorem DF (l:List Aa) (a:Int) (ha:0≤a∧a≤1099511627776) (hl:l.length≤1048576) (hf:∀s∈l,Gp s):DE l a=some (a+(Je Dr l:Int),Gh Ij Dr l a)∧a+(Je Dr l:Int)≤4398046511104:=by
 have hB:Je Dr l≤1048577*l.length:=Xs fun x hx=>by have:=hf x hx; unfold Gp at this; unfold Dr; omega
 have hB2:1048577*l.length≤1048577*1048576:=Nat.mul_le_mul_left _ hl
 have h:=Tt Ij Dr Gp 4398046511104 (step:=Mb) (fun k p c x hk hp hx hfx h0 h1=>by
  unfold Dr at h1
  simp only [Mb]
  have hset:(p.set k (Aa.mk c x.data))[k]? = some (Aa.mk c x.data):=by simp [hk]
  have hi:Gb (p.set k (Aa.mk c x.data)) (k:Int)=some (Aa.mk c x.data):=by unfold Gb; rw [if_pos (by omega),Int.toNat_natCast]; exact hset
  have hi0:Gb p (k:Int)=some x:=by unfold Gb; rw [if_pos (by omega),Int.toNat_natCast]; exact hx
  rw [if_pos (decide_eq_true (by omega)),hi0]
  simp only [Option.bind_some,Int.toNat_natCast,hx,hi,hset,QG h0 (show c≤4611686018427387904 by omega),Xe x.data (c+1) ⟨by omega,by omega⟩ hfx,marked_len,if_true,Bu,w1 (show k<4611686018427387904 by omega)]
  rw [List.set_set]
  unfold Ij Dr
  congr 4
  push_cast; omega) (fun p c=>by
  simp only [Mb]
  rw [if_neg (by simp)]) l [] a (by simpa using hl) hf ha.1 (by omega)
 refine ⟨?_,by omega⟩
 have h':Bn Mb (l,a,0)=some (Gh Ij Dr l a,a+(Je Dr l:Int)):=by simpa using h
 simp only [DE,h',Option.bind_some]
theorem DH (l:List Aa) (a:Int) (ha:0≤a∧a≤1099511627776) (hl:l.length≤1048576) (hf:∀s∈l,Gp s):DG (Gh Ij Dr l a) a=some (a+(Je Dr l:Int)):=by
 have hB:Je Dr l≤1048577*l.length:=Xs fun x hx=>by have:=hf x hx; unfold Gp at this; unfold Dr; omega
 have hB2:1048577*l.length≤1048577*1048576:=Nat.mul_le_mul_left _ hl
 have h:=Th Ij Dr Gp 4398046511104 (Gh Ij Dr l a) (by simpa using hl) (step:=Md (Gh Ij Dr l a)) (fun k c x hk hx hfx h0 h1=>by
  unfold Dr at h1
  simp only [Md]
  have hk':k<l.length:=by simpa using hk
  have hi:Gb (Gh Ij Dr l a) (k:Int)=some (Ij c x):=by unfold Gb; rw [if_pos (by omega),Int.toNat_natCast]; exact hx
  rw [if_pos (decide_eq_true (by omega)),hi]
  have e0:(Ij c x).at_=c:=rfl
  have e1:(Ij c x).data=Eg (fun c _=>b8 c) 1 x.data (c+1):=rfl
  simp only [Option.bind_some,e0,e1,QG h0 (show c≤4611686018427387904 by omega),cB x.data (c+1) ⟨by omega,by omega⟩ hfx,w1 (show k<4611686018427387904 by omega)]
  rw [if_neg (by simp),if_neg (by simp; omega)]
  unfold Dr
  congr 3
  push_cast; omega) (fun c=>by
  simp only [Md]
  rw [if_neg (by simp)]) l [] a (by simp) hf ha.1 (by omega)
 have h':Bn (Md (Gh Ij Dr l a)) (a,0)=some (.inl (a+(Je Dr l:Int))):=by simpa using h
 simp only [DG,h',Option.bind_some]
def Kh (d:Af):Prop:=d.held.length≤1048576∧d.Ab.length≤1048576∧∀s∈d.Ab,Gp s
theorem Yw (d:Af) (h:Kh d) (a:Int) (ha:0≤a∧a≤1048577):∃n p q,kL d a=some (n,p,q)∧p.length=d.held.length∧q.length=d.Ab.length∧a≤n∧n≤4398046511104∧kM (Af.mk p q) a=some n:=by
 obtain ⟨h1,h2,h3⟩:=h
 obtain ⟨m1,m2⟩:=DF d.Ab (a+(d.held.length:Int)) ⟨by omega,by omega⟩ h2 h3
 refine ⟨a+(d.held.length:Int)+(Je Dr d.Ab:Int),Eg (fun c _=>b8 c) 1 d.held a,Gh Ij Dr d.Ab (a+(d.held.length:Int)),?_,by simp,by simp,by omega,m2,?_⟩
 rotate_left
 ·simp only [kM,cB d.held a ⟨ha.1,by omega⟩ h1,Option.bind_some]
  rw [if_neg (by simp; omega),DH d.Ab _ ⟨by omega,by omega⟩ h2 h3]
  simp only [Option.bind_some]
  rw [if_neg (by simp; omega)]
 ·simp only [kL,Xe d.held a ⟨ha.1,by omega⟩ h1,Option.bind_some,marked_len,if_true,m1,markv_len]
theorem IX (s:Aa) (h:Gp s):kW s=some s:=by simp only [kW,Xd s.data h,Option.bind_some]
theorem DC (l:List Aa) (hl:l.length≤1048576) (hE:∀x∈l,kW x=some x):DB l=some l:=by
 have h:=dH l id (Aa.mk 0 ([]:List UInt8)) (step:=Ou l) (fun k hk p hp=>by
  simp only [Ou]
  rw [if_pos (decide_eq_true (by omega)),Cl hk]
  simp only [Option.bind_some]
  rw [hE _ (List.getElem_mem hk)]
  simp only [Option.bind_some]
  rw [Cl (l:=p) (k:=k) (by omega)]
  simp only [Option.bind_some,Int.toNat_natCast]
  rw [List.getElem?_eq_getElem (by omega)]
  simp only [Option.bind_some,w1 (show k<4611686018427387904 by omega)]
  rfl) (fun p hp=>by
  simp only [Ou]
  rw [if_neg (by simp)])
 rw [List.map_id] at h
 unfold DB
 rw [if_pos (by omega),if_pos (by omega)]
 simp only [Int.toNat_natCast,Bu,h,Option.bind_some]
theorem IW (d:Af) (h:Kh d):aJ d=some d:=by
 simp only [aJ,Xd d.held h.1,DC d.Ab h.2.1 fun x hx=>IX x (h.2.2 x hx),Option.bind_some]
theorem eU (s:Aa) (h:Gp s):kX s s=some true:=by simp [kX,Qm s.data h]
theorem eR (l:List Aa) (hl:l.length≤1048576) (hE:∀x∈l,kX x x=some true):DD l l=some true:=by
 have h:=Wj l (step:=Ov l l) (fun k hk=>by
  simp only [Ov]
  rw [if_pos (decide_eq_true (by omega)),Cl hk]
  simp [w1 (show k<4611686018427387904 by omega),hE _ (List.getElem_mem hk)]) (by
  simp only [Ov]
  rw [if_neg (by simp)])
 unfold DD
 rw [if_neg (by simp),h]
 rfl
theorem Vt (d:Af) (h:Kh d):aK d d=some true:=by
 simp [aK,Qm d.held h.1,eR d.Ab h.2.1 fun x hx=>eU x (h.2.2 x hx)]
theorem cA (l:List UInt8) (n:Int) (hn:0≤n∧n≤1048576) (hl:l.length≤9223372036854775807):(eQ l n=some (-1)∧n<(l.length:Int))∨(eQ l n=some (n-(l.length:Int))∧(l.length:Int)≤n):=by
 have hw:IntKind.i64.wrap (n-(l.length:Int))=n-(l.length:Int):=wr ⟨by omega,by omega⟩
 simp only [eQ,hw]
 by_cases h:n-(l.length:Int)<0
 ·rw [if_pos (decide_eq_true h)]; exact .inl ⟨rfl,by omega⟩
 ·rw [if_neg (by simpa using h)]; exact .inr ⟨rfl,by omega⟩
theorem IU (d:Af) (o:Qu d) (n:Int) (hn:0≤n∧n≤1048576):∃r,CQ d n=some r∧r≤1048576∧(0≤r→Kh d):=by
 simp only [CQ]
 rcases cA d.held n hn o.1.1 with ⟨e1,_⟩ | ⟨e1,e2⟩
 ·rw [e1]; simp only [Option.bind_some]
  rw [if_pos (by decide)]
  exact ⟨-1,rfl,by decide,fun h=>by omega⟩
 ·rw [e1]; simp only [Option.bind_some]
  rw [if_neg (by simp; omega)]
  have hl:=o.2.1
  have hw:IntKind.i64.wrap (n-(d.held.length:Int)-(d.Ab.length:Int))=n-(d.held.length:Int)-(d.Ab.length:Int):=wr ⟨by omega,by omega⟩
  simp only [IF,hw]
  by_cases h:n-(d.held.length:Int)-(d.Ab.length:Int)<0
  ·rw [if_pos (decide_eq_true h)]; simp only [Option.bind_some]
   rw [if_pos (by decide)]
   exact ⟨-1,rfl,by decide,fun h=>by omega⟩
  ·rw [if_neg (by simpa using h)]
   obtain ⟨r,r1,r2⟩:=mU d.Ab (by omega) Gp (n-(d.held.length:Int)-(d.Ab.length:Int)) (by omega) (step:=Oo d.Ab) (fun k c hk c0 c1=>by
    simp only [Oo]
    rw [if_pos (decide_eq_true (by omega)),Cl hk]
    simp only [Option.bind_some,IJ]
    rcases cA d.Ab[k].data c ⟨c0,by omega⟩ (o.2.2 _ (List.getElem_mem hk)).2.1 with ⟨e3,_⟩ | ⟨e3,e4⟩
    ·rw [e3]; simp only [Option.bind_some]
     rw [if_pos (by decide)]; simp only [Option.bind_some]
     rw [if_pos (by decide)]
     exact .inl rfl
    ·rw [e3]; simp only [Option.bind_some]
     rw [if_neg (by simp; omega)]; simp only [Option.bind_some]
     rw [if_neg (by simp; omega),w1 (show k<4611686018427387904 by omega)]
     exact .inr ⟨_,by omega,by omega,by unfold Gp; omega,rfl⟩) (fun c=>by
    simp only [Oo]
    rw [if_neg (by simp)]) (by omega)
   rw [r1]
   rcases r2 with rfl | ⟨c,rfl,c0,c1,hq⟩
   ·simp only [Option.bind_some]
    rw [if_pos (by decide)]
    exact ⟨-1,rfl,by decide,fun h=>by omega⟩
   ·simp only [Option.bind_some]
    rw [if_neg (by simp; omega)]
    exact ⟨c,rfl,by omega,fun _=>⟨by omega,by omega,hq⟩⟩
end Go.Ev
end
section
set_option maxHeartbeats 1000000
namespace Go.Ev
theorem PL {g b:Bool}:(if g=true then some b else some (default:Bool))=some (g&&b):=by cases g<;>rfl
def Vc (s:Aa):Bool:=(decide (0≤s.at_)&&decide (s.at_≤127))&&decide (s.data.length=32)
theorem mP (s:Aa):Vc s=true↔Qy s:=by simp [Vc,Qy,and_assoc]
def Uu (d:Af):Bool:=((decide (d.held.length%32=0)&&decide (d.held.length≤4096))&&decide (d.Ab.length≤4096))&&d.Ab.all Vc
theorem kB (d:Af):Uu d=true↔Gc d:=by
 simp only [Uu,Gc,Bool.and_eq_true,decide_eq_true_eq,List.all_eq_true,mP,and_assoc]
theorem FJ (a b c:Int):nX a b c=some (decide (b≤a)&&decide (a≤c)):=by
 simp only [nX]; congr 1; cases decide (b≤a)<;>simp
theorem MU (n:Nat):((n:Int)).tmod 32=((n%32:Nat):Int):=by rw [Int.tmod_eq_emod_of_nonneg (by omega)]; omega
theorem IE (s:Aa):eO s=some (Vc s):=by
 simp only [eO,FJ,Option.bind_some,Vc]
 congr 1
 cases (decide (0≤s.at_)&&decide (s.at_≤127))
 ·rfl
 ·simp only [cond_true,Bool.true_and]
  by_cases h:s.data.length=32
  ·simp [h]
  ·have:((s.data.length:Int)==32)=false:=by simpa using (by omega:¬((s.data.length:Int)=32))
   simp [h,this]
theorem IB (d:Af) (hw:d.Ab.length≤1048576):CP d=some (Uu d):=by
 have e:=CW d.Ab (fun z=>eO z) Vc (fun x _=>IE x) (by omega)
 have e2:CT d.Ab=some (decide (d.Ab.length≤4096)):=by
  simp only [CT]; congr 1; simp; omega
 have hA:(bif (((d.held.length:Int)).tmod 32==0) then (decide ((d.held.length:Int)≤4096)) else false)=(decide (d.held.length%32=0)&&decide (d.held.length≤4096)):=by
  rw [MU]
  by_cases h:d.held.length%32=0
  ·have:(((d.held.length%32:Nat):Int)==0)=true:=by simpa using (by omega:((d.held.length%32:Nat):Int)=0)
   rw [this]; simp [h]; omega
  ·have:(((d.held.length%32:Nat):Int)==0)=false:=by simpa using (by omega:¬((d.held.length%32:Nat):Int)=0)
   rw [this]; simp [h]
 simp only [CP,hA,e2,e,Bu,beq_true,PL,Option.bind_some]
 congr 1
 unfold Uu
 cases (decide (d.held.length%32=0)&&decide (d.held.length≤4096))<;>cases decide (d.Ab.length≤4096)<;>cases d.Ab.all Vc<;>rfl
theorem MF (a b c:Int):MX a b c=some (decide (b≤a)&&decide (a≤c)):=by
 simp only [MX]; congr 1; cases h:decide (b≤a)<;>simp_all
theorem IG (d:Af) (hw:d.Ab.length≤1048576):CZ d=some (Uu d):=by
 simp only [CZ,Bu,MU]
 by_cases h1:d.held.length%32=0
 rotate_left
 ·have:(((d.held.length%32:Nat):Int) != 0)=true:=by simpa using (by omega:¬((d.held.length%32:Nat):Int)=0)
  rw [this]
  simp [Uu,h1]
 have e1:(((d.held.length%32:Nat):Int) != 0)=false:=by simpa using (by omega:((d.held.length%32:Nat):Int)=0)
 rw [e1]
 by_cases h2:d.held.length≤4096
 rotate_left
 ·rw [decide_eq_true (show (d.held.length:Int)>4096 by omega)]
  simp [Uu,h2]
 rw [decide_eq_false (show ¬(d.held.length:Int)>4096 by omega)]
 by_cases h3:d.Ab.length≤4096
 rotate_left
 ·rw [decide_eq_true (show (d.Ab.length:Int)>4096 by omega)]
  simp [Uu,h3]
 rw [decide_eq_false (show ¬(d.Ab.length:Int)>4096 by omega)]
 simp only [cond_false]
 rw [if_neg (by simp)]
 have key:(Bn (Oq d) 0).bind (fun r=>match r with | .inl ()=>some true | .inr q=>some q)=some (d.Ab.all Vc):=by
  rw [←fH]
  refine gJ (fun k=>Vc (d.Ab[k]?.getD default)) (fun k hk _=>?_) ?_
  ·simp only [Oq]
   rw [if_pos (decide_eq_true (by omega)),Cl hk]
   simp only [Option.bind_some,MF,List.getElem?_eq_getElem hk,Option.getD_some,w1 (show k<4611686018427387904 by omega),Vc]
   cases (decide (0≤d.Ab[k].at_)&&decide (d.Ab[k].at_≤127))
   ·simp
   ·by_cases h:d.Ab[k].data.length=32
    ·have:((d.Ab[k].data.length:Int) != 32)=false:=by simp [h]
     simp [this,h]
    ·have:((d.Ab[k].data.length:Int) != 32)=true:=by simpa using (by omega:¬((d.Ab[k].data.length:Int)=32))
     simp only [Bool.not_true,beq_self_eq_true,if_true,Option.bind_some,Bool.not_false,this,cond_false,decide_eq_false h,Bool.and_false]
  ·simp only [Oq]
   rw [if_neg (by simp)]
 refine Eq.trans ?_ (key.trans ?_)
 ·rfl
 ·simp [Uu,h1,h2,h3]
def Wh (a:Int) (n:Nat):Bool:=decide (0≤a∧a+(n:Int)≤4096)
theorem II (a:Int) (n:Nat) (hn:n≤1048576):DK a (n:Int)=some (Wh a n):=by
 simp only [DK,FJ,Option.bind_some,Bu,Wh]
 congr 1
 by_cases h:0≤a∧a≤4096
 ·rw [decide_eq_true h.1,decide_eq_true h.2,wr ⟨by omega,by omega⟩]
  simp [h.1]
 ·have h1:(decide (0≤a)&&decide (a≤4096))=false:=by
   rw [Bool.and_eq_false_iff]
   rcases Int.lt_or_le a 0 with h2 | h2
   ·exact .inl (decide_eq_false (by omega))
   ·exact .inr (decide_eq_false (by omega))
  rw [h1,decide_eq_false (show ¬(0≤a∧a+(n:Int)≤4096) by omega)]
  rfl
theorem IH (a:Int) (n:Nat) (hn:n≤1048576):kP a (n:Int)=some (Wh a n):=by
 simp only [kP,Bu,Wh]
 rw [wr ⟨by omega,by omega⟩]
 congr 1
 by_cases h:0≤a∧n≤4096
 ·rw [decide_eq_true (show a≥0 from h.1),decide_eq_true (show (n:Int)≤4096 by omega)]
  simp only [cond_true]
  by_cases h2:a+(n:Int)≤4096
  ·rw [decide_eq_true (by omega),decide_eq_true ⟨h.1,h2⟩]
  ·rw [decide_eq_false (by omega),decide_eq_false (by omega)]
 ·have h1:(bif decide (a≥0) then decide ((n:Int)≤4096) else false)=false:=by
   rcases Int.lt_or_le a 0 with h2 | h2
   ·rw [decide_eq_false (show ¬a≥0 by omega)]; rfl
   ·rw [decide_eq_true (show a≥0 by omega),decide_eq_false (by omega)]; rfl
  rw [h1,decide_eq_false (show ¬(0≤a∧a+(n:Int)≤4096) by omega)]
  rfl
theorem Gc.fit {d:Af} (h:Gc d):Kh d:=⟨by have:=h.2.1; omega,by have:=h.2.2.1; omega,fun s hs=>by unfold Gp; have:=(h.2.2.2 s hs).2; omega⟩
theorem Tb:Kh (Af.mk [] []):=kC.fit
end Go.Ev
end
section
set_option maxHeartbeats 1000000
namespace Go.Ev
def dN (d:Af):Prop:=d.held.length%32=0∧d.held.length≤4096∧d.Ab.length≤8192∧∀s∈d.Ab,Qy s
theorem Gc.w {d:Af} (h:Gc d):dN d:=⟨h.1,h.2.1,by have:=h.2.2.1; omega,h.2.2.2⟩
theorem kN (d:Af) (h:dN d):Ym d=some (Bx d):=by
 have hh:=h.2.1; have hw:=h.2.2.1
 have hl:=Ly d.Ab d.held h.2.2.2 (by omega) h.1 h.2.1 (step:=If d) (fun k hk p p1 p2=>by
  simp only [If]
  rw [if_pos (decide_eq_true (by omega)),Cl hk]
  simp only [Option.bind_some,cD p _ (h.2.2.2 _ (List.getElem_mem hk)) (by omega),w1 (show k<4611686018427387904 by omega)]) (fun p=>by
  simp only [If]
  rw [if_neg (by simp)])
 simp only [Ym,Me d.held (by omega),Option.bind_some,hl]
 rfl
theorem kT (d:Af) (h:dN d):Uv d=some (Bx d):=by
 have hh:=h.2.1; have hw:=h.2.2.1
 have hl:=Ly d.Ab d.held h.2.2.2 (by omega) h.1 h.2.1 (step:=Ih d) (fun k hk p p1 p2=>by
  simp only [Ih]
  rw [if_pos (decide_eq_true (by omega)),Cl hk]
  simp only [Option.bind_some,cH p _ (h.2.2.2 _ (List.getElem_mem hk)) (by omega) p1,w1 (show k<4611686018427387904 by omega)]) (fun p=>by
  simp only [Ih]
  rw [if_neg (by simp)])
 simp only [Uv,List.nil_append]
 rw [if_pos (by simp; omega),hl]
 rfl
theorem Xm (d:Af) (h:dN d):(Bx d).length%32=0∧(Bx d).length≤4096∧d.held.length≤(Bx d).length:=Te d.Ab d.held h.2.2.2 h.1 h.2.1
theorem nK (d:Af) (h:Gc d) (k:Nat) (data:List UInt8) (hk:k+data.length≤4096):dN (Jz d k data):=by
 unfold Jz
 split
 ·exact h.w
 ·have hw:=h.2.2.1
  refine ⟨h.1,h.2.1,by simp only [List.length_append,fM]; omega,fun s hs=>?_⟩
  rcases List.mem_append.1 hs with hs | hs
  ·exact h.2.2.2 s hs
  ·simp only [Ng,List.mem_map,List.mem_range'_1] at hs
   obtain ⟨j,⟨hj1,hj2⟩,rfl⟩:=hs
   exact ⟨⟨by simp only; omega,by simp only; omega⟩,Sw _ _ (by rw [Xy]; omega)⟩
theorem kF (d:Af) (h:dN d):Gc (Af.mk (Bx d) []):=⟨(Xm d h).1,(Xm d h).2.1,by simp,by simp⟩
theorem fL (b:List UInt8) (hb:b.length≤1048576):∃r:List (List UInt8)×Int,eP b=some r∧∃k:Nat,r.2=(k:Int)∧k≤b.length:=by
 obtain ⟨r,h1,h2⟩:=cM (step:=Ig b) (Yc b) (fun s=>((b.length:Int)-s.2).toNat) (Yc b) ([],0) ⟨0,rfl,by omega,by simp⟩ (fun s hs=>by
  rcases Wk b hb s hs with ⟨s',h1,h2,h3⟩ | h
  ·exact .inl ⟨s',h1,h2.1,h3⟩
  ·exact .inr ⟨_,h,hs⟩)
 obtain ⟨k,e1,e2,_⟩:=h2
 refine ⟨r,?_,k,e1,e2⟩
 simp only [eP,h1,Option.bind_some]
theorem gL (d:Af) (h:Gc d) (p:List UInt8) (hp:p.length≤2000):
  ∃r:Af×Int,kO d p=some r∧Gc r.1∧((Uv d).bind fun r6=>(kS r6).bind fun r8=>(eT p).bind fun r10=>(kP r8.2 (r10.length:Int)).bind fun r12=>
   if (!r12)=true then some ((Af.mk ([]:List UInt8) ([]:List Aa)),9) else (kQ d r8.2 r10).bind fun r15=>(Uv r15).bind fun r17=>some ((Af.mk r17 ([]:List Aa)),0))=some r:=by
 have hr:=Xm d h.w
 obtain ⟨q,q1,k,q2,q3⟩:=fL (Bx d) (by omega)
 have hfl:(Db p).length≤1048576:=by simp; omega
 simp only [kO]
 rw [if_neg (by simp; omega),kN d h.w,kT d h.w]
 simp only [Option.bind_some]
 rw [fK (Bx d) (by omega),q1]
 simp only [Option.bind_some,CY p (by omega),cC p (by omega),q2,II _ _ hfl,IH _ _ hfl]
 by_cases c:k+(Db p).length≤4096
 ·have hb:Wh (k:Int) (Db p).length=true:=decide_eq_true ⟨by omega,by omega⟩
  have hw:=nK d h k (Db p) c
  simp only [hb,Bool.not_true,Bool.false_eq_true,if_false,DM d h k (Db p) c,DA d h k (Db p) c,Option.bind_some,ID,kN _ hw,kT _ hw]
  exact ⟨_,rfl,kF _ hw,rfl⟩
 ·have hb:Wh (k:Int) (Db p).length=false:=decide_eq_false (by omega)
  simp only [hb,Bool.not_false,if_true]
  exact ⟨_,rfl,kC,rfl⟩
theorem oE (d:Af) (h:Kh d) (p:List UInt8):∃r:Af×Int,kK d p=some r∧CR d p=some r∧Kh r.1:=by
 simp only [kK,CR,IC,Option.bind_some]
 by_cases h1:p.length≤65536
 rotate_left
 ·rw [decide_eq_false (show ¬(p.length:Int)≤65536 by omega),decide_eq_true (show (p.length:Int)>65536 by omega)]
  exact ⟨_,rfl,rfl,Tb⟩
 rw [decide_eq_true (show (p.length:Int)≤65536 by omega),decide_eq_false (show ¬(p.length:Int)>65536 by omega),IB d h.2.1,IG d h.2.1]
 simp only [Bool.not_true,Bool.false_eq_true,if_false,Option.bind_some]
 cases hb:Uu d
 ·exact ⟨_,rfl,rfl,Tb⟩
 have hD:=(kB d).1 hb
 simp only [Bool.not_true,Bool.false_eq_true,if_false]
 by_cases h2:p.length≤2000
 ·obtain ⟨r,e1,e2,e3⟩:=gL d hD p h2
  rw [e1,decide_eq_false (show ¬(p.length:Int)>2000 by omega)]
  simp only [Bool.false_eq_true,if_false,Option.bind_some]
  exact ⟨_,rfl,e3,e2.fit⟩
 ·simp only [kO]
  rw [decide_eq_true (show (p.length:Int)>2000 by omega)]
  exact ⟨_,rfl,rfl,Tb⟩
theorem kJ (a0:Af) (a1:List UInt8) (o:Qu a0) (_:MO Yz a1):IA a0 a1=some true:=by
 simp only [IA]
 by_cases hd:a1.length≤1048576
 rotate_left
 ·rw [decide_eq_true (by omega)]; rfl
 rw [decide_eq_false (by omega)]
 simp only [Bool.false_eq_true,if_false]
 obtain ⟨r,r1,r2,r3⟩:=IU a0 o 1048576 (by omega)
 rw [r1]
 simp only [Option.bind_some]
 by_cases hr:r<0
 ·rw [decide_eq_true hr]; rfl
 rw [decide_eq_false hr]
 have hf:=r3 (by omega)
 obtain ⟨w,w1,w2,hg⟩:=oE a0 hf a1
 obtain ⟨n,p,q,m1,m2,m3,m4,m5,m6⟩:=Yw a0 hf 1 (by omega)
 obtain ⟨n',p',q',k1,k2,k3,k4,k5,k6⟩:=Yw w.1 hg 1 (by omega)
 have e1:(w.2 != w.2)=false:=by simp
 simp only [Bool.false_eq_true,if_false,IW a0 hf,Xd a1 hd,w1,w2,Option.bind_some,Vt _ hg,Vt _ hf,Qm a1 hd,Bool.not_true,cond_false,e1,
  m1,m2,m3,if_true,Xe a1 n ⟨by omega,by omega⟩ hd,marked_len,decide_eq_false (show ¬(n+(a1.length:Int)<0) by omega),beq_self_eq_true,Bu,k1,k2,k3,k6,decide_eq_false (show ¬(n'<0) by omega),bne_self_eq_false]
end Go.Ev
end
