/- The plain part of the proof: what the functions compute answers as the law says. -/
import Derived.Test.YtdmclbbhhcpjfaaQvL
import Derived.Test.YtdmclbbhhcpjfaaQvM
import Derived.Test.YtdmclbbhhcpjfaaQgD
set_option linter.all false
section
namespace Go.Ev
noncomputable def tf (P:Prop):Bool:=@decide P (Classical.propDecidable P)
@[simp] theorem tf_iff {P:Prop}:tf P=true↔P:=by unfold tf; exact @decide_eq_true_iff P (Classical.propDecidable P)
@[simp] theorem tf_false {P:Prop}:tf P=false↔¬P:=by rw [←Bool.not_eq_true,tf_iff]
abbrev IW (n:Int):Prop := -9223372036854775808≤n∧n≤9223372036854775807
theorem wr {n:Int} (h:IW n):IntKind.i64.wrap n=n:=by
 obtain ⟨h1,h2⟩:=h
 have e:IntKind.i64.wrap n=if n%18446744073709551616≥9223372036854775808 then n%18446744073709551616-18446744073709551616 else n%18446744073709551616:=by
  simp [IntKind.wrap,IntKind.bits,IntKind.signed]
 rw [e]
 split<;>omega
theorem xJ {α:Type} {l:List α} {k:Nat}:Hh l (k:Int)=l[k]? := by
 unfold Hh
 rw [if_pos (by omega)]
 simp
theorem Dv {α:Type} {l:List α} {k:Nat} (h:k<l.length):Hh l (k:Int)=some l[k]:=by
 rw [xJ,List.getElem?_eq_getElem h]
section
variable {σ ρ:Type} {step:σ→Option (σ⊕ρ)}
theorem Nv (st:Nat→σ):∀n,(∀k,k<n→step (st k)=some (.inl (st (k+1))))→Cb step (st 0)=Cb step (st n)
 | 0,_=>rfl
 | n+1,h=>by
  rw [Nv st n fun k hk=>h k (by omega),Lj (h n (by omega))]
theorem Dc (st:Nat→σ) (n:Nat) (r:ρ) (h:∀k,k<n→step (st k)=some (.inl (st (k+1)))) (he:step (st n)=some (.inr r)):Cb step (st 0)=some r:=by
 rw [Nv st n h,Ic he]
theorem gW {n:Nat} {ok:Nat→Prop} (h:¬ ∀k,k<n→ok k):∃k,k<n∧(∀j,j<k→ok j)∧¬ok k:=by
 obtain ⟨k,hk⟩:=Classical.not_forall.1 h
 rw [Classical.not_imp] at hk
 obtain ⟨h1,h2⟩:=hk
 induction k using Nat.strongRecOn with
 | _ k ih=>
  by_cases hex:∃j,j<k∧¬ok j
  ·obtain ⟨j,hj,hn⟩:=hex
   exact ih j hj (by omega) hn
  ·exact ⟨k,h1,fun j hj=>Classical.byContradiction fun hn=>hex ⟨j,hj,hn⟩,h2⟩
end
end Go.Ev
end
section
namespace Go.Ev
theorem gV {σ ρ:Type} {step:σ→Option (σ⊕ρ)} (I:σ→Prop) (μ:σ→Nat) (R:ρ→Prop) (s0:σ) (h0:I s0)
  (h:∀s,I s→(∃s',step s=some (.inl s')∧I s'∧μ s'<μ s)∨(∃r,step s=some (.inr r)∧R r)):∃r,Cb step s0=some r∧R r:=by
 have key:∀(n:Nat) (s0:σ),μ s0<n→I s0→∃r,Cb step s0=some r∧R r:=by
  intro n
  induction n with
  | zero=>intro s0 hn; omega
  | succ n ih=>
   intro s0 hn hI
   rcases h s0 hI with ⟨s',h1,h2,h3⟩ | ⟨r,h1,h2⟩
   ·obtain ⟨r,h4,h5⟩:=ih s' (by omega) h2
    exact ⟨r,by rw [Lj h1,h4],h5⟩
   ·exact ⟨r,Ic h1,h2⟩
 exact key (μ s0+1) s0 (by omega) h0
theorem w1 {k:Nat} (h:k<4611686018427387904):IntKind.i64.wrap ((k:Int)+1)=((k+1:Nat):Int):=wr ⟨by omega,by omega⟩
theorem yA {α:Type} (l:List α) (a b:Nat) (h:a≤b) (h2:b≤l.length):cX l (a:Int) (b:Int)=some ((l.take b).drop a):=by
 unfold cX
 rw [if_pos ⟨by omega,by omega,by omega⟩]
 simp
def Nf {α:Type} (l:List α) (p:α→Bool):Int:=match l.findIdx? p with
 | some k=>(k:Int)
 | none => -1
theorem Yw {α:Type} (l:List α) (f:α→Option Bool) (p:α→Bool) (hf:∀x∈l,f x=some (p x)) (hl:l.length≤4611686018427387903) {step:Int→Option (Int⊕(Unit⊕Int))}
  (hs:∀s,step s=if decide (s<(l.length:Int))=true then (Hh l s).bind fun y=>(f y).bind fun r=>if r=true then some (.inr (.inr s)) else some (.inl (IntKind.i64.wrap (s+1))) else some (.inr (.inl ()))):
  (Cb step 0).bind (fun r=>match r with | .inl ()=>some (-1) | .inr q=>some q)=some (Nf l p):=by
 have go:∀k (hk:k<l.length),p l[k]=false→step (k:Int)=some (.inl ((k+1:Nat):Int)):=fun k hk hp=>by
  rw [hs,if_pos (decide_eq_true (by omega)),Dv hk]
  simp [hf _ (List.getElem_mem hk),hp,w1 (show k<4611686018427387904 by omega)]
 unfold Nf
 cases hfi:l.findIdx? p with
 | none=>
  have hall:∀x∈l,p x=false:=by simpa using List.findIdx?_eq_none_iff.1 hfi
  have:=Dc (step:=step) (fun k=>(k:Int)) l.length (.inl ()) (fun k hk=>go k hk (hall _ (List.getElem_mem hk))) (by rw [hs,if_neg (by simp)])
  rw [show (0:Int)=((0:Nat):Int) from rfl,this]
  rfl
 | some k=>
  obtain ⟨hk,hp,hj⟩:=List.findIdx?_eq_some_iff_getElem.1 hfi
  have:=Nv (step:=step) (fun k=>(k:Int)) k (fun j hj'=>go j (by omega) (by simpa using hj j hj'))
  rw [show (0:Int)=((0:Nat):Int) from rfl,this,Ic (r:=.inr (k:Int)) (by
   rw [hs,if_pos (decide_eq_true (by omega)),Dv hk]
   simp [hf _ (List.getElem_mem hk),hp])]
  rfl
theorem Ys {α:Type} (l:List α) (p:α→Bool):decide (Nf l p≥0)=l.any p:=by
 unfold Nf
 cases hfi:l.findIdx? p with
 | none=>
  have hall:∀x∈l,p x=false:=by simpa using List.findIdx?_eq_none_iff.1 hfi
  rw [show l.any p=false from List.any_eq_false.2 fun x hx=>by simp [hall x hx]]
  rfl
 | some k=>
  obtain ⟨hk,hp,hj⟩:=List.findIdx?_eq_some_iff_getElem.1 hfi
  rw [show l.any p=true from List.any_eq_true.2 ⟨_,List.getElem_mem hk,hp⟩]
  simp
theorem kK {α:Type} (l:List α) (p:α→Bool):(!l.any fun x => !p x)=l.all p:=by
 induction l with
 | nil=>rfl
 | cons x r ih=>simp only [List.any_cons,List.all_cons,Bool.not_or,Bool.not_not,ih]
theorem bG {α β:Type} (l:List β) (F:β→α) (z:α) {step:List α×Int→Option ((List α×Int)⊕List α)}
  (hs:∀k (hk:k<l.length) (p:List α),p.length=l.length→step (p,(k:Int))=some (.inl (p.set k (F l[k]),((k+1:Nat):Int)))) (he:∀p:List α,p.length=l.length→step (p,(l.length:Int))=some (.inr p)):
  Cb step (List.replicate l.length z,0)=some (l.map F):=by
 have h:=Dc (step:=step) (fun k=>((l.take k).map F++List.replicate (l.length-k) z,(k:Int))) l.length (l.map F) (fun k hk=>by
  rw [hs k hk _ (by simp; omega)]
  congr 3
  rw [List.set_append,if_neg (by simp; omega),List.take_succ_eq_append_getElem hk,List.map_append,List.append_assoc]
  congr 1
  have e:l.length-k=(l.length-(k+1))+1:=by omega
  have e2:k-((l.take k).map F).length=0:=by simp; omega
  rw [e,List.replicate_succ,e2]
  rfl) (by
  rw [he _ (by simp)]
  simp)
 simpa using h
theorem Uu {α:Type} (l:List α) {step:Int→Option (Int⊕(Unit⊕Bool))}
  (hs:∀k,k<l.length→step (k:Int)=some (.inl ((k+1:Nat):Int))) (he:step (l.length:Int)=some (.inr (.inl ()))):Cb step 0=some (.inl ()):=
 Dc (step:=step) (fun k=>(k:Int)) l.length (.inl ()) hs he
def Dx {α:Type} (mk:Int→α→α) (w:Nat) (l:List α) (a:Int):List α:=l.mapIdx fun i x=>mk (a+(w:Int)*(i:Int)) x
@[simp] theorem marked_len {α:Type} (mk:Int→α→α) (w:Nat) (l:List α) (a:Int):(Dx mk w l a).length=l.length:=by simp [Dx]
theorem Za {α:Type} (mk:Int→α→α) (w:Nat) (l:List α) (a:Int) (k:Nat) (h:k<(Dx mk w l a).length):
  (Dx mk w l a)[k]=mk (a+(w:Int)*(k:Int)) (l[k]'(by simpa using h)):=by simp [Dx]
theorem cP {α:Type} (mk:Int→α→α) (w:Nat) (l:List α) (a:Int) {step:List α×Int×Int→Option ((List α×Int×Int)⊕(List α×Int))}
  (hs:∀k (p:List α) (hp:p.length=l.length) (hk:k<l.length),step (p,a+(w:Int)*(k:Int),(k:Int))=some (.inl (p.set k (mk (a+(w:Int)*(k:Int)) (p[k]'(by omega))),a+(w:Int)*((k+1:Nat):Int),((k+1:Nat):Int))))
  (he:∀(p:List α) c,p.length=l.length→step (p,c,(l.length:Int))=some (.inr (p,c))):
  Cb step (l,a,0)=some (Dx mk w l a,a+(w:Int)*(l.length:Int)):=by
 have h:=Dc (step:=step) (fun k=>(l.mapIdx (fun i x=>if i<k then mk (a+(w:Int)*(i:Int)) x else x),a+(w:Int)*(k:Int),(k:Int))) l.length (Dx mk w l a,a+(w:Int)*(l.length:Int)) (fun k hk=>by
  rw [hs k _ (by simp) hk]
  congr 3
  apply List.ext_getElem
  ·simp
  ·intro j h1 h2
   simp only [List.length_set,List.length_mapIdx] at h1
   simp only [List.getElem_set,List.getElem_mapIdx]
   by_cases e:k=j
   ·subst e; simp
   ·rw [if_neg e]
    by_cases e2:j<k
    ·simp [e2,show j<k+1 by omega]
    ·simp [e2,show ¬j<k+1 by omega]) (by
  rw [he _ _ (by simp)]
  congr 3
  unfold Dx
  apply List.ext_getElem
  ·simp
  ·intro j h1 h2
   simp only [List.length_mapIdx] at h1
   simp [h1])
 simp only [Nat.not_lt_zero,if_false] at h
 have e0:l.mapIdx (fun (_:Nat) (x:α)=>x)=l:=by
  apply List.ext_getElem
  ·simp
  ·intro j h1 h2; simp
 have h':Cb step (l.mapIdx (fun (_:Nat) (x:α)=>x),a+(w:Int)*((0:Nat):Int),((0:Nat):Int))=some (Dx mk w l a,a+(w:Int)*(l.length:Int)):=h
 rw [e0] at h'
 simpa using h'
theorem dT {n:Nat} (ok:Nat→Bool) {step:Int→Option (Int⊕(Unit⊕Bool))}
  (hs:∀k,k<n→(∀j,j<k→ok j=true)→step (k:Int)=if (!ok k)=true then some (.inr (.inr false)) else some (.inl ((k+1:Nat):Int))) (he:step (n:Int)=some (.inr (.inl ()))):
  (Cb step 0).bind (fun r=>match r with | .inl ()=>some true | .inr q=>some q)=some ((List.range n).all ok):=by
 by_cases h:∀k,k<n→ok k=true
 ·have:=Dc (step:=step) (fun k=>(k:Int)) n (.inl ()) (fun k hk=>by rw [hs k hk (fun j hj=>h j (by omega)),h k hk]; rfl) he
  rw [show (0:Int)=((0:Nat):Int) from rfl,this]
  rw [show (List.range n).all ok=true from List.all_eq_true.2 fun x hx=>h x (List.mem_range.1 hx)]
  rfl
 ·obtain ⟨k,hk,hj,hn⟩:=gW h
  have hf:ok k=false:=by simpa using hn
  have:=Nv (step:=step) (fun k=>(k:Int)) k (fun j hj'=>by rw [hs j (by omega) (fun i hi=>hj i (by omega)),hj j hj']; rfl)
  rw [show (0:Int)=((0:Nat):Int) from rfl,this,Ic (r:=.inr false) (by rw [hs k hk hj,hf]; rfl)]
  rw [show (List.range n).all ok=false from List.all_eq_false.2 ⟨k,List.mem_range.2 hk,by simp [hf]⟩]
  rfl
theorem cU {α:Type} [Inhabited α] (l:List α) (p:α→Bool):((List.range l.length).all fun k=>p (l[k]?.getD default))=l.all p:=by
 rw [Bool.eq_iff_iff]
 simp only [List.all_eq_true,List.mem_range]
 constructor
 ·intro h x hx
  obtain ⟨k,hk,rfl⟩:=List.getElem_of_mem hx
  have:=h k hk
  rwa [List.getElem?_eq_getElem hk] at this
 ·intro h k hk
  rw [List.getElem?_eq_getElem hk]
  exact h _ (List.getElem_mem hk)
end Go.Ev
end
section
namespace Go.Ev
def Ik {α:Type} (wd:α→Nat):List α→Nat
 | []=>0
 | x::r=>wd x+Ik wd r
def Fw {α:Type} (mk:Int→α→α) (wd:α→Nat):List α→Int→List α
 | [],_=>[]
 | x::r,a=>mk a x::Fw mk wd r (a+(wd x:Int))
@[simp] theorem markv_len {α:Type} (mk:Int→α→α) (wd:α→Nat):∀(l:List α) (a:Int),(Fw mk wd l a).length=l.length
 | [],_=>rfl
 | x::r,a=>by simp [Fw,markv_len mk wd r]
theorem Wd {α:Type} {wd:α→Nat} {B:Nat}:∀ {l:List α},(∀x∈l,wd x≤B)→Ik wd l≤B*l.length
 | [],_=>by simp [Ik]
 | x::r,h=>by
  have h1:=h x (by simp)
  have h2:=Wd (l:=r) (fun y hy=>h y (by simp [hy]))
  simp only [Ik,List.length_cons,Nat.mul_add,Nat.mul_one]
  omega
theorem Sb {α:Type} (mk:Int→α→α) (wd:α→Nat) (P:α→Prop) (B:Int) {step:List α×Int×Int→Option ((List α×Int×Int)⊕(List α×Int))}
  (hs:∀(k:Nat) (p:List α) (c:Int) (x:α),k<p.length→p.length≤1048576→p[k]? = some x→P x→0≤c→c+(wd x:Int)≤B→step (p,c,(k:Int))=some (.inl (p.set k (mk c x),c+(wd x:Int),((k+1:Nat):Int))))
  (he:∀(p:List α) c,step (p,c,(p.length:Int))=some (.inr (p,c))):
  ∀(rest pre:List α) (c:Int),pre.length+rest.length≤1048576→(∀x∈rest,P x)→0≤c→c+(Ik wd rest:Int)≤B →
   Cb step (pre++rest,c,(pre.length:Int))=some (pre++Fw mk wd rest c,c+(Ik wd rest:Int))
 | [],pre,c,_,_,_,_=>by
  refine Ic ?_
  have:=he pre c
  simpa [Fw,Ik] using this
 | x::r,pre,c,hl,hP,h0,hB=>by
  simp only [Ik] at hB ⊢
  have hx:(pre++x::r)[pre.length]? = some x:=by simp
  have h1:=hs pre.length (pre++x::r) c x (by simp) (by simpa using hl) hx (hP x (by simp)) h0 (by omega)
  rw [Lj h1]
  have e:(pre++x::r).set pre.length (mk c x)=(pre++[mk c x])++r:=by
   rw [List.set_append,if_neg (by omega),Nat.sub_self]; simp
  have ih:=Sb mk wd P B hs he r (pre++[mk c x]) (c+(wd x:Int)) (by simp only [List.length_append,List.length_cons,List.length_nil] at hl ⊢; omega) (fun y hy=>hP y (by simp [hy])) (by omega) (by omega)
  rw [e]
  rw [show (pre++[mk c x]).length=pre.length+1 by simp] at ih
  rw [ih]
  simp only [Fw,List.append_assoc,List.singleton_append]
  congr 2
  push_cast; omega
theorem Rq {α:Type} (mk:Int→α→α) (wd:α→Nat) (P:α→Prop) (B:Int) (L:List α) (hL:L.length≤1048576) {step:Int×Int→Option ((Int×Int)⊕(Int⊕Int))}
  (hs:∀(k:Nat) (c:Int) (x:α),k<L.length→L[k]? = some (mk c x)→P x→0≤c→c+(wd x:Int)≤B→step (c,(k:Int))=some (.inl (c+(wd x:Int),((k+1:Nat):Int))))
  (he:∀c,step (c,(L.length:Int))=some (.inr (.inl c))):
  ∀(rest pre:List α) (c:Int),L=pre++Fw mk wd rest c→(∀x∈rest,P x)→0≤c→c+(Ik wd rest:Int)≤B →
   Cb step (c,(pre.length:Int))=some (.inl (c+(Ik wd rest:Int)))
 | [],pre,c,hE,_,_,_=>by
  refine Ic ?_
  have:=he c
  rw [hE] at this
  simpa [Fw,Ik] using this
 | x::r,pre,c,hE,hP,h0,hB=>by
  simp only [Ik] at hB ⊢
  simp only [Fw] at hE
  have hk:pre.length<L.length:=by rw [hE]; simp
  have hx:L[pre.length]? = some (mk c x):=by rw [hE]; simp
  rw [Lj (hs pre.length c x hk hx (hP x (by simp)) h0 (by omega))]
  have ih:=Rq mk wd P B L hL hs he r (pre++[mk c x]) (c+(wd x:Int)) (by rw [hE]; simp) (fun y hy=>hP y (by simp [hy])) (by omega) (by omega)
  rw [show (pre++[mk c x]).length=pre.length+1 by simp] at ih
  rw [ih]
  congr 2
  push_cast; omega
theorem jH {α:Type} (l:List α) (hl:l.length≤4611686018427387903) (Q:α→Prop) (n:Int) (hn:n≤1048576) {step:Int×Int→Option ((Int×Int)⊕(Int⊕Int))}
  (hs:∀(k:Nat) (c:Int) (hk:k<l.length),0≤c→c≤1048576→(step (c,(k:Int))=some (.inr (.inr (-1))))∨∃c',0≤c'∧c'≤c∧Q l[k]∧step (c,(k:Int))=some (.inl (c',((k+1:Nat):Int))))
  (he:∀c,step (c,(l.length:Int))=some (.inr (.inl c))) (h0:0≤n):
  ∃r,Cb step (n,0)=some r∧(r = .inr (-1)∨∃c,r = .inl c∧0≤c∧c≤n∧∀x∈l,Q x):=by
 refine gV (fun s=>∃k:Nat,s.2=(k:Int)∧k≤l.length∧0≤s.1∧s.1≤n∧∀x∈l.take k,Q x) (fun s=>l.length-s.2.toNat) _ (n,0) ⟨0,rfl,Nat.zero_le _,h0,Int.le_refl _,by simp⟩ ?_
 rintro ⟨c,kk⟩ ⟨k,rfl,hk,c0,c1,hq⟩
 dsimp only at c0 c1 ⊢
 by_cases h:k<l.length
 ·rcases hs k c h c0 (by omega) with h1 | ⟨c',d0,d1,d2,h1⟩
  ·exact .inr ⟨_,h1,.inl rfl⟩
  ·refine .inl ⟨_,h1,⟨k+1,rfl,h,d0,by dsimp only; omega,fun x hx=>?_⟩,?_⟩
   ·rw [List.take_succ_eq_append_getElem h] at hx
    rcases List.mem_append.1 hx with hx | hx
    ·exact hq x hx
    ·rw [List.mem_singleton] at hx; rw [hx]; exact d2
   ·simp only [Int.toNat_natCast]; omega
 ·obtain rfl:k=l.length:=by omega
  rw [List.take_length] at hq
  exact .inr ⟨_,he c,.inr ⟨c,rfl,c0,c1,hq⟩⟩
end Go.Ev
end
section
namespace Go.Ev
theorem xI (l:List Aa) (f:Aa→Option Bool) (p:Aa→Bool) (hf:∀x∈l,f x=some (p x)) (hl:l.length≤4611686018427387903):BU l f=some (Nf l p):=Yw l f p hf hl (fun _=>rfl)
theorem xC (l:List Aa) (f:Aa→Option Bool) (p:Aa→Bool) (hf:∀x∈l,f x=some (p x)) (hl:l.length≤4611686018427387903):xB l f=some (l.any p):=by
 unfold xB; rw [xI l f p hf hl]; simp only [Option.bind_some,Ys]
theorem wG (l:List Aa) (f:Aa→Option Bool) (p:Aa→Bool) (hf:∀x∈l,f x=some (p x)) (hl:l.length≤4611686018427387903):wF l f=some (l.all p):=by
 unfold wF; rw [xC l _ (fun x => !p x) (fun x hx=>by simp [xD,hf x hx]) hl]; simp only [Option.bind_some,kK]
theorem Qs (l:List UInt8) (hl:l.length≤1048576):Yv l=some l:=by
 unfold Yv; rw [if_pos (by simp; omega)]
end Go.Ev
end
section
namespace Go.Ev
def Qz (s:Aa):Prop:=(0≤s.at_∧s.at_≤127)∧s.data.length=32
def Fp (d:Af):Prop:=d.held.length%32=0∧d.held.length≤4096∧d.Ab.length≤4096∧∀s∈d.Ab,Qz s
def Ee (b:List UInt8) (n:Nat):List UInt8:=b++List.replicate (n-b.length) 0
@[simp] theorem padB_len (b:List UInt8) (n:Nat):(Ee b n).length=max b.length n:=by simp [Ee]; omega
def Kq (b:List UInt8) (k:Nat) (d:List UInt8):List UInt8:=(Ee b (32*(k+1))).take (32*k)++d++(Ee b (32*(k+1))).drop (32*k+32)
theorem iS (b:List UInt8) (k:Nat) (d:List UInt8) (h:d.length=32):(Kq b k d).length=max b.length (32*(k+1)):=by
 simp [Kq,h]; omega
def Ch (d:Af):List UInt8:=d.Ab.foldl (fun b s=>Kq b s.at_.toNat s.data) d.held
theorem Wy (l:List Aa) (b:List UInt8) (hl:∀s∈l,Qz s) (h1:b.length%32=0) (h2:b.length≤4096):
  (l.foldl (fun b s=>Kq b s.at_.toNat s.data) b).length%32=0∧(l.foldl (fun b s=>Kq b s.at_.toNat s.data) b).length≤4096∧b.length≤(l.foldl (fun b s=>Kq b s.at_.toNat s.data) b).length:=by
 induction l generalizing b with
 | nil=>exact ⟨h1,h2,Nat.le_refl _⟩
 | cons s r ih=>
  have hs:=hl s (by simp)
  have hlen:=iS b s.at_.toNat s.data hs.2
  have:=hs.1
  obtain ⟨i1,i2,i3⟩:=ih (Kq b s.at_.toNat s.data) (fun x hx=>hl x (by simp [hx])) (by rw [hlen]; omega) (by rw [hlen]; omega)
  exact ⟨i1,i2,by have:=i3; simp only [List.foldl_cons]; omega⟩
theorem Ur (d:Af) (h:Fp d):(Ch d).length%32=0∧(Ch d).length≤4096∧d.held.length≤(Ch d).length:=Wy d.Ab d.held h.2.2.2 h.1 h.2.1
theorem jT {k:Nat} (h:k≤1099511627776):IntKind.i64.wrap (32*(k:Int))=((32*k:Nat):Int):=by rw [wr ⟨by omega,by omega⟩]; omega
theorem wr32' {k:Nat} (h:k≤1099511627776):IntKind.i64.wrap ((k:Int)*32)=((32*k:Nat):Int):=by rw [wr ⟨by omega,by omega⟩]; omega
theorem Sm (b:List UInt8) (k:Nat) (d:List UInt8) (h:d.length=32) (hb:32*(k+1)≤b.length):
  ((cX b ((32*k:Nat):Int) (b.length:Int)).bind fun s=>Cd (ovl b (((32*k:Nat):Int)).toNat (d.take s.length)) fun v=>some v)=some (Kq b k d):=by
 rw [yA _ _ _ (by omega) (Nat.le_refl _)]
 simp only [Option.bind_some,Cd,Int.toNat_natCast,List.take_length,List.length_drop]
 rw [List.take_of_length_le (by omega)]
 congr 1
 have hp:Ee b (32*(k+1))=b:=by simp [Ee,show 32*(k+1)-b.length=0 by omega]
 unfold Kq
 rw [hp]
 apply List.ext_getElem
 ·simp [ovl]; omega
 ·intro i h1 h2
  simp only [ovl,List.length_mapIdx] at h1
  simp only [ovl,List.getElem_mapIdx,List.getElem_append,List.length_take,List.length_append]
  by_cases c1:32*k≤i
  ·rw [if_pos c1]
   by_cases c2:i<32*k+32
   ·rw [dif_pos (by omega),dif_neg (by omega),List.getElem?_eq_getElem (by omega)]
    simp only [Option.getD_some]
    congr 1; omega
   ·rw [dif_neg (by omega),List.getElem?_eq_none (by omega)]
    simp only [Option.getD_none,List.getElem_drop]
    congr 1; omega
  ·rw [if_neg c1,dif_pos (by omega),dif_pos (by omega),List.getElem_take]
theorem wX (b:List UInt8) (s:Aa) (hs:Qz s) (hb:b.length≤1048576):wW b s=some (Kq b s.at_.toNat s.data):=by
 obtain ⟨k,hk⟩:∃k:Nat,s.at_=k:=⟨s.at_.toNat,by have:=hs.1; omega⟩
 have hk1:k≤127:=by have:=hs.1; omega
 have e1:IntKind.i64.wrap (s.at_+1)=((k+1:Nat):Int):=by rw [hk]; exact w1 (by omega)
 have e2:=jT (show k+1≤1099511627776 by omega)
 have e3:IntKind.i64.wrap (32*s.at_)=((32*k:Nat):Int):=by rw [hk]; exact jT (by omega)
 simp only [wW,Cd,e1,e2]
 have e4:s.at_.toNat=k:=by omega
 rw [e4]
 by_cases hlt:b.length<32*(k+1)
 ·have e5:IntKind.i64.wrap (((32*(k+1):Nat):Int)-(b.length:Int))=((32*(k+1)-b.length:Nat):Int):=by rw [wr ⟨by omega,by omega⟩]; omega
  rw [if_pos (decide_eq_true (by omega)),e5,if_pos (by omega),if_pos (by omega)]
  simp only [Np,e3,Int.toNat_natCast]
  have hlen:(b++List.replicate (32*(k+1)-b.length) (0:UInt8)).length=32*(k+1):=by simp; omega
  have:=Sm (b++List.replicate (32*(k+1)-b.length) 0) k s.data hs.2 (by omega)
  simp only [Int.toNat_natCast] at this
  rw [this]
  congr 1
  have hp:Ee (b++List.replicate (32*(k+1)-b.length) 0) (32*(k+1))=Ee b (32*(k+1)):=by
   conv=>lhs; unfold Ee
   rw [hlen]
   simp [Ee]
  unfold Kq
  rw [hp]
 ·rw [if_neg (by simp; omega)]
  simp only [Np,e3]
  exact Sm b k s.data hs.2 (by omega)
theorem xG (b:List UInt8) (s:Aa) (hs:Qz s) (hb:b.length≤1048576) (h32:b.length%32=0):xE b s=some (Kq b s.at_.toNat s.data):=by
 obtain ⟨k,hk⟩:∃k:Nat,s.at_=k:=⟨s.at_.toNat,by have:=hs.1; omega⟩
 have hk1:k≤127:=by have:=hs.1; omega
 have e1:IntKind.i64.wrap (s.at_+1)=((k+1:Nat):Int):=by rw [hk]; exact w1 (by omega)
 have e2:=wr32' (show k+1≤1099511627776 by omega)
 have e3:IntKind.i64.wrap (s.at_*32)=((32*k:Nat):Int):=by rw [hk]; exact wr32' (by omega)
 have e4:s.at_.toNat=k:=by omega
 rw [e4]
 obtain ⟨r,h1,h2⟩:=gV (step:=Ns s) (fun t=>(∃n,t=b++List.replicate n 0)∧t.length%32=0∧b.length≤t.length∧t.length≤max b.length (32*(k+1))) (fun t=>1048576+4096-t.length) (fun r=>r=Ee b (32*(k+1))) b ⟨⟨0,by simp⟩,h32,Nat.le_refl _,by omega⟩ (by
  rintro t ⟨⟨n,hn⟩,t1,t2,t3⟩
  simp only [Ns,Cd,e1,e2]
  by_cases hlt:t.length<32*(k+1)
  ·rw [if_pos (decide_eq_true (by omega)),if_pos (by omega),if_pos (by omega)]
   refine .inl ⟨_,rfl,⟨⟨n+32,?_⟩,by simp; omega,by simp; omega,by simp; omega⟩,by simp; omega⟩
   rw [hn,List.append_assoc,List.replicate_append_replicate]
   rfl
  ·rw [if_neg (by simp; omega)]
   refine .inr ⟨_,rfl,?_⟩
   subst hn
   simp only [List.length_append,List.length_replicate] at t3 hlt
   unfold Ee
   congr 2
   omega)
 subst h2
 simp only [xE,List.nil_append]
 rw [if_pos (by simp; omega),h1]
 simp only [Option.bind_some,e3]
 have:=Sm (Ee b (32*(k+1))) k s.data hs.2 (by simp; omega)
 rw [this]
 congr 1
 have hp:Ee (Ee b (32*(k+1))) (32*(k+1))=Ee b (32*(k+1)):=by
  have e0:32*(k+1)-(Ee b (32*(k+1))).length=0:=by simp; omega
  show Ee b (32*(k+1))++List.replicate (32*(k+1)-(Ee b (32*(k+1))).length) 0=_
  rw [e0]
  simp
 unfold Kq
 rw [hp]
theorem Ud (l:List Aa) (b:List UInt8) (hl:∀s∈l,Qz s) (hn:l.length≤1048576) (h1:b.length%32=0) (h2:b.length≤4096) {step:List UInt8×Int→Option ((List UInt8×Int)⊕List UInt8)}
  (hs:∀k (hk:k<l.length) (p:List UInt8),p.length%32=0→p.length≤4096→step (p,(k:Int))=some (.inl (Kq p l[k].at_.toNat l[k].data,((k+1:Nat):Int)))) (he:∀p,step (p,(l.length:Int))=some (.inr p)):
  Cb step (b,0)=some (l.foldl (fun b s=>Kq b s.at_.toNat s.data) b):=by
 have h:=Dc (step:=step) (fun k=>((l.take k).foldl (fun b s=>Kq b s.at_.toNat s.data) b,(k:Int))) l.length (l.foldl (fun b s=>Kq b s.at_.toNat s.data) b) (fun k hk=>by
  have hf:=Wy (l.take k) b (fun s hs'=>hl s (List.mem_of_mem_take hs')) h1 h2
  rw [hs k hk _ hf.1 hf.2.1,List.take_succ_eq_append_getElem hk,List.foldl_append]
  rfl) (by
  rw [he,List.take_length])
 exact h
theorem wD (d:Af) (h:Fp d):wC d=some (Ch d):=by
 have hh:=h.2.1; have hw:=h.2.2.1
 have hl:=Ud d.Ab d.held h.2.2.2 (by omega) h.1 h.2.1 (step:=Ni d) (fun k hk p p1 p2=>by
  simp only [Ni]
  rw [if_pos (decide_eq_true (by omega)),Dv hk]
  simp only [Option.bind_some,wX p _ (h.2.2.2 _ (List.getElem_mem hk)) (by omega),w1 (show k<4611686018427387904 by omega)]) (fun p=>by
  simp only [Ni]
  rw [if_neg (by simp)])
 simp only [wC,Qs d.held (by omega),Option.bind_some,hl]
 rfl
theorem wV (d:Af) (h:Fp d):wU d=some (Ch d):=by
 have hh:=h.2.1; have hw:=h.2.2.1
 have hl:=Ud d.Ab d.held h.2.2.2 (by omega) h.1 h.2.1 (step:=No d) (fun k hk p p1 p2=>by
  simp only [No]
  rw [if_pos (decide_eq_true (by omega)),Dv hk]
  simp only [Option.bind_some,xG p _ (h.2.2.2 _ (List.getElem_mem hk)) (by omega) p1,w1 (show k<4611686018427387904 by omega)]) (fun p=>by
  simp only [No]
  rw [if_neg (by simp)])
 simp only [wU,List.nil_append]
 rw [if_pos (by simp; omega),hl]
 rfl
def jU (all:List UInt8) (k:Nat) (data:List UInt8):List UInt8:=ovl (Ee all (32*((k+data.length-1) / 32+1))) k data
def bX (all:List UInt8) (k:Nat):List UInt8:=(all.drop (32*k)).take 32
def Qc (all:List UInt8) (a n:Nat):List Aa:=(List.range' a n).map fun (k:Nat)=>Aa.mk (k:Int) (bX all k)
def Cz (d:Af) (k:Nat) (data:List UInt8):Af:=
 if data.length=0 then d else Af.mk d.held (d.Ab++Qc (jU (Ch d) k data) (k / 32) ((k+data.length-1) / 32+1-k / 32))
theorem Rh (all:List UInt8) (k:Nat) (h:32*(k+1)≤all.length):(bX all k).length=32:=by simp [bX]; omega
theorem bD (all:List UInt8) (k:Nat) (h:32*(k+1)≤all.length):cX all ((32*k:Nat):Int) ((32*(k+1):Nat):Int)=some (bX all k):=by
 rw [yA _ _ _ (by omega) h]
 unfold bX
 rw [List.drop_take]
 congr 2
 omega
theorem Wj (all:List UInt8) (k:Nat) (data:List UInt8):(jU all k data).length=max all.length (32*((k+data.length-1) / 32+1)):=by
 unfold jU; rw [xQ,padB_len]
theorem iJ (d:Af) (h:Fp d):xH d=some d:=by
 have hh:=h.2.1; have hw:=h.2.2.1
 have hl:=Dc (step:=Li d) (fun k=>((k:Int),d.Ab.take k)) d.Ab.length d.Ab (fun k hk=>by
  have hd:=(h.2.2.2 _ (List.getElem_mem hk)).2
  simp only [Li]
  rw [if_pos (decide_eq_true (by omega)),Dv hk]
  simp only [Option.bind_some,Qs d.Ab[k].data (by omega),w1 (show k<4611686018427387904 by omega)]
  rw [if_pos (by simp; omega),List.take_succ_eq_append_getElem hk]) (by
  simp only [Li]
  rw [if_neg (by simp),List.take_length])
 have hl':Cb (Li d) (0,([]:List Aa))=some d.Ab:=hl
 simp only [xH,Qs d.held (by omega),Option.bind_some,hl']
theorem Uv (all:List UInt8) (l0:List Aa) (a n:Nat) (hall:32*(a+n)≤all.length) (hn:all.length≤1048576) {step:Int×List Aa→Option ((Int×List Aa)⊕List Aa)}
  (hs:∀k (p:List Aa),a≤k→k<a+n→p.length≤l0.length+n→step ((k:Int),p)=some (.inl (((k+1:Nat):Int),p++[Aa.mk (k:Int) (bX all k)]))) (he:∀p,step (((a+n:Nat):Int),p)=some (.inr p)):
  Cb step ((a:Int),l0)=some (l0++Qc all a n):=by
 have h:=Dc (step:=step) (fun k=>(((a+k:Nat):Int),l0++Qc all a k)) n (l0++Qc all a n) (fun k hk=>by
  rw [hs (a+k) _ (by omega) (by omega) (by simp [Qc]; omega),List.append_assoc]
  congr 4
  unfold Qc
  rw [←List.range'_append_1 (s:=a) (m:=k) (n:=1),List.map_append]
  rfl) (he _)
 simpa [Qc] using h
theorem xA (d:Af) (h:Fp d) (k:Nat) (data:List UInt8) (hk:k+data.length≤4096):wZ d (k:Int) data=some (Cz d k data):=by
 simp only [wZ,iJ d h,Option.bind_some]
 by_cases h0:data.length=0
 ·rw [if_pos (by simp [h0])]
  simp [Cz,h0]
 ·rw [if_neg (by simpa using h0),wD d h]
  obtain ⟨r1,r2,r3⟩:=Ur d h
  have e0:IntKind.i64.wrap ((k:Int)+(data.length:Int))=((k+data.length:Nat):Int):=by rw [wr ⟨by omega,by omega⟩]; omega
  have e1:IntKind.i64.wrap (((k+data.length:Nat):Int)-1)=((k+data.length-1:Nat):Int):=by rw [wr ⟨by omega,by omega⟩]; omega
  have e2:(((k+data.length-1:Nat):Int)).tdiv 32=(((k+data.length-1) / 32:Nat):Int):=by rw [Int.tdiv_eq_ediv_of_nonneg (by omega)]; omega
  generalize hq:(k+data.length-1) / 32=q at e2
  have hq1:q≤128:=by omega
  have e3:IntKind.i64.wrap ((q:Nat):Int)=(q:Int):=wr ⟨by omega,by omega⟩
  have e4:=w1 (show q<4611686018427387904 by omega)
  have e5:=jT (show q+1≤1099511627776 by omega)
  have e6:IntKind.i64.wrap (((k:Int)).tdiv 32)=((k / 32:Nat):Int):=by
   rw [Int.tdiv_eq_ediv_of_nonneg (by omega),wr ⟨by omega,by omega⟩]; omega
  simp only [Option.bind_some,e0,e1,e2,e3,e4,e5,Cd]
  have key:∀p:List UInt8,p=Ee (Ch d) (32*(q+1))→Nq (k:Int) data d (q:Int) p=some (Cz d k data):=by
   rintro p rfl
   have hpl:(Ee (Ch d) (32*(q+1))).length=max (Ch d).length (32*(q+1)):=padB_len _ _
   simp only [Nq]
   rw [yA _ _ _ (by omega) (Nat.le_refl _)]
   simp only [Option.bind_some,e6]
   have hd:(data.take ((Ee (Ch d) (32*(q+1))).take (Ee (Ch d) (32*(q+1))).length |>.drop k).length)=data:=List.take_of_length_le (by simp; omega)
   have hw0:ovl (Ee (Ch d) (32*(q+1))) k data=jU (Ch d) k data:=by unfold jU; rw [hq]
   have hwl:(jU (Ch d) k data).length=max (Ch d).length (32*(q+1)):=by rw [Wj,hq]
   have hle:k / 32≤q:=by omega
   have hw:=h.2.2.1
   have hl:=Uv (jU (Ch d) k data) d.Ab (k / 32) (q+1-k / 32) (by omega) (by omega) (step:=Nr (k:Int) data (q:Int) (Ee (Ch d) (32*(q+1))) ((Ee (Ch d) (32*(q+1))).take (Ee (Ch d) (32*(q+1))).length |>.drop k)) (fun j p j1 j2 j3=>by
    simp only [Nr]
    rw [if_pos (decide_eq_true (by omega)),hd,w1 (show j<4611686018427387904 by omega),jT (show j≤1099511627776 by omega),jT (show j+1≤1099511627776 by omega)]
    simp only [Int.toNat_natCast,hw0]
    rw [bD _ _ (by omega)]
    simp only [Option.bind_some]
    rw [Qs _ (by rw [Rh _ _ (by omega)]; omega)]
    simp only [Option.bind_some]
    rw [if_pos (by simp; omega)]) (fun p=>by
    simp only [Nr]
    rw [if_neg (by simp; omega)])
   rw [hl]
   simp only [Option.bind_some,Cz]
   rw [if_neg h0,hq]
  by_cases hlt:(Ch d).length<32*(q+1)
  ·have e7:IntKind.i64.wrap (((32*(q+1):Nat):Int)-((Ch d).length:Int))=((32*(q+1)-(Ch d).length:Nat):Int):=by rw [wr ⟨by omega,by omega⟩]; omega
   rw [if_pos (decide_eq_true (by omega)),e7,if_pos (by omega),if_pos (by omega)]
   refine key _ ?_
   unfold Ee
   rw [Int.toNat_natCast]
  ·rw [if_neg (by simp; omega)]
   refine key _ ?_
   unfold Ee
   rw [show 32*(q+1)-(Ch d).length=0 by omega]
   simp
end Go.Ev
end
section
namespace Go.Ev
end Go.Ev
end
section
namespace Go.Ev
end Go.Ev
end
section
namespace Go.Ev
theorem Uw (d:Af) (h:Fp d) (k:Nat) (data:List UInt8) (hk:k+data.length≤4096) (hw:(Cz d k data).Ab.length≤4096):Fp (Cz d k data):=by
 unfold Cz at hw ⊢
 split
 ·exact h
 ·rename_i h0
  rw [if_neg h0] at hw
  refine ⟨h.1,h.2.1,hw,fun s hs=>?_⟩
  rcases List.mem_append.1 hs with hs | hs
  ·exact h.2.2.2 s hs
  ·simp only [Qc,List.mem_map,List.mem_range'_1] at hs
   obtain ⟨j,⟨hj1,hj2⟩,rfl⟩:=hs
   exact ⟨⟨by simp only; omega,by simp only; omega⟩,Rh _ _ (by rw [Wj]; omega)⟩
theorem Yq:Fp (Af.mk [] []):=⟨by simp,by simp,by simp,by simp⟩
end Go.Ev
end
section
namespace Go.Ev
def vR (c:Nat):Nat:=if c%2=1 then (c / 2) ^^^ 3988292384 else c / 2
def Wv:Nat→Nat→Nat
 | 0,c=>c
 | n+1,c=>vR (Wv n c)
def vQ (c:Nat) (y:UInt8):Nat:=Wv 8 (c ^^^ y.toNat)
def HW (b:List UInt8):Nat:=(b.foldl vQ 4294967295) ^^^ 4294967295
def AY (n i:Nat):UInt8:=b8 ((n / 2^(8*i):Nat):Int)
def kL (n m:Nat):List UInt8:=(List.range m).map fun j=>AY n (m-1-j)
@[simp] theorem bigB_len (n m:Nat):(kL n m).length=m:=by simp [kL]
end Go.Ev
end
section
namespace Go.Ev
def aL (p:List UInt8):List UInt8:=kL (p.length+1) 2++p
def gH (p:List UInt8):List UInt8:=aL p++kL (HW (aL p)) 4
theorem cK (p:List UInt8):(aL p).length=p.length+2:=by simp [aL]; omega
@[simp] theorem frameB_len (p:List UInt8):(gH p).length=p.length+6:=by simp [gH,cK]
end Go.Ev
end
section
namespace Go.Ev
end Go.Ev
end
section
namespace Go.Ev
theorem wK (d:Af) (h:Fp d) (k:Nat) (data:List UInt8) (hk:k+data.length≤4096):wJ d (k:Int) data=some (Cz d k data):=by
 obtain ⟨r1,r2,r3⟩:=Ur d h
 have hw:=h.2.2.1
 have e0:IntKind.i64.wrap ((k:Int)+(data.length:Int))=((k+data.length:Nat):Int):=by rw [wr ⟨by omega,by omega⟩]; omega
 simp only [wJ,wV d h,Option.bind_some]
 obtain ⟨p,p1,p2⟩:=gV (step:=Nl (k:Int) data) (fun t=>(∃n,t=Ch d++List.replicate n 0)∧(Ch d).length≤t.length∧t.length≤max (Ch d).length (32*((k+data.length+31) / 32))) (fun t=>1048576-t.length)
  (fun r=>r=Ee (Ch d) (32*((k+data.length+31) / 32))∧k+data.length≤r.length∧r.length≤4096) (Ch d) ⟨⟨0,by simp⟩,Nat.le_refl _,by omega⟩ (by
  rintro t ⟨⟨n,hn⟩,t1,t2⟩
  have em:((((t.length:Int)).tmod 32) != 0) = !decide (t.length%32=0):=by
   rw [Int.tmod_eq_emod_of_nonneg (by omega),Bool.eq_iff_iff]; simp; omega
  simp only [Nl,Cd,e0,em]
  by_cases c:t.length<k+data.length∨¬t.length%32=0
  ·rw [if_pos (by
    rcases c with c | c
    ·rw [decide_eq_true (show (t.length:Int)<((k+data.length:Nat):Int) by omega)]; rfl
    ·rw [decide_eq_false c]; cases decide ((t.length:Int)<((k+data.length:Nat):Int))<;>rfl),if_pos (by simp; omega)]
   refine .inl ⟨_,rfl,⟨⟨n+1,?_⟩,by simp; omega,by simp; omega⟩,by simp; omega⟩
   rw [hn,List.append_assoc]
   congr 1
   exact (List.replicate_append_replicate (n:=n) (m:=1) (a:=(0:UInt8)))
  ·rw [if_neg (by
    rw [decide_eq_false (show ¬(t.length:Int)<((k+data.length:Nat):Int) by omega),decide_eq_true (show t.length%32=0 by omega)]; simp)]
   refine .inr ⟨_,rfl,?_,by omega,by omega⟩
   subst hn
   simp only [List.length_append,List.length_replicate] at t1 t2 c
   unfold Ee
   congr 2
   omega)
 obtain ⟨p2,p3,p4⟩:=p2
 rw [p1]
 simp only [Option.bind_some]
 rw [yA _ _ _ (by omega) (Nat.le_refl _)]
 simp only [Option.bind_some,List.nil_append]
 rw [if_pos (by simp; omega)]
 by_cases h0:data.length=0
 ·rw [if_pos (by simp [h0])]
  simp [Cz,h0]
 ·rw [if_neg (by simpa using h0)]
  have hq:32*((k+data.length+31) / 32)=32*((k+data.length-1) / 32+1):=by omega
  have hd:(data.take ((p.take p.length).drop k).length)=data:=List.take_of_length_le (by simp; omega)
  have hw0:ovl p k data=jU (Ch d) k data:=by unfold jU; rw [p2,hq]
  have hwl:=Wj (Ch d) k data
  have e6:IntKind.i64.wrap (((k:Int)).tdiv 32)=((k / 32:Nat):Int):=by
   rw [Int.tdiv_eq_ediv_of_nonneg (by omega),wr ⟨by omega,by omega⟩]; omega
  generalize hqq:(k+data.length-1) / 32=q at *
  have hle:k / 32≤q:=by omega
  have hl:=Uv (jU (Ch d) k data) d.Ab (k / 32) (q+1-k / 32) (by omega) (by omega) (step:=Lc (k:Int) data p ((p.take p.length).drop k)) (fun j l j1 j2 j3=>by
   simp only [Lc,e0,Cd]
   rw [wr32' (show j≤1099511627776 by omega),if_pos (decide_eq_true (by omega)),hd,w1 (show j<4611686018427387904 by omega),wr32' (show j+1≤1099511627776 by omega)]
   simp only [Int.toNat_natCast,hw0]
   rw [bD _ _ (by omega)]
   have hc:=Rh (jU (Ch d) k data) j (by omega)
   simp only [Option.bind_some,List.nil_append]
   rw [if_pos (by simp [hc]),if_pos (by simp; omega)]) (fun l=>by
   simp only [Lc,e0,Cd]
   rw [wr32' (show k / 32+(q+1-k / 32)≤1099511627776 by omega),if_neg (by simp; omega)])
  rw [e6,hl]
  simp only [Option.bind_some,Cz]
  rw [if_neg h0,hqq]
end Go.Ev
end
section
namespace Go.Ev
end Go.Ev
end
section
namespace Go.Ev
end Go.Ev
end
section
namespace Go.Ev
theorem Vo (l:List UInt8) (hl:l.length≤1048576):Vn l=some l:=by
 have h:=bG l id default (step:=Lb l) (fun k hk p hp=>by
  simp only [Lb]
  rw [if_pos (decide_eq_true (by omega)),Dv hk]
  simp only [Option.bind_some]
  rw [Dv (l:=p) (k:=k) (by omega)]
  simp only [Option.bind_some,Int.toNat_natCast]
  rw [List.getElem?_eq_getElem (by omega)]
  simp only [Option.bind_some,w1 (show k<4611686018427387904 by omega)]
  rfl) (fun p hp=>by
  simp only [Lb]
  rw [if_neg (by simp)])
 rw [List.map_id] at h
 unfold Vn
 rw [if_pos (by omega),if_pos (by omega)]
 simp only [Int.toNat_natCast,Cd]
 first
 | (rw [show (Cb (Lb l) (List.replicate l.length default,0))=_ from h]; rfl)
 | (erw [h]; rfl)
theorem Pe (l:List UInt8) (hl:l.length≤1048576):cD l l=some true:=by
 have h:=Uu l (step:=Ng l l) (fun k hk=>by
  simp only [Ng]
  rw [if_pos (decide_eq_true (by omega)),Dv hk]
  simp [w1 (show k<4611686018427387904 by omega)]) (by
  simp only [Ng]
  rw [if_neg (by simp)])
 unfold cD
 rw [if_neg (by simp),h]
 rfl
end Go.Ev
end
section
set_option maxHeartbeats 1000000
namespace Go.Ev
theorem Vp (l:List UInt8) (a:Int) (ha:0≤a∧a≤4611686018427387904) (hl:l.length≤1048576):cE l a=some (a+(l.length:Int),Dx (fun c _=>b8 c) 1 l a):=by
 have h:=cP (fun c _=>b8 c) 1 l a (step:=Nh) (fun k p hp hk=>by
  simp only [Nh]
  rw [if_pos (decide_eq_true (by omega)),Dv (l:=p) (k:=k) (by omega)]
  simp only [Option.bind_some,Int.toNat_natCast]
  rw [List.getElem?_eq_getElem (by omega)]
  have e1:IntKind.i64.wrap (a+((1:Nat):Int)*(k:Int)+1)=a+((1:Nat):Int)*((k+1:Nat):Int):=by rw [wr ⟨by omega,by omega⟩]; omega
  simp only [Option.bind_some,w1 (show k<4611686018427387904 by omega),e1]) (fun p c hp=>by
  simp only [Nh]
  rw [if_neg (by simp; omega)])
 simp only [cE,h,Option.bind_some]
 simp
theorem aI (l:List UInt8) (a:Int) (ha:0≤a∧a≤4611686018427387904) (hl:l.length≤1048576):gO (Dx (fun c _=>b8 c) 1 l a) a=some (a+(l.length:Int)):=by
 have h:=Dc (step:=Lg (Dx (fun c _=>b8 c) 1 l a)) (fun k=>(a+(k:Int),(k:Int))) l.length (.inl (a+(l.length:Int))) (fun k hk=>by
  simp only [Lg]
  rw [if_pos (decide_eq_true (by simp; omega)),Dv (by simp; omega)]
  have e1:IntKind.i64.wrap (a+(k:Int)+1)=a+((k+1:Nat):Int):=by rw [wr ⟨by omega,by omega⟩]; omega
  simp only [Option.bind_some,w1 (show k<4611686018427387904 by omega),e1,Za]
  rw [if_neg (by simp)]) (by
  simp only [Lg]
  rw [if_neg (by simp)])
 have h':Cb (Lg (Dx (fun c _=>b8 c) 1 l a)) (a,0)=some (.inl (a+(l.length:Int))):=by simpa using h
 simp only [gO,h',Option.bind_some]
def Gc (s:Aa):Prop:=s.data.length≤1048576
def Hp (c:Int) (s:Aa):Aa:=Aa.mk c (Dx (fun c _=>b8 c) 1 s.data (c+1))
def Dl (s:Aa):Nat:=s.data.length+1
theorem IS {c:Int} (h:0≤c) (h2:c≤4611686018427387904):IntKind.i64.wrap (c+1)=c+1:=wr ⟨by omega,by omega⟩
theorem wR (l:List Aa) (a:Int) (ha:0≤a∧a≤1099511627776) (hl:l.length≤1048576) (hf:∀s∈l,Gc s):wQ l a=some (a+(Ik Dl l:Int),Fw Hp Dl l a)∧a+(Ik Dl l:Int)≤4398046511104:=by
 have hB:Ik Dl l≤1048577*l.length:=Wd fun x hx=>by have:=hf x hx; unfold Gc at this; unfold Dl; omega
 have hB2:1048577*l.length≤1048577*1048576:=Nat.mul_le_mul_left _ hl
 have h:=Sb Hp Dl Gc 4398046511104 (step:=Lf) (fun k p c x hk hp hx hfx h0 h1=>by
  unfold Dl at h1
  simp only [Lf]
  have hset:(p.set k (Aa.mk c x.data))[k]? = some (Aa.mk c x.data):=by simp [hk]
  have hi:Hh (p.set k (Aa.mk c x.data)) (k:Int)=some (Aa.mk c x.data):=by unfold Hh; rw [if_pos (by omega),Int.toNat_natCast]; exact hset
  have hi0:Hh p (k:Int)=some x:=by unfold Hh; rw [if_pos (by omega),Int.toNat_natCast]; exact hx
  rw [if_pos (decide_eq_true (by omega)),hi0]
  simp only [Option.bind_some,Int.toNat_natCast,hx,hi,hset,IS h0 (show c≤4611686018427387904 by omega),Vp x.data (c+1) ⟨by omega,by omega⟩ hfx,marked_len,if_true,Cd,w1 (show k<4611686018427387904 by omega)]
  rw [List.set_set]
  unfold Hp Dl
  congr 4
  push_cast; omega) (fun p c=>by
  simp only [Lf]
  rw [if_neg (by simp)]) l [] a (by simpa using hl) hf ha.1 (by omega)
 refine ⟨?_,by omega⟩
 have h':Cb Lf (l,a,0)=some (Fw Hp Dl l a,a+(Ik Dl l:Int)):=by simpa using h
 simp only [wQ,h',Option.bind_some]
theorem wT (l:List Aa) (a:Int) (ha:0≤a∧a≤1099511627776) (hl:l.length≤1048576) (hf:∀s∈l,Gc s):wS (Fw Hp Dl l a) a=some (a+(Ik Dl l:Int)):=by
 have hB:Ik Dl l≤1048577*l.length:=Wd fun x hx=>by have:=hf x hx; unfold Gc at this; unfold Dl; omega
 have hB2:1048577*l.length≤1048577*1048576:=Nat.mul_le_mul_left _ hl
 have h:=Rq Hp Dl Gc 4398046511104 (Fw Hp Dl l a) (by simpa using hl) (step:=Lh (Fw Hp Dl l a)) (fun k c x hk hx hfx h0 h1=>by
  unfold Dl at h1
  simp only [Lh]
  have hk':k<l.length:=by simpa using hk
  have hi:Hh (Fw Hp Dl l a) (k:Int)=some (Hp c x):=by unfold Hh; rw [if_pos (by omega),Int.toNat_natCast]; exact hx
  rw [if_pos (decide_eq_true (by omega)),hi]
  have e0:(Hp c x).at_=c:=rfl
  have e1:(Hp c x).data=Dx (fun c _=>b8 c) 1 x.data (c+1):=rfl
  simp only [Option.bind_some,e0,e1,IS h0 (show c≤4611686018427387904 by omega),aI x.data (c+1) ⟨by omega,by omega⟩ hfx,w1 (show k<4611686018427387904 by omega)]
  rw [if_neg (by simp),if_neg (by simp; omega)]
  unfold Dl
  congr 3
  push_cast; omega) (fun c=>by
  simp only [Lh]
  rw [if_neg (by simp)]) l [] a (by simp) hf ha.1 (by omega)
 have h':Cb (Lh (Fw Hp Dl l a)) (a,0)=some (.inl (a+(Ik Dl l:Int))):=by simpa using h
 simp only [wS,h',Option.bind_some]
def Il (d:Af):Prop:=d.held.length≤1048576∧d.Ab.length≤1048576∧∀s∈d.Ab,Gc s
theorem Xg (d:Af) (h:Il d) (a:Int) (ha:0≤a∧a≤1048577):∃n p q,gM d a=some (n,p,q)∧p.length=d.held.length∧q.length=d.Ab.length∧a≤n∧n≤4398046511104∧gN (Af.mk p q) a=some n:=by
 obtain ⟨h1,h2,h3⟩:=h
 obtain ⟨m1,m2⟩:=wR d.Ab (a+(d.held.length:Int)) ⟨by omega,by omega⟩ h2 h3
 refine ⟨a+(d.held.length:Int)+(Ik Dl d.Ab:Int),Dx (fun c _=>b8 c) 1 d.held a,Fw Hp Dl d.Ab (a+(d.held.length:Int)),?_,by simp,by simp,by omega,m2,?_⟩
 rotate_left
 ·simp only [gN,aI d.held a ⟨ha.1,by omega⟩ h1,Option.bind_some]
  rw [if_neg (by simp; omega),wT d.Ab _ ⟨by omega,by omega⟩ h2 h3]
  simp only [Option.bind_some]
  rw [if_neg (by simp; omega)]
 ·simp only [gM,Vp d.held a ⟨ha.1,by omega⟩ h1,Option.bind_some,marked_len,if_true,m1,markv_len]
theorem CG (s:Aa) (h:Gc s):gP s=some s:=by simp only [gP,Vo s.data h,Option.bind_some]
theorem wO (l:List Aa) (hl:l.length≤1048576) (hE:∀x∈l,gP x=some x):wN l=some l:=by
 have h:=bG l id (Aa.mk 0 ([]:List UInt8)) (step:=Nm l) (fun k hk p hp=>by
  simp only [Nm]
  rw [if_pos (decide_eq_true (by omega)),Dv hk]
  simp only [Option.bind_some]
  rw [hE _ (List.getElem_mem hk)]
  simp only [Option.bind_some]
  rw [Dv (l:=p) (k:=k) (by omega)]
  simp only [Option.bind_some,Int.toNat_natCast]
  rw [List.getElem?_eq_getElem (by omega)]
  simp only [Option.bind_some,w1 (show k<4611686018427387904 by omega)]
  rfl) (fun p hp=>by
  simp only [Nm]
  rw [if_neg (by simp)])
 rw [List.map_id] at h
 unfold wN
 rw [if_pos (by omega),if_pos (by omega)]
 simp only [Int.toNat_natCast,Cd,h,Option.bind_some]
theorem CF (d:Af) (h:Il d):Yt d=some d:=by
 simp only [Yt,Vo d.held h.1,wO d.Ab h.2.1 fun x hx=>CG x (h.2.2 x hx),Option.bind_some]
theorem cJ (s:Aa) (h:Gc s):gQ s s=some true:=by simp [gQ,Pe s.data h]
theorem cI (l:List Aa) (hl:l.length≤1048576) (hE:∀x∈l,gQ x x=some true):wP l l=some true:=by
 have h:=Uu l (step:=Nn l l) (fun k hk=>by
  simp only [Nn]
  rw [if_pos (decide_eq_true (by omega)),Dv hk]
  simp [w1 (show k<4611686018427387904 by omega),hE _ (List.getElem_mem hk)]) (by
  simp only [Nn]
  rw [if_neg (by simp)])
 unfold wP
 rw [if_neg (by simp),h]
 rfl
theorem Ue (d:Af) (h:Il d):Yu d d=some true:=by
 simp [Yu,Pe d.held h.1,cI d.Ab h.2.1 fun x hx=>cJ x (h.2.2 x hx)]
theorem aH (l:List UInt8) (n:Int) (hn:0≤n∧n≤1048576) (hl:l.length≤9223372036854775807):(cH l n=some (-1)∧n<(l.length:Int))∨(cH l n=some (n-(l.length:Int))∧(l.length:Int)≤n):=by
 have hw:IntKind.i64.wrap (n-(l.length:Int))=n-(l.length:Int):=wr ⟨by omega,by omega⟩
 simp only [cH,hw]
 by_cases h:n-(l.length:Int)<0
 ·rw [if_pos (decide_eq_true h)]; exact .inl ⟨rfl,by omega⟩
 ·rw [if_neg (by simpa using h)]; exact .inr ⟨rfl,by omega⟩
theorem CD (d:Af) (o:Pl d) (n:Int) (hn:0≤n∧n≤1048576):∃r,wA d n=some r∧r≤1048576∧(0≤r→Il d):=by
 simp only [wA]
 rcases aH d.held n hn o.1.1 with ⟨e1,_⟩ | ⟨e1,e2⟩
 ·rw [e1]; simp only [Option.bind_some]
  rw [if_pos (by decide)]
  exact ⟨-1,rfl,by decide,fun h=>by omega⟩
 ·rw [e1]; simp only [Option.bind_some]
  rw [if_neg (by simp; omega)]
  have hl:=o.2.1
  have hw:IntKind.i64.wrap (n-(d.held.length:Int)-(d.Ab.length:Int))=n-(d.held.length:Int)-(d.Ab.length:Int):=wr ⟨by omega,by omega⟩
  simp only [BP,hw]
  by_cases h:n-(d.held.length:Int)-(d.Ab.length:Int)<0
  ·rw [if_pos (decide_eq_true h)]; simp only [Option.bind_some]
   rw [if_pos (by decide)]
   exact ⟨-1,rfl,by decide,fun h=>by omega⟩
  ·rw [if_neg (by simpa using h)]
   obtain ⟨r,r1,r2⟩:=jH d.Ab (by omega) Gc (n-(d.held.length:Int)-(d.Ab.length:Int)) (by omega) (step:=Nj d.Ab) (fun k c hk c0 c1=>by
    simp only [Nj]
    rw [if_pos (decide_eq_true (by omega)),Dv hk]
    simp only [Option.bind_some,BT]
    rcases aH d.Ab[k].data c ⟨c0,by omega⟩ (o.2.2 _ (List.getElem_mem hk)).2.1 with ⟨e3,_⟩ | ⟨e3,e4⟩
    ·rw [e3]; simp only [Option.bind_some]
     rw [if_pos (by decide)]; simp only [Option.bind_some]
     rw [if_pos (by decide)]
     exact .inl rfl
    ·rw [e3]; simp only [Option.bind_some]
     rw [if_neg (by simp; omega)]; simp only [Option.bind_some]
     rw [if_neg (by simp; omega),w1 (show k<4611686018427387904 by omega)]
     exact .inr ⟨_,by omega,by omega,by unfold Gc; omega,rfl⟩) (fun c=>by
    simp only [Nj]
    rw [if_neg (by simp)]) (by omega)
   rw [r1]
   rcases r2 with rfl | ⟨c,rfl,c0,c1,hq⟩
   ·simp only [Option.bind_some]
    rw [if_pos (by decide)]
    exact ⟨-1,rfl,by decide,fun h=>by omega⟩
   ·simp only [Option.bind_some]
    rw [if_neg (by simp; omega)]
    exact ⟨c,rfl,by omega,fun _=>⟨by omega,by omega,hq⟩⟩
end Go.Ev
end
section
set_option maxHeartbeats 1000000
namespace Go.Ev
theorem HZ {g b:Bool}:(if g=true then some b else some (default:Bool))=some (g&&b):=by cases g<;>rfl
def Ti (s:Aa):Bool:=(decide (0≤s.at_)&&decide (s.at_≤127))&&decide (s.data.length=32)
theorem jD (s:Aa):Ti s=true↔Qz s:=by simp [Ti,Qz,and_assoc]
def Pa (d:Af):Bool:=((decide (d.held.length%32=0)&&decide (d.held.length≤4096))&&decide (d.Ab.length≤4096))&&d.Ab.all Ti
theorem Rk (d:Af):Pa d=true↔Fp d:=by
 simp only [Pa,Fp,Bool.and_eq_true,decide_eq_true_eq,List.all_eq_true,jD,and_assoc]
theorem yZ (a b c:Int):FB a b c=some (decide (b≤a)&&decide (a≤c)):=by
 simp only [FB]; congr 1; cases decide (b≤a)<;>simp
theorem FS (n:Nat):((n:Int)).tmod 32=((n%32:Nat):Int):=by rw [Int.tmod_eq_emod_of_nonneg (by omega)]; omega
theorem BO (s:Aa):cG s=some (Ti s):=by
 simp only [cG,yZ,Option.bind_some,Ti]
 congr 1
 cases (decide (0≤s.at_)&&decide (s.at_≤127))
 ·rfl
 ·simp only [cond_true,Bool.true_and]
  by_cases h:s.data.length=32
  ·simp [h]
  ·have:((s.data.length:Int)==32)=false:=by simpa using (by omega:¬((s.data.length:Int)=32))
   simp [h,this]
theorem BK (d:Af) (hw:d.Ab.length≤1048576):vZ d=some (Pa d):=by
 have e:=wG d.Ab (fun z=>cG z) Ti (fun x _=>BO x) (by omega)
 have e2:cF d.Ab=some (decide (d.Ab.length≤4096)):=by
  simp only [cF]; congr 1; simp; omega
 have hA:(bif (((d.held.length:Int)).tmod 32==0) then (decide ((d.held.length:Int)≤4096)) else false)=(decide (d.held.length%32=0)&&decide (d.held.length≤4096)):=by
  rw [FS]
  by_cases h:d.held.length%32=0
  ·have:(((d.held.length%32:Nat):Int)==0)=true:=by simpa using (by omega:((d.held.length%32:Nat):Int)=0)
   rw [this]; simp [h]; omega
  ·have:(((d.held.length%32:Nat):Int)==0)=false:=by simpa using (by omega:¬((d.held.length%32:Nat):Int)=0)
   rw [this]; simp [h]
 simp only [vZ,hA,e2,e,Cd,beq_true,HZ,Option.bind_some]
 congr 1
 unfold Pa
 cases (decide (d.held.length%32=0)&&decide (d.held.length≤4096))<;>cases decide (d.Ab.length≤4096)<;>cases d.Ab.all Ti<;>rfl
theorem FA (a b c:Int):FX a b c=some (decide (b≤a)&&decide (a≤c)):=by
 simp only [FX]; congr 1; cases h:decide (b≤a)<;>simp_all
theorem BQ (d:Af) (hw:d.Ab.length≤1048576):wH d=some (Pa d):=by
 simp only [wH,Cd,FS]
 by_cases h1:d.held.length%32=0
 rotate_left
 ·have:(((d.held.length%32:Nat):Int) != 0)=true:=by simpa using (by omega:¬((d.held.length%32:Nat):Int)=0)
  rw [this]
  simp [Pa,h1]
 have e1:(((d.held.length%32:Nat):Int) != 0)=false:=by simpa using (by omega:((d.held.length%32:Nat):Int)=0)
 rw [e1]
 by_cases h2:d.held.length≤4096
 rotate_left
 ·rw [decide_eq_true (show (d.held.length:Int)>4096 by omega)]
  simp [Pa,h2]
 rw [decide_eq_false (show ¬(d.held.length:Int)>4096 by omega)]
 by_cases h3:d.Ab.length≤4096
 rotate_left
 ·rw [decide_eq_true (show (d.Ab.length:Int)>4096 by omega)]
  simp [Pa,h3]
 rw [decide_eq_false (show ¬(d.Ab.length:Int)>4096 by omega)]
 simp only [cond_false]
 rw [if_neg (by simp)]
 have key:(Cb (Nk d) 0).bind (fun r=>match r with | .inl ()=>some true | .inr q=>some q)=some (d.Ab.all Ti):=by
  rw [←cU]
  refine dT (fun k=>Ti (d.Ab[k]?.getD default)) (fun k hk _=>?_) ?_
  ·simp only [Nk]
   rw [if_pos (decide_eq_true (by omega)),Dv hk]
   simp only [Option.bind_some,FA,List.getElem?_eq_getElem hk,Option.getD_some,w1 (show k<4611686018427387904 by omega),Ti]
   cases (decide (0≤d.Ab[k].at_)&&decide (d.Ab[k].at_≤127))
   ·simp
   ·by_cases h:d.Ab[k].data.length=32
    ·have:((d.Ab[k].data.length:Int) != 32)=false:=by simp [h]
     simp [this,h]
    ·have:((d.Ab[k].data.length:Int) != 32)=true:=by simpa using (by omega:¬((d.Ab[k].data.length:Int)=32))
     simp only [Bool.not_true,beq_self_eq_true,if_true,Option.bind_some,Bool.not_false,this,cond_false,decide_eq_false h,Bool.and_false]
  ·simp only [Nk]
   rw [if_neg (by simp)]
 refine Eq.trans ?_ (key.trans ?_)
 ·rfl
 ·simp [Pa,h1,h2,h3]
def Kt (a:Int) (n:Nat):Bool:=decide (0≤a∧a+(n:Int)≤4096)
theorem BS (a:Int) (n:Nat) (hn:n≤1048576):wY a (n:Int)=some (Kt a n):=by
 simp only [wY,yZ,Option.bind_some,Cd,Kt]
 congr 1
 by_cases h:0≤a∧a≤4096
 ·rw [decide_eq_true h.1,decide_eq_true h.2,wr ⟨by omega,by omega⟩]
  simp [h.1]
 ·have h1:(decide (0≤a)&&decide (a≤4096))=false:=by
   rw [Bool.and_eq_false_iff]
   rcases Int.lt_or_le a 0 with h2 | h2
   ·exact .inl (decide_eq_false (by omega))
   ·exact .inr (decide_eq_false (by omega))
  rw [h1,decide_eq_false (show ¬(0≤a∧a+(n:Int)≤4096) by omega)]
  rfl
theorem BR (a:Int) (n:Nat) (hn:n≤1048576):wI a (n:Int)=some (Kt a n):=by
 simp only [wI,Cd,Kt]
 rw [wr ⟨by omega,by omega⟩]
 congr 1
 by_cases h:0≤a∧n≤4096
 ·rw [decide_eq_true (show a≥0 from h.1),decide_eq_true (show (n:Int)≤4096 by omega)]
  simp only [cond_true]
  by_cases h2:a+(n:Int)≤4096
  ·rw [decide_eq_true (by omega),decide_eq_true ⟨h.1,h2⟩]
  ·rw [decide_eq_false (by omega),decide_eq_false (by omega)]
 ·have h1:(bif decide (a≥0) then decide ((n:Int)≤4096) else false)=false:=by
   rcases Int.lt_or_le a 0 with h2 | h2
   ·rw [decide_eq_false (show ¬a≥0 by omega)]; rfl
   ·rw [decide_eq_true (show a≥0 by omega),decide_eq_false (by omega)]; rfl
  rw [h1,decide_eq_false (show ¬(0≤a∧a+(n:Int)≤4096) by omega)]
  rfl
theorem wM (d:Af) (h:Fp d):wL d=some d:=by
 have hh:=h.2.1; have hw:=h.2.2.1
 have hl:=Dc (step:=Ld d) (fun k=>((k:Int),d.Ab.take k)) d.Ab.length d.Ab (fun k hk=>by
  have hd:=(h.2.2.2 _ (List.getElem_mem hk)).2
  simp only [Ld]
  rw [if_pos (decide_eq_true (by omega)),Dv hk]
  simp only [Option.bind_some,w1 (show k<4611686018427387904 by omega)]
  rw [if_pos (by simp; omega),if_pos (by simp; omega),List.take_succ_eq_append_getElem hk]
  rfl) (by
  simp only [Ld]
  rw [if_neg (by simp),List.take_length])
 have hl':Cb (Ld d) (0,([]:List Aa))=some d.Ab:=hl
 simp only [wL]
 rw [if_pos (by simp; omega),hl']
 simp
theorem Fp.fit {d:Af} (h:Fp d):Il d:=⟨by have:=h.2.1; omega,by have:=h.2.2.1; omega,fun s hs=>by unfold Gc; have:=(h.2.2.2 s hs).2; omega⟩
theorem Wx:Il (Af.mk [] []):=Yq.fit
def Ux (d:Af) (a:Int) (data:List UInt8):Af×Int:=
 if Kt a data.length=true then (if (Cz d a.toNat data).Ab.length≤4096 then (Cz d a.toNat data,0) else (Af.mk [] [],6)) else (Af.mk [] [],9)
theorem BN (d:Af) (h:Fp d) (a:Int) (data:List UInt8) (hd:data.length≤1048576):wE d a data=some (Ux d a data):=by
 simp only [wE,BS a data.length hd,Option.bind_some,Ux]
 cases hr:Kt a data.length
 ·rfl
 ·simp only [Kt,decide_eq_true_eq] at hr
  obtain ⟨k,rfl⟩:=Int.eq_ofNat_of_zero_le hr.1
  simp only [Bool.not_true,Bool.false_eq_true,if_false,if_true,Int.ofNat_eq_natCast,Int.toNat_natCast]
  have e:=xA d h k data (by omega)
  rw [e]
  simp only [Option.bind_some,cF]
  by_cases hw:(Cz d k data).Ab.length≤4096
  ·rw [decide_eq_true (show ((Cz d k data).Ab.length:Int)≤4096 by omega),if_pos hw]; rfl
  ·rw [decide_eq_false (show ¬((Cz d k data).Ab.length:Int)≤4096 by omega),if_neg hw]; rfl
theorem jV (d:Af) (h:Fp d) (a:Int) (data:List UInt8):Fp (Ux d a data).1:=by
 unfold Ux
 cases hr:Kt a data.length
 ·exact Yq
 ·simp only [Kt,decide_eq_true_eq] at hr
  obtain ⟨k,rfl⟩:=Int.eq_ofNat_of_zero_le hr.1
  simp only [if_true,Int.ofNat_eq_natCast,Int.toNat_natCast]
  by_cases hw:(Cz d k data).Ab.length≤4096
  ·rw [if_pos hw]; exact Uw d h k data (by omega) hw
  ·rw [if_neg hw]; exact Yq
def Nc (d:Af) (a:Int) (data:List UInt8):Af×Int:=
 if data.length≤65536 then (if Pa d=true then Ux d a data else (Af.mk [] [],1)) else (Af.mk [] [],2)
theorem BJ (d:Af) (h:Il d) (a:Int) (data:List UInt8) (hd:data.length≤1048576):gL d a data=some (Nc d a data):=by
 simp only [gL,BM,Nc,Option.bind_some]
 by_cases h1:data.length≤65536
 ·rw [decide_eq_true (show (data.length:Int)≤65536 by omega),if_pos h1,BK d h.2.1]
  simp only [Bool.not_true,Bool.false_eq_true,if_false,Option.bind_some]
  cases hb:Pa d
  ·rfl
  ·simp only [Bool.not_true,Bool.false_eq_true,if_false,if_true,BN d ((Rk d).1 hb) a data hd,Option.bind_some]
 ·rw [decide_eq_false (show ¬(data.length:Int)≤65536 by omega),if_neg h1]; rfl
theorem BL (d:Af) (h:Il d) (a:Int) (data:List UInt8) (hd:data.length≤1048576):wB d a data=some (Nc d a data):=by
 simp only [wB,Nc]
 by_cases h1:data.length≤65536
 ·rw [decide_eq_false (show ¬(data.length:Int)>65536 by omega),if_pos h1,BQ d h.2.1]
  simp only [Bool.false_eq_true,if_false,Option.bind_some]
  cases hb:Pa d
  ·rfl
  ·have hD:=(Rk d).1 hb
   simp only [Bool.not_true,Bool.false_eq_true,if_false,if_true,BR a data.length hd,Option.bind_some,Ux]
   cases hr:Kt a data.length
   ·rfl
   ·simp only [Kt,decide_eq_true_eq] at hr
    obtain ⟨k,rfl⟩:=Int.eq_ofNat_of_zero_le hr.1
    simp only [Bool.not_true,Bool.false_eq_true,if_false,if_true,Int.ofNat_eq_natCast,Int.toNat_natCast]
    have e:=wK d hD k data (by omega)
    rw [e]
    simp only [Option.bind_some]
    by_cases hw:(Cz d k data).Ab.length≤4096
    ·rw [decide_eq_false (show ¬((Cz d k data).Ab.length:Int)>4096 by omega),if_pos hw]
     simp only [Bool.false_eq_true,if_false,wM _ (Uw d hD k data (by omega) hw),Option.bind_some]
    ·rw [decide_eq_true (show ((Cz d k data).Ab.length:Int)>4096 by omega),if_neg hw]; rfl
 ·rw [decide_eq_true (show (data.length:Int)>65536 by omega),if_neg h1]; rfl
theorem bZ (d:Af) (a:Int) (data:List UInt8):Il (Nc d a data).1:=by
 unfold Nc
 by_cases h1:data.length≤65536
 ·rw [if_pos h1]
  cases hb:Pa d
  ·exact Wx
  ·exact (jV d ((Rk d).1 hb) a data).fit
 ·rw [if_neg h1]; exact Wx
theorem gK (a0:Af) (a1:Int) (a2:List UInt8) (o:Pl a0) (_:BZ a1) (_:FI Xk a2):BI a0 a1 a2=some true:=by
 simp only [BI]
 by_cases hd:a2.length≤1048576
 rotate_left
 ·rw [decide_eq_true (by omega)]; rfl
 rw [decide_eq_false (by omega)]
 simp only [Bool.false_eq_true,if_false]
 obtain ⟨r,r1,r2,r3⟩:=CD a0 o 1048576 (by omega)
 rw [r1]
 simp only [Option.bind_some]
 by_cases hr:r<0
 ·rw [decide_eq_true hr]; rfl
 rw [decide_eq_false hr]
 have hf:=r3 (by omega)
 have hg:=bZ a0 a1 a2
 obtain ⟨n,p,q,m1,m2,m3,m4,m5,m6⟩:=Xg a0 hf 1 (by omega)
 obtain ⟨n',p',q',k1,k2,k3,k4,k5,k6⟩:=Xg (Nc a0 a1 a2).1 hg 1 (by omega)
 have e1:((Nc a0 a1 a2).2 != (Nc a0 a1 a2).2)=false:=by simp
 simp only [Bool.false_eq_true,if_false,CF a0 hf,Vo a2 hd,BL a0 hf a1 a2 hd,BJ a0 hf a1 a2 hd,Option.bind_some,Ue _ hg,Ue _ hf,Pe a2 hd,Bool.not_true,cond_false,e1,
  m1,m2,m3,if_true,Vp a2 n ⟨by omega,by omega⟩ hd,marked_len,decide_eq_false (show ¬(n+(a2.length:Int)<0) by omega),beq_self_eq_true,Cd,k1,k2,k3,k6,decide_eq_false (show ¬(n'<0) by omega),bne_self_eq_false]
end Go.Ev
end
