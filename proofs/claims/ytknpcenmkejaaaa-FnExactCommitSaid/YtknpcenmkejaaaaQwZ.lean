/- The plain part of the proof: what the functions compute answers as the law says. -/
import Derived.Test.YtknpcenmkejaaaaQvL
import Derived.Test.YtknpcenmkejaaaaQvM
import Derived.Test.YtknpcenmkejaaaaQgD
set_option linter.all false
section
namespace Go.Ev
noncomputable def tf (P:Prop):Bool:=@decide P (Classical.propDecidable P)
@[simp] theorem tf_iff {P:Prop}:tf P=true↔P:=by unfold tf; exact @decide_eq_true_iff P (Classical.propDecidable P)
@[simp] theorem tf_false {P:Prop}:tf P=false↔¬P:=by rw [←Bool.not_eq_true,tf_iff]
abbrev I64 (n:Int):Prop := -9223372036854775808≤n∧n≤9223372036854775807
theorem wr {n:Int} (h:I64 n):IntKind.i64.wrap n=n:=by
 obtain ⟨h1,h2⟩:=h
 have e:IntKind.i64.wrap n=if n%18446744073709551616≥9223372036854775808 then n%18446744073709551616-18446744073709551616 else n%18446744073709551616:=by
  simp [IntKind.wrap,IntKind.bits,IntKind.signed]
 rw [e]
 split<;>omega
theorem YO {α:Type} {l:List α} {k:Nat}:Ec l (k:Int)=l[k]? := by
 unfold Ec
 rw [if_pos (by omega)]
 simp
theorem Cu {α:Type} {l:List α} {k:Nat} (h:k<l.length):Ec l (k:Int)=some l[k]:=by
 rw [YO,List.getElem?_eq_getElem h]
section
variable {σ ρ:Type} {step:σ→Option (σ⊕ρ)}
theorem Mz (st:Nat→σ):∀n,(∀k,k<n→step (st k)=some (.inl (st (k+1))))→Bo step (st 0)=Bo step (st n)
 | 0,_=>rfl
 | n+1,h=>by
  rw [Mz st n fun k hk=>h k (by omega),Fs (h n (by omega))]
theorem Dc (st:Nat→σ) (n:Nat) (r:ρ) (h:∀k,k<n→step (st k)=some (.inl (st (k+1)))) (he:step (st n)=some (.inr r)):Bo step (st 0)=some r:=by
 rw [Mz st n h,Dp he]
theorem dH {n:Nat} {ok:Nat→Prop} (h:¬ ∀k,k<n→ok k):∃k,k<n∧(∀j,j<k→ok j)∧¬ok k:=by
 obtain ⟨k,hk⟩:=Classical.not_forall.1 h
 rw [Classical.not_imp] at hk
 obtain ⟨h1,h2⟩:=hk
 induction k using Nat.strongRecOn with
 | _ k ih=>
  by_cases hex:∃j,j<k∧¬ok j
  ·obtain ⟨j,hj,hn⟩:=hex
   exact ih j hj (by omega) hn
  ·exact ⟨k,h1,fun j hj=>Classical.byContradiction fun hn=>hex ⟨j,hj,hn⟩,h2⟩
end
end Go.Ev
end
section
namespace Go.Ev
theorem Kp {σ ρ:Type} {step:σ→Option (σ⊕ρ)} (I:σ→Prop) (μ:σ→Nat) (R:ρ→Prop) (s0:σ) (h0:I s0)
  (h:∀s,I s→(∃s',step s=some (.inl s')∧I s'∧μ s'<μ s)∨(∃r,step s=some (.inr r)∧R r)):∃r,Bo step s0=some r∧R r:=by
 have key:∀(n:Nat) (s0:σ),μ s0<n→I s0→∃r,Bo step s0=some r∧R r:=by
  intro n
  induction n with
  | zero=>intro s0 hn; omega
  | succ n ih=>
   intro s0 hn hI
   rcases h s0 hI with ⟨s',h1,h2,h3⟩ | ⟨r,h1,h2⟩
   ·obtain ⟨r,h4,h5⟩:=ih s' (by omega) h2
    exact ⟨r,by rw [Fs h1,h4],h5⟩
   ·exact ⟨r,Dp h1,h2⟩
 exact key (μ s0+1) s0 (by omega) h0
theorem w1 {k:Nat} (h:k<4611686018427387904):IntKind.i64.wrap ((k:Int)+1)=((k+1:Nat):Int):=wr ⟨by omega,by omega⟩
theorem Tl {α:Type} (l:List α) (a b:Nat) (h:a≤b) (h2:b≤l.length):Jr l (a:Int) (b:Int)=some ((l.take b).drop a):=by
 unfold Jr
 rw [if_pos ⟨by omega,by omega,by omega⟩]
 simp
def Ns {α:Type} (l:List α) (p:α→Bool):Int:=match l.findIdx? p with
 | some k=>(k:Int)
 | none => -1
theorem Ww {α:Type} (l:List α) (f:α→Option Bool) (p:α→Bool) (hf:∀x∈l,f x=some (p x)) (hl:l.length≤4611686018427387903) {step:Int→Option (Int⊕(Unit⊕Int))}
  (hs:∀s,step s=if decide (s<(l.length:Int))=true then (Ec l s).bind fun y=>(f y).bind fun r=>if r=true then some (.inr (.inr s)) else some (.inl (IntKind.i64.wrap (s+1))) else some (.inr (.inl ()))):
  (Bo step 0).bind (fun r=>match r with | .inl ()=>some (-1) | .inr q=>some q)=some (Ns l p):=by
 have go:∀k (hk:k<l.length),p l[k]=false→step (k:Int)=some (.inl ((k+1:Nat):Int)):=fun k hk hp=>by
  rw [hs,if_pos (decide_eq_true (by omega)),Cu hk]
  simp [hf _ (List.getElem_mem hk),hp,w1 (show k<4611686018427387904 by omega)]
 unfold Ns
 cases hfi:l.findIdx? p with
 | none=>
  have hall:∀x∈l,p x=false:=by simpa using List.findIdx?_eq_none_iff.1 hfi
  have:=Dc (step:=step) (fun k=>(k:Int)) l.length (.inl ()) (fun k hk=>go k hk (hall _ (List.getElem_mem hk))) (by rw [hs,if_neg (by simp)])
  rw [show (0:Int)=((0:Nat):Int) from rfl,this]
  rfl
 | some k=>
  obtain ⟨hk,hp,hj⟩:=List.findIdx?_eq_some_iff_getElem.1 hfi
  have:=Mz (step:=step) (fun k=>(k:Int)) k (fun j hj'=>go j (by omega) (by simpa using hj j hj'))
  rw [show (0:Int)=((0:Nat):Int) from rfl,this,Dp (r:=.inr (k:Int)) (by
   rw [hs,if_pos (decide_eq_true (by omega)),Cu hk]
   simp [hf _ (List.getElem_mem hk),hp])]
  rfl
theorem Wi {α:Type} (l:List α) (p:α→Bool):decide (Ns l p≥0)=l.any p:=by
 unfold Ns
 cases hfi:l.findIdx? p with
 | none=>
  have hall:∀x∈l,p x=false:=by simpa using List.findIdx?_eq_none_iff.1 hfi
  rw [show l.any p=false from List.any_eq_false.2 fun x hx=>by simp [hall x hx]]
  rfl
 | some k=>
  obtain ⟨hk,hp,hj⟩:=List.findIdx?_eq_some_iff_getElem.1 hfi
  rw [show l.any p=true from List.any_eq_true.2 ⟨_,List.getElem_mem hk,hp⟩]
  simp
theorem iA {α:Type} (l:List α) (p:α→Bool):(!l.any fun x => !p x)=l.all p:=by
 induction l with
 | nil=>rfl
 | cons x r ih=>simp only [List.any_cons,List.all_cons,Bool.not_or,Bool.not_not,ih]
theorem bX {α β:Type} (l:List β) (F:β→α) (z:α) {step:List α×Int→Option ((List α×Int)⊕List α)}
  (hs:∀k (hk:k<l.length) (p:List α),p.length=l.length→step (p,(k:Int))=some (.inl (p.set k (F l[k]),((k+1:Nat):Int)))) (he:∀p:List α,p.length=l.length→step (p,(l.length:Int))=some (.inr p)):
  Bo step (List.replicate l.length z,0)=some (l.map F):=by
 have h:=Dc (step:=step) (fun k=>((l.take k).map F++List.replicate (l.length-k) z,(k:Int))) l.length (l.map F) (fun k hk=>by
  rw [hs k hk _ (by simp; omega)]
  congr 3
  rw [List.set_append,if_neg (by simp; omega),List.take_succ_eq_append_getElem hk,List.map_append,List.append_assoc]
  congr 1
  have e:l.length-k=(l.length-(k+1))+1:=by omega
  have e2:k-((l.take k).map F).length=0:=by simp; omega
  rw [e,List.replicate_succ,e2]
  rfl) (by
  rw [he _ (by simp)]
  simp)
 simpa using h
theorem Ti {α:Type} (l:List α) {step:Int→Option (Int⊕(Unit⊕Bool))}
  (hs:∀k,k<l.length→step (k:Int)=some (.inl ((k+1:Nat):Int))) (he:step (l.length:Int)=some (.inr (.inl ()))):Bo step 0=some (.inl ()):=
 Dc (step:=step) (fun k=>(k:Int)) l.length (.inl ()) hs he
def Fk {α:Type} (mk:Int→α→α) (w:Nat) (l:List α) (a:Int):List α:=l.mapIdx fun i x=>mk (a+(w:Int)*(i:Int)) x
@[simp] theorem marked_len {α:Type} (mk:Int→α→α) (w:Nat) (l:List α) (a:Int):(Fk mk w l a).length=l.length:=by simp [Fk]
theorem gC {α:Type} (mk:Int→α→α) (w:Nat) (l:List α) (a:Int) (k:Nat) (h:k<(Fk mk w l a).length):
  (Fk mk w l a)[k]=mk (a+(w:Int)*(k:Int)) (l[k]'(by simpa using h)):=by simp [Fk]
theorem Zr {α:Type} (mk:Int→α→α) (w:Nat) (l:List α) (a:Int) {step:List α×Int×Int→Option ((List α×Int×Int)⊕(List α×Int))}
  (hs:∀k (p:List α) (hp:p.length=l.length) (hk:k<l.length),step (p,a+(w:Int)*(k:Int),(k:Int))=some (.inl (p.set k (mk (a+(w:Int)*(k:Int)) (p[k]'(by omega))),a+(w:Int)*((k+1:Nat):Int),((k+1:Nat):Int))))
  (he:∀(p:List α) c,p.length=l.length→step (p,c,(l.length:Int))=some (.inr (p,c))):
  Bo step (l,a,0)=some (Fk mk w l a,a+(w:Int)*(l.length:Int)):=by
 have h:=Dc (step:=step) (fun k=>(l.mapIdx (fun i x=>if i<k then mk (a+(w:Int)*(i:Int)) x else x),a+(w:Int)*(k:Int),(k:Int))) l.length (Fk mk w l a,a+(w:Int)*(l.length:Int)) (fun k hk=>by
  rw [hs k _ (by simp) hk]
  congr 3
  apply List.ext_getElem
  ·simp
  ·intro j h1 h2
   simp only [List.length_set,List.length_mapIdx] at h1
   simp only [List.getElem_set,List.getElem_mapIdx]
   by_cases e:k=j
   ·subst e; simp
   ·rw [if_neg e]
    by_cases e2:j<k
    ·simp [e2,show j<k+1 by omega]
    ·simp [e2,show ¬j<k+1 by omega]) (by
  rw [he _ _ (by simp)]
  congr 3
  unfold Fk
  apply List.ext_getElem
  ·simp
  ·intro j h1 h2
   simp only [List.length_mapIdx] at h1
   simp [h1])
 simp only [Nat.not_lt_zero,if_false] at h
 have e0:l.mapIdx (fun (_:Nat) (x:α)=>x)=l:=by
  apply List.ext_getElem
  ·simp
  ·intro j h1 h2; simp
 have h':Bo step (l.mapIdx (fun (_:Nat) (x:α)=>x),a+(w:Int)*((0:Nat):Int),((0:Nat):Int))=some (Fk mk w l a,a+(w:Int)*(l.length:Int)):=h
 rw [e0] at h'
 simpa using h'
theorem Vw {n:Nat} (ok:Nat→Bool) {step:Int→Option (Int⊕(Unit⊕Bool))}
  (hs:∀k,k<n→(∀j,j<k→ok j=true)→step (k:Int)=if (!ok k)=true then some (.inr (.inr false)) else some (.inl ((k+1:Nat):Int))) (he:step (n:Int)=some (.inr (.inl ()))):
  (Bo step 0).bind (fun r=>match r with | .inl ()=>some true | .inr q=>some q)=some ((List.range n).all ok):=by
 by_cases h:∀k,k<n→ok k=true
 ·have:=Dc (step:=step) (fun k=>(k:Int)) n (.inl ()) (fun k hk=>by rw [hs k hk (fun j hj=>h j (by omega)),h k hk]; rfl) he
  rw [show (0:Int)=((0:Nat):Int) from rfl,this]
  rw [show (List.range n).all ok=true from List.all_eq_true.2 fun x hx=>h x (List.mem_range.1 hx)]
  rfl
 ·obtain ⟨k,hk,hj,hn⟩:=dH h
  have hf:ok k=false:=by simpa using hn
  have:=Mz (step:=step) (fun k=>(k:Int)) k (fun j hj'=>by rw [hs j (by omega) (fun i hi=>hj i (by omega)),hj j hj']; rfl)
  rw [show (0:Int)=((0:Nat):Int) from rfl,this,Dp (r:=.inr false) (by rw [hs k hk hj,hf]; rfl)]
  rw [show (List.range n).all ok=false from List.all_eq_false.2 ⟨k,List.mem_range.2 hk,by simp [hf]⟩]
  rfl
theorem Zy {α:Type} [Inhabited α] (l:List α) (p:α→Bool):((List.range l.length).all fun k=>p (l[k]?.getD default))=l.all p:=by
 rw [Bool.eq_iff_iff]
 simp only [List.all_eq_true,List.mem_range]
 constructor
 ·intro h x hx
  obtain ⟨k,hk,rfl⟩:=List.getElem_of_mem hx
  have:=h k hk
  rwa [List.getElem?_eq_getElem hk] at this
 ·intro h k hk
  rw [List.getElem?_eq_getElem hk]
  exact h _ (List.getElem_mem hk)
end Go.Ev
end
section
namespace Go.Ev
def Kx {α:Type} (wd:α→Nat):List α→Nat
 | []=>0
 | x::r=>wd x+Kx wd r
def Hw {α:Type} (mk:Int→α→α) (wd:α→Nat):List α→Int→List α
 | [],_=>[]
 | x::r,a=>mk a x::Hw mk wd r (a+(wd x:Int))
@[simp] theorem markv_len {α:Type} (mk:Int→α→α) (wd:α→Nat):∀(l:List α) (a:Int),(Hw mk wd l a).length=l.length
 | [],_=>rfl
 | x::r,a=>by simp [Hw,markv_len mk wd r]
theorem bW {α:Type} {wd:α→Nat} {B:Nat}:∀ {l:List α},(∀x∈l,wd x≤B)→Kx wd l≤B*l.length
 | [],_=>by simp [Kx]
 | x::r,h=>by
  have h1:=h x (by simp)
  have h2:=bW (l:=r) (fun y hy=>h y (by simp [hy]))
  simp only [Kx,List.length_cons,Nat.mul_add,Nat.mul_one]
  omega
theorem Xg {α:Type} (mk:Int→α→α) (wd:α→Nat) (P:α→Prop) (B:Int) {step:List α×Int×Int→Option ((List α×Int×Int)⊕(List α×Int))}
  (hs:∀(k:Nat) (p:List α) (c:Int) (x:α),k<p.length→p.length≤1048576→p[k]? = some x→P x→0≤c→c+(wd x:Int)≤B→step (p,c,(k:Int))=some (.inl (p.set k (mk c x),c+(wd x:Int),((k+1:Nat):Int))))
  (he:∀(p:List α) c,step (p,c,(p.length:Int))=some (.inr (p,c))):
  ∀(rest pre:List α) (c:Int),pre.length+rest.length≤1048576→(∀x∈rest,P x)→0≤c→c+(Kx wd rest:Int)≤B →
   Bo step (pre++rest,c,(pre.length:Int))=some (pre++Hw mk wd rest c,c+(Kx wd rest:Int))
 | [],pre,c,_,_,_,_=>by
  refine Dp ?_
  have:=he pre c
  simpa [Hw,Kx] using this
 | x::r,pre,c,hl,hP,h0,hB=>by
  simp only [Kx] at hB ⊢
  have hx:(pre++x::r)[pre.length]? = some x:=by simp
  have h1:=hs pre.length (pre++x::r) c x (by simp) (by simpa using hl) hx (hP x (by simp)) h0 (by omega)
  rw [Fs h1]
  have e:(pre++x::r).set pre.length (mk c x)=(pre++[mk c x])++r:=by
   rw [List.set_append,if_neg (by omega),Nat.sub_self]; simp
  have ih:=Xg mk wd P B hs he r (pre++[mk c x]) (c+(wd x:Int)) (by simp only [List.length_append,List.length_cons,List.length_nil] at hl ⊢; omega) (fun y hy=>hP y (by simp [hy])) (by omega) (by omega)
  rw [e]
  rw [show (pre++[mk c x]).length=pre.length+1 by simp] at ih
  rw [ih]
  simp only [Hw,List.append_assoc,List.singleton_append]
  congr 2
  push_cast; omega
theorem Wu {α:Type} (mk:Int→α→α) (wd:α→Nat) (P:α→Prop) (B:Int) (L:List α) (hL:L.length≤1048576) {step:Int×Int→Option ((Int×Int)⊕(Int⊕Int))}
  (hs:∀(k:Nat) (c:Int) (x:α),k<L.length→L[k]? = some (mk c x)→P x→0≤c→c+(wd x:Int)≤B→step (c,(k:Int))=some (.inl (c+(wd x:Int),((k+1:Nat):Int))))
  (he:∀c,step (c,(L.length:Int))=some (.inr (.inl c))):
  ∀(rest pre:List α) (c:Int),L=pre++Hw mk wd rest c→(∀x∈rest,P x)→0≤c→c+(Kx wd rest:Int)≤B →
   Bo step (c,(pre.length:Int))=some (.inl (c+(Kx wd rest:Int)))
 | [],pre,c,hE,_,_,_=>by
  refine Dp ?_
  have:=he c
  rw [hE] at this
  simpa [Hw,Kx] using this
 | x::r,pre,c,hE,hP,h0,hB=>by
  simp only [Kx] at hB ⊢
  simp only [Hw] at hE
  have hk:pre.length<L.length:=by rw [hE]; simp
  have hx:L[pre.length]? = some (mk c x):=by rw [hE]; simp
  rw [Fs (hs pre.length c x hk hx (hP x (by simp)) h0 (by omega))]
  have ih:=Wu mk wd P B L hL hs he r (pre++[mk c x]) (c+(wd x:Int)) (by rw [hE]; simp) (fun y hy=>hP y (by simp [hy])) (by omega) (by omega)
  rw [show (pre++[mk c x]).length=pre.length+1 by simp] at ih
  rw [ih]
  congr 2
  push_cast; omega
theorem dZ {α:Type} (l:List α) (hl:l.length≤4611686018427387903) (Q:α→Prop) (n:Int) (hn:n≤1048576) {step:Int×Int→Option ((Int×Int)⊕(Int⊕Int))}
  (hs:∀(k:Nat) (c:Int) (hk:k<l.length),0≤c→c≤1048576→(step (c,(k:Int))=some (.inr (.inr (-1))))∨∃c',0≤c'∧c'≤c∧Q l[k]∧step (c,(k:Int))=some (.inl (c',((k+1:Nat):Int))))
  (he:∀c,step (c,(l.length:Int))=some (.inr (.inl c))) (h0:0≤n):
  ∃r,Bo step (n,0)=some r∧(r = .inr (-1)∨∃c,r = .inl c∧0≤c∧c≤n∧∀x∈l,Q x):=by
 refine Kp (fun s=>∃k:Nat,s.2=(k:Int)∧k≤l.length∧0≤s.1∧s.1≤n∧∀x∈l.take k,Q x) (fun s=>l.length-s.2.toNat) _ (n,0) ⟨0,rfl,Nat.zero_le _,h0,Int.le_refl _,by simp⟩ ?_
 rintro ⟨c,kk⟩ ⟨k,rfl,hk,c0,c1,hq⟩
 dsimp only at c0 c1 ⊢
 by_cases h:k<l.length
 ·rcases hs k c h c0 (by omega) with h1 | ⟨c',d0,d1,d2,h1⟩
  ·exact .inr ⟨_,h1,.inl rfl⟩
  ·refine .inl ⟨_,h1,⟨k+1,rfl,h,d0,by dsimp only; omega,fun x hx=>?_⟩,?_⟩
   ·rw [List.take_succ_eq_append_getElem h] at hx
    rcases List.mem_append.1 hx with hx | hx
    ·exact hq x hx
    ·rw [List.mem_singleton] at hx; rw [hx]; exact d2
   ·simp only [Int.toNat_natCast]; omega
 ·obtain rfl:k=l.length:=by omega
  rw [List.take_length] at hq
  exact .inr ⟨_,he c,.inr ⟨c,rfl,c0,c1,hq⟩⟩
end Go.Ev
end
section
namespace Go.Ev
theorem XM (l:List Ae) (f:Ae→Option Bool) (p:Ae→Bool) (hf:∀x∈l,f x=some (p x)) (hl:l.length≤4611686018427387903):g367 l f=some (Ns l p):=Ww l f p hf hl (fun _=>rfl)
theorem XD (l:List Ae) (f:Ae→Option Bool) (p:Ae→Bool) (hf:∀x∈l,f x=some (p x)) (hl:l.length≤4611686018427387903):XC l f=some (l.any p):=by
 unfold XC; rw [XM l f p hf hl]; simp only [Option.bind_some,Wi]
theorem WK (l:List Ae) (f:Ae→Option Bool) (p:Ae→Bool) (hf:∀x∈l,f x=some (p x)) (hl:l.length≤4611686018427387903):WJ l f=some (l.all p):=by
 unfold WJ; rw [XD l _ (fun x => !p x) (fun x hx=>by simp [XE,hf x hx]) hl]; simp only [Option.bind_some,iA]
theorem Oa (l:List UInt8) (hl:l.length≤1048576):cY l=some l:=by
 unfold cY; rw [if_pos (by simp; omega)]
end Go.Ev
end
section
namespace Go.Ev
def To (s:Ae):Prop:=(0≤s.at_∧s.at_≤127)∧s.data.length=32
def Gt (d:Ap):Prop:=d.held.length%32=0∧d.held.length≤4096∧d.Aj.length≤4096∧∀s∈d.Aj,To s
def Gd (b:List UInt8) (n:Nat):List UInt8:=b++List.replicate (n-b.length) 0
@[simp] theorem padB_len (b:List UInt8) (n:Nat):(Gd b n).length=max b.length n:=by simp [Gd]; omega
def Ni (b:List UInt8) (k:Nat) (d:List UInt8):List UInt8:=(Gd b (32*(k+1))).take (32*k)++d++(Gd b (32*(k+1))).drop (32*k+32)
theorem uE (b:List UInt8) (k:Nat) (d:List UInt8) (h:d.length=32):(Ni b k d).length=max b.length (32*(k+1)):=by
 simp [Ni,h]; omega
def Cv (d:Ap):List UInt8:=d.Aj.foldl (fun b s=>Ni b s.at_.toNat s.data) d.held
theorem Wl (l:List Ae) (b:List UInt8) (hl:∀s∈l,To s) (h1:b.length%32=0) (h2:b.length≤4096):
  (l.foldl (fun b s=>Ni b s.at_.toNat s.data) b).length%32=0∧(l.foldl (fun b s=>Ni b s.at_.toNat s.data) b).length≤4096∧b.length≤(l.foldl (fun b s=>Ni b s.at_.toNat s.data) b).length:=by
 induction l generalizing b with
 | nil=>exact ⟨h1,h2,Nat.le_refl _⟩
 | cons s r ih=>
  have hs:=hl s (by simp)
  have hlen:=uE b s.at_.toNat s.data hs.2
  have:=hs.1
  obtain ⟨i1,i2,i3⟩:=ih (Ni b s.at_.toNat s.data) (fun x hx=>hl x (by simp [hx])) (by rw [hlen]; omega) (by rw [hlen]; omega)
  exact ⟨i1,i2,by have:=i3; simp only [List.foldl_cons]; omega⟩
theorem Zz (d:Ap) (h:Gt d):(Cv d).length%32=0∧(Cv d).length≤4096∧d.held.length≤(Cv d).length:=Wl d.Aj d.held h.2.2.2 h.1 h.2.1
theorem vE {k:Nat} (h:k≤1099511627776):IntKind.i64.wrap (32*(k:Int))=((32*k:Nat):Int):=by rw [wr ⟨by omega,by omega⟩]; omega
theorem wr32' {k:Nat} (h:k≤1099511627776):IntKind.i64.wrap ((k:Int)*32)=((32*k:Nat):Int):=by rw [wr ⟨by omega,by omega⟩]; omega
theorem Xr (b:List UInt8) (k:Nat) (d:List UInt8) (h:d.length=32) (hb:32*(k+1)≤b.length):
  ((Jr b ((32*k:Nat):Int) (b.length:Int)).bind fun s=>Bi (ovl b (((32*k:Nat):Int)).toNat (d.take s.length)) fun v=>some v)=some (Ni b k d):=by
 rw [Tl _ _ _ (by omega) (Nat.le_refl _)]
 simp only [Option.bind_some,Bi,Int.toNat_natCast,List.take_length,List.length_drop]
 rw [List.take_of_length_le (by omega)]
 congr 1
 have hp:Gd b (32*(k+1))=b:=by simp [Gd,show 32*(k+1)-b.length=0 by omega]
 unfold Ni
 rw [hp]
 apply List.ext_getElem
 ·simp [ovl]; omega
 ·intro i h1 h2
  simp only [ovl,List.length_mapIdx] at h1
  simp only [ovl,List.getElem_mapIdx,List.getElem_append,List.length_take,List.length_append]
  by_cases c1:32*k≤i
  ·rw [if_pos c1]
   by_cases c2:i<32*k+32
   ·rw [dif_pos (by omega),dif_neg (by omega),List.getElem?_eq_getElem (by omega)]
    simp only [Option.getD_some]
    congr 1; omega
   ·rw [dif_neg (by omega),List.getElem?_eq_none (by omega)]
    simp only [Option.getD_none,List.getElem_drop]
    congr 1; omega
  ·rw [if_neg c1,dif_pos (by omega),dif_pos (by omega),List.getElem_take]
theorem iS (b:List UInt8) (s:Ae) (hs:To s) (hb:b.length≤1048576):WX b s=some (Ni b s.at_.toNat s.data):=by
 obtain ⟨k,hk⟩:∃k:Nat,s.at_=k:=⟨s.at_.toNat,by have:=hs.1; omega⟩
 have hk1:k≤127:=by have:=hs.1; omega
 have e1:IntKind.i64.wrap (s.at_+1)=((k+1:Nat):Int):=by rw [hk]; exact w1 (by omega)
 have e2:=vE (show k+1≤1099511627776 by omega)
 have e3:IntKind.i64.wrap (32*s.at_)=((32*k:Nat):Int):=by rw [hk]; exact vE (by omega)
 simp only [WX,Bi,e1,e2]
 have e4:s.at_.toNat=k:=by omega
 rw [e4]
 by_cases hlt:b.length<32*(k+1)
 ·have e5:IntKind.i64.wrap (((32*(k+1):Nat):Int)-(b.length:Int))=((32*(k+1)-b.length:Nat):Int):=by rw [wr ⟨by omega,by omega⟩]; omega
  rw [if_pos (decide_eq_true (by omega)),e5,if_pos (by omega),if_pos (by omega)]
  simp only [Qy,e3,Int.toNat_natCast]
  have hlen:(b++List.replicate (32*(k+1)-b.length) (0:UInt8)).length=32*(k+1):=by simp; omega
  have:=Xr (b++List.replicate (32*(k+1)-b.length) 0) k s.data hs.2 (by omega)
  simp only [Int.toNat_natCast] at this
  rw [this]
  congr 1
  have hp:Gd (b++List.replicate (32*(k+1)-b.length) 0) (32*(k+1))=Gd b (32*(k+1)):=by
   conv=>lhs; unfold Gd
   rw [hlen]
   simp [Gd]
  unfold Ni
  rw [hp]
 ·rw [if_neg (by simp; omega)]
  simp only [Qy,e3]
  exact Xr b k s.data hs.2 (by omega)
theorem iU (b:List UInt8) (s:Ae) (hs:To s) (hb:b.length≤1048576) (h32:b.length%32=0):XH b s=some (Ni b s.at_.toNat s.data):=by
 obtain ⟨k,hk⟩:∃k:Nat,s.at_=k:=⟨s.at_.toNat,by have:=hs.1; omega⟩
 have hk1:k≤127:=by have:=hs.1; omega
 have e1:IntKind.i64.wrap (s.at_+1)=((k+1:Nat):Int):=by rw [hk]; exact w1 (by omega)
 have e2:=wr32' (show k+1≤1099511627776 by omega)
 have e3:IntKind.i64.wrap (s.at_*32)=((32*k:Nat):Int):=by rw [hk]; exact wr32' (by omega)
 have e4:s.at_.toNat=k:=by omega
 rw [e4]
 obtain ⟨r,h1,h2⟩:=Kp (step:=Rb s) (fun t=>(∃n,t=b++List.replicate n 0)∧t.length%32=0∧b.length≤t.length∧t.length≤max b.length (32*(k+1))) (fun t=>1048576+4096-t.length) (fun r=>r=Gd b (32*(k+1))) b ⟨⟨0,by simp⟩,h32,Nat.le_refl _,by omega⟩ (by
  rintro t ⟨⟨n,hn⟩,t1,t2,t3⟩
  simp only [Rb,Bi,e1,e2]
  by_cases hlt:t.length<32*(k+1)
  ·rw [if_pos (decide_eq_true (by omega)),if_pos (by omega),if_pos (by omega)]
   refine .inl ⟨_,rfl,⟨⟨n+32,?_⟩,by simp; omega,by simp; omega,by simp; omega⟩,by simp; omega⟩
   rw [hn,List.append_assoc,List.replicate_append_replicate]
   rfl
  ·rw [if_neg (by simp; omega)]
   refine .inr ⟨_,rfl,?_⟩
   subst hn
   simp only [List.length_append,List.length_replicate] at t3 hlt
   unfold Gd
   congr 2
   omega)
 subst h2
 simp only [XH,List.nil_append]
 rw [if_pos (by simp; omega),h1]
 simp only [Option.bind_some,e3]
 have:=Xr (Gd b (32*(k+1))) k s.data hs.2 (by simp; omega)
 rw [this]
 congr 1
 have hp:Gd (Gd b (32*(k+1))) (32*(k+1))=Gd b (32*(k+1)):=by
  have e0:32*(k+1)-(Gd b (32*(k+1))).length=0:=by simp; omega
  show Gd b (32*(k+1))++List.replicate (32*(k+1)-(Gd b (32*(k+1))).length) 0=_
  rw [e0]
  simp
 unfold Ni
 rw [hp]
theorem Nt (l:List Ae) (b:List UInt8) (hl:∀s∈l,To s) (hn:l.length≤1048576) (h1:b.length%32=0) (h2:b.length≤4096) {step:List UInt8×Int→Option ((List UInt8×Int)⊕List UInt8)}
  (hs:∀k (hk:k<l.length) (p:List UInt8),p.length%32=0→p.length≤4096→step (p,(k:Int))=some (.inl (Ni p l[k].at_.toNat l[k].data,((k+1:Nat):Int)))) (he:∀p,step (p,(l.length:Int))=some (.inr p)):
  Bo step (b,0)=some (l.foldl (fun b s=>Ni b s.at_.toNat s.data) b):=by
 have h:=Dc (step:=step) (fun k=>((l.take k).foldl (fun b s=>Ni b s.at_.toNat s.data) b,(k:Int))) l.length (l.foldl (fun b s=>Ni b s.at_.toNat s.data) b) (fun k hk=>by
  have hf:=Wl (l.take k) b (fun s hs'=>hl s (List.mem_of_mem_take hs')) h1 h2
  rw [hs k hk _ hf.1 hf.2.1,List.take_succ_eq_append_getElem hk,List.foldl_append]
  rfl) (by
  rw [he,List.take_length])
 exact h
theorem WH (d:Ap) (h:Gt d):aY d=some (Cv d):=by
 have hh:=h.2.1; have hw:=h.2.2.1
 have hl:=Nt d.Aj d.held h.2.2.2 (by omega) h.1 h.2.1 (step:=Jz d) (fun k hk p p1 p2=>by
  simp only [Jz]
  rw [if_pos (decide_eq_true (by omega)),Cu hk]
  simp only [Option.bind_some,iS p _ (h.2.2.2 _ (List.getElem_mem hk)) (by omega),w1 (show k<4611686018427387904 by omega)]) (fun p=>by
  simp only [Jz]
  rw [if_neg (by simp)])
 simp only [aY,Oa d.held (by omega),Option.bind_some,hl]
 rfl
theorem WW (d:Ap) (h:Gt d):Wm d=some (Cv d):=by
 have hh:=h.2.1; have hw:=h.2.2.1
 have hl:=Nt d.Aj d.held h.2.2.2 (by omega) h.1 h.2.1 (step:=Ka d) (fun k hk p p1 p2=>by
  simp only [Ka]
  rw [if_pos (decide_eq_true (by omega)),Cu hk]
  simp only [Option.bind_some,iU p _ (h.2.2.2 _ (List.getElem_mem hk)) (by omega) p1,w1 (show k<4611686018427387904 by omega)]) (fun p=>by
  simp only [Ka]
  rw [if_neg (by simp)])
 simp only [Wm,List.nil_append]
 rw [if_pos (by simp; omega),hl]
 rfl
def vF (all:List UInt8) (k:Nat) (data:List UInt8):List UInt8:=ovl (Gd all (32*((k+data.length-1) / 32+1))) k data
def kY (all:List UInt8) (k:Nat):List UInt8:=(all.drop (32*k)).take 32
def Pg (all:List UInt8) (a n:Nat):List Ae:=(List.range' a n).map fun (k:Nat)=>Ae.mk (k:Int) (kY all k)
def Lv (d:Ap) (k:Nat) (data:List UInt8):Ap:=
 if data.length=0 then d else Ap.mk d.held (d.Aj++Pg (vF (Cv d) k data) (k / 32) ((k+data.length-1) / 32+1-k / 32))
theorem Wb (all:List UInt8) (k:Nat) (h:32*(k+1)≤all.length):(kY all k).length=32:=by simp [kY]; omega
theorem jV (all:List UInt8) (k:Nat) (h:32*(k+1)≤all.length):Jr all ((32*k:Nat):Int) ((32*(k+1):Nat):Int)=some (kY all k):=by
 rw [Tl _ _ _ (by omega) h]
 unfold kY
 rw [List.drop_take]
 congr 2
 omega
theorem cD (all:List UInt8) (k:Nat) (data:List UInt8):(vF all k data).length=max all.length (32*((k+data.length-1) / 32+1)):=by
 unfold vF; rw [Vk,padB_len]
theorem tV (d:Ap) (h:Gt d):XL d=some d:=by
 have hh:=h.2.1; have hw:=h.2.2.1
 have hl:=Dc (step:=Oh d) (fun k=>((k:Int),d.Aj.take k)) d.Aj.length d.Aj (fun k hk=>by
  have hd:=(h.2.2.2 _ (List.getElem_mem hk)).2
  simp only [Oh]
  rw [if_pos (decide_eq_true (by omega)),Cu hk]
  simp only [Option.bind_some,Oa d.Aj[k].data (by omega),w1 (show k<4611686018427387904 by omega)]
  rw [if_pos (by simp; omega),List.take_succ_eq_append_getElem hk]) (by
  simp only [Oh]
  rw [if_neg (by simp),List.take_length])
 have hl':Bo (Oh d) (0,([]:List Ae))=some d.Aj:=hl
 simp only [XL,Oa d.held (by omega),Option.bind_some,hl']
theorem aG (all:List UInt8) (l0:List Ae) (a n:Nat) (hall:32*(a+n)≤all.length) (hn:all.length≤1048576) {step:Int×List Ae→Option ((Int×List Ae)⊕List Ae)}
  (hs:∀k (p:List Ae),a≤k→k<a+n→p.length≤l0.length+n→step ((k:Int),p)=some (.inl (((k+1:Nat):Int),p++[Ae.mk (k:Int) (kY all k)]))) (he:∀p,step (((a+n:Nat):Int),p)=some (.inr p)):
  Bo step ((a:Int),l0)=some (l0++Pg all a n):=by
 have h:=Dc (step:=step) (fun k=>(((a+k:Nat):Int),l0++Pg all a k)) n (l0++Pg all a n) (fun k hk=>by
  rw [hs (a+k) _ (by omega) (by omega) (by simp [Pg]; omega),List.append_assoc]
  congr 4
  unfold Pg
  rw [←List.range'_append_1 (s:=a) (m:=k) (n:=1),List.map_append]
  rfl) (he _)
 simpa [Pg] using h
theorem XA (d:Ap) (h:Gt d) (k:Nat) (data:List UInt8) (hk:k+data.length≤4096):WZ d (k:Int) data=some (Lv d k data):=by
 simp only [WZ,tV d h,Option.bind_some]
 by_cases h0:data.length=0
 ·rw [if_pos (by simp [h0])]
  simp [Lv,h0]
 ·rw [if_neg (by simpa using h0),WH d h]
  obtain ⟨r1,r2,r3⟩:=Zz d h
  have e0:IntKind.i64.wrap ((k:Int)+(data.length:Int))=((k+data.length:Nat):Int):=by rw [wr ⟨by omega,by omega⟩]; omega
  have e1:IntKind.i64.wrap (((k+data.length:Nat):Int)-1)=((k+data.length-1:Nat):Int):=by rw [wr ⟨by omega,by omega⟩]; omega
  have e2:(((k+data.length-1:Nat):Int)).tdiv 32=(((k+data.length-1) / 32:Nat):Int):=by rw [Int.tdiv_eq_ediv_of_nonneg (by omega)]; omega
  generalize hq:(k+data.length-1) / 32=q at e2
  have hq1:q≤128:=by omega
  have e3:IntKind.i64.wrap ((q:Nat):Int)=(q:Int):=wr ⟨by omega,by omega⟩
  have e4:=w1 (show q<4611686018427387904 by omega)
  have e5:=vE (show q+1≤1099511627776 by omega)
  have e6:IntKind.i64.wrap (((k:Int)).tdiv 32)=((k / 32:Nat):Int):=by
   rw [Int.tdiv_eq_ediv_of_nonneg (by omega),wr ⟨by omega,by omega⟩]; omega
  simp only [Option.bind_some,e0,e1,e2,e3,e4,e5,Bi]
  have key:∀p:List UInt8,p=Gd (Cv d) (32*(q+1))→Qz (k:Int) data d (q:Int) p=some (Lv d k data):=by
   rintro p rfl
   have hpl:(Gd (Cv d) (32*(q+1))).length=max (Cv d).length (32*(q+1)):=padB_len _ _
   simp only [Qz]
   rw [Tl _ _ _ (by omega) (Nat.le_refl _)]
   simp only [Option.bind_some,e6]
   have hd:(data.take ((Gd (Cv d) (32*(q+1))).take (Gd (Cv d) (32*(q+1))).length |>.drop k).length)=data:=List.take_of_length_le (by simp; omega)
   have hw0:ovl (Gd (Cv d) (32*(q+1))) k data=vF (Cv d) k data:=by unfold vF; rw [hq]
   have hwl:(vF (Cv d) k data).length=max (Cv d).length (32*(q+1)):=by rw [cD,hq]
   have hle:k / 32≤q:=by omega
   have hw:=h.2.2.1
   have hl:=aG (vF (Cv d) k data) d.Aj (k / 32) (q+1-k / 32) (by omega) (by omega) (step:=Ra (k:Int) data (q:Int) (Gd (Cv d) (32*(q+1))) ((Gd (Cv d) (32*(q+1))).take (Gd (Cv d) (32*(q+1))).length |>.drop k)) (fun j p j1 j2 j3=>by
    simp only [Ra]
    rw [if_pos (decide_eq_true (by omega)),hd,w1 (show j<4611686018427387904 by omega),vE (show j≤1099511627776 by omega),vE (show j+1≤1099511627776 by omega)]
    simp only [Int.toNat_natCast,hw0]
    rw [jV _ _ (by omega)]
    simp only [Option.bind_some]
    rw [Oa _ (by rw [Wb _ _ (by omega)]; omega)]
    simp only [Option.bind_some]
    rw [if_pos (by simp; omega)]) (fun p=>by
    simp only [Ra]
    rw [if_neg (by simp; omega)])
   rw [hl]
   simp only [Option.bind_some,Lv]
   rw [if_neg h0,hq]
  by_cases hlt:(Cv d).length<32*(q+1)
  ·have e7:IntKind.i64.wrap (((32*(q+1):Nat):Int)-((Cv d).length:Int))=((32*(q+1)-(Cv d).length:Nat):Int):=by rw [wr ⟨by omega,by omega⟩]; omega
   rw [if_pos (decide_eq_true (by omega)),e7,if_pos (by omega),if_pos (by omega)]
   refine key _ ?_
   unfold Gd
   rw [Int.toNat_natCast]
  ·rw [if_neg (by simp; omega)]
   refine key _ ?_
   unfold Gd
   rw [show 32*(q+1)-(Cv d).length=0 by omega]
   simp
end Go.Ev
end
section
namespace Go.Ev
end Go.Ev
end
section
namespace Go.Ev
end Go.Ev
end
section
namespace Go.Ev
theorem g63_t (a b c:Int) (h:b≤a∧a≤c):mZ a b c=some true:=by simp [mZ,h.1,h.2]
theorem mG (all:List UInt8) (a n:Nat):(Pg all a n).length=n:=by simp [Pg]
theorem rV:Gt (Ap.mk [] []):=⟨by simp,by simp,by simp,by simp⟩
end Go.Ev
end
section
namespace Go.Ev
theorem sU (k:IntKind) (a b:Nat) (ha:a<2^k.bits) (hb:b<2^k.bits):lP k (a:Int) (b:Int)=k.wrap ((a &&& b:Nat):Int):=by
 unfold lP
 rw [BitVec.ofInt_natCast,BitVec.ofInt_natCast,BitVec.toNat_and,BitVec.toNat_ofNat,BitVec.toNat_ofNat,Nat.mod_eq_of_lt ha,Nat.mod_eq_of_lt hb]
theorem YQ (k:IntKind) (a b:Nat) (ha:a<2^k.bits) (hb:b<2^k.bits):ior k (a:Int) (b:Int)=k.wrap ((a ||| b:Nat):Int):=by
 unfold ior
 rw [BitVec.ofInt_natCast,BitVec.ofInt_natCast,BitVec.toNat_or,BitVec.toNat_ofNat,BitVec.toNat_ofNat,Nat.mod_eq_of_lt ha,Nat.mod_eq_of_lt hb]
theorem Kq (k:IntKind) (a b:Nat) (ha:a<2^k.bits) (hb:b<2^k.bits):Um k (a:Int) (b:Int)=k.wrap ((a ^^^ b:Nat):Int):=by
 unfold Um
 rw [BitVec.ofInt_natCast,BitVec.ofInt_natCast,BitVec.toNat_xor,BitVec.toNat_ofNat,BitVec.toNat_ofNat,Nat.mod_eq_of_lt ha,Nat.mod_eq_of_lt hb]
theorem vJ {n:Nat} (h:n<4294967296):IntKind.u32.wrap (n:Int)=(n:Int):=by
 have e:IntKind.u32.wrap (n:Int)=(n:Int)%4294967296:=by simp [IntKind.wrap,IntKind.bits,IntKind.signed]
 rw [e]; omega
theorem Sf {n:Nat} (h:n<9223372036854775808):IntKind.i64.wrap (n:Int)=(n:Int):=wr ⟨by omega,by omega⟩
theorem Sl (n:Nat):(b8 (n:Int)).toNat=n%256:=by
 have:=kB (n:Int)
 unfold b8
 rw [vG] at this
 have e:((u8 (IntKind.u8.wrap (n:Int))).toNat:Int)=(n:Int)%256:=by rw [vG]; exact this
 omega
def Lf (c:Nat):Nat:=if c%2=1 then (c / 2) ^^^ 3988292384 else c / 2
def Bt:Nat→Nat→Nat
 | 0,c=>c
 | n+1,c=>Lf (Bt n c)
def Fo (c:Nat) (y:UInt8):Nat:=Bt 8 (c ^^^ y.toNat)
def Md (b:List UInt8):Nat:=(b.foldl Fo 4294967295) ^^^ 4294967295
theorem Ph {a b:Nat} (ha:a<4294967296) (hb:b<4294967296):a ^^^ b<4294967296:=Nat.xor_lt_two_pow (n:=32) ha hb
theorem eZ {c:Nat} (h:c<4294967296):Lf c<4294967296:=by
 unfold Lf
 split
 ·exact Ph (by omega) (by omega)
 ·omega
theorem Jx {c:Nat} (h:c<4294967296):∀n,Bt n c<4294967296
 | 0=>h
 | n+1=>eZ (Jx h n)
theorem eY {c:Nat} (y:UInt8) (h:c<4294967296):Fo c y<4294967296:=Jx (Ph h (by have:=y.toNat_lt; omega)) 8
theorem Jc (b:List UInt8):∀ {c:Nat},c<4294967296→b.foldl Fo c<4294967296:=by
 induction b with
 | nil=>exact fun h=>h
 | cons y r ih=>exact fun h=>ih (eY y h)
theorem aT (b:List UInt8):Md b<4294967296:=Ph (Jc b (by omega)) (by omega)
theorem two1:(2:Int)^min (1:Int).toNat 64=2:=by decide
theorem shr1 {c:Nat}:Rp .u32 (c:Int) 1=((c / 2:Nat):Int):=by
 unfold Rp
 rw [two1,Int.fdiv_eq_ediv_of_nonneg _ (by omega)]
 omega
theorem fM {c:Nat} (h:c<4294967296):Bo Od ((c:Int),0)=some ((Bt 8 c:Nat):Int):=by
 refine Dc (step:=Od) (fun k=>((Bt k c:Nat),(k:Int))) 8 _ (fun k hk=>?_) ?_
 ·have hc:=Jx h k
  have e1:lP .u32 ((Bt k c:Nat):Int) 1=((Bt k c%2:Nat):Int):=by
   have:=sU .u32 (Bt k c) 1 (by simpa [IntKind.bits] using hc) (by decide)
   rw [Nat.and_one_is_mod,vJ (by omega)] at this
   exact this
  simp only [Od,Vc]
  rw [if_pos (decide_eq_true (by omega)),e1,w1 (by omega),shr1]
  have es:Bt (k+1) c=Lf (Bt k c):=rfl
  rw [es]
  unfold Lf
  by_cases h2:Bt k c%2=1
  ·rw [if_pos (by simp [h2]),if_pos h2]
   have:=Kq .u32 (Bt k c / 2) 3988292384 (by simp [IntKind.bits]; omega) (by decide)
   rw [vJ (Ph (by omega) (by omega))] at this
   rw [show Um .u32 ((Bt k c / 2:Nat):Int) 3988292384=_ from this]
  ·rw [if_neg (by simp; omega),if_neg h2]
 ·simp only [Od]
  rw [if_neg (by decide)]
theorem iT (b:List UInt8) (hb:b.length≤1048576):sM b=some ((Md b:Nat):Int):=by
 have h:=Dc (step:=Oc b) (fun k=>((((b.take k).foldl Fo 4294967295:Nat):Int),(k:Int))) b.length ((b.foldl Fo 4294967295:Nat):Int) (fun k hk=>by
  have hc:=Jc (b.take k) (c:=4294967295) (by omega)
  have hy:(b[k].toNat)<256:=b[k].toNat_lt
  simp only [Oc]
  rw [if_pos (decide_eq_true (by omega)),Cu hk]
  simp only [Option.bind_some]
  rw [vJ (show b[k].toNat<4294967296 by omega),Kq .u32 _ _ (by simpa [IntKind.bits] using hc) (by simp [IntKind.bits]; omega),vJ (Ph hc (by omega)),fM (Ph hc (by omega))]
  simp only [Option.bind_some,w1 (show k<4611686018427387904 by omega)]
  rw [List.take_succ_eq_append_getElem hk,List.foldl_append]
  rfl) (by
  simp only [Oc]
  rw [if_neg (by simp),List.take_length])
 have hc:=Jc b (c:=4294967295) (by omega)
 have h':Bo (Oc b) (4294967295,0)=some ((b.foldl Fo 4294967295:Nat):Int):=h
 simp only [sM,h',Option.bind_some]
 have e:inot .u32 ((b.foldl Fo 4294967295:Nat):Int)=((Md b:Nat):Int):=by
  have:=Kq .u32 4294967295 (b.foldl Fo 4294967295) (by decide) (by simpa [IntKind.bits] using hc)
  rw [vJ (Ph (by omega) hc),Nat.xor_comm] at this
  exact this
 rw [e,Sf (by have:=aT b; omega)]
def De (n i:Nat):UInt8:=b8 ((n / 2^(8*i):Nat):Int)
def Gy (n m:Nat):List UInt8:=(List.range m).map fun j=>De n (m-1-j)
@[simp] theorem bigB_len (n m:Nat):(Gy n m).length=m:=by simp [Gy]
theorem shrN {n i:Nat} (hi:i≤7):Rp .i64 (n:Int) ((8*i:Nat):Int)=((n / 2^(8*i):Nat):Int):=by
 unfold Rp
 have e:min (((8*i:Nat):Int)).toNat 64=8*i:=by omega
 rw [e,Int.fdiv_eq_ediv_of_nonneg _ (by exact Int.pow_nonneg (by omega))]
 simp
theorem bB (n m:Nat) (hm:m≤8):bA (n:Int) (m:Int)=some (Gy n m):=by
 have h:=Dc (step:=Ob (n:Int) (m:Int)) (fun k=>((List.range m).map (fun j=>if m-k≤j then De n (m-1-j) else 0),(k:Int))) m (Gy n m) (fun k hk=>by
  have e1:IntKind.i64.wrap (8*(k:Int))=((8*k:Nat):Int):=by rw [wr ⟨by omega,by omega⟩]; omega
  have e2:IntKind.i64.wrap ((m:Int)-1)=((m-1:Nat):Int):=by rw [wr ⟨by omega,by omega⟩]; omega
  have e3:IntKind.i64.wrap (((m-1:Nat):Int)-(k:Int))=((m-1-k:Nat):Int):=by rw [wr ⟨by omega,by omega⟩]; omega
  simp only [Ob,e1,e2,e3,Int.toNat_natCast,List.length_replicate]
  rw [if_pos (decide_eq_true (by omega)),if_pos (by omega),Cu (by simp; omega)]
  simp only [Option.bind_some]
  rw [List.getElem?_eq_getElem (by simp; omega)]
  simp only [Option.bind_some,shrN (show k≤7 by omega),w1 (show k<4611686018427387904 by omega)]
  congr 3
  apply List.ext_getElem
  ·simp
  ·intro j j1 j2
   simp only [List.length_set,List.length_map,List.length_range] at j1
   simp only [List.getElem_set,List.getElem_map,List.getElem_range]
   by_cases c:m-1-k=j
   ·rw [if_pos c,if_pos (by omega)]
    unfold De
    congr 4; omega
   ·rw [if_neg c]
    by_cases c2:m-k≤j
    ·rw [if_pos c2,if_pos (by omega)]
    ·rw [if_neg c2,if_neg (by omega)]) (by
  simp only [Ob,Int.toNat_natCast,List.length_replicate]
  rw [if_neg (by simp)]
  congr 2
  unfold Gy
  apply List.map_congr_left
  intro j hj
  rw [if_pos (by omega)])
 have h0:(List.range m).map (fun j=>if m-0≤j then De n (m-1-j) else (0:UInt8))=List.replicate m 0:=by
  apply List.ext_getElem
  ·simp
  ·intro j j1 j2
   simp only [List.length_map,List.length_range] at j1
   simp only [List.getElem_map,List.getElem_range,List.getElem_replicate]
   rw [if_neg (by omega)]
 have h':Bo (Ob (n:Int) (m:Int)) (List.replicate m 0,0)=some (Gy n m):=by rw [←h0]; exact h
 simp only [bA,Int.toNat_natCast]
 rw [if_pos (by omega),if_pos (by omega),h']
 rfl
def Hk (l:List UInt8):Nat:=l.foldl (fun n y=>n*256+y.toNat) 0
theorem iC (l:List UInt8):∀(c k:Nat),c<256^k→l.foldl (fun n y=>n*256+y.toNat) c<256^(k+l.length):=by
 induction l with
 | nil=>exact fun c k h=>h
 | cons y r ih=>
  intro c k h
  have hy:=y.toNat_lt
  have:=ih (c*256+y.toNat) (k+1) (by rw [Nat.pow_succ]; omega)
  rw [List.length_cons,show k+(r.length+1)=k+1+r.length by omega]
  exact this
theorem bC (l:List UInt8) (hl:l.length≤7):fN l=some ((Hk l:Nat):Int):=by
 have h:=Dc (step:=Oe l) (fun k=>((((l.take k).foldl (fun n y=>n*256+y.toNat) 0:Nat):Int),(k:Int))) l.length ((Hk l:Nat):Int) (fun k hk=>by
  have hb:=iC (l.take k) 0 0 (by simp)
  rw [Nat.zero_add] at hb
  have hpw:256^(l.take k).length≤256^6:=Nat.pow_le_pow_right (by omega) (by simp; omega)
  have h6:(256:Nat)^6=281474976710656:=by decide
  generalize hc:(l.take k).foldl (fun n y=>n*256+y.toNat) 0=c at hb
  have hy:l[k].toNat<256:=l[k].toNat_lt
  have e1:YR .i64 (c:Int) 8=((c*256:Nat):Int):=by
   unfold YR
   have:(2:Int)^min (8:Int).toNat IntKind.i64.bits=256:=by decide
   rw [this,wr ⟨by omega,by omega⟩]; omega
  have e2:c*256 ||| l[k].toNat=c*256+l[k].toNat:=by
   have:=Nat.shiftLeft_add_eq_or_of_lt (a:=c) (b:=l[k].toNat) (i:=8) (by omega)
   rw [Nat.shiftLeft_eq] at this
   exact this.symm
  simp only [Oe]
  rw [if_pos (decide_eq_true (by omega)),Cu hk]
  simp only [Option.bind_some]
  rw [Sf (show l[k].toNat<9223372036854775808 by omega),e1,YQ .i64 _ _ (by simp [IntKind.bits]; omega) (by simp [IntKind.bits]; omega),e2,Sf (by omega),w1 (show k<4611686018427387904 by omega)]
  rw [List.take_succ_eq_append_getElem hk,List.foldl_append,hc]
  rfl) (by
  simp only [Oe]
  rw [if_neg (by simp),List.take_length]
  rfl)
 have h':Bo (Oe l) (0,0)=some ((Hk l:Nat):Int):=h
 simp only [fN,h',Option.bind_some]
theorem kN (n:Nat) (h:n<4294967296):Hk (Gy n 4)=n:=by
 have e:Gy n 4=[De n 3,De n 2,De n 1,De n 0]:=rfl
 rw [e]
 simp only [Hk,List.foldl_cons,List.foldl_nil,De,Sl]
 omega
end Go.Ev
end
section
namespace Go.Ev
def Gm (p:List UInt8):List UInt8:=Gy (p.length+1) 2++p
def Er (p:List UInt8):List UInt8:=Gm p++Gy (Md (Gm p)) 4
theorem Hn (p:List UInt8):(Gm p).length=p.length+2:=by simp [Gm]; omega
@[simp] theorem frameB_len (p:List UInt8):(Er p).length=p.length+6:=by simp [Er,Hn]
theorem WN (p:List UInt8) (hp:p.length≤65536):WM p=some (Er p):=by
 have e1:IntKind.i64.wrap ((p.length:Int)+1)=((p.length+1:Nat):Int):=w1 (by omega)
 have e2:bA ((p.length+1:Nat):Int) 2=some (Gy (p.length+1) 2):=bB (p.length+1) 2 (by omega)
 have e4:bA ((Md (Gm p):Nat):Int) 4=some (Gy (Md (Gm p)) 4):=bB (Md (Gm p)) 4 (by omega)
 simp only [WM,e1,e2,Option.bind_some]
 rw [if_pos (by simp; omega),show Gy (p.length+1) 2++p=Gm p from rfl,iT _ (by rw [Hn]; omega)]
 simp only [Option.bind_some,e4]
 rw [if_pos (by rw [Hn]; simp; omega)]
 rfl
def Te (b:List UInt8) (k:Nat):Option (List UInt8):=
 if k+2≤b.length then
  if (1≤Hk ((b.drop k).take 2)∧Hk ((b.drop k).take 2)≤2001)∧k+Hk ((b.drop k).take 2)+5≤b.length then
   if Md ((b.drop k).take (Hk ((b.drop k).take 2)+1))=Hk ((b.drop (k+Hk ((b.drop k).take 2)+1)).take 4) then some ((b.drop (k+2)).take (Hk ((b.drop k).take 2)-1)) else none
  else none
 else none
theorem Xy {α:Type} (b:List α) (k n:Nat) (h:k+n≤b.length):Jr b (k:Int) ((k+n:Nat):Int)=some ((b.drop k).take n):=by
 rw [Tl _ _ _ (by omega) h,List.drop_take]
 congr 2; omega
theorem Tj (b:List UInt8) (hb:b.length≤1048576) (l:List (List UInt8)) (k:Nat) (hl:l.length≤1048576) (hk:k≤1048576):
  Ik b (l,(k:Int))=match Te b k with
   | none=>some (.inr (l,(k:Int)))
   | some p=>some (.inl (l++[p],((k+p.length+6:Nat):Int))):=by
 have e1:IntKind.i64.wrap ((k:Int)+2)=((k+2:Nat):Int):=by rw [wr ⟨by omega,by omega⟩]; omega
 simp only [Ik,e1]
 by_cases c1:k+2≤b.length
 ·rw [if_pos (decide_eq_true (by omega)),Xy b k 2 c1]
  simp only [Option.bind_some]
  have hn2:((b.drop k).take 2).length=2:=by simp; omega
  rw [bC _ (by omega)]
  have hnl:=iC ((b.drop k).take 2) 0 0 (by simp)
  rw [hn2] at hnl
  have hnl':Hk ((b.drop k).take 2)<65536:=by simpa [Hk] using hnl
  generalize hnv:Hk ((b.drop k).take 2)=n at hnl'
  have e2:IntKind.i64.wrap ((n:Int)-1)=(n:Int)-1:=wr ⟨by omega,by omega⟩
  have e3:IntKind.i64.wrap (((k+2:Nat):Int)+((n:Int)-1))=((k+n+1:Nat):Int):=by rw [wr ⟨by omega,by omega⟩]; omega
  have e4:IntKind.i64.wrap (((k+n+1:Nat):Int)+4)=((k+n+5:Nat):Int):=by rw [wr ⟨by omega,by omega⟩]; omega
  simp only [Option.bind_some,Bi,e2,e3,e4]
  by_cases c2:1≤n∧n≤2001
  ·rw [g63_t _ _ _ (by omega)]
   simp only [Option.bind_some,Bool.not_true,cond_false]
   by_cases c3:k+n+5≤b.length
   ·have e5:decide (((k+n+5:Nat):Int)>(b.length:Int))=false:=decide_eq_false (by omega)
    have s1:Jr b (k:Int) ((k+n+1:Nat):Int)=some ((b.drop k).take (n+1)):=Xy b k (n+1) (by omega)
    have s2:Jr b ((k+n+1:Nat):Int) ((k+n+5:Nat):Int)=some ((b.drop (k+n+1)).take 4):=Xy b (k+n+1) 4 (by omega)
    have s3:Jr b ((k+2:Nat):Int) ((k+n+1:Nat):Int)=some ((b.drop (k+2)).take (n-1)):=by
     have:=Xy b (k+2) (n-1) (by omega)
     rwa [show k+2+(n-1)=k+n+1 by omega] at this
    rw [e5]
    simp only [beq_self_eq_true,if_true,s1,s2,Option.bind_some]
    rw [iT _ (by simp; omega),bC _ (by simp; omega)]
    simp only [Option.bind_some,cond_false]
    by_cases c4:Md ((b.drop k).take (n+1))=Hk ((b.drop (k+n+1)).take 4)
    ·have hx:Te b k=some ((b.drop (k+2)).take (n-1)):=by
      unfold Te; rw [hnv,if_pos c1,if_pos ⟨c2,c3⟩,if_pos c4]
     have hpl:((b.drop (k+2)).take (n-1)).length=n-1:=by simp; omega
     rw [hx,if_neg (by simp [c4]),s3]
     simp only [Option.bind_some]
     rw [Oa _ (by omega)]
     simp only [Option.bind_some]
     rw [if_pos (by simp; omega),hpl]
     congr 4; omega
    ·have hx:Te b k=none:=by
      unfold Te; rw [hnv,if_pos c1,if_pos ⟨c2,c3⟩,if_neg c4]
     rw [hx,if_pos (by rw [bne_iff_ne]; intro hh; exact c4 (by omega))]
   ·have e5:decide (((k+n+5:Nat):Int)>(b.length:Int))=true:=decide_eq_true (by omega)
    have hx:Te b k=none:=by
     unfold Te; rw [hnv,if_pos c1,if_neg (fun h=>c3 h.2)]
    rw [hx,e5]
    rfl
  ·have e6:mZ ((n:Int)-1) 0 2000=some false:=by
    unfold mZ
    by_cases h1:1≤n
    ·rw [decide_eq_false (show ¬(n:Int)-1≤2000 by omega)]; cases decide ((0:Int)≤(n:Int)-1)<;>rfl
    ·rw [decide_eq_false (show ¬(0:Int)≤(n:Int)-1 by omega)]; rfl
   have hx:Te b k=none:=by
    unfold Te; rw [hnv,if_pos c1,if_neg (fun h=>c2 h.1)]
   rw [hx,e6]
   rfl
 ·have hx:Te b k=none:=by
   unfold Te; rw [if_neg c1]
  rw [hx,if_neg (by simp; omega)]
end Go.Ev
end
section
namespace Go.Ev
end Go.Ev
end
section
namespace Go.Ev
theorem WO (d:Ap) (h:Gt d) (k:Nat) (data:List UInt8) (hk:k+data.length≤4096):sK d (k:Int) data=some (Lv d k data):=by
 obtain ⟨r1,r2,r3⟩:=Zz d h
 have hw:=h.2.2.1
 have e0:IntKind.i64.wrap ((k:Int)+(data.length:Int))=((k+data.length:Nat):Int):=by rw [wr ⟨by omega,by omega⟩]; omega
 simp only [sK,WW d h,Option.bind_some]
 obtain ⟨p,p1,p2⟩:=Kp (step:=Qt (k:Int) data) (fun t=>(∃n,t=Cv d++List.replicate n 0)∧(Cv d).length≤t.length∧t.length≤max (Cv d).length (32*((k+data.length+31) / 32))) (fun t=>1048576-t.length)
  (fun r=>r=Gd (Cv d) (32*((k+data.length+31) / 32))∧k+data.length≤r.length∧r.length≤4096) (Cv d) ⟨⟨0,by simp⟩,Nat.le_refl _,by omega⟩ (by
  rintro t ⟨⟨n,hn⟩,t1,t2⟩
  have em:((((t.length:Int)).tmod 32) != 0) = !decide (t.length%32=0):=by
   rw [Int.tmod_eq_emod_of_nonneg (by omega),Bool.eq_iff_iff]; simp; omega
  simp only [Qt,Bi,e0,em]
  by_cases c:t.length<k+data.length∨¬t.length%32=0
  ·rw [if_pos (by
    rcases c with c | c
    ·rw [decide_eq_true (show (t.length:Int)<((k+data.length:Nat):Int) by omega)]; rfl
    ·rw [decide_eq_false c]; cases decide ((t.length:Int)<((k+data.length:Nat):Int))<;>rfl),if_pos (by simp; omega)]
   refine .inl ⟨_,rfl,⟨⟨n+1,?_⟩,by simp; omega,by simp; omega⟩,by simp; omega⟩
   rw [hn,List.append_assoc]
   congr 1
   exact (List.replicate_append_replicate (n:=n) (m:=1) (a:=(0:UInt8)))
  ·rw [if_neg (by
    rw [decide_eq_false (show ¬(t.length:Int)<((k+data.length:Nat):Int) by omega),decide_eq_true (show t.length%32=0 by omega)]; simp)]
   refine .inr ⟨_,rfl,?_,by omega,by omega⟩
   subst hn
   simp only [List.length_append,List.length_replicate] at t1 t2 c
   unfold Gd
   congr 2
   omega)
 obtain ⟨p2,p3,p4⟩:=p2
 rw [p1]
 simp only [Option.bind_some]
 rw [Tl _ _ _ (by omega) (Nat.le_refl _)]
 simp only [Option.bind_some,List.nil_append]
 rw [if_pos (by simp; omega)]
 by_cases h0:data.length=0
 ·rw [if_pos (by simp [h0])]
  simp [Lv,h0]
 ·rw [if_neg (by simpa using h0)]
  have hq:32*((k+data.length+31) / 32)=32*((k+data.length-1) / 32+1):=by omega
  have hd:(data.take ((p.take p.length).drop k).length)=data:=List.take_of_length_le (by simp; omega)
  have hw0:ovl p k data=vF (Cv d) k data:=by unfold vF; rw [p2,hq]
  have hwl:=cD (Cv d) k data
  have e6:IntKind.i64.wrap (((k:Int)).tdiv 32)=((k / 32:Nat):Int):=by
   rw [Int.tdiv_eq_ediv_of_nonneg (by omega),wr ⟨by omega,by omega⟩]; omega
  generalize hqq:(k+data.length-1) / 32=q at *
  have hle:k / 32≤q:=by omega
  have hl:=aG (vF (Cv d) k data) d.Aj (k / 32) (q+1-k / 32) (by omega) (by omega) (step:=Nv (k:Int) data p ((p.take p.length).drop k)) (fun j l j1 j2 j3=>by
   simp only [Nv,e0,Bi]
   rw [wr32' (show j≤1099511627776 by omega),if_pos (decide_eq_true (by omega)),hd,w1 (show j<4611686018427387904 by omega),wr32' (show j+1≤1099511627776 by omega)]
   simp only [Int.toNat_natCast,hw0]
   rw [jV _ _ (by omega)]
   have hc:=Wb (vF (Cv d) k data) j (by omega)
   simp only [Option.bind_some,List.nil_append]
   rw [if_pos (by simp [hc]),if_pos (by simp; omega)]) (fun l=>by
   simp only [Nv,e0,Bi]
   rw [wr32' (show k / 32+(q+1-k / 32)≤1099511627776 by omega),if_neg (by simp; omega)])
  rw [e6,hl]
  simp only [Option.bind_some,Lv]
  rw [if_neg h0,hqq]
end Go.Ev
end
section
namespace Go.Ev
theorem fO {c:Nat} (h:c<4294967296):Bo Og ((c:Int),0)=some ((Bt 8 c:Nat):Int):=by
 refine Dc (step:=Og) (fun k=>((Bt k c:Nat),(k:Int))) 8 _ (fun k hk=>?_) ?_
 ·have hc:=Jx h k
  have e1:(((Bt k c:Nat):Int)).tmod 2=((Bt k c%2:Nat):Int):=by rw [Int.tmod_eq_emod_of_nonneg (by omega)]; omega
  have e2:(((Bt k c:Nat):Int)).tdiv 2=((Bt k c / 2:Nat):Int):=by rw [Int.tdiv_eq_ediv_of_nonneg (by omega)]; omega
  have e3:IntKind.i64.wrap ((Bt k c / 2:Nat):Int)=((Bt k c / 2:Nat):Int):=Sf (by omega)
  simp only [Og,Vd]
  rw [if_pos (decide_eq_true (by omega)),e1,w1 (by omega),e2,e3]
  have es:Bt (k+1) c=Lf (Bt k c):=rfl
  rw [es]
  unfold Lf
  by_cases h2:Bt k c%2=1
  ·rw [if_pos (by simp [h2]),if_pos h2]
   have:=Kq .i64 (Bt k c / 2) 3988292384 (by simp [IntKind.bits]; omega) (by decide)
   rw [Sf (by have:=Ph (a:=Bt k c / 2) (b:=3988292384) (by omega) (by omega); omega)] at this
   rw [show Um .i64 ((Bt k c / 2:Nat):Int) 3988292384=_ from this]
  ·rw [if_neg (by simp; omega),if_neg h2]
 ·simp only [Og]
  rw [if_neg (by decide)]
theorem XJ (b:List UInt8) (hb:b.length≤1048576):XI b=some ((Md b:Nat):Int):=by
 have h:=Dc (step:=Of b) (fun k=>((((b.take k).foldl Fo 4294967295:Nat):Int),(k:Int))) b.length ((b.foldl Fo 4294967295:Nat):Int) (fun k hk=>by
  have hc:=Jc (b.take k) (c:=4294967295) (by omega)
  have hy:(b[k].toNat)<256:=b[k].toNat_lt
  have hx:=Ph hc (show b[k].toNat<4294967296 by omega)
  simp only [Of]
  rw [if_pos (decide_eq_true (by omega)),Cu hk]
  simp only [Option.bind_some]
  rw [Sf (show b[k].toNat<9223372036854775808 by omega),Kq .i64 _ _ (by simp [IntKind.bits]; omega) (by simp [IntKind.bits]; omega),Sf (by omega),fO hx]
  simp only [Option.bind_some,w1 (show k<4611686018427387904 by omega)]
  rw [List.take_succ_eq_append_getElem hk,List.foldl_append]
  rfl) (by
  simp only [Of]
  rw [if_neg (by simp),List.take_length])
 have hc:=Jc b (c:=4294967295) (by omega)
 have h':Bo (Of b) (4294967295,0)=some ((b.foldl Fo 4294967295:Nat):Int):=h
 simp only [XI,h',Option.bind_some]
 have:=Kq .i64 (b.foldl Fo 4294967295) 4294967295 (by simp [IntKind.bits]; omega) (by decide)
 rw [Sf (by have:=Ph hc (show 4294967295<4294967296 by omega); omega)] at this
 rw [show Um .i64 ((b.foldl Fo 4294967295:Nat):Int) 4294967295=_ from this]
 rfl
theorem Sk {a b:Nat} (h:a%256=b%256):b8 (a:Int)=b8 (b:Int):=by
 apply UInt8.toNat_inj.1
 rw [Sl,Sl,h]
theorem iR (p:List UInt8) (hp:p.length≤65534):lJ p=some (Er p):=by
 have e1:IntKind.i64.wrap ((p.length:Int)+1)=((p.length+1:Nat):Int):=w1 (by omega)
 have e2:(((p.length+1:Nat):Int)).tdiv 256=(((p.length+1) / 256:Nat):Int):=by rw [Int.tdiv_eq_ediv_of_nonneg (by omega)]; omega
 have e3:(((p.length+1:Nat):Int)).tmod 256=(((p.length+1)%256:Nat):Int):=by rw [Int.tmod_eq_emod_of_nonneg (by omega)]; omega
 have e4:IntKind.i64.wrap ((((p.length+1) / 256:Nat):Int))=(((p.length+1) / 256:Nat):Int):=Sf (by omega)
 have hh:([b8 (((p.length+1) / 256:Nat):Int),b8 (((p.length+1)%256:Nat):Int)]:List UInt8)++p=Gm p:=by
  unfold Gm
  have:Gy (p.length+1) 2=[De (p.length+1) 1,De (p.length+1) 0]:=rfl
  rw [this]
  unfold De
  have x1:b8 (((p.length+1) / 256:Nat):Int)=b8 (((p.length+1) / 2^(8*1):Nat):Int):=Sk (by omega)
  have x2:b8 (((p.length+1)%256:Nat):Int)=b8 (((p.length+1) / 2^(8*0):Nat):Int):=Sk (by omega)
  rw [x1,x2]
 simp only [lJ,e1,e2,e3,e4,hh,Bi]
 rw [if_pos (by simp; omega),XJ _ (by rw [Hn]; omega)]
 have hc:=aT (Gm p)
 generalize hcv:Md (Gm p)=c at hc
 have d1:((c:Int)).tdiv 16777216=((c / 16777216:Nat):Int):=by rw [Int.tdiv_eq_ediv_of_nonneg (by omega)]; omega
 have d2:((c:Int)).tdiv 65536=((c / 65536:Nat):Int):=by rw [Int.tdiv_eq_ediv_of_nonneg (by omega)]; omega
 have d3:((c:Int)).tdiv 256=((c / 256:Nat):Int):=by rw [Int.tdiv_eq_ediv_of_nonneg (by omega)]; omega
 have d4:((c:Int)).tmod 256=((c%256:Nat):Int):=by rw [Int.tmod_eq_emod_of_nonneg (by omega)]; omega
 have d5:((c / 65536:Nat):Int).tmod 256=((c / 65536%256:Nat):Int):=by rw [Int.tmod_eq_emod_of_nonneg (by omega)]; omega
 have d6:((c / 256:Nat):Int).tmod 256=((c / 256%256:Nat):Int):=by rw [Int.tmod_eq_emod_of_nonneg (by omega)]; omega
 simp only [Option.bind_some,d1,d2,d3,d4,Sf (show c / 16777216<9223372036854775808 by omega),Sf (show c / 65536<9223372036854775808 by omega),Sf (show c / 256<9223372036854775808 by omega),d5,d6]
 rw [if_pos (by rw [Hn]; simp; omega)]
 unfold Er
 rw [hcv]
 have:Gy c 4=[De c 3,De c 2,De c 1,De c 0]:=rfl
 rw [this]
 unfold De
 have x1:b8 ((c / 16777216:Nat):Int)=b8 ((c / 2^(8*3):Nat):Int):=Sk (by omega)
 have x2:b8 ((c / 65536%256:Nat):Int)=b8 ((c / 2^(8*2):Nat):Int):=Sk (by omega)
 have x3:b8 ((c / 256%256:Nat):Int)=b8 ((c / 2^(8*1):Nat):Int):=Sk (by omega)
 have x4:b8 ((c%256:Nat):Int)=b8 ((c / 2^(8*0):Nat):Int):=Sk (by omega)
 rw [x1,x2,x3,x4]
theorem Im {n i:Nat} {y:UInt8} (h:n / 2^(8*i)%256=y.toNat):De n i=y:=by
 apply UInt8.toNat_inj.1
 unfold De
 rw [Sl,h]
theorem kO {l:List UInt8} (h:l.length=2):Gy (Hk l) 2=l:=by
 match l,h with
 | [a,b],_=>
  have ha:=a.toNat_lt; have hb:=b.toNat_lt
  show [De _ 1,De _ 0]=_
  simp only [Hk,List.foldl_cons,List.foldl_nil]
  rw [Im (y:=a) (by omega),Im (y:=b) (by omega)]
theorem kP {l:List UInt8} (h:l.length=4):Gy (Hk l) 4=l:=by
 match l,h with
 | [a,b,c,d],_=>
  have ha:=a.toNat_lt; have hb:=b.toNat_lt; have hc:=c.toNat_lt; have hd:=d.toNat_lt
  show [De _ 3,De _ 2,De _ 1,De _ 0]=_
  simp only [Hk,List.foldl_cons,List.foldl_nil]
  rw [Im (y:=a) (by omega),Im (y:=b) (by omega),Im (y:=c) (by omega),Im (y:=d) (by omega)]
theorem XG (b:List UInt8) (hb:b.length≤1048576) (k:Nat) (hk:k≤1048576):XF b (k:Int)=some (match Te b k with
   | none=>([],false)
   | some p=>(p,true)):=by
 have e1:IntKind.i64.wrap ((k:Int)+2)=((k+2:Nat):Int):=by rw [wr ⟨by omega,by omega⟩]; omega
 simp only [XF,e1]
 by_cases c1:k+2≤b.length
 ·rw [if_neg (by simp; omega),Cu (by omega),w1 (by omega),Cu (by omega)]
  have hn2:(b.drop k).take 2=[b[k],b[k+1]]:=by
   rw [List.drop_eq_getElem_cons (by omega),List.drop_eq_getElem_cons (by omega)]; rfl
  have hv:Hk ((b.drop k).take 2)=b[k].toNat*256+b[k+1].toNat:=by rw [hn2]; simp [Hk]
  have hl2:((b.drop k).take 2).length=2:=by rw [hn2]; rfl
  have hx:=b[k].toNat_lt; have hy:=b[k+1].toNat_lt
  have w4:IntKind.i64.wrap (((b[k].toNat:Int))*256)=((b[k].toNat*256:Nat):Int):=by rw [wr ⟨by omega,by omega⟩]; omega
  have w5:IntKind.i64.wrap (((b[k].toNat*256:Nat):Int)+(b[k+1].toNat:Int))=((b[k].toNat*256+b[k+1].toNat:Nat):Int):=by rw [wr ⟨by omega,by omega⟩]; omega
  simp only [Option.bind_some,Sf (show b[k].toNat<9223372036854775808 by omega),Sf (show b[k+1].toNat<9223372036854775808 by omega),w4,w5,←hv]
  have hn:Hk ((b.drop k).take 2)<65536:=by omega
  have hbb:=kO hl2
  generalize hnv:Hk ((b.drop k).take 2)=n at hn hbb
  have e2:IntKind.i64.wrap ((n:Int)-1)=(n:Int)-1:=wr ⟨by omega,by omega⟩
  have e3:IntKind.i64.wrap ((k:Int)+((n:Int)-1))=(k:Int)+((n:Int)-1):=wr ⟨by omega,by omega⟩
  have e4:IntKind.i64.wrap ((k:Int)+((n:Int)-1)+6)=((k+n+5:Nat):Int):=by rw [wr ⟨by omega,by omega⟩]; omega
  simp only [Bi,e2,e3,e4]
  by_cases c2:(1≤n∧n≤2001)∧k+n+5≤b.length
  ·obtain ⟨⟨c2a,c2b⟩,c3⟩:=c2
   rw [decide_eq_false (show ¬(n:Int)-1<0 by omega),decide_eq_false (show ¬(n:Int)-1>2000 by omega),decide_eq_false (show ¬((k+n+5:Nat):Int)>(b.length:Int) by omega)]
   have e5:IntKind.i64.wrap (((k+2:Nat):Int)+((n:Int)-1))=((k+2+(n-1):Nat):Int):=by rw [wr ⟨by omega,by omega⟩]; omega
   rw [if_neg (by decide),e5,Xy b (k+2) (n-1) (by omega)]
   have hpl:((b.drop (k+2)).take (n-1)).length=n-1:=by simp; omega
   generalize hp:(b.drop (k+2)).take (n-1)=p at hpl
   simp only [Option.bind_some,List.nil_append]
   rw [if_pos (by simp; omega),iR p (by omega)]
   simp only [Option.bind_some]
   have hhead:(b.drop k).take (n+1)=Gm p:=by
    unfold Gm
    rw [hpl,show n-1+1=n by omega,hbb,←hp,←List.drop_drop (i:=2) (j:=k)]
    have:=List.take_append_drop 2 ((b.drop k).take (n+1))
    rw [←this,List.take_take,List.drop_take,show min 2 (n+1)=2 by omega,show n+1-2=n-1 by omega]
   have htail:((b.drop (k+n+1)).take 4).length=4:=by simp; omega
   have hfl:(Er p).length=n+5:=by rw [frameB_len,hpl]; omega
   have hfi:∀i (hi:i<4),(Er p)[n+1+i]'(by omega)=(Gy (Md (Gm p)) 4)[i]'(by simp; omega):=fun i hi=>by
    unfold Er
    rw [List.getElem_append_right (by rw [Hn]; omega)]
    congr 1
    rw [Hn]; omega
   have hbi:∀i (hi:i<4),b[k+n+1+i]'(by omega)=((b.drop (k+n+1)).take 4)[i]'(by omega):=fun i hi=>by
    rw [List.getElem_take,List.getElem_drop]
   have hstep:∀i:Nat,i<4→Kb b (k:Int) ((n:Int)-1) (Er p) (i:Int)=if (!decide (((b.drop (k+n+1)).take 4)[i]? = (Gy (Md (Gm p)) 4)[i]?))=true then some (.inr (.inr ([],false))) else some (.inl ((i+1:Nat):Int)):=fun i hi=>by
    simp only [Kb,e1,e5]
    have e6:IntKind.i64.wrap (((k+2+(n-1):Nat):Int)+(i:Int))=((k+n+1+i:Nat):Int):=by rw [wr ⟨by omega,by omega⟩]; omega
    have e7:IntKind.i64.wrap (2+((n:Int)-1))=((n+1:Nat):Int):=by rw [wr ⟨by omega,by omega⟩]; omega
    have e8:IntKind.i64.wrap (((n+1:Nat):Int)+(i:Int))=((n+1+i:Nat):Int):=by rw [wr ⟨by omega,by omega⟩]; omega
    rw [if_pos (decide_eq_true (by omega)),e6,e7,e8,Cu (by omega),Cu (by omega)]
    simp only [Option.bind_some,Int.toNat_natCast]
    rw [List.getElem?_eq_getElem (by omega),hfi i hi,hbi i hi,w1 (by omega)]
    simp only [Option.bind_some]
    rw [List.getElem?_eq_getElem (by omega),List.getElem?_eq_getElem (by simp; omega)]
    by_cases c:((b.drop (k+n+1)).take 4)[i]'(by omega)=(Gy (Md (Gm p)) 4)[i]'(by simp; omega)
    ·rw [if_neg (by simp [c]),if_neg (by simp [c])]
    ·rw [if_pos (by
      rw [bne_iff_ne]; intro hh
      exact c (UInt8.toNat_inj.1 (by omega))),if_pos (by simpa using c)]
   have hend:Kb b (k:Int) ((n:Int)-1) (Er p) ((4:Nat):Int)=some (.inr (.inl ())):=by
    simp only [Kb]
    rw [if_neg (by decide)]
   by_cases c4:Md ((b.drop k).take (n+1))=Hk ((b.drop (k+n+1)).take 4)
   ·have hx:Te b k=some p:=by
     unfold Te; rw [hnv,if_pos c1,if_pos ⟨⟨c2a,c2b⟩,c3⟩,if_pos c4,hp]
    have hb4:Gy (Md (Gm p)) 4=(b.drop (k+n+1)).take 4:=by rw [←hhead,c4,kP htail]
    have:=Dc (step:=Kb b (k:Int) ((n:Int)-1) (Er p)) (fun i=>(i:Int)) 4 (.inl ()) (fun i hi=>by rw [hstep i hi,hb4,if_neg (by simp)]) hend
    rw [hx,show (0:Int)=((0:Nat):Int) from rfl,this]
    rfl
   ·have hx:Te b k=none:=by
     unfold Te; rw [hnv,if_pos c1,if_pos ⟨⟨c2a,c2b⟩,c3⟩,if_neg c4]
    obtain ⟨i,hi,hj,hno⟩:=dH (n:=4) (ok:=fun i=>((b.drop (k+n+1)).take 4)[i]? = (Gy (Md (Gm p)) 4)[i]?) (fun hall=>c4 (by
     have:(b.drop (k+n+1)).take 4=Gy (Md (Gm p)) 4:=by
      apply List.ext_getElem?
      intro i
      by_cases hi:i<4
      ·exact hall i hi
      ·rw [List.getElem?_eq_none (by omega),List.getElem?_eq_none (by simp; omega)]
     rw [this,kN _ (aT _),hhead]))
    have:=Mz (step:=Kb b (k:Int) ((n:Int)-1) (Er p)) (fun i=>(i:Int)) i (fun j hj'=>by rw [hstep j (by omega),if_neg (by simp [hj j hj'])])
    rw [hx,show (0:Int)=((0:Nat):Int) from rfl,this,Dp (r:=.inr ([],false)) (by rw [hstep i hi,if_pos (by simp [hno])])]
    rfl
  ·have hx:Te b k=none:=by
    unfold Te; rw [hnv,if_pos c1,if_neg c2]
   rw [hx,if_pos (by
    by_cases h1:1≤n∧n≤2001
    ·rw [decide_eq_true (show ((k+n+5:Nat):Int)>(b.length:Int) by omega)]
     cases decide ((n:Int)-1<0)<;>cases decide ((n:Int)-1>2000)<;>rfl
    ·by_cases h2:1≤n
     ·rw [decide_eq_true (show (n:Int)-1>2000 by omega)]
      cases decide ((n:Int)-1<0)<;>rfl
     ·rw [decide_eq_true (show (n:Int)-1<0 by omega)]; rfl)]
 ·have hx:Te b k=none:=by
   unfold Te; rw [if_neg c1]
  rw [hx,if_pos (decide_eq_true (by omega))]
end Go.Ev
end
section
namespace Go.Ev
theorem Zo {σ ρ:Type} {step step':σ→Option (σ⊕ρ)} (I:σ→Prop) (μ:σ→Nat) (hs:∀s,I s→step s=step' s)
  (h:∀s,I s→(∃s',step s=some (.inl s')∧I s'∧μ s'<μ s)∨(∃r,step s=some (.inr r))) (s0:σ) (h0:I s0):Bo step s0=Bo step' s0:=by
 have key:∀(n:Nat) (s0:σ),μ s0<n→I s0→Bo step s0=Bo step' s0:=by
  intro n
  induction n with
  | zero=>intro s0 hn; omega
  | succ n ih=>
   intro s0 hn hI
   rcases h s0 hI with ⟨s',h1,h2,h3⟩ | ⟨r,h1⟩
   ·rw [Fs h1,Fs (step:=step') (by rw [←hs s0 hI]; exact h1),ih s' (by omega) h2]
   ·rw [Dp h1,Dp (step:=step') (by rw [←hs s0 hI]; exact h1)]
 exact key (μ s0+1) s0 (by omega) h0
theorem bL {b p:List UInt8} {k:Nat} (h:Te b k=some p):k+p.length+6≤b.length:=by
 unfold Te at h
 split at h
 ·split at h
  ·rename_i c1 c2
   split at h
   ·obtain rfl:=Option.some.inj h
    simp; omega
   ·cases h
  ·cases h
 ·cases h
theorem scan_step' (b:List UInt8) (hb:b.length≤1048576) (l:List (List UInt8)) (k:Nat) (hl:l.length≤1048576) (hk:k≤1048576):
  Qx b (l,(k:Int))=match Te b k with
   | none=>some (.inr (l,(k:Int)))
   | some p=>some (.inl (l++[p],((k+p.length+6:Nat):Int))):=by
 simp only [Qx,XG b hb k hk,Option.bind_some]
 cases hx:Te b k with
 | none=>rfl
 | some p=>
  have hp:=bL hx
  have e1:IntKind.i64.wrap ((p.length:Int)+6)=((p.length+6:Nat):Int):=by rw [wr ⟨by omega,by omega⟩]; omega
  have e2:IntKind.i64.wrap ((k:Int)+((p.length+6:Nat):Int))=((k+p.length+6:Nat):Int):=by rw [wr ⟨by omega,by omega⟩]; omega
  simp only [e1,e2]
  rw [if_neg (by decide),if_pos (by simp; omega)]
def Vr (b:List UInt8) (s:List (List UInt8)×Int):Prop:=∃k:Nat,s.2=(k:Int)∧k≤b.length∧6*s.1.length≤k
theorem aE (b:List UInt8) (hb:b.length≤1048576) (s:List (List UInt8)×Int) (h:Vr b s):
  (∃s',Ik b s=some (.inl s')∧(Vr b s'∧∃p,s'.1=s.1++[p])∧((b.length:Int)-s'.2).toNat<((b.length:Int)-s.2).toNat)∨Ik b s=some (.inr s):=by
 obtain ⟨l,_⟩:=s
 obtain ⟨k,rfl,hk,hl⟩:=h
 simp only at hl
 rw [Tj b hb l k (by omega) (by omega)]
 cases hx:Te b k with
 | none=>exact .inr rfl
 | some p=>
  have hp:=bL hx
  exact .inl ⟨_,rfl,⟨⟨k+p.length+6,rfl,by omega,by simp; omega⟩,p,rfl⟩,by simp only; omega⟩
theorem aF (b:List UInt8) (hb:b.length≤1048576):fJ b=aZ b:=by
 have:=Zo (step:=Ik b) (step':=Qx b) (Vr b) (fun s=>((b.length:Int)-s.2).toNat) (fun s hs=>by
  obtain ⟨l,_⟩:=s
  obtain ⟨k,rfl,hk,hl⟩:=hs
  simp only at hl
  rw [Tj b hb l k (by omega) (by omega),scan_step' b hb l k (by omega) (by omega)]
  first | done | (cases Te b k<;>rfl)) (fun s hs=>by
  rcases aE b hb s hs with ⟨s',h1,h2,h3⟩ | h
  ·exact .inl ⟨s',h1,h2.1,h3⟩
  ·exact .inr ⟨_,h⟩) ([],0) ⟨0,rfl,by omega,by simp⟩
 simp only [aZ,fJ,this]
end Go.Ev
end
section
namespace Go.Ev
theorem iM (l:List UInt8) (hl:l.length≤1048576):sE l=some l:=by
 have h:=bX l id default (step:=Nu l) (fun k hk p hp=>by
  simp only [Nu]
  rw [if_pos (decide_eq_true (by omega)),Cu hk]
  simp only [Option.bind_some]
  rw [Cu (l:=p) (k:=k) (by omega)]
  simp only [Option.bind_some,Int.toNat_natCast]
  rw [List.getElem?_eq_getElem (by omega)]
  simp only [Option.bind_some,w1 (show k<4611686018427387904 by omega)]
  rfl) (fun p hp=>by
  simp only [Nu]
  rw [if_neg (by simp)])
 rw [List.map_id] at h
 unfold sE
 rw [if_pos (by omega),if_pos (by omega)]
 simp only [Int.toNat_natCast,Bi]
 first
 | (rw [show (Bo (Nu l) (List.replicate l.length default,0))=_ from h]; rfl)
 | (erw [h]; rfl)
theorem Zk (l:List UInt8) (hl:l.length≤1048576):sF l l=some true:=by
 have h:=Ti l (step:=Qp l l) (fun k hk=>by
  simp only [Qp]
  rw [if_pos (decide_eq_true (by omega)),Cu hk]
  simp [w1 (show k<4611686018427387904 by omega)]) (by
  simp only [Qp]
  rw [if_neg (by simp)])
 unfold sF
 rw [if_neg (by simp),h]
 rfl
end Go.Ev
end
section
set_option maxHeartbeats 1000000
namespace Go.Ev
theorem iN (l:List UInt8) (a:Int) (ha:0≤a∧a≤4611686018427387904) (hl:l.length≤1048576):sH l a=some (a+(l.length:Int),Fk (fun c _=>b8 c) 1 l a):=by
 have h:=Zr (fun c _=>b8 c) 1 l a (step:=Qq) (fun k p hp hk=>by
  simp only [Qq]
  rw [if_pos (decide_eq_true (by omega)),Cu (l:=p) (k:=k) (by omega)]
  simp only [Option.bind_some,Int.toNat_natCast]
  rw [List.getElem?_eq_getElem (by omega)]
  have e1:IntKind.i64.wrap (a+((1:Nat):Int)*(k:Int)+1)=a+((1:Nat):Int)*((k+1:Nat):Int):=by rw [wr ⟨by omega,by omega⟩]; omega
  simp only [Option.bind_some,w1 (show k<4611686018427387904 by omega),e1]) (fun p c hp=>by
  simp only [Qq]
  rw [if_neg (by simp; omega)])
 simp only [sH,h,Option.bind_some]
 simp
theorem iP (l:List UInt8) (a:Int) (ha:0≤a∧a≤4611686018427387904) (hl:l.length≤1048576):sL (Fk (fun c _=>b8 c) 1 l a) a=some (a+(l.length:Int)):=by
 have h:=Dc (step:=Ny (Fk (fun c _=>b8 c) 1 l a)) (fun k=>(a+(k:Int),(k:Int))) l.length (.inl (a+(l.length:Int))) (fun k hk=>by
  simp only [Ny]
  rw [if_pos (decide_eq_true (by simp; omega)),Cu (by simp; omega)]
  have e1:IntKind.i64.wrap (a+(k:Int)+1)=a+((k+1:Nat):Int):=by rw [wr ⟨by omega,by omega⟩]; omega
  simp only [Option.bind_some,w1 (show k<4611686018427387904 by omega),e1,gC]
  rw [if_neg (by simp)]) (by
  simp only [Ny]
  rw [if_neg (by simp)])
 have h':Bo (Ny (Fk (fun c _=>b8 c) 1 l a)) (a,0)=some (.inl (a+(l.length:Int))):=by simpa using h
 simp only [sL,h',Option.bind_some]
def Ic (s:Ae):Prop:=s.data.length≤1048576
def Kd (c:Int) (s:Ae):Ae:=Ae.mk c (Fk (fun c _=>b8 c) 1 s.data (c+1))
def Fe (s:Ae):Nat:=s.data.length+1
theorem w1i {c:Int} (h:0≤c) (h2:c≤4611686018427387904):IntKind.i64.wrap (c+1)=c+1:=wr ⟨by omega,by omega⟩
theorem WT (l:List Ae) (a:Int) (ha:0≤a∧a≤1099511627776) (hl:l.length≤1048576) (hf:∀s∈l,Ic s):WS l a=some (a+(Kx Fe l:Int),Hw Kd Fe l a)∧a+(Kx Fe l:Int)≤4398046511104:=by
 have hB:Kx Fe l≤1048577*l.length:=bW fun x hx=>by have:=hf x hx; unfold Ic at this; unfold Fe; omega
 have hB2:1048577*l.length≤1048577*1048576:=Nat.mul_le_mul_left _ hl
 have h:=Xg Kd Fe Ic 4398046511104 (step:=Nw) (fun k p c x hk hp hx hfx h0 h1=>by
  unfold Fe at h1
  simp only [Nw]
  have hset:(p.set k (Ae.mk c x.data))[k]? = some (Ae.mk c x.data):=by simp [hk]
  have hi:Ec (p.set k (Ae.mk c x.data)) (k:Int)=some (Ae.mk c x.data):=by unfold Ec; rw [if_pos (by omega),Int.toNat_natCast]; exact hset
  have hi0:Ec p (k:Int)=some x:=by unfold Ec; rw [if_pos (by omega),Int.toNat_natCast]; exact hx
  rw [if_pos (decide_eq_true (by omega)),hi0]
  simp only [Option.bind_some,Int.toNat_natCast,hx,hi,hset,w1i h0 (show c≤4611686018427387904 by omega),iN x.data (c+1) ⟨by omega,by omega⟩ hfx,marked_len,if_true,Bi,w1 (show k<4611686018427387904 by omega)]
  rw [List.set_set]
  unfold Kd Fe
  congr 4
  push_cast; omega) (fun p c=>by
  simp only [Nw]
  rw [if_neg (by simp)]) l [] a (by simpa using hl) hf ha.1 (by omega)
 refine ⟨?_,by omega⟩
 have h':Bo Nw (l,a,0)=some (Hw Kd Fe l a,a+(Kx Fe l:Int)):=by simpa using h
 simp only [WS,h',Option.bind_some]
theorem WV (l:List Ae) (a:Int) (ha:0≤a∧a≤1099511627776) (hl:l.length≤1048576) (hf:∀s∈l,Ic s):WU (Hw Kd Fe l a) a=some (a+(Kx Fe l:Int)):=by
 have hB:Kx Fe l≤1048577*l.length:=bW fun x hx=>by have:=hf x hx; unfold Ic at this; unfold Fe; omega
 have hB2:1048577*l.length≤1048577*1048576:=Nat.mul_le_mul_left _ hl
 have h:=Wu Kd Fe Ic 4398046511104 (Hw Kd Fe l a) (by simpa using hl) (step:=Nz (Hw Kd Fe l a)) (fun k c x hk hx hfx h0 h1=>by
  unfold Fe at h1
  simp only [Nz]
  have hk':k<l.length:=by simpa using hk
  have hi:Ec (Hw Kd Fe l a) (k:Int)=some (Kd c x):=by unfold Ec; rw [if_pos (by omega),Int.toNat_natCast]; exact hx
  rw [if_pos (decide_eq_true (by omega)),hi]
  have e0:(Kd c x).at_=c:=rfl
  have e1:(Kd c x).data=Fk (fun c _=>b8 c) 1 x.data (c+1):=rfl
  simp only [Option.bind_some,e0,e1,w1i h0 (show c≤4611686018427387904 by omega),iP x.data (c+1) ⟨by omega,by omega⟩ hfx,w1 (show k<4611686018427387904 by omega)]
  rw [if_neg (by simp),if_neg (by simp; omega)]
  unfold Fe
  congr 3
  push_cast; omega) (fun c=>by
  simp only [Nz]
  rw [if_neg (by simp)]) l [] a (by simp) hf ha.1 (by omega)
 have h':Bo (Nz (Hw Kd Fe l a)) (a,0)=some (.inl (a+(Kx Fe l:Int))):=by simpa using h
 simp only [WU,h',Option.bind_some]
def Ky (d:Ap):Prop:=d.held.length≤1048576∧d.Aj.length≤1048576∧∀s∈d.Aj,Ic s
theorem dK (d:Ap) (h:Ky d) (a:Int) (ha:0≤a∧a≤1048577):∃n p q,sG d a=some (n,p,q)∧p.length=d.held.length∧q.length=d.Aj.length∧a≤n∧n≤4398046511104∧sI (Ap.mk p q) a=some n:=by
 obtain ⟨h1,h2,h3⟩:=h
 obtain ⟨m1,m2⟩:=WT d.Aj (a+(d.held.length:Int)) ⟨by omega,by omega⟩ h2 h3
 refine ⟨a+(d.held.length:Int)+(Kx Fe d.Aj:Int),Fk (fun c _=>b8 c) 1 d.held a,Hw Kd Fe d.Aj (a+(d.held.length:Int)),?_,by simp,by simp,by omega,m2,?_⟩
 rotate_left
 ·simp only [sI,iP d.held a ⟨ha.1,by omega⟩ h1,Option.bind_some]
  rw [if_neg (by simp; omega),WV d.Aj _ ⟨by omega,by omega⟩ h2 h3]
  simp only [Option.bind_some]
  rw [if_neg (by simp; omega)]
 ·simp only [sG,iN d.held a ⟨ha.1,by omega⟩ h1,Option.bind_some,marked_len,if_true,m1,markv_len]
theorem to_sec (s:Ae) (h:Ic s):sN s=some s:=by simp only [sN,iM s.data h,Option.bind_some]
theorem WQ (l:List Ae) (hl:l.length≤1048576) (hE:∀x∈l,sN x=some x):WP l=some l:=by
 have h:=bX l id (Ae.mk 0 ([]:List UInt8)) (step:=Qu l) (fun k hk p hp=>by
  simp only [Qu]
  rw [if_pos (decide_eq_true (by omega)),Cu hk]
  simp only [Option.bind_some]
  rw [hE _ (List.getElem_mem hk)]
  simp only [Option.bind_some]
  rw [Cu (l:=p) (k:=k) (by omega)]
  simp only [Option.bind_some,Int.toNat_natCast]
  rw [List.getElem?_eq_getElem (by omega)]
  simp only [Option.bind_some,w1 (show k<4611686018427387904 by omega)]
  rfl) (fun p hp=>by
  simp only [Qu]
  rw [if_neg (by simp)])
 rw [List.map_id] at h
 unfold WP
 rw [if_pos (by omega),if_pos (by omega)]
 simp only [Int.toNat_natCast,Bi,h,Option.bind_some]
theorem to_dev (d:Ap) (h:Ky d):fE d=some d:=by
 simp only [fE,iM d.held h.1,WQ d.Aj h.2.1 fun x hx=>to_sec x (h.2.2 x hx),Option.bind_some]
theorem lK (s:Ae) (h:Ic s):sO s s=some true:=by simp [sO,Zk s.data h]
theorem lI (l:List Ae) (hl:l.length≤1048576) (hE:∀x∈l,sO x x=some true):WR l l=some true:=by
 have h:=Ti l (step:=Qw l l) (fun k hk=>by
  simp only [Qw]
  rw [if_pos (decide_eq_true (by omega)),Cu hk]
  simp [w1 (show k<4611686018427387904 by omega),hE _ (List.getElem_mem hk)]) (by
  simp only [Qw]
  rw [if_neg (by simp)])
 unfold WR
 rw [if_neg (by simp),h]
 rfl
theorem Zj (d:Ap) (h:Ky d):fG d d=some true:=by
 simp [fG,Zk d.held h.1,lI d.Aj h.2.1 fun x hx=>lK x (h.2.2 x hx)]
theorem iO (l:List UInt8) (n:Int) (hn:0≤n∧n≤1048576) (hl:l.length≤9223372036854775807):(lG l n=some (-1)∧n<(l.length:Int))∨(lG l n=some (n-(l.length:Int))∧(l.length:Int)≤n):=by
 have hw:IntKind.i64.wrap (n-(l.length:Int))=n-(l.length:Int):=wr ⟨by omega,by omega⟩
 simp only [lG,hw]
 by_cases h:n-(l.length:Int)<0
 ·rw [if_pos (decide_eq_true h)]; exact .inl ⟨rfl,by omega⟩
 ·rw [if_neg (by simpa using h)]; exact .inr ⟨rfl,by omega⟩
theorem sz_dev (d:Ap) (o:Tg d) (n:Int) (hn:0≤n∧n≤1048576):∃r,WE d n=some r∧r≤1048576∧(0≤r→Ky d):=by
 simp only [WE]
 rcases iO d.held n hn o.1.1 with ⟨e1,_⟩ | ⟨e1,e2⟩
 ·rw [e1]; simp only [Option.bind_some]
  rw [if_pos (by decide)]
  exact ⟨-1,rfl,by decide,fun h=>by omega⟩
 ·rw [e1]; simp only [Option.bind_some]
  rw [if_neg (by simp; omega)]
  have hl:=o.2.1
  have hw:IntKind.i64.wrap (n-(d.held.length:Int)-(d.Aj.length:Int))=n-(d.held.length:Int)-(d.Aj.length:Int):=wr ⟨by omega,by omega⟩
  simp only [g289,hw]
  by_cases h:n-(d.held.length:Int)-(d.Aj.length:Int)<0
  ·rw [if_pos (decide_eq_true h)]; simp only [Option.bind_some]
   rw [if_pos (by decide)]
   exact ⟨-1,rfl,by decide,fun h=>by omega⟩
  ·rw [if_neg (by simpa using h)]
   obtain ⟨r,r1,r2⟩:=dZ d.Aj (by omega) Ic (n-(d.held.length:Int)-(d.Aj.length:Int)) (by omega) (step:=Qr d.Aj) (fun k c hk c0 c1=>by
    simp only [Qr]
    rw [if_pos (decide_eq_true (by omega)),Cu hk]
    simp only [Option.bind_some,g345]
    rcases iO d.Aj[k].data c ⟨c0,by omega⟩ (o.2.2 _ (List.getElem_mem hk)).2.1 with ⟨e3,_⟩ | ⟨e3,e4⟩
    ·rw [e3]; simp only [Option.bind_some]
     rw [if_pos (by decide)]; simp only [Option.bind_some]
     rw [if_pos (by decide)]
     exact .inl rfl
    ·rw [e3]; simp only [Option.bind_some]
     rw [if_neg (by simp; omega)]; simp only [Option.bind_some]
     rw [if_neg (by simp; omega),w1 (show k<4611686018427387904 by omega)]
     exact .inr ⟨_,by omega,by omega,by unfold Ic; omega,rfl⟩) (fun c=>by
    simp only [Qr]
    rw [if_neg (by simp)]) (by omega)
   rw [r1]
   rcases r2 with rfl | ⟨c,rfl,c0,c1,hq⟩
   ·simp only [Option.bind_some]
    rw [if_pos (by decide)]
    exact ⟨-1,rfl,by decide,fun h=>by omega⟩
   ·simp only [Option.bind_some]
    rw [if_neg (by simp; omega)]
    exact ⟨c,rfl,by omega,fun _=>⟨by omega,by omega,hq⟩⟩
end Go.Ev
end
section
set_option maxHeartbeats 1000000
namespace Go.Ev
theorem gifn {g b:Bool}:(if g=true then some b else some (default:Bool))=some (g&&b):=by cases g<;>rfl
def Yq (s:Ae):Bool:=(decide (0≤s.at_)&&decide (s.at_≤127))&&decide (s.data.length=32)
theorem uP (s:Ae):Yq s=true↔To s:=by simp [Yq,To,and_assoc]
def Yk (d:Ap):Bool:=((decide (d.held.length%32=0)&&decide (d.held.length≤4096))&&decide (d.Aj.length≤4096))&&d.Aj.all Yq
theorem Wf (d:Ap):Yk d=true↔Gt d:=by
 simp only [Yk,Gt,Bool.and_eq_true,decide_eq_true_eq,List.all_eq_true,uP,and_assoc]
theorem g63_c (a b c:Int):mZ a b c=some (decide (b≤a)&&decide (a≤c)):=by
 simp only [mZ]; congr 1; cases decide (b≤a)<;>simp
theorem tm32 (n:Nat):((n:Int)).tmod 32=((n%32:Nat):Int):=by rw [Int.tmod_eq_emod_of_nonneg (by omega)]; omega
theorem g271_b (s:Ae):lD s=some (Yq s):=by
 simp only [lD,g63_c,Option.bind_some,Yq]
 congr 1
 cases (decide (0≤s.at_)&&decide (s.at_≤127))
 ·rfl
 ·simp only [cond_true,Bool.true_and]
  by_cases h:s.data.length=32
  ·simp [h]
  ·have:((s.data.length:Int)==32)=false:=by simpa using (by omega:¬((s.data.length:Int)=32))
   simp [h,this]
theorem g216_b (d:Ap) (hw:d.Aj.length≤1048576):WC d=some (Yk d):=by
 have e:=WK d.Aj (fun z=>lD z) Yq (fun x _=>g271_b x) (by omega)
 have e2:WI d.Aj=some (decide (d.Aj.length≤4096)):=by
  simp only [WI]; congr 1; simp; omega
 have hA:(bif (((d.held.length:Int)).tmod 32==0) then (decide ((d.held.length:Int)≤4096)) else false)=(decide (d.held.length%32=0)&&decide (d.held.length≤4096)):=by
  rw [tm32]
  by_cases h:d.held.length%32=0
  ·have:(((d.held.length%32:Nat):Int)==0)=true:=by simpa using (by omega:((d.held.length%32:Nat):Int)=0)
   rw [this]; simp [h]; omega
  ·have:(((d.held.length%32:Nat):Int)==0)=false:=by simpa using (by omega:¬((d.held.length%32:Nat):Int)=0)
   rw [this]; simp [h]
 simp only [WC,hA,e2,e,Bi,beq_true,gifn,Option.bind_some]
 congr 1
 unfold Yk
 cases (decide (d.held.length%32=0)&&decide (d.held.length≤4096))<;>cases decide (d.Aj.length≤4096)<;>cases d.Aj.all Yq<;>rfl
theorem g56_c (a b c:Int):g56 a b c=some (decide (b≤a)&&decide (a≤c)):=by
 simp only [g56]; congr 1; cases h:decide (b≤a)<;>simp_all
theorem fI (d:Ap) (hw:d.Aj.length≤1048576):lH d=some (Yk d):=by
 simp only [lH,Bi,tm32]
 by_cases h1:d.held.length%32=0
 rotate_left
 ·have:(((d.held.length%32:Nat):Int) != 0)=true:=by simpa using (by omega:¬((d.held.length%32:Nat):Int)=0)
  rw [this]
  simp [Yk,h1]
 have e1:(((d.held.length%32:Nat):Int) != 0)=false:=by simpa using (by omega:((d.held.length%32:Nat):Int)=0)
 rw [e1]
 by_cases h2:d.held.length≤4096
 rotate_left
 ·rw [decide_eq_true (show (d.held.length:Int)>4096 by omega)]
  simp [Yk,h2]
 rw [decide_eq_false (show ¬(d.held.length:Int)>4096 by omega)]
 by_cases h3:d.Aj.length≤4096
 rotate_left
 ·rw [decide_eq_true (show (d.Aj.length:Int)>4096 by omega)]
  simp [Yk,h3]
 rw [decide_eq_false (show ¬(d.Aj.length:Int)>4096 by omega)]
 simp only [cond_false]
 rw [if_neg (by simp)]
 have key:(Bo (Qs d) 0).bind (fun r=>match r with | .inl ()=>some true | .inr q=>some q)=some (d.Aj.all Yq):=by
  rw [←Zy]
  refine Vw (fun k=>Yq (d.Aj[k]?.getD default)) (fun k hk _=>?_) ?_
  ·simp only [Qs]
   rw [if_pos (decide_eq_true (by omega)),Cu hk]
   simp only [Option.bind_some,g56_c,List.getElem?_eq_getElem hk,Option.getD_some,w1 (show k<4611686018427387904 by omega),Yq]
   cases (decide (0≤d.Aj[k].at_)&&decide (d.Aj[k].at_≤127))
   ·simp
   ·by_cases h:d.Aj[k].data.length=32
    ·have:((d.Aj[k].data.length:Int) != 32)=false:=by simp [h]
     simp [this,h]
    ·have:((d.Aj[k].data.length:Int) != 32)=true:=by simpa using (by omega:¬((d.Aj[k].data.length:Int)=32))
     simp only [Bool.not_true,beq_self_eq_true,if_true,Option.bind_some,Bool.not_false,this,cond_false,decide_eq_false h,Bool.and_false]
  ·simp only [Qs]
   rw [if_neg (by simp)]
 refine Eq.trans ?_ (key.trans ?_)
 ·rfl
 ·simp [Yk,h1,h2,h3]
def aC (a:Int) (n:Nat):Bool:=decide (0≤a∧a+(n:Int)≤4096)
theorem g327_b (a:Int) (n:Nat) (hn:n≤1048576):WY a (n:Int)=some (aC a n):=by
 simp only [WY,g63_c,Option.bind_some,Bi,aC]
 congr 1
 by_cases h:0≤a∧a≤4096
 ·rw [decide_eq_true h.1,decide_eq_true h.2,wr ⟨by omega,by omega⟩]
  simp [h.1]
 ·have h1:(decide (0≤a)&&decide (a≤4096))=false:=by
   rw [Bool.and_eq_false_iff]
   rcases Int.lt_or_le a 0 with h2 | h2
   ·exact .inl (decide_eq_false (by omega))
   ·exact .inr (decide_eq_false (by omega))
  rw [h1,decide_eq_false (show ¬(0≤a∧a+(n:Int)≤4096) by omega)]
  rfl
theorem g291_b (a:Int) (n:Nat) (hn:n≤1048576):sJ a (n:Int)=some (aC a n):=by
 simp only [sJ,Bi,aC]
 rw [wr ⟨by omega,by omega⟩]
 congr 1
 by_cases h:0≤a∧n≤4096
 ·rw [decide_eq_true (show a≥0 from h.1),decide_eq_true (show (n:Int)≤4096 by omega)]
  simp only [cond_true]
  by_cases h2:a+(n:Int)≤4096
  ·rw [decide_eq_true (by omega),decide_eq_true ⟨h.1,h2⟩]
  ·rw [decide_eq_false (by omega),decide_eq_false (by omega)]
 ·have h1:(bif decide (a≥0) then decide ((n:Int)≤4096) else false)=false:=by
   rcases Int.lt_or_le a 0 with h2 | h2
   ·rw [decide_eq_false (show ¬a≥0 by omega)]; rfl
   ·rw [decide_eq_true (show a≥0 by omega),decide_eq_false (by omega)]; rfl
  rw [h1,decide_eq_false (show ¬(0≤a∧a+(n:Int)≤4096) by omega)]
  rfl
theorem Gt.fit {d:Ap} (h:Gt d):Ky d:=⟨by have:=h.2.1; omega,by have:=h.2.2.1; omega,fun s hs=>by unfold Ic; have:=(h.2.2.2 s hs).2; omega⟩
theorem Mo:Ky (Ap.mk [] []):=rV.fit
end Go.Ev
end
section
set_option maxHeartbeats 1000000
namespace Go.Ev
def kF (d:Ap):Prop:=d.held.length%32=0∧d.held.length≤4096∧d.Aj.length≤8192∧∀s∈d.Aj,To s
theorem Gt.w {d:Ap} (h:Gt d):kF d:=⟨h.1,h.2.1,by have:=h.2.2.1; omega,h.2.2.2⟩
theorem fH (d:Ap) (h:kF d):aY d=some (Cv d):=by
 have hh:=h.2.1; have hw:=h.2.2.1
 have hl:=Nt d.Aj d.held h.2.2.2 (by omega) h.1 h.2.1 (step:=Jz d) (fun k hk p p1 p2=>by
  simp only [Jz]
  rw [if_pos (decide_eq_true (by omega)),Cu hk]
  simp only [Option.bind_some,iS p _ (h.2.2.2 _ (List.getElem_mem hk)) (by omega),w1 (show k<4611686018427387904 by omega)]) (fun p=>by
  simp only [Jz]
  rw [if_neg (by simp)])
 simp only [aY,Oa d.held (by omega),Option.bind_some,hl]
 rfl
theorem fK (d:Ap) (h:kF d):Wm d=some (Cv d):=by
 have hh:=h.2.1; have hw:=h.2.2.1
 have hl:=Nt d.Aj d.held h.2.2.2 (by omega) h.1 h.2.1 (step:=Ka d) (fun k hk p p1 p2=>by
  simp only [Ka]
  rw [if_pos (decide_eq_true (by omega)),Cu hk]
  simp only [Option.bind_some,iU p _ (h.2.2.2 _ (List.getElem_mem hk)) (by omega) p1,w1 (show k<4611686018427387904 by omega)]) (fun p=>by
  simp only [Ka]
  rw [if_neg (by simp)])
 simp only [Wm,List.nil_append]
 rw [if_pos (by simp; omega),hl]
 rfl
theorem Vl (d:Ap) (h:kF d):(Cv d).length%32=0∧(Cv d).length≤4096∧d.held.length≤(Cv d).length:=Wl d.Aj d.held h.2.2.2 h.1 h.2.1
theorem vI (d:Ap) (h:Gt d) (k:Nat) (data:List UInt8) (hk:k+data.length≤4096):kF (Lv d k data):=by
 unfold Lv
 split
 ·exact h.w
 ·have hw:=h.2.2.1
  refine ⟨h.1,h.2.1,by simp only [List.length_append,mG]; omega,fun s hs=>?_⟩
  rcases List.mem_append.1 hs with hs | hs
  ·exact h.2.2.2 s hs
  ·simp only [Pg,List.mem_map,List.mem_range'_1] at hs
   obtain ⟨j,⟨hj1,hj2⟩,rfl⟩:=hs
   exact ⟨⟨by simp only; omega,by simp only; omega⟩,Wb _ _ (by rw [cD]; omega)⟩
theorem sA (d:Ap) (h:kF d):Gt (Ap.mk (Cv d) []):=⟨(Vl d h).1,(Vl d h).2.1,by simp,by simp⟩
theorem mE (b:List UInt8) (hb:b.length≤1048576):∃r:List (List UInt8)×Int,aZ b=some r∧∃k:Nat,r.2=(k:Int)∧k≤b.length:=by
 obtain ⟨r,h1,h2⟩:=Kp (step:=Ik b) (Vr b) (fun s=>((b.length:Int)-s.2).toNat) (Vr b) ([],0) ⟨0,rfl,by omega,by simp⟩ (fun s hs=>by
  rcases aE b hb s hs with ⟨s',h1,h2,h3⟩ | h
  ·exact .inl ⟨s',h1,h2.1,h3⟩
  ·exact .inr ⟨_,h,hs⟩)
 obtain ⟨k,e1,e2,_⟩:=h2
 refine ⟨r,?_,k,e1,e2⟩
 simp only [aZ,h1,Option.bind_some]
theorem nH (d:Ap) (h:Gt d) (p:List UInt8) (hp:p.length≤2000):
  ∃r:Ap×Int,lE d p=some r∧Gt r.1∧((Wm d).bind fun r6=>(fJ r6).bind fun r8=>(lJ p).bind fun r10=>(sJ r8.2 (r10.length:Int)).bind fun r12=>
   if (!r12)=true then some ((Ap.mk ([]:List UInt8) ([]:List Ae)),9) else (sK d r8.2 r10).bind fun r15=>(Wm r15).bind fun r17=>some ((Ap.mk r17 ([]:List Ae)),0))=some r:=by
 have hr:=Vl d h.w
 obtain ⟨q,q1,k,q2,q3⟩:=mE (Cv d) (by omega)
 have hfl:(Er p).length≤1048576:=by simp; omega
 simp only [lE]
 rw [if_neg (by simp; omega),fH d h.w,fK d h.w]
 simp only [Option.bind_some]
 rw [aF (Cv d) (by omega),q1]
 simp only [Option.bind_some,WN p (by omega),iR p (by omega),q2,g327_b _ _ hfl,g291_b _ _ hfl]
 by_cases c:k+(Er p).length≤4096
 ·have hb:aC (k:Int) (Er p).length=true:=decide_eq_true ⟨by omega,by omega⟩
  have hw:=vI d h k (Er p) c
  simp only [hb,Bool.not_true,Bool.false_eq_true,if_false,XA d h k (Er p) c,WO d h k (Er p) c,Option.bind_some,g267,fH _ hw,fK _ hw]
  exact ⟨_,rfl,sA _ hw,rfl⟩
 ·have hb:aC (k:Int) (Er p).length=false:=decide_eq_false (by omega)
  simp only [hb,Bool.not_false,if_true]
  exact ⟨_,rfl,rV,rfl⟩
end Go.Ev
end
section
namespace Go.Ev
end Go.Ev
end
section
namespace Go.Ev
def aV (c:Ab):List UInt8:=(([b8 (c.key.length:Int)]++c.key)++Gy (if c.Dm=true then 0 else c.value.length+1) 2)++c.value
def Gr (l:List Ab):List UInt8:=(l.map aV).flatten
def Pj (c:Ab):Prop:=(1≤c.key.length∧c.key.length≤60)∧c.value.length≤400∧(c.Dm=true→c.value=[])
def Kf (l:List Ab):Prop:=l.length≤30∧∀c∈l,Pj c
theorem rW (c:Ab):(aV c).length=c.key.length+c.value.length+3:=by simp [aV,bigB_len]; omega
theorem kZ (c:Ab) (l:List Ab):Gr (c::l)=aV c++Gr l:=by simp [Gr]
theorem Tr (a b:List Ab):Gr (a++b)=Gr a++Gr b:=by simp [Gr]
theorem cX (c:Ab):Gr [c]=aV c:=by simp [Gr]
theorem cW (l:List Ab) (h:∀c∈l,Pj c):(Gr l).length≤463*l.length:=by
 induction l with
 | nil=>simp [Gr]
 | cons c r ih=>
  have h1:=h c (by simp)
  have h2:=ih fun x hx=>h x (by simp [hx])
  rw [kZ,List.length_append,rW,List.length_cons]
  have:=h1.1.2; have:=h1.2.1
  omega
theorem Wv {α:Type} (l:List α) (j:Nat) (h:j<l.length):Ec l (j:Int)=some l[j]:=by
 unfold Ec
 rw [if_pos (by omega),Int.toNat_natCast,List.getElem?_eq_getElem h]
theorem jZ {α:Type} (l:List α) (j:Nat) (h:j<l.length):l.take (j+1)=l.take j++[l[j]]:=(List.take_append_getElem h).symm
theorem Wn (out:List UInt8) (k:Nat) (c:Ab) (hc:Pj c) (n:Nat) (hn:n≤401) (ho:out.length≤20000) (hk:k≤1000):
  Rg out (k:Int) c (n:Int)=some (.inl ((((out++([b8 (c.key.length:Int)]:List UInt8))++c.key)++Gy n 2)++c.value,((k+1:Nat):Int))):=by
 have h1:=hc.1.2; have h2:=hc.2.1
 have e:bA (n:Int) 2=some (Gy n 2):=bB n 2 (by omega)
 simp only [Rg,e,Option.bind_some]
 rw [if_pos (by simp [bigB_len]; omega),if_pos (by simp [bigB_len]; omega),w1 (by omega)]
 rfl
theorem XV (l:List Ab) (h:Kf l):XU l=some (Gr l):=by
 obtain ⟨hl,hc⟩:=h
 obtain ⟨r,r1,r2⟩:=Kp (step:=Ve l) (fun x=>∃j:Nat,x.2=(j:Int)∧j≤l.length∧x.1=Gr (l.take j)) (fun x=>(l.length-x.2).toNat) (fun r=>r=Gr l) ([],0) ⟨0,rfl,by omega,by simp [Gr]⟩ (by
  rintro ⟨out,k⟩ ⟨j,rfl,h1,rfl⟩
  simp only [Ve]
  by_cases h0:j<l.length
  ·rw [if_pos (decide_eq_true (by omega)),Wv l j h0]
   have hr:=hc l[j] (List.getElem_mem h0)
   have hlen:=cW (l.take j) fun x hx=>hc x (List.mem_of_mem_take hx)
   have hj:(l.take j).length=j:=by simp; omega
   rw [hj] at hlen
   have:=hr.1.2; have:=hr.2.1
   simp only [Option.bind_some]
   rw [if_pos (by simp; omega),if_pos (by simp; omega)]
   refine .inl ⟨(Gr (l.take (j+1)),((j+1:Nat):Int)),?_,⟨j+1,rfl,by omega,rfl⟩,by simp only; omega⟩
   rw [jZ l j h0,Tr,cX]
   split
   ·rename_i hg
    have:=Wn (Gr (l.take j)) j l[j] hr 0 (by omega) (by omega) (by omega)
    simp only [aV,hg,if_true]
    simpa [List.append_assoc] using this
   ·rename_i hg
    have e1:IntKind.i64.wrap ((l[j].value.length:Int)+1)=((l[j].value.length+1:Nat):Int):=w1 (by omega)
    have:=Wn (Gr (l.take j)) j l[j] hr (l[j].value.length+1) (by omega) (by omega) (by omega)
    rw [e1]
    simp only [aV,hg,if_false]
    simpa [List.append_assoc] using this
  ·rw [if_neg (by simp; omega)]
   have:j=l.length:=by omega
   subst this
   exact .inr ⟨_,rfl,by rw [List.take_length]⟩)
 simp only [XU,r1,Option.bind_some,r2]
end Go.Ev
end
section
namespace Go.Ev
theorem YN (l:List Ab) (f:Ab→Option Bool) (p:Ab→Bool) (hf:∀x∈l,f x=some (p x)) (hl:l.length≤4611686018427387903):g429 l f=some (Ns l p):=Ww l f p hf hl (fun _=>rfl)
theorem YL (l:List Ab) (f:Ab→Option Bool) (p:Ab→Bool) (hf:∀x∈l,f x=some (p x)) (hl:l.length≤4611686018427387903):YK l f=some (l.any p):=by
 unfold YK; rw [YN l f p hf hl]; simp only [Option.bind_some,Wi]
theorem YF (l:List Ab) (f:Ab→Option Bool) (p:Ab→Bool) (hf:∀x∈l,f x=some (p x)) (hl:l.length≤4611686018427387903):YE l f=some (l.all p):=by
 unfold YE; rw [YL l _ (fun x => !p x) (fun x hx=>by simp [YM,hf x hx]) hl]; simp only [Option.bind_some,iA]
theorem XZ (l:List Au) (hl:l.length≤1048576):XY l=some l:=by
 unfold XY; rw [if_pos (by simp; omega)]
end Go.Ev
end
section
namespace Go.Ev
theorem Wr (A R:List UInt8):Wq (A++R) (A.length:Int)=some (A,R,true):=by
 have e1:Jr (A++R) 0 (A.length:Int)=some A:=by
  have:=Tl (A++R) 0 A.length (by omega) (by simp)
  simpa using this
 have e2:Jr (A++R) (A.length:Int) ((A++R).length:Int)=some R:=by
  rw [Tl (A++R) A.length (A++R).length (by simp) (by omega),List.take_length,List.drop_left]
 simp only [Wq]
 rw [if_neg (by simp; omega),e1,e2]
 rfl
theorem Tm {n:Nat} (h:n<4611686018427387904):IntKind.i64.wrap (n:Int)=(n:Int):=wr ⟨by omega,by omega⟩
end Go.Ev
end
section
namespace Go.Ev
theorem XK {c:Ab} (h:Pj c):lL c=some true:=by
 obtain ⟨h1,h2,h3⟩:=h
 simp only [lL,Bi,decide_eq_true (show ((c.key.length:Nat):Int)>0 by omega),decide_eq_true (show ((c.key.length:Nat):Int)≤60 by omega),decide_eq_true (show ((c.value.length:Nat):Int)≤400 by omega),cond_true]
 by_cases hg:c.Dm=true
 ·rw [hg,h3 hg]; rfl
 ·simp only [Bool.not_eq_true] at hg; rw [hg]; rfl
theorem YA {l:List Ab} (h:Kf l):cZ l=some true:=by
 have h1:=h.1
 have e:=Vw (n:=l.length) (fun _=>true) (step:=Kc l) (fun k hk _=>by
  simp only [Kc]
  rw [if_pos (decide_eq_true (by omega)),Wv l k hk]
  simp only [Option.bind_some,XK (h.2 _ (List.getElem_mem hk)),Bool.not_true,Bool.false_eq_true,if_false,w1 (show k<4611686018427387904 by omega)]) (by
  simp only [Kc]
  rw [if_neg (by simp)])
 simp only [cZ]
 rw [if_neg (by simp; omega)]
 exact e.trans (by simp)
theorem Vj (A B:List UInt8) (y:UInt8):Ec (A++y::B) (A.length:Int)=some y:=by
 rw [Wv _ A.length (by simp)]
 simp
theorem jW (A X B:List UInt8):Jr (A++(X++B)) (A.length:Int) ((A.length+X.length:Nat):Int)=some X:=by
 rw [Tl _ _ _ (by omega) (by simp),←List.append_assoc]
 have:(A++X).length=A.length+X.length:=by simp
 rw [←this,List.take_left,List.drop_left]
end Go.Ev
end
section
namespace Go.Ev
theorem ba_get (l:List UInt8) (i:Nat):(ByteArray.mk l.toArray)[i]! = l.getD i 0:=by
 rw [getElem!_def]
 by_cases h:i<l.length
 ·rw [getElem?_pos (ByteArray.mk l.toArray) i (by simpa [ByteArray.size] using h)]
  simp [List.getD,h]
  rfl
 ·rw [getElem?_neg (ByteArray.mk l.toArray) i (by simpa [ByteArray.size] using h)]
  simp [List.getD,h]
  rfl
def Ul (x y:List UInt8):Int:=match (List.range (min x.length y.length)).find? fun i=>x.getD i 0 != y.getD i 0 with
 | some i=>if x.getD i 0<y.getD i 0 then -1 else 1
 | none=>if x.length<y.length then -1 else if x.length>y.length then 1 else 0
theorem rR (x y:List UInt8):Yj x y=Ul x y:=by
 unfold Yj Ul Extern.BytealgCompare.cmp
 simp only [ba_get]
 rfl
theorem kW (a b:UInt8) (x y:List UInt8):Ul (a::x) (b::y)=if a=b then Ul x y else if a<b then -1 else 1:=by
 have e:min (a::x).length (b::y).length=min x.length y.length+1:=by simp
 unfold Ul
 rw [e,List.range_succ_eq_map,List.find?_cons]
 by_cases h:a=b
 ·subst h
  simp only [List.getD_cons_zero,bne_self_eq_false,if_true]
  rw [List.find?_map]
  have e2:((fun i=>(a::x).getD i 0 != (a::y).getD i 0)∘Nat.succ)=fun i=>x.getD i 0 != y.getD i 0:=by
   funext i; simp
  rw [e2]
  cases (List.range (min x.length y.length)).find? (fun i=>x.getD i 0 != y.getD i 0) with
  | none=>simp
  | some i=>simp
 ·have:((a::x).getD 0 0 != (b::y).getD 0 0)=true:=by simpa using h
  simp only [this,if_neg h]
  simp
theorem rQ:Ul [] []=0:=rfl
theorem kX (b:UInt8) (y:List UInt8):Ul [] (b::y) = -1:=by simp [Ul]
theorem kV (a:UInt8) (x:List UInt8):Ul (a::x) []=1:=by simp [Ul]
theorem Ss:∀x y:List UInt8,(Ul x y<0↔Op.bytesLess x y=true)∧(Ul x y=0↔x=y)
 | [],[]=>by simp [rQ,Op.bytesLess]
 | [],b::y=>by simp [kX,Op.bytesLess]
 | a::x,[]=>by simp [kV,Op.bytesLess]
 | a::x,b::y=>by
  obtain ⟨h1,h2⟩:=Ss x y
  rw [kW]
  by_cases h:a=b
  ·subst h
   rw [if_pos rfl]
   refine ⟨by rw [h1]; simp [Op.bytesLess],by rw [h2]; simp⟩
  ·rw [if_neg h]
   by_cases hl:a<b
   ·rw [if_pos hl]; exact ⟨by simp [Op.bytesLess,hl],by simp [h]⟩
   ·rw [if_neg hl]; exact ⟨by simp [Op.bytesLess,hl,h],by simp [h]⟩
theorem VR (x y:List UInt8):decide (Yj x y<0)=Op.bytesLess x y:=by
 rw [rR,Bool.eq_iff_iff,decide_eq_true_eq]; exact (Ss x y).1
theorem VQ (x y:List UInt8):(Yj x y==0)=(x==y):=by
 rw [rR,Bool.eq_iff_iff,beq_iff_eq,beq_iff_eq]; exact (Ss x y).2
theorem iZ (p:Au) (k:List UInt8):fW p k=some (Yj p.key k):=by simp [fW,g418,g427]
abbrev bI (x y:List UInt8):Bool:=Op.bytesLess x y
theorem Oo:∀ {x y z:List UInt8},bI x y=true→bI y z=true→bI x z=true
 | _,_,[],_,h=>by simp [bI,Op.bytesLess] at h
 | _,[],_::_,h,_=>by simp [bI,Op.bytesLess] at h
 | [],_::_,_::_,_,_=>rfl
 | a::x,b::y,c::z,h1,h2=>by
  simp only [bI,Op.bytesLess,Bool.or_eq_true,Bool.and_eq_true,decide_eq_true_eq,beq_iff_eq] at h1 h2 ⊢
  rcases h1 with h1 | ⟨rfl,h1⟩
  ·rcases h2 with h2 | ⟨rfl,h2⟩
   ·exact .inl (UInt8.lt_trans h1 h2)
   ·exact .inl h1
  ·rcases h2 with h2 | ⟨rfl,h2⟩
   ·exact .inl h2
   ·exact .inr ⟨rfl,Oo h1 h2⟩
theorem jH:∀x y:List UInt8,bI x y=true∨x=y∨bI y x=true
 | [],[]=>.inr (.inl rfl)
 | [],_::_=>.inl rfl
 | _::_,[]=>.inr (.inr rfl)
 | a::x,b::y=>by
  simp only [bI,Op.bytesLess,Bool.or_eq_true,Bool.and_eq_true,decide_eq_true_eq,beq_iff_eq]
  by_cases h:a=b
  ·subst h
   rcases jH x y with h | h | h
   ·exact .inl (.inr ⟨rfl,h⟩)
   ·exact .inr (.inl (by rw [h]))
   ·exact .inr (.inr (.inr ⟨rfl,h⟩))
  ·by_cases hl:a<b
   ·exact .inl (.inl hl)
   ·exact .inr (.inr (.inl (by
     have h1:a.toNat≠b.toNat:=fun e=>h (UInt8.toNat_inj.1 e)
     have h2:¬a.toNat<b.toNat:=fun e=>hl (UInt8.lt_iff_toNat_lt.2 e)
     exact UInt8.lt_iff_toNat_lt.2 (by omega))))
end Go.Ev
end
section
namespace Go.Ev
def Dy (l:List Au):Prop:=l.Pairwise fun a b=>bI a.key b.key=true
def Ey (l:List Au) (k:List UInt8):Nat:=(l.takeWhile fun p=>bI p.key k).length
theorem Wc (l:List Au) (k:List UInt8):Ey l k≤l.length:=by
 induction l with
 | nil=>simp [Ey]
 | cons p r ih=>
  unfold Ey at ih ⊢
  rw [List.takeWhile_cons]
  split<;>simp<;>omega
theorem Uy {l:List Au} (hs:Dy l) (k:List UInt8):∀(j:Nat) (h:j<l.length),bI l[j].key k=true↔j<Ey l k:=by
 induction l with
 | nil=>intro j h; simp at h
 | cons p r ih=>
  obtain ⟨h1,h2⟩:=List.pairwise_cons.1 hs
  intro j h
  unfold Ey
  rw [List.takeWhile_cons]
  by_cases hp:bI p.key k=true
  ·rw [if_pos hp]
   cases j with
   | zero=>simp [hp]
   | succ j=>simpa [Ey] using ih h2 j (by simpa using h)
  ·rw [if_neg hp]
   simp only [List.length_nil,Nat.not_lt_zero,iff_false]
   cases j with
   | zero=>exact hp
   | succ j=>
    intro hh
    have hm:r[j]'(by simpa using h)∈r:=List.getElem_mem _
    exact hp (Oo (h1 _ hm) hh)
theorem halfK (a:Nat) (h:a≤4194304):IntKind.i64.wrap (Rp .u64 (IntKind.u64.wrap (IntKind.i64.wrap (a:Int))) 1)=((a / 2:Nat):Int):=by
 have h1:IntKind.u64.wrap (a:Int)=a:=by
  have e:IntKind.u64.wrap (a:Int)=(a:Int)%18446744073709551616:=by simp [IntKind.wrap,IntKind.bits,IntKind.signed]
  rw [e]; omega
 have h2:(2:Int)^min (1:Int).toNat 64=2:=by decide
 rw [wr (n:=(a:Int)) ⟨by omega,by omega⟩,h1]
 simp only [Rp,h2]
 rw [Int.fdiv_eq_ediv_of_nonneg _ (by omega),wr ⟨by omega,by omega⟩]
 omega
def Kl (l:List Au) (k:List UInt8):Bool:=match l.drop (Ey l k) with
 | p::_=>p.key==k
 | []=>false
theorem YH {l:List Au} (hs:Dy l) (hl:l.length≤1048576) (k:List UInt8):YG l k (fun a b=>fW a b)=some ((Ey l k:Int),Kl l k):=by
 have hc:=Wc l k
 obtain ⟨r,r1,r2⟩:=Kp (step:=Vi l k (fun a b=>fW a b)) (fun s=>∃a b:Nat,s=((a:Int),(b:Int))∧a≤Ey l k∧Ey l k≤b∧b≤l.length) (fun s=>(s.2-s.1).toNat) (fun r=>r=(Ey l k:Int)) (0,(l.length:Int)) ⟨0,l.length,rfl,by omega,hc,by omega⟩ (by
  rintro _ ⟨a,b,rfl,h1,h2,h3⟩
  simp only [Vi]
  by_cases h0:a<b
  ·rw [if_pos (decide_eq_true (by omega))]
   have e1:IntKind.i64.wrap (Rp .u64 (IntKind.u64.wrap (IntKind.i64.wrap ((a:Int)+(b:Int)))) 1)=(((a+b) / 2:Nat):Int):=by
    rw [show ((a:Int)+(b:Int))=((a+b:Nat):Int) from by omega]; exact halfK _ (by omega)
   have hm:(a+b) / 2<l.length:=by omega
   simp only [e1,Bi,Wv l _ hm,Option.bind_some,iZ,VR]
   have hi:=Uy hs k _ hm
   by_cases hp:bI l[(a+b) / 2].key k=true
   ·have:=hi.1 hp
    rw [if_pos hp,w1 (by omega)]
    exact .inl ⟨_,rfl,⟨(a+b) / 2+1,b,rfl,by omega,by omega,by omega⟩,by simp only; omega⟩
   ·have:¬(a+b) / 2<Ey l k:=fun h=>hp (hi.2 h)
    rw [if_neg hp]
    exact .inl ⟨_,rfl,⟨a,(a+b) / 2,rfl,by omega,by omega,by omega⟩,by simp only; omega⟩
  ·rw [if_neg (by simp; omega)]
   exact .inr ⟨_,rfl,by omega⟩)
 simp only [YG,r1,r2,Option.bind_some]
 by_cases h0:Ey l k<l.length
 ·simp only [decide_eq_true (show ((Ey l k:Nat):Int)<(l.length:Int) by omega),beq_self_eq_true,if_true,Wv l _ h0,Option.bind_some,iZ,VQ,cond_true]
  unfold Kl
  rw [List.drop_eq_getElem_cons h0]
 ·rw [decide_eq_false (show ¬((Ey l k:Nat):Int)<(l.length:Int) by omega)]
  simp only [show (false==true)=false from rfl,Bool.false_eq_true,if_false,Option.bind_some,cond_false]
  unfold Kl
  rw [List.drop_of_length_le (by omega)]
def Mc (l:List Au) (c:Ab):List Au:=
 (l.take (Ey l c.key)++(if c.Dm=true then [] else [Au.mk c.key c.value]))++l.drop (Ey l c.key+if Kl l c.key=true then 1 else 0)
def Ht (l:List Au) (cs:List Ab):List Au:=cs.foldl Mc l
theorem bE {l:List Au} {k:List UInt8} (h:Kl l k=true):Ey l k<l.length:=by
 unfold Kl at h
 by_cases h0:Ey l k<l.length
 ·exact h0
 ·rw [List.drop_of_length_le (by omega)] at h; cases h
theorem nF (l:List Au) (c:Ab):(Mc l c).length≤l.length+1:=by
 have:=Wc l c.key
 unfold Mc
 simp only [List.length_append,List.length_take,List.length_drop]
 split<;>split<;>simp<;>omega
end Go.Ev
end
section
namespace Go.Ev
theorem tB {l:List Au} (hs:Dy l) (k:List UInt8) {a:Au} (h:a∈l.take (Ey l k)):bI a.key k=true:=by
 obtain ⟨j,hj,rfl⟩:=List.getElem_of_mem h
 have hj':j<Ey l k∧j<l.length:=by rw [List.length_take] at hj; omega
 rw [List.getElem_take]
 exact (Uy hs k j hj'.2).2 hj'.1
theorem jB {l:List Au} (hs:Dy l) (k:List UInt8) {b:Au} (h:b∈l.drop (Ey l k+if Kl l k=true then 1 else 0)):bI k b.key=true:=by
 obtain ⟨j,hj,rfl⟩:=List.getElem_of_mem h
 rw [List.getElem_drop]
 rw [List.length_drop] at hj
 have hge:∀(i:Nat) (hi:i<l.length),Ey l k≤i→¬bI l[i].key k=true:=fun i hi h1 h2=>by
  have:=(Uy hs k i hi).1 h2; omega
 have hlt:∀(i m:Nat) (hi:i<l.length) (hm:m<l.length),i<m→bI l[i].key l[m].key=true:=fun i m hi hm him=>List.pairwise_iff_getElem.1 hs i m hi hm him
 by_cases hh:Kl l k=true
 ·have hcl:=bE hh
  rw [if_pos hh] at hj
  have hk:l[Ey l k].key=k:=by
   unfold Kl at hh
   rw [List.drop_eq_getElem_cons hcl] at hh
   exact beq_iff_eq.1 hh
  have hidx:Ey l k+(if Kl l k=true then 1 else 0)+j=Ey l k+1+j:=by rw [if_pos hh]
  have:=hlt (Ey l k) (Ey l k+1+j) hcl (by omega) (by omega)
  rw [hk] at this
  simpa only [hidx] using this
 ·rw [if_neg hh] at hj
  have hidx:Ey l k+(if Kl l k=true then 1 else 0)+j=Ey l k+j:=by rw [if_neg hh]; omega
  simp only [hidx]
  have hcl:Ey l k<l.length:=by omega
  have hk:l[Ey l k].key≠k:=by
   intro e
   apply hh
   unfold Kl
   rw [List.drop_eq_getElem_cons hcl]
   exact beq_iff_eq.2 e
  have h0:bI k l[Ey l k].key=true:=by
   rcases jH l[Ey l k].key k with h | h | h
   ·exact absurd h (hge _ hcl (by omega))
   ·exact absurd h hk
   ·exact h
  cases j with
  | zero=>exact h0
  | succ j=>exact Oo h0 (hlt (Ey l k) (Ey l k+(j+1)) hcl (by omega) (by omega))
theorem cM {l:List Au} (hs:Dy l) (c:Ab):Dy (Mc l c):=by
 unfold Mc Dy
 rw [List.pairwise_append,List.pairwise_append]
 refine ⟨⟨hs.sublist (List.take_sublist _ _),?_,?_⟩,hs.sublist (List.drop_sublist _ _),?_⟩
 ·split<;>simp
 ·intro a ha b hb
  split at hb
  ·cases hb
  ·simp only [List.mem_singleton] at hb; subst hb
   exact tB hs c.key ha
 ·intro a ha b hb
  rw [List.mem_append] at ha
  rcases ha with ha | ha
  ·exact Oo (tB hs c.key ha) (jB hs c.key hb)
  ·split at ha
   ·cases ha
   ·simp only [List.mem_singleton] at ha; subst ha
    exact jB hs c.key hb
theorem Mj (cs:List Ab):∀ {l:List Au},Dy l→Dy (Ht l cs):=by
 induction cs with
 | nil=>intro l h; exact h
 | cons c r ih=>intro l h; exact ih (cM h c)
theorem cL (cs:List Ab):∀l:List Au,(Ht l cs).length≤l.length+cs.length:=by
 induction cs with
 | nil=>intro l; simp [Ht]
 | cons c r ih=>
  intro l
  have h1:=ih (Mc l c); have h2:=nF l c
  show (Ht (Mc l c) r).length≤_
  simp only [List.length_cons]; omega
theorem Yz (l:List Au) (cs:List Ab) (c:Ab):Ht l (cs++[c])=Mc (Ht l cs) c:=by simp [Ht]
theorem lM {l:List Au} (hs:Dy l) (hl:l.length≤1000000) (c:Ab) (j:Nat) (hj:j≤1000) (cs:List Ab) (hc:cs[j]? = some c):
  Oi cs (l,(j:Int))=some (.inl (Mc l c,((j+1:Nat):Int))):=by
 obtain ⟨hjl,rfl⟩:=List.getElem?_eq_some_iff.1 hc
 have hcut:=Wc l cs[j].key
 have core:∀(q:List Au) (b:Bool),q.take (Ey l cs[j].key)=l.take (Ey l cs[j].key)→q.drop (Ey l cs[j].key)=l.drop (Ey l cs[j].key+if Kl l cs[j].key=true then 1 else 0)→q.length≤1000000→Ey l cs[j].key≤q.length →
   Rh (j:Int) cs[j] ((Ey l cs[j].key:Int),b) q=some (.inl (Mc l cs[j],((j+1:Nat):Int))):=by
  intro q b h1 h2 h3 h4
  simp only [Rh,Vf]
  by_cases hg:cs[j].Dm=true
  ·rw [if_neg (by simp [hg]),w1 (by omega)]
   have:q=Mc l cs[j]:=by
    unfold Mc
    rw [if_pos hg,List.append_nil,←h1,←h2,List.take_append_drop]
   rw [this]
  ·rw [if_pos (by simpa using hg)]
   have e:YJ q (Ey l cs[j].key:Int) [Au.mk cs[j].key cs[j].value]=some (Mc l cs[j],[Au.mk cs[j].key cs[j].value]):=by
    unfold YJ Mc
    rw [if_pos ⟨⟨by omega,by omega⟩,by simp,by simp; omega⟩,Int.toNat_natCast,h1,h2,if_neg hg]
   rw [e]
   simp only [Option.bind_some]
   rw [if_pos trivial,w1 (by omega)]
 simp only [Oi]
 rw [if_pos (decide_eq_true (by omega)),Wv cs j hjl]
 simp only [Option.bind_some]
 rw [YH hs (by omega)]
 simp only [Option.bind_some]
 by_cases hh:Kl l cs[j].key=true
 ·have hcl:=bE hh
  rw [if_pos hh,w1 (by omega)]
  have e:YI l (Ey l cs[j].key:Int) ((Ey l cs[j].key+1:Nat):Int)=some (l.take (Ey l cs[j].key)++l.drop (Ey l cs[j].key+1)):=by
   unfold YI
   rw [if_pos ⟨⟨by omega,by omega,by omega⟩,by omega⟩,Int.toNat_natCast,Int.toNat_natCast]
  rw [e]
  simp only [Option.bind_some]
  have ht:(l.take (Ey l cs[j].key)).length=Ey l cs[j].key:=by rw [List.length_take]; omega
  refine core _ _ ?_ ?_ (by simp; omega) (by simp; omega)
  ·rw [List.take_append_of_le_length (by omega),List.take_take,Nat.min_self]
  ·rw [if_pos hh,List.drop_append_of_le_length (by omega),List.drop_of_length_le (by omega),List.nil_append]
 ·rw [if_neg hh]
  exact core l _ rfl (by rw [if_neg hh]; rfl) hl (by omega)
theorem iX {l:List Au} (hs:Dy l) (hl:l.length≤900000) (cs:List Ab) (hcs:cs.length≤1000):sR l cs=some (Ht l cs,decide (((Ht l cs).length:Int)≤100)):=by
 obtain ⟨r,r1,r2⟩:=Kp (step:=Oi cs) (fun s=>∃j:Nat,j≤cs.length∧s=(Ht l (cs.take j),(j:Int))) (fun s=>(cs.length-s.2).toNat) (fun r=>r=Ht l cs) (l,0) ⟨0,by omega,by simp [Ht]⟩ (by
  rintro _ ⟨j,h1,rfl⟩
  by_cases h0:j<cs.length
  ·have hlen:=cL (cs.take j) l
   rw [List.length_take] at hlen
   rw [lM (Mj _ hs) (by omega) cs[j] j (by omega) cs (List.getElem?_eq_getElem h0)]
   refine .inl ⟨_,rfl,⟨j+1,by omega,?_⟩,by simp only; omega⟩
   rw [jZ cs j h0,Yz]
  ·have:j=cs.length:=by omega
   subst this
   simp only [Oi]
   rw [if_neg (by simp)]
   exact .inr ⟨_,rfl,by rw [List.take_length]⟩)
 simp only [sR,XZ l (by omega),r1,r2,Option.bind_some]
end Go.Ev
end
section
namespace Go.Ev
theorem lN {l:List Au} (hs:Dy l) (hl:l.length≤1000000) (c:Ab):Bo (Rj l c) 0=some (Ey l c.key:Int):=by
 have hc:=Wc l c.key
 obtain ⟨r,r1,r2⟩:=Kp (step:=Rj l c) (fun s=>∃j:Nat,s=(j:Int)∧j≤Ey l c.key) (fun s=>(Ey l c.key-s).toNat) (fun r=>r=(Ey l c.key:Int)) 0 ⟨0,rfl,by omega⟩ (by
  rintro _ ⟨j,rfl,h1⟩
  simp only [Rj]
  by_cases h0:j<l.length
  ·have hg:l[((j:Int)).toNat]? = some l[j]:=by rw [Int.toNat_natCast]; exact List.getElem?_eq_getElem h0
   simp only [decide_eq_true (show ((j:Nat):Int)<(l.length:Int) by omega),beq_self_eq_true,if_true,Wv l j h0,hg,Option.bind_some,Bi,cond_true]
   have hi:=Uy hs c.key j h0
   by_cases hp:Op.bytesLess l[j].key c.key=true
   ·have:=hi.1 hp
    rw [if_pos hp,w1 (by omega)]
    exact .inl ⟨_,rfl,⟨j+1,rfl,by omega⟩,by omega⟩
   ·have:¬j<Ey l c.key:=fun h=>hp (hi.2 h)
    rw [if_neg hp]
    exact .inr ⟨_,rfl,by omega⟩
  ·simp only [decide_eq_false (show ¬((j:Nat):Int)<(l.length:Int) by omega),show (false==true)=false from rfl,Bool.false_eq_true,if_false,Option.bind_some,Bi,cond_false]
   exact .inr ⟨_,rfl,by omega⟩)
 rw [r1,r2]
theorem lO {l:List Au} (hs:Dy l) (hl:l.length≤1000000) (j:Nat) (hj:j≤1000) (cs:List Ab) (hjl:j<cs.length):
  Ol cs (l,(j:Int))=some (.inl (Mc l cs[j],((j+1:Nat):Int))):=by
 have hc:=Wc l cs[j].key
 have core:∀q:List Au,q=l.drop (Ey l cs[j].key+if Kl l cs[j].key=true then 1 else 0)→Ri l (j:Int) cs[j] (Ey l cs[j].key:Int) q=some (.inl (Mc l cs[j],((j+1:Nat):Int))):=by
  rintro q rfl
  have e:Jr l 0 (Ey l cs[j].key:Int)=some (l.take (Ey l cs[j].key)):=by
   have:=Tl l 0 (Ey l cs[j].key) (by omega) hc
   simpa using this
  have hd:(l.drop (Ey l cs[j].key+if Kl l cs[j].key=true then 1 else 0)).length≤l.length:=by rw [List.length_drop]; omega
  have ht:(l.take (Ey l cs[j].key)).length≤l.length:=by rw [List.length_take]; omega
  simp only [Ri,e,Option.bind_some,Vg]
  by_cases hg:cs[j].Dm=true
  ·rw [if_neg (by simp [hg]),if_pos (by omega),w1 (by omega)]
   unfold Mc
   rw [if_pos hg,List.append_nil]
  ·rw [if_pos (by simpa using hg),if_pos (by simp only [List.length_singleton]; omega),if_pos (by simp only [List.length_append,List.length_singleton]; omega),w1 (by omega)]
   unfold Mc
   rw [if_neg hg]
 simp only [Ol]
 rw [if_pos (decide_eq_true (by omega)),Wv cs j hjl]
 simp only [Option.bind_some,lN hs hl,List.nil_append]
 have e1:Jr l (Ey l cs[j].key:Int) (l.length:Int)=some (l.drop (Ey l cs[j].key)):=by
  rw [Tl l _ _ hc (by omega),List.take_length]
 rw [e1]
 have hd:(l.drop (Ey l cs[j].key)).length=l.length-Ey l cs[j].key:=List.length_drop
 simp only [Option.bind_some]
 rw [if_pos (by simp only [List.length_nil]; omega)]
 by_cases h0:Ey l cs[j].key<l.length
 ·have hcons:=List.drop_eq_getElem_cons h0
  have hi:Ec (l.drop (Ey l cs[j].key)) 0=some l[Ey l cs[j].key]:=by rw [hcons]; rfl
  have hg:(l.drop (Ey l cs[j].key))[(0:Int).toNat]? = some l[Ey l cs[j].key]:=by rw [hcons]; rfl
  have hh:Kl l cs[j].key=(l[Ey l cs[j].key].key==cs[j].key):=by unfold Kl; rw [hcons]
  simp only [decide_eq_true (show (((l.drop (Ey l cs[j].key)).length:Nat):Int)>0 by omega),beq_self_eq_true,if_true,hi,hg,Option.bind_some,Bi,cond_true]
  rw [←hh]
  by_cases hk:Kl l cs[j].key=true
  ·rw [if_pos hk]
   have e2:Jr (l.drop (Ey l cs[j].key)) 1 ((l.drop (Ey l cs[j].key)).length:Int)=some (l.drop (Ey l cs[j].key+1)):=by
    have:=Tl (l.drop (Ey l cs[j].key)) 1 (l.drop (Ey l cs[j].key)).length (by omega) (by omega)
    rw [List.take_length,List.drop_drop] at this
    exact this
   rw [e2]
   exact core _ (by rw [if_pos hk])
  ·rw [if_neg hk]
   exact core _ (by rw [if_neg hk]; rfl)
 ·have hn:Kl l cs[j].key=false:=by
   cases hk:Kl l cs[j].key
   ·rfl
   ·exact absurd (bE hk) h0
  simp only [decide_eq_false (show ¬(((l.drop (Ey l cs[j].key)).length:Nat):Int)>0 by omega),show (false==true)=false from rfl,Bool.false_eq_true,if_false,Option.bind_some,Bi,cond_false]
  exact core _ (by rw [hn]; rfl)
theorem iY {l:List Au} (hs:Dy l) (hl:l.length≤900000) (cs:List Ab) (hcs:cs.length≤1000):sT l cs=some (Ht l cs):=by
 obtain ⟨r,r1,r2⟩:=Kp (step:=Ol cs) (fun s=>∃j:Nat,j≤cs.length∧s=(Ht l (cs.take j),(j:Int))) (fun s=>(cs.length-s.2).toNat) (fun r=>r=Ht l cs) (([]:List Au)++l,0) ⟨0,by omega,by simp [Ht]⟩ (by
  rintro _ ⟨j,h1,rfl⟩
  by_cases h0:j<cs.length
  ·have hlen:=cL (cs.take j) l
   rw [List.length_take] at hlen
   rw [lO (Mj _ hs) (by omega) j (by omega) cs h0]
   refine .inl ⟨_,rfl,⟨j+1,by omega,?_⟩,by simp only; omega⟩
   rw [jZ cs j h0,Yz]
  ·have:j=cs.length:=by omega
   subst this
   simp only [Ol]
   rw [if_neg (by simp)]
   exact .inr ⟨_,rfl,by rw [List.take_length]⟩)
 simp only [sT]
 rw [if_pos (by simp only [List.length_nil]; omega),r1]
 simp only [Option.bind_some,r2]
end Go.Ev
end
section
namespace Go.Ev
end Go.Ev
end
section
set_option maxHeartbeats 1000000
namespace Go.Ev
def nA (c:Ab):Bool:=(decide (1≤c.key.length)&&decide (c.key.length≤60))&&decide (c.value.length≤400)&&(!c.Dm || (c.value==[]))
theorem bP (c:Ab):nA c=true↔Pj c:=by
 simp only [nA,Pj,Bool.and_eq_true,decide_eq_true_eq,Bool.or_eq_true,Bool.not_eq_true',beq_iff_eq]
 constructor
 ·rintro ⟨⟨h1,h2⟩,h3⟩
  refine ⟨h1,h2,fun hg=>?_⟩
  rcases h3 with h | h
  ·rw [hg] at h; cases h
  ·exact h
 ·rintro ⟨h1,h2,h3⟩
  refine ⟨⟨h1,h2⟩,?_⟩
  cases hg:c.Dm
  ·exact .inl rfl
  ·exact .inr (h3 hg)
theorem fS (c:Ab):fR c=some (nA c):=by
 simp only [fR,g362,mZ,Option.bind_some,Bi,nA]
 congr 1
 have e1:decide ((1:Int)≤(c.key.length:Int))=decide (1≤c.key.length):=decide_eq_decide.2 (by omega)
 have e2:decide (((c.key.length:Nat):Int)≤60)=decide (c.key.length≤60):=decide_eq_decide.2 (by omega)
 have e3:decide (((c.value.length:Nat):Int)≤400)=decide (c.value.length≤400):=decide_eq_decide.2 (by omega)
 rw [e1,e2,e3]
 cases decide (1≤c.key.length)<;>cases decide (c.key.length≤60)<;>cases decide (c.value.length≤400)<;>cases c.Dm<;>rfl
theorem g360_b (c:Ab):lL c=some (nA c):=by
 simp only [lL,Bi,nA]
 congr 1
 have e1:decide ((c.key.length:Int)>0)=decide (1≤c.key.length):=decide_eq_decide.2 (by omega)
 have e2:decide (((c.key.length:Nat):Int)≤60)=decide (c.key.length≤60):=decide_eq_decide.2 (by omega)
 have e3:decide (((c.value.length:Nat):Int)≤400)=decide (c.value.length≤400):=decide_eq_decide.2 (by omega)
 rw [e1,e2,e3]
 cases decide (1≤c.key.length)<;>cases decide (c.key.length≤60)<;>cases decide (c.value.length≤400)<;>cases c.Dm<;>rfl
def Yi (l:List Ab):Bool:=decide (l.length≤30)&&l.all nA
theorem cP (l:List Ab):Yi l=true↔Kf l:=by
 simp only [Yi,Kf,Bool.and_eq_true,decide_eq_true_eq,List.all_eq_true,bP]
theorem g394_b (l:List Ab) (hl:l.length≤1048576):XT l=some (Yi l):=by
 have e:=YF l (fun z=>fR z) nA (fun x _=>fS x) (by omega)
 have e3:decide (((l.length:Nat):Int)≤30)=decide (l.length≤30):=decide_eq_decide.2 (by omega)
 simp only [XT,e,e3,Yi]
 cases decide (l.length≤30)<;>simp
theorem sS (l:List Ab) (hl:l.length≤1048576):cZ l=some (Yi l):=by
 by_cases h:l.length≤30
 ·have e:=Vw (n:=l.length) (fun k=>nA (l[k]?.getD default)) (step:=Kc l) (fun k hk _=>by
   simp only [Kc]
   rw [if_pos (decide_eq_true (by omega)),Wv l k hk]
   simp only [Option.bind_some,g360_b,w1 (show k<4611686018427387904 by omega),List.getElem?_eq_getElem hk,Option.getD_some]) (by
   simp only [Kc]
   rw [if_neg (by simp)])
  simp only [cZ]
  rw [if_neg (by simp; omega)]
  refine e.trans ?_
  rw [Zy]
  simp [Yi,h]
 ·simp only [cZ]
  rw [if_pos (decide_eq_true (by omega))]
  simp [Yi,h]
theorem fZ (l:List UInt8) (n:Nat):Wq l (n:Int)=some (if n≤l.length then (l.take n,l.drop n,true) else ([],[],false)):=by
 by_cases h:n≤l.length
 ·have e:=Wr (l.take n) (l.drop n)
  rw [List.take_append_drop,List.length_take,Nat.min_eq_left h] at e
  rw [e,if_pos h]
 ·simp only [Wq]
  rw [if_pos (decide_eq_true (by omega)),if_neg h]
theorem nK (a b:UInt8):Hk [a,b]=a.toNat*256+b.toNat:=by simp [Hk]
theorem two_of (q:List UInt8) (h:2≤q.length):∃a b v,q=a::b::v:=by
 cases q with
 | nil=>simp at h
 | cons a r=>cases r with
  | nil=>simp at h
  | cons b v=>exact ⟨a,b,v,rfl⟩
theorem VU (r:List UInt8) (K:Nat) (h:K+2≤r.length):∃key a b v,r=key++a::b::v∧key.length=K:=by
 obtain ⟨a,b,v,e⟩:=two_of (r.drop K) (by rw [List.length_drop]; omega)
 exact ⟨r.take K,a,b,v,by rw [←e,List.take_append_drop],by rw [List.length_take]; omega⟩
theorem fU (y a b:UInt8) (key v:List UInt8) (hk:key.length=y.toNat) (hv:v.length≤1048576):
  dA (y::(key++a::b::v))=some (if a.toNat*256+b.toNat-1≤v.length then (Ab.mk key (v.take (a.toNat*256+b.toNat-1)) (a.toNat*256+b.toNat==0),v.drop (a.toNat*256+b.toNat-1),true)
   else (Ab.mk key [] (a.toNat*256+b.toNat==0),[],false)):=by
 have hy:=y.toNat_lt
 have ha:=a.toNat_lt
 have hb:=b.toNat_lt
 have e1:Jr (y::(key++a::b::v)) 1 ((y::(key++a::b::v)).length:Int)=some (key++a::b::v):=by
  have:=Tl (y::(key++a::b::v)) 1 (y::(key++a::b::v)).length (by simp) (by omega)
  rw [List.take_length] at this
  exact this
 have e2:Ec (y::(key++a::b::v)) 0=some y:=rfl
 have e3:IntKind.i64.wrap ((y.toNat:Nat):Int)=(y.toNat:Int):=Tm (by omega)
 have e4:Wq (key++a::b::v) (y.toNat:Int)=some (key,a::b::v,true):=by rw [←hk]; exact Wr key _
 have e5:Wq (a::b::v) 2=some ([a,b],v,true):=Wr [a,b] v
 have e6:fN [a,b]=some ((a.toNat*256+b.toNat:Nat):Int):=by rw [bC _ (by simp),nK]
 generalize hn:a.toNat*256+b.toNat=n at *
 have e7:(if 0>IntKind.i64.wrap ((n:Int)-1) then 0 else IntKind.i64.wrap ((n:Int)-1))=((n-1:Nat):Int):=by
  have hw:IntKind.i64.wrap ((n:Int)-1)=(n:Int)-1:=wr ⟨by omega,by omega⟩
  rw [hw]
  split<;>omega
 have e9:((n:Int)==0)=(n==0):=by
  cases n with
  | zero=>rfl
  | succ n=>simp; omega
 have e8:=fZ v (n-1)
 simp only [dA,e1,e2,Option.bind_some,e3,e4,e5,e6,e7,e9,e8,Bool.not_true,Bool.false_eq_true,if_false]
 split<;>rfl
theorem fV (y:UInt8) (r:List UInt8) (h:¬y.toNat+2≤r.length):∃c R,dA (y::r)=some (c,R,false):=by
 have hy:=y.toNat_lt
 have e1:Jr (y::r) 1 ((y::r).length:Int)=some r:=by
  have:=Tl (y::r) 1 (y::r).length (by simp) (by omega)
  rw [List.take_length] at this
  exact this
 have e2:Ec (y::r) 0=some y:=rfl
 have e3:IntKind.i64.wrap ((y.toNat:Nat):Int)=(y.toNat:Int):=Tm (by omega)
 simp only [dA,e1,e2,Option.bind_some,e3,fZ]
 by_cases h1:y.toNat≤r.length
 ·have e5:Wq (r.drop y.toNat) 2=some ([],[],false):=by
   have:=fZ (r.drop y.toNat) 2
   rw [if_neg (by rw [List.length_drop]; omega)] at this
   exact this
  simp only [if_pos h1,Bool.not_true,Bool.false_eq_true,if_false,e5,Option.bind_some]
  exact ⟨_,_,rfl⟩
 ·simp only [if_neg h1]
  exact ⟨_,_,rfl⟩
theorem fY (A:List UInt8) (y:UInt8) (r:List UInt8) (out:List Ab) (hA:(A++y::r).length≤1048576) (h:¬y.toNat+2≤r.length):Dr (A++y::r) (out,(A.length:Int))=some (.inr (.inr (out,false))):=by
 have hy:=y.toNat_lt
 have hl:(A++y::r).length=A.length+r.length+1:=by simp; omega
 have a2:IntKind.i64.wrap ((y.toNat:Nat):Int)=(y.toNat:Int):=Tm (by omega)
 have a3:IntKind.i64.wrap ((A.length:Int)+1)=((A.length+1:Nat):Int):=w1 (by omega)
 have a4:IntKind.i64.wrap (((A.length+1:Nat):Int)+(y.toNat:Int))=((A.length+1+y.toNat:Nat):Int):=by rw [wr ⟨by omega,by omega⟩]; omega
 have a5:IntKind.i64.wrap (((A.length+1+y.toNat:Nat):Int)+2)=((A.length+1+y.toNat+2:Nat):Int):=by rw [wr ⟨by omega,by omega⟩]; omega
 simp only [Dr]
 rw [if_pos (decide_eq_true (by rw [hl]; omega)),Vj A r y]
 simp only [Option.bind_some,a2,a3,a4,a5,Bi]
 rw [if_pos (by simp only [decide_eq_true_eq]; rw [hl]; omega)]
theorem Wp (A:List UInt8) (y a b:UInt8) (key v:List UInt8) (hk:key.length=y.toNat) (out:List Ab) (hA:(A++y::(key++a::b::v)).length≤1048576) (ho:out.length≤1048576):
  Dr (A++y::(key++a::b::v)) (out,(A.length:Int))=some (if a.toNat*256+b.toNat-1≤v.length then
   .inl (out++[Ab.mk key (v.take (a.toNat*256+b.toNat-1)) (a.toNat*256+b.toNat==0)],((A.length+1+key.length+2+(a.toNat*256+b.toNat-1):Nat):Int))
   else .inr (.inr (out,false))):=by
 have hy:=y.toNat_lt
 have ha:=a.toNat_lt
 have hb:=b.toNat_lt
 have hE:(A++y::(key++a::b::v)).length=A.length+(key.length+v.length+3):=by simp; omega
 rw [hE] at hA
 have a1:Ec (A++y::(key++a::b::v)) (A.length:Int)=some y:=Vj A _ _
 have a2:IntKind.i64.wrap ((y.toNat:Nat):Int)=(key.length:Int):=by rw [←hk]; exact Tm (by omega)
 have a3:IntKind.i64.wrap ((A.length:Int)+1)=((A.length+1:Nat):Int):=w1 (by omega)
 have a4:IntKind.i64.wrap (((A.length+1:Nat):Int)+(key.length:Int))=((A.length+1+key.length:Nat):Int):=by rw [wr ⟨by omega,by omega⟩]; omega
 have a5:IntKind.i64.wrap (((A.length+1+key.length:Nat):Int)+2)=((A.length+1+key.length+2:Nat):Int):=by rw [wr ⟨by omega,by omega⟩]; omega
 have a6:Jr (A++y::(key++a::b::v)) ((A.length+1:Nat):Int) ((A.length+1+key.length:Nat):Int)=some key:=by
  have:=jW (A++[y]) key (a::b::v)
  simp only [List.length_append,List.length_singleton] at this
  simpa [List.append_assoc] using this
 have a7:IntKind.i64.wrap (1+(key.length:Int))=((1+key.length:Nat):Int):=by rw [wr ⟨by omega,by omega⟩]; omega
 have a8:IntKind.i64.wrap ((A.length:Int)+((1+key.length:Nat):Int))=((A.length+1+key.length:Nat):Int):=by rw [wr ⟨by omega,by omega⟩]; omega
 have a9:Ec (A++y::(key++a::b::v)) ((A.length+1+key.length:Nat):Int)=some a:=by
  have:=Vj (A++(y::key)) (b::v) a
  have hL:(A++(y::key)).length=A.length+1+key.length:=by simp; omega
  rw [hL] at this
  simpa [List.append_assoc] using this
 have b0:IntKind.i64.wrap (((A.length+1+key.length:Nat):Int)+1)=((A.length+1+key.length+1:Nat):Int):=w1 (by omega)
 have b1:Ec (A++y::(key++a::b::v)) ((A.length+1+key.length+1:Nat):Int)=some b:=by
  have:=Vj (A++(y::(key++[a]))) v b
  have hL:(A++(y::(key++[a]))).length=A.length+1+key.length+1:=by simp; omega
  rw [hL] at this
  simpa [List.append_assoc] using this
 generalize hn:a.toNat*256+b.toNat=n at *
 have b2:IntKind.i64.wrap (IntKind.i64.wrap (IntKind.i64.wrap (IntKind.i64.wrap ((a.toNat:Nat):Int)*256)+IntKind.i64.wrap ((b.toNat:Nat):Int))-1)=(n:Int)-1:=by
  rw [Tm (n:=a.toNat) (by omega),Tm (n:=b.toNat) (by omega)]
  rw [show IntKind.i64.wrap (((a.toNat:Nat):Int)*256)=((a.toNat:Nat):Int)*256 from wr ⟨by omega,by omega⟩]
  rw [show IntKind.i64.wrap (((a.toNat:Nat):Int)*256+((b.toNat:Nat):Int))=(n:Int) from by rw [wr ⟨by omega,by omega⟩]; omega]
  exact wr ⟨by omega,by omega⟩
 have jj:∀(p:Nat) (g:Bool),p=n-1→g=(n==0)→Rl (A++y::(key++a::b::v)) out key ((A.length+1+key.length:Nat):Int) (p:Int) g=some (if n-1≤v.length then
   .inl (out++[Ab.mk key (v.take (n-1)) (n==0)],((A.length+1+key.length+2+(n-1):Nat):Int)) else .inr (.inr (out,false))):=by
  rintro p g rfl rfl
  have c1:IntKind.i64.wrap (((A.length+1+key.length+2:Nat):Int)+((n-1:Nat):Int))=((A.length+1+key.length+2+(n-1):Nat):Int):=by
   rw [wr ⟨by omega,by omega⟩]; omega
  simp only [Rl,Bi,a5,c1]
  by_cases hv:n-1≤v.length
  ·have c3:Jr (A++y::(key++a::b::v)) ((A.length+1+key.length+2:Nat):Int) ((A.length+1+key.length+2+(n-1):Nat):Int)=some (v.take (n-1)):=by
    have:=jW (A++(y::(key++[a,b]))) (v.take (n-1)) (v.drop (n-1))
    have hL:(A++(y::(key++[a,b]))).length=A.length+1+key.length+2:=by simp; omega
    rw [hL,List.take_append_drop,List.length_take,Nat.min_eq_left hv] at this
    simpa [List.append_assoc] using this
   rw [if_neg (by simp only [decide_eq_true_eq]; rw [hE]; omega),c3]
   simp only [Option.bind_some,if_pos hv]
   rw [if_pos (by simp; omega)]
  ·rw [if_pos (by simp only [decide_eq_true_eq]; rw [hE]; omega),if_neg hv]
 simp only [Dr]
 rw [if_pos (decide_eq_true (by rw [hE]; omega)),a1]
 simp only [Option.bind_some,a2,a3,a4,a5,Bi]
 rw [if_neg (by simp only [decide_eq_true_eq]; rw [hE]; omega),a6]
 simp only [Option.bind_some,a7,a8,a9,b0,b1,b2]
 by_cases h0:n=0
 ·subst h0
  rw [if_pos (by decide)]
  exact jj 0 true rfl rfl
 ·rw [if_neg (by simp; omega)]
  have:=jj (n-1) false rfl (by simp [h0])
  rw [show ((n:Int)-1)=((n-1:Nat):Int) by omega]
  exact this
theorem aB (A p:List UInt8) (hp:p≠[]) (hA:(A++p).length≤1048576):
  (∃c R,dA p=some (c,R,false)∧∀out:List Ab,out.length≤1048576→Dr (A++p) (out,(A.length:Int))=some (.inr (.inr (out,false)))) ∨
  ∃c X R,p=X++R∧3≤X.length∧dA p=some (c,R,true)∧∀out:List Ab,out.length≤1048576→Dr (A++p) (out,(A.length:Int))=some (.inl (out++[c],((A++X).length:Int))):=by
 cases p with
 | nil=>exact absurd rfl hp
 | cons y r=>
  by_cases h:y.toNat+2≤r.length
  ·obtain ⟨key,a,b,v,rfl,hk⟩:=VU r y.toNat h
   have hv:v.length≤1048576:=by simp at hA; omega
   have e1:=fU y a b key v hk hv
   by_cases hc:a.toNat*256+b.toNat-1≤v.length
   ·rw [if_pos hc] at e1
    refine .inr ⟨_,y::(key++a::b::v.take (a.toNat*256+b.toNat-1)),v.drop (a.toNat*256+b.toNat-1),by simp,by simp; omega,e1,fun out ho=>?_⟩
    rw [Wp A y a b key v hk out hA ho,if_pos hc]
    congr 3
    simp [List.length_take]; omega
   ·rw [if_neg hc] at e1
    refine .inl ⟨_,_,e1,fun out ho=>?_⟩
    rw [Wp A y a b key v hk out hA ho,if_neg hc]
  ·obtain ⟨c,R,e⟩:=fV y r h
   exact .inl ⟨c,R,e,fun out _=>fY A y r out hA h⟩
theorem aH (b:List UInt8) (hb:b.length≤1048576):∀(n:Nat) (A p:List UInt8) (out:List Ab),p.length≤n→b=A++p→3*out.length≤A.length →
  ∃R,Bo (Dr b) (out,(A.length:Int))=some R∧((∃l,R = .inr (l,false))∨∃m,R = .inl (out++m)∧(out++m).length≤1048576)
 | n,A,p,out,hp,hE,ho=>by
  have hbA:b.length=A.length+p.length:=by rw [hE]; simp
  cases hpp:p with
  | nil=>
   refine ⟨.inl out,Dp ?_,.inr ⟨[],by simp,by simp; omega⟩⟩
   subst hpp
   simp only [Dr]
   rw [if_neg (by simp [hE])]
  | cons y r=>
   rcases aB A p (by rw [hpp]; simp) (by rw [←hE]; exact hb) with ⟨_,_,_,h2⟩ | ⟨c,X,R,h1,h3,_,h2⟩
   ·refine ⟨.inr (out,false),Dp ?_,.inl ⟨out,rfl⟩⟩
    rw [hE]; exact h2 out (by omega)
   ·cases n with
    | zero=>rw [hpp] at hp; simp at hp
    | succ n=>
     have hl:p.length=X.length+R.length:=by rw [h1]; simp
     obtain ⟨Q,q1,q2⟩:=aH b hb n (A++X) R (out++[c]) (by omega) (by rw [hE,h1,List.append_assoc]) (by simp; omega)
     refine ⟨Q,?_,?_⟩
     ·rw [Fs (s':=(out++[c],((A++X).length:Int))) (by rw [hE]; exact h2 out (by omega))]
      exact q1
     ·rcases q2 with ⟨l,rfl⟩ | ⟨m,rfl,hm⟩
      ·exact .inl ⟨l,rfl⟩
      ·exact .inr ⟨c::m,by simp,by simpa using hm⟩
theorem aA (b:List UInt8) (hb:b.length≤1048576):∀(n:Nat) (A p:List UInt8) (out:List Ab),p.length≤n→b=A++p→3*out.length≤A.length→Kf out →
  (∃l,Bo Hb (p,out)=some (.inl l)∧Bo (Dr b) (out,(A.length:Int))=some (.inl l)∧Kf l) ∨
  (Bo Hb (p,out)=some (.inr ([],false))∧((∃l,Bo (Dr b) (out,(A.length:Int))=some (.inr (l,false)))∨∃l,Bo (Dr b) (out,(A.length:Int))=some (.inl l)∧l.length≤1048576∧¬Kf l))
 | n,A,p,out,hp,hE,ho,hR=>by
  have hbA:b.length=A.length+p.length:=by rw [hE]; simp
  have hout:=hR.1
  cases hpp:p with
  | nil=>
   refine .inl ⟨out,Dp ?_,Dp ?_,hR⟩
   ·simp only [Hb]
    rw [if_neg (by simp)]
   ·subst hpp
    simp only [Dr]
    rw [if_neg (by simp [hE])]
  | cons y r=>
   rw [←hpp]
   have hlen:0<p.length:=by rw [hpp]; simp
   rcases aB A p (by rw [hpp]; simp) (by rw [←hE]; exact hb) with ⟨c,R,h1,h2⟩ | ⟨c,X,R,h1,h3,h4,h2⟩
   ·refine .inr ⟨Dp ?_,.inl ⟨out,Dp ?_⟩⟩
    ·simp only [Hb]
     rw [if_pos (decide_eq_true (by omega)),h1]
     simp [Bi]
    ·rw [hE]; exact h2 out (by omega)
   ·have hl:p.length=X.length+R.length:=by rw [h1]; simp
    have hs:Bo (Dr b) (out,(A.length:Int))=Bo (Dr b) (out++[c],((A++X).length:Int)):=Fs (by rw [hE]; exact h2 out (by omega))
    by_cases hok:out.length≠30∧nA c=true
    ·have hR2:Kf (out++[c]):=⟨by simp; omega,fun x hx=>by
      rcases List.mem_append.1 hx with hx | hx
      ·exact hR.2 x hx
      ·rw [List.mem_singleton] at hx; rw [hx]; exact (bP c).1 hok.2⟩
     have hi:Bo Hb (p,out)=Bo Hb (R,out++[c]):=Fs (by
      simp only [Hb]
      rw [if_pos (decide_eq_true (by omega)),h4]
      have:((out.length:Int)==30)=false:=by simp; omega
      simp only [Option.bind_some,Bool.not_true,cond_false,this,beq_self_eq_true,if_true,fS,hok.2,Bi,Bool.false_eq_true,if_false]
      rw [if_pos (by simp; omega)])
     cases n with
     | zero=>omega
     | succ n=>
      have ih:=aA b hb n (A++X) R (out++[c]) (by omega) (by rw [hE,h1,List.append_assoc]) (by simp; omega) hR2
      rw [hi,hs]
      exact ih
    ·have hi:Bo Hb (p,out)=some (.inr ([],false)):=Dp (by
      simp only [Hb]
      rw [if_pos (decide_eq_true (by omega)),h4]
      by_cases h30:out.length=30
      ·have:((out.length:Int)==30)=true:=by simp; omega
       simp [this,Bi]
      ·have:((out.length:Int)==30)=false:=by simp; omega
       have hc:nA c=false:=by
        cases hc:nA c
        ·rfl
        ·exact absurd ⟨h30,hc⟩ hok
       simp [this,Bi,fS,hc])
     refine .inr ⟨hi,?_⟩
     rw [hs]
     obtain ⟨Q,q1,q2⟩:=aH b hb R.length (A++X) R (out++[c]) (Nat.le_refl _) (by rw [hE,h1,List.append_assoc]) (by simp; omega)
     rcases q2 with ⟨l,rfl⟩ | ⟨m,rfl,hm⟩
     ·exact .inl ⟨l,q1⟩
     ·refine .inr ⟨_,q1,hm,fun hr=>hok ⟨fun h30=>?_,?_⟩⟩
      ·have:=hr.1; simp at this; omega
      ·exact (bP c).2 (hr.2 c (by simp))
theorem mB (b:List UInt8) (hb:b.length≤1048576):(∃l,fQ b=some (l,true)∧fX b=some (l,true)∧Kf l)∨∃l l',fQ b=some (l,false)∧fX b=some (l',false):=by
 have h:=aA b hb b.length [] b [] (Nat.le_refl _) rfl (by simp) ⟨by simp,by simp⟩
 rcases h with ⟨l,h1,h2,h3⟩ | ⟨h1,h2⟩
 ·refine .inl ⟨l,?_,?_,h3⟩
  ·simp only [fQ,h1,Option.bind_some]
  ·have h2':Bo (Dr b) (([]:List Ab),0)=some (.inl l):=h2
   simp only [fX,h2',Option.bind_some,YA h3]
 ·have h1':fQ b=some ([],false):=by simp only [fQ,h1,Option.bind_some]
  rcases h2 with ⟨l,h2⟩ | ⟨l,h2,h3,h4⟩
  ·refine .inr ⟨[],l,h1',?_⟩
   have h2':Bo (Dr b) (([]:List Ab),0)=some (.inr (l,false)):=h2
   simp only [fX,h2',Option.bind_some]
  ·refine .inr ⟨[],l,h1',?_⟩
   have h2':Bo (Dr b) (([]:List Ab),0)=some (.inl l):=h2
   have hn:Yi l=false:=by
    cases hh:Yi l
    ·rfl
    ·exact absurd ((cP l).1 hh) h4
   simp only [fX,h2',Option.bind_some,sS l h3,hn]
theorem uO (b:List UInt8) (hb:b.length≤1048576):∃r:List (List UInt8)×Int,aZ b=some r∧r.1.length≤1048576∧∀p∈r.1,p.length≤1048576:=by
 obtain ⟨r,h1,h2⟩:=Kp (step:=Ik b) (fun s=>Vr b s∧∀p∈s.1,p.length≤1048576) (fun s=>((b.length:Int)-s.2).toNat) (fun s=>Vr b s∧∀p∈s.1,p.length≤1048576) ([],0) ⟨⟨0,rfl,by omega,by simp⟩,by simp⟩ (by
  rintro ⟨l,_⟩ ⟨⟨k,rfl,hk,hl⟩,hp⟩
  simp only at hl hp
  have e:=Tj b hb l k (by omega) (by omega)
  cases hx:Te b k with
  | none=>
   rw [hx] at e
   exact .inr ⟨_,e,⟨k,rfl,hk,hl⟩,hp⟩
  | some p=>
   rw [hx] at e
   have hn:=bL hx
   refine .inl ⟨_,e,⟨⟨k+p.length+6,rfl,by omega,by simp; omega⟩,fun q hq=>?_⟩,by simp only; omega⟩
   rcases List.mem_append.1 hq with hq | hq
   ·exact hp q hq
   ·rw [List.mem_singleton] at hq; rw [hq]; omega)
 obtain ⟨⟨k,_,h3,h4⟩,h5⟩:=h2
 refine ⟨r,?_,by omega,h5⟩
 simp only [aZ,h1,Option.bind_some]
def cG (L:List (List UInt8)) (s:List Au×Int):Prop:=∃k:Nat,s.2=(k:Int)∧k≤L.length∧Dy s.1∧s.1.length≤100
theorem Sx (q:List (List UInt8)×Int) (hq:q.1.length≤1048576) (hp:∀p∈q.1,p.length≤1048576) (s:List Au×Int) (hs:cG q.1 s):
  (∃s',Li q s=some (.inl s')∧Oj q.1 s=some (.inl s')∧cG q.1 s'∧((q.1.length:Int)-s'.2).toNat<((q.1.length:Int)-s.2).toNat)∨(Li q s=some (.inr s.1)∧Oj q.1 s=some (.inr s.1)):=by
 obtain ⟨S,_⟩:=s
 obtain ⟨k,rfl,hk,hS,hl⟩:=hs
 simp only at hS hl
 simp only [Li,Oj]
 by_cases h0:k<q.1.length
 ·rw [if_pos (decide_eq_true (by omega)),if_pos (decide_eq_true (by omega)),Wv q.1 k h0]
  simp only [Option.bind_some,Int.toNat_natCast,List.getElem?_eq_getElem h0]
  rcases mB q.1[k] (hp _ (List.getElem_mem h0)) with ⟨l,e1,e2,e3⟩ | ⟨l,l',e1,e2⟩
  ·have h30:=e3.1
   simp only [e1,e2,Option.bind_some,Bool.not_true,Bool.false_eq_true,if_false,iX hS (by omega) l (by omega),iY hS (by omega) l (by omega)]
   by_cases hc:(Ht S l).length≤100
   ·rw [decide_eq_true (show (((Ht S l).length:Nat):Int)≤100 by omega),decide_eq_false (show ¬(((Ht S l).length:Nat):Int)>100 by omega)]
    simp only [Bool.not_true,Bool.false_eq_true,if_false,w1 (show k<4611686018427387904 by omega)]
    exact .inl ⟨_,rfl,rfl,⟨k+1,rfl,h0,Mj l hS,hc⟩,by simp only; omega⟩
   ·rw [decide_eq_false (show ¬(((Ht S l).length:Nat):Int)≤100 by omega),decide_eq_true (show (((Ht S l).length:Nat):Int)>100 by omega)]
    exact .inr ⟨rfl,rfl⟩
  ·simp only [e1,e2,Option.bind_some,Bool.not_false,if_true]
   exact .inr ⟨trivial,trivial⟩
 ·rw [if_neg (by simp; omega),if_neg (by simp; omega)]
  exact .inr ⟨rfl,rfl⟩
theorem lU (d:Ap) (hD:Gt d):∃S,XW d=some S∧XN d=some (S,0)∧Dy S∧S.length≤100:=by
 have hr:=Vl d hD.w
 obtain ⟨q,q1,q2,q3⟩:=uO (Cv d) (by omega)
 have hI0:cG q.1 (([]:List Au),0):=⟨0,rfl,by omega,List.Pairwise.nil,by simp⟩
 obtain ⟨r,r1,r2⟩:=Kp (step:=Li q) (cG q.1) (fun s=>((q.1.length:Int)-s.2).toNat) (fun r=>Dy r∧r.length≤100) _ hI0 (fun s hs=>by
  rcases Sx q q2 q3 s hs with ⟨s',e1,_,e3,e4⟩ | ⟨e1,_⟩
  ·exact .inl ⟨s',e1,e3,e4⟩
  ·obtain ⟨k,_,_,h1,h2⟩:=hs
   exact .inr ⟨_,e1,h1,h2⟩)
 have hsame:=Zo (step:=Li q) (step':=Oj q.1) (cG q.1) (fun s=>((q.1.length:Int)-s.2).toNat) (fun s hs=>by
  rcases Sx q q2 q3 s hs with ⟨s',e1,e2,_⟩ | ⟨e1,e2⟩
  ·rw [e1,e2]
  ·rw [e1,e2]) (fun s hs=>by
  rcases Sx q q2 q3 s hs with ⟨s',e1,_,e3,e4⟩ | ⟨e1,_⟩
  ·exact .inl ⟨s',e1,e3,e4⟩
  ·exact .inr ⟨_,e1⟩) _ hI0
 refine ⟨r,?_,?_,r2⟩
 ·simp only [XW,fH d hD.w,Option.bind_some,q1,r1]
 ·have hsc:fJ (Cv d)=some q:=(aF (Cv d) (by omega)).trans q1
  have hw:d.Aj.length≤1048576:=by have:=hD.2.2.1; omega
  have e:XX q.1=some r:=by simp only [XX,←hsame,r1,Option.bind_some]
  simp only [XN,g399,fI d hw,(Wf d).2 hD,Option.bind_some,Bool.not_true,Bool.false_eq_true,if_false,fK d hD.w,hsc]
  rw [if_neg (by simp)]
  simp only [e,Option.bind_some]
end Go.Ev
end
section
set_option maxHeartbeats 1000000
namespace Go.Ev
theorem b8_mod (n:Nat):b8 ((n%256:Nat):Int)=b8 (n:Int):=by
 apply UInt8.toNat_inj.1
 rw [Sl,Sl]; omega
theorem mM (n:Nat) (hn:n≤401):[b8 (IntKind.i64.wrap ((n:Int).tdiv 256)),b8 ((n:Int).tmod 256)]=Gy n 2:=by
 have e1:IntKind.i64.wrap ((n:Int).tdiv 256)=((n / 256:Nat):Int):=by
  rw [Int.tdiv_eq_ediv_of_nonneg (by omega)]
  rw [wr ⟨by omega,by omega⟩]; omega
 have e2:(n:Int).tmod 256=((n%256:Nat):Int):=by rw [Int.tmod_eq_emod_of_nonneg (by omega)]; omega
 rw [e1,e2,b8_mod]
 have e3:Gy n 2=[De n 1,De n 0]:=rfl
 rw [e3]
 simp [De]
theorem Wo (out:List UInt8) (k:Nat) (c:Ab) (hc:Pj c) (n:Nat) (hn:n≤401) (ho:out.length≤20000) (hk:k≤1000):
  Rk out (k:Int) c (n:Int)=some (.inl ((((out++([b8 (c.key.length:Int)]:List UInt8))++c.key)++Gy n 2)++c.value,((k+1:Nat):Int))):=by
 have h1:=hc.1.2; have h2:=hc.2.1
 simp only [Rk,mM n hn]
 rw [if_pos (by simp [bigB_len]; omega),if_pos (by simp [bigB_len]; omega),w1 (by omega)]
 rfl
theorem YC (l:List Ab) (h:Kf l):YB l=some (Gr l):=by
 obtain ⟨hl,hc⟩:=h
 obtain ⟨r,r1,r2⟩:=Kp (step:=Vh l) (fun x=>∃j:Nat,x.2=(j:Int)∧j≤l.length∧x.1=Gr (l.take j)) (fun x=>(l.length-x.2).toNat) (fun r=>r=Gr l) (([]:List UInt8),0) ⟨0,rfl,by omega,by simp [Gr]⟩ (by
  rintro ⟨out,k⟩ ⟨j,rfl,h1,rfl⟩
  simp only [Vh]
  by_cases h0:j<l.length
  ·rw [if_pos (decide_eq_true (by omega)),Wv l j h0]
   have hr:=hc l[j] (List.getElem_mem h0)
   have hlen:=cW (l.take j) fun x hx=>hc x (List.mem_of_mem_take hx)
   have hj:(l.take j).length=j:=by simp; omega
   rw [hj] at hlen
   have:=hr.1.2; have:=hr.2.1
   simp only [Option.bind_some]
   rw [if_pos (by simp; omega),if_pos (by simp; omega)]
   refine .inl ⟨(Gr (l.take (j+1)),((j+1:Nat):Int)),?_,⟨j+1,rfl,by omega,rfl⟩,by simp only; omega⟩
   rw [jZ l j h0,Tr,cX]
   split
   ·rename_i hg
    have:=Wo (Gr (l.take j)) j l[j] hr 0 (by omega) (by omega) (by omega)
    simp only [aV,hg,if_true]
    simpa [List.append_assoc] using this
   ·rename_i hg
    have e1:IntKind.i64.wrap ((l[j].value.length:Int)+1)=((l[j].value.length+1:Nat):Int):=w1 (by omega)
    have:=Wo (Gr (l.take j)) j l[j] hr (l[j].value.length+1) (by omega) (by omega) (by omega)
    rw [e1]
    simp only [aV,hg,if_false]
    simpa [List.append_assoc] using this
  ·rw [if_neg (by simp; omega)]
   have:j=l.length:=by omega
   subst this
   exact .inr ⟨_,rfl,by rw [List.take_length]⟩)
 simp only [YB,r1,Option.bind_some,r2]
theorem WG (d:Ap) (hD:Gt d) (p:List UInt8) (hp:p.length≤2000):∃r:Ap×Int,lE d p=some r∧WF d p=some r∧Ky r.1:=by
 obtain ⟨r,e1,e2,e3⟩:=nH d hD p hp
 have hw:d.Aj.length≤1048576:=by have:=hD.2.2.1; omega
 refine ⟨r,e1,?_,e2.fit⟩
 simp only [WF]
 rw [decide_eq_false (show ¬(p.length:Int)>65536 by omega),fI d hw,(Wf d).2 hD,decide_eq_false (show ¬(p.length:Int)>2000 by omega)]
 simp only [Bool.not_true,Bool.false_eq_true,if_false,Option.bind_some]
 exact e3
theorem cT (d:Ap) (h:Ky d) (cs:List Ab) (hl:cs.length≤1048576):∃r:Ap×Int,sQ d cs=some r∧XP d cs=some r∧Ky r.1:=by
 simp only [sQ,XP,g393,Option.bind_some]
 by_cases h1:cs.length≤4096
 rotate_left
 ·rw [decide_eq_false (show ¬(cs.length:Int)≤4096 by omega),decide_eq_true (show (cs.length:Int)>4096 by omega)]
  exact ⟨_,rfl,rfl,Mo⟩
 rw [decide_eq_true (show (cs.length:Int)≤4096 by omega),decide_eq_false (show ¬(cs.length:Int)>4096 by omega),g216_b d h.2.1,fI d h.2.1]
 simp only [Bool.not_true,Bool.false_eq_true,if_false,Option.bind_some,g394_b cs hl,sS cs hl]
 cases hb:Yk d
 ·exact ⟨_,rfl,rfl,Mo⟩
 have hD:=(Wf d).1 hb
 simp only [Bool.not_true,beq_self_eq_true,if_true,Option.bind_some,cond_false]
 cases hB:Yi cs
 ·exact ⟨_,rfl,rfl,Mo⟩
 have hR:=(cP cs).1 hB
 have h30:=hR.1
 obtain ⟨S,s1,s2,s3,s4⟩:=lU d hD
 simp only [Bool.not_true,Bool.false_eq_true,if_false,s1,s2,Option.bind_some,iX s3 (by omega) cs (by omega),iY s3 (by omega) cs (by omega)]
 by_cases hc:(Ht S cs).length≤100
 rotate_left
 ·rw [decide_eq_false (show ¬(((Ht S cs).length:Nat):Int)≤100 by omega),decide_eq_true (show (((Ht S cs).length:Nat):Int)>100 by omega)]
  exact ⟨_,rfl,rfl,Mo⟩
 rw [decide_eq_true (show (((Ht S cs).length:Nat):Int)≤100 by omega),decide_eq_false (show ¬(((Ht S cs).length:Nat):Int)>100 by omega)]
 simp only [Bool.not_true,Bool.false_eq_true,if_false,XV cs hR,YC cs hR,Option.bind_some]
 by_cases hp:(Gr cs).length≤2000
 ·obtain ⟨r,e1,e2,e3⟩:=WG d hD (Gr cs) hp
  rw [decide_eq_true (show (((Gr cs).length:Nat):Int)≤2000 by omega),e1,e2]
  exact ⟨_,rfl,rfl,e3⟩
 ·simp only [lE]
  rw [decide_eq_false (show ¬(((Gr cs).length:Nat):Int)≤2000 by omega),decide_eq_true (show (((Gr cs).length:Nat):Int)>2000 by omega)]
  exact ⟨_,rfl,rfl,Mo⟩
theorem gJ (l:List Ab) (o:okL Tf l) (n:Int) (hn:0≤n∧n≤1048576):∃r,XO l n=some r∧(0≤r→l.length≤1048576):=by
 have hl:=o.1
 have hw:IntKind.i64.wrap (n-(l.length:Int))=n-(l.length:Int):=wr ⟨by omega,by omega⟩
 simp only [XO,hw]
 by_cases h:n-(l.length:Int)<0
 ·rw [if_pos (decide_eq_true h)]
  exact ⟨-1,rfl,fun h=>by omega⟩
 ·rw [if_neg (by simpa using h)]
  obtain ⟨r,r1,r2⟩:=dZ l (by omega) (fun _=>True) (n-(l.length:Int)) (by omega) (step:=Rc l) (fun k c hk c0 c1=>by
   have ok:=o.2 _ (List.getElem_mem hk)
   have k1:l[k].key.length≤9223372036854775807:=ok.1
   have k2:l[k].value.length≤9223372036854775807:=ok.2.1
   have w1':IntKind.i64.wrap (c-(l[k].key.length:Int))=c-(l[k].key.length:Int):=wr ⟨by omega,by omega⟩
   simp only [Rc]
   rw [if_pos (decide_eq_true (by omega)),Cu hk]
   simp only [Option.bind_some,g406,w1']
   by_cases h1:c-(l[k].key.length:Int)<0
   ·rw [if_pos (decide_eq_true h1)]; simp only [Option.bind_some]
    rw [if_pos (by decide)]
    exact .inl rfl
   ·have w2':IntKind.i64.wrap (c-(l[k].key.length:Int)-(l[k].value.length:Int))=c-(l[k].key.length:Int)-(l[k].value.length:Int):=wr ⟨by omega,by omega⟩
    rw [if_neg (by simpa using h1)]; simp only [Bi,w2']
    by_cases h2:c-(l[k].key.length:Int)-(l[k].value.length:Int)<0
    ·rw [if_pos (decide_eq_true h2)]; simp only [Option.bind_some]
     rw [if_pos (by decide)]
     exact .inl rfl
    ·rw [if_neg (by simpa using h2)]; simp only [Option.bind_some]
     rw [if_neg (by simpa using h2),w1 (show k<4611686018427387904 by omega)]
     exact .inr ⟨_,by omega,by omega,trivial,rfl⟩) (fun c=>by
   simp only [Rc]
   rw [if_neg (by simp)]) (by omega)
  rw [r1]
  rcases r2 with rfl | ⟨c,rfl,c0,c1,hq⟩
  ·exact ⟨-1,rfl,fun h=>by omega⟩
  ·exact ⟨c,rfl,fun _=>by omega⟩
theorem gM (l:List Ab) (hl:l.length≤1048576):fP l=some l:=by
 have h:=bX l id (Ab.mk ([]:List UInt8) ([]:List UInt8) false) (step:=Rd l) (fun k hk p hp=>by
  simp only [Rd,g410]
  rw [if_pos (decide_eq_true (by omega)),Cu hk]
  simp only [Option.bind_some]
  rw [Cu (l:=p) (k:=k) (by omega)]
  simp only [Option.bind_some,Int.toNat_natCast]
  rw [List.getElem?_eq_getElem (by omega)]
  simp only [Option.bind_some,w1 (show k<4611686018427387904 by omega)]
  rfl) (fun p hp=>by
  simp only [Rd]
  rw [if_neg (by simp)])
 rw [List.map_id] at h
 unfold fP
 rw [if_pos (by omega),if_pos (by omega)]
 simp only [Int.toNat_natCast,Bi,h,Option.bind_some]
theorem fC (l:List Ab) (hl:l.length≤1048576):XQ l l=some true:=by
 have hE:∀x:Ab,YD x x=some true:=fun x=>by simp [YD]
 have h:=Ti l (step:=Re l l) (fun k hk=>by
  simp only [Re]
  rw [if_pos (decide_eq_true (by omega)),Cu hk]
  simp [w1 (show k<4611686018427387904 by omega),hE]) (by
  simp only [Re]
  rw [if_neg (by simp)])
 unfold XQ
 rw [if_neg (by simp),h]
 rfl
theorem gD (c:Int) (h:c≤9007199254740992):∃t,fL c=some t:=by
 simp only [fL]
 by_cases h0:c≤0
 ·rw [if_pos (decide_eq_true h0)]; exact ⟨_,rfl⟩
 rw [if_neg (by simpa using h0)]
 obtain ⟨r,r1,r2⟩:=Kp (step:=Vb) (fun s=>0≤s.1∧s.1≤9007199254740992∧(s.2.length:Int)+s.1≤9007199254740992+9007199254740992) (fun s=>s.1.toNat) (fun r:List UInt8=>(r.length:Int)≤18014398509481984) (c,([]:List UInt8)) ⟨by omega,h,by simp; omega⟩ (by
  rintro ⟨n,t⟩ ⟨n0,n1,n2⟩
  simp only at n0 n1 n2
  simp only [Vb]
  by_cases hn:0<n
  ·have e:n.tdiv 10=n / 10:=Int.tdiv_eq_ediv_of_nonneg n0
   have e1:IntKind.i64.wrap (n.tdiv 10)=n / 10:=by rw [e]; exact wr ⟨by omega,by omega⟩
   rw [if_pos (decide_eq_true hn),if_pos (by simp; omega),e1]
   refine .inl ⟨_,rfl,⟨by simp only; omega,by simp only; omega,by simp; omega⟩,by simp only; omega⟩
  ·rw [if_neg (by simpa using hn)]
   exact .inr ⟨_,rfl,by omega⟩)
 rw [r1]
 simp only [Option.bind_some]
 rw [if_pos (by simp; omega)]
 exact ⟨_,rfl⟩
noncomputable def mtx (c:Int):List UInt8:=(fL c).getD []
theorem tJ (c:Int) (h:c≤9007199254740992):fL c=some (mtx c):=by
 obtain ⟨t,e⟩:=gD c h
 unfold mtx
 rw [e]; rfl
noncomputable def mkCh (c:Int) (_:Ab):Ab:=Ab.mk (mtx c) (mtx (c+1)) ((c+2).tmod 3==0)
theorem bJ (l:List Ab) (a:Int) (ha:0≤a∧a≤4398046511104) (hl:l.length≤1048576):XS l a=some (a+3*(l.length:Int),Fk mkCh 3 l a):=by
 have h:=Zr mkCh 3 l a (step:=Rf) (fun k p hp hk=>by
  simp only [Rf]
  have e0:IntKind.i64.wrap (a+((3:Nat):Int)*(k:Int)+1)=a+((3:Nat):Int)*(k:Int)+1:=wr ⟨by omega,by omega⟩
  have e1:IntKind.i64.wrap (a+((3:Nat):Int)*(k:Int)+1+1)=a+((3:Nat):Int)*(k:Int)+2:=by rw [wr ⟨by omega,by omega⟩]; omega
  have e2:IntKind.i64.wrap (a+((3:Nat):Int)*(k:Int)+2+1)=a+((3:Nat):Int)*((k+1:Nat):Int):=by rw [wr ⟨by omega,by omega⟩]; omega
  rw [if_pos (decide_eq_true (by omega)),tJ _ (by omega),Cu (l:=p) (k:=k) (by omega)]
  simp only [Option.bind_some,Int.toNat_natCast,e0,e1,e2,w1 (show k<4611686018427387904 by omega),Bi,tJ (a+((3:Nat):Int)*(k:Int)+1) (by omega)]
  rw [List.getElem?_eq_getElem (by omega)]
  simp only [Option.bind_some]
  rw [Cu (by simp; omega),List.getElem?_eq_getElem (by simp; omega)]
  simp only [Option.bind_some,List.set_set,List.getElem_set_self]
  rw [Cu (by simp; omega),List.getElem?_eq_getElem (by simp; omega)]
  simp only [Option.bind_some,List.set_set,List.getElem_set_self,mkCh]) (fun p c hp=>by
  simp only [Rf]
  rw [if_neg (by simp; omega)])
 simp only [XS,h,Option.bind_some]
 rfl
theorem sP (a0:Ap) (a1:List Ab) (o:Tg a0) (o1:okL Tf a1):g378 a0 a1=some true:=by
 simp only [g378]
 obtain ⟨r,r1,r2,r3⟩:=sz_dev a0 o 1048576 (by omega)
 rw [r1]
 simp only [Option.bind_some]
 by_cases hr:r<0
 ·rw [decide_eq_true hr]; rfl
 rw [decide_eq_false hr]
 have hf:=r3 (by omega)
 obtain ⟨s,s1,s2⟩:=gJ a1 o1 r ⟨by omega,r2⟩
 rw [s1]
 simp only [Bool.false_eq_true,if_false,Option.bind_some]
 by_cases hs:s<0
 ·rw [decide_eq_true hs]; rfl
 rw [decide_eq_false hs]
 have hd:=s2 (by omega)
 obtain ⟨w,w1,w2,hg⟩:=cT a0 hf a1 hd
 obtain ⟨n,p,q,m1,m2,m3,m4,m5,m6⟩:=dK a0 hf 1 (by omega)
 obtain ⟨n',p',q',k1,k2,k3,k4,k5,k6⟩:=dK w.1 hg 1 (by omega)
 have e1:(w.2 != w.2)=false:=by simp
 simp only [Bool.false_eq_true,if_false,to_dev a0 hf,gM a1 hd,w1,w2,Option.bind_some,Zj _ hg,Zj _ hf,fC a1 hd,Bool.not_true,cond_false,e1,
  m1,m2,m3,if_true,bJ a1 n ⟨by omega,m5⟩ hd,marked_len,decide_eq_false (show ¬(n+3*(a1.length:Int)<0) by omega),beq_self_eq_true,Bi,k1,k2,k3,k6,decide_eq_false (show ¬(n'<0) by omega),bne_self_eq_false]
end Go.Ev
end
