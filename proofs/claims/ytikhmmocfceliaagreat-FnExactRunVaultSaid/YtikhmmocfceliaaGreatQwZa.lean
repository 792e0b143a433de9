/- The plain part of the proof: what the functions compute answers as the law says. -/
import Derived.Test.YtikhmmocfceliaaGreatQvL
import Derived.Test.YtikhmmocfceliaaGreatQgD
import Derived.Test.YtikhmmocfceliaaGreatQvM
import Derived.Sort.LotA
import Derived.Sort.LotB
import Derived.Sort.LotC
import Derived.Sort.LotD3
import Derived.Sort.LotD5
import Derived.Sort.LotD4
set_option linter.all false
section
namespace Go.Ev
noncomputable def tf (P:Prop):Bool:=@decide P (Classical.propDecidable P)
@[simp] theorem tf_iff {P:Prop}:tf P=true↔P:=by unfold tf; exact @decide_eq_true_iff P (Classical.propDecidable P)
@[simp] theorem tf_false {P:Prop}:tf P=false↔¬P:=by rw [←Bool.not_eq_true,tf_iff]
theorem GE {P Q:Prop} (h:P↔Q):tf P=tf Q:=by rw [propext h]
theorem hO {P:Prop} (h:P):tf P=true:=tf_iff.2 h
theorem gZ {P:Prop} (h:¬P):tf P=false:=tf_false.2 h
theorem tf_not {P:Prop}:(!tf P)=tf (¬P):=by
 by_cases h:P
 ·rw [hO h,gZ (not_not_intro h)]; rfl
 ·rw [gZ h,hO h]; rfl
theorem if_tf {α:Type} {P:Prop} {a b:α} (h:P):(if tf P=true then a else b)=a:=by rw [hO h]; rfl
theorem if_tfn {α:Type} {P:Prop} {a b:α} (h:¬P):(if tf P=true then a else b)=b:=by rw [gZ h]; rfl
abbrev I64 (n:Int):Prop := -9223372036854775808≤n∧n≤9223372036854775807
theorem wr {n:Int} (h:I64 n):IntKind.i64.wrap n=n:=by
 obtain ⟨h1,h2⟩:=h
 have e:IntKind.i64.wrap n=if n%18446744073709551616≥9223372036854775808 then n%18446744073709551616-18446744073709551616 else n%18446744073709551616:=by
  simp [IntKind.wrap,IntKind.bits,IntKind.signed]
 rw [e]
 split<;>omega
theorem Uu {α:Type} {l:List α} {k:Nat}:Cr l (k:Int)=l[k]? := by
 unfold Cr
 rw [if_pos (by omega)]
 simp
theorem Cc {α:Type} {l:List α} {k:Nat} (h:k<l.length):Cr l (k:Int)=some l[k]:=by
 rw [Uu,List.getElem?_eq_getElem h]
section
variable {σ ρ:Type} {step:σ→Option (σ⊕ρ)}
theorem Pw (st:Nat→σ):∀n,(∀k,k<n→step (st k)=some (.inl (st (k+1))))→By step (st 0)=By step (st n)
 | 0,_=>rfl
 | n+1,h=>by
  rw [Pw st n fun k hk=>h k (by omega),Dp (h n (by omega))]
theorem Ec (st:Nat→σ) (n:Nat) (r:ρ) (h:∀k,k<n→step (st k)=some (.inl (st (k+1)))) (he:step (st n)=some (.inr r)):By step (st 0)=some r:=by
 rw [Pw st n h,Dm he]
theorem mZ (st:Nat→σ) (n:Nat) (ok:Nat→Prop) (bad:Nat→ρ) (fin:ρ) (h1:∀k,k<n→(∀j,j<k→ok j)→ok k→step (st k)=some (.inl (st (k+1))))
  (h2:∀k,k<n→(∀j,j<k→ok j)→¬ok k→step (st k)=some (.inr (bad k))) (he:(∀j,j<n→ok j)→step (st n)=some (.inr fin)):
  ((∀k,k<n→ok k)→By step (st 0)=some fin)∧(∀k,k<n→(∀j,j<k→ok j)→¬ok k→By step (st 0)=some (bad k)):=by
 constructor
 ·intro h
  exact Ec st n fin (fun k hk=>h1 k hk (fun j hj=>h j (by omega)) (h k hk)) (he h)
 ·intro k hk hj hn
  rw [Pw st k fun i hi=>h1 i (by omega) (fun j hj'=>hj j (by omega)) (hj i hi)]
  exact Dm (h2 k hk hj hn)
theorem aR {n:Nat} {ok:Nat→Prop} (h:¬ ∀k,k<n→ok k):∃k,k<n∧(∀j,j<k→ok j)∧¬ok k:=by
 obtain ⟨k,hk⟩:=Classical.not_forall.1 h
 rw [Classical.not_imp] at hk
 obtain ⟨h1,h2⟩:=hk
 induction k using Nat.strongRecOn with
 | _ k ih=>
  by_cases hex:∃j,j<k∧¬ok j
  ·obtain ⟨j,hj,hn⟩:=hex
   exact ih j hj (by omega) hn
  ·exact ⟨k,h1,fun j hj=>Classical.byContradiction fun hn=>hex ⟨j,hj,hn⟩,h2⟩
end
theorem EH {α:Type} {step:Int→Option (Int⊕(Unit⊕Bool))} (l:List α) (ok:Nat→α→Prop)
  (h1:∀k (hk:k<l.length),(∀j x,j<k→l[j]? = some x→ok j x)→∃v:Bool,(v=true↔¬ok k l[k])∧step (k:Int)=(if v=true then some (.inr (.inr false)) else some (.inl ((k+1:Nat):Int))))
  (h3:step (l.length:Int)=some (.inr (.inl ()))):By step 0=some (if tf (∀k x,l[k]? = some x→ok k x)=true then .inl () else .inr false):=by
 have pre:∀k,(∀j,j<k→∀h:j<l.length,ok j l[j])→∀j x,j<k→l[j]? = some x→ok j x:=fun k hj j x hjk hx=>by
  obtain ⟨hlt,rfl⟩:=List.getElem?_eq_some_iff.1 hx
  exact hj j hjk hlt
 have hh:=mZ (step:=step) (fun k=>(k:Int)) l.length (fun k=>∀h:k<l.length,ok k l[k]) (fun _=>.inr false) (.inl ()) (fun k hk hj ho=>by
  obtain ⟨v,hv,hs⟩:=h1 k hk (pre k hj)
  rw [hs,if_neg (fun h=>hv.1 h (ho hk))]) (fun k hk hj ho=>by
  obtain ⟨v,hv,hs⟩:=h1 k hk (pre k hj)
  rw [hs,if_pos (hv.2 fun h=>ho fun _=>h)]) (fun _=>h3)
 by_cases h:∀k x,l[k]? = some x→ok k x
 ·rw [if_tf h]; exact hh.1 fun k hk _=>h k _ (List.getElem?_eq_getElem hk)
 ·rw [if_tfn h]
  obtain ⟨k,hk,hj,ho⟩:=aR (n:=l.length) (ok:=fun k=>∀h:k<l.length,ok k l[k]) fun hall=>h fun k x hx=>by
   obtain ⟨hlt,rfl⟩:=List.getElem?_eq_some_iff.1 hx
   exact hall k hlt hlt
  exact hh.2 k hk hj ho
theorem tf_ext {b:Bool} {P:Prop} (h:b=true↔P):some b=some (tf P):=by
 congr 1
 rw [Bool.eq_iff_iff,tf_iff,h]
end Go.Ev
end
section
namespace Go.Ev
def Zh (t:As) (k:Nat) (x:Aa):Prop:=(1≤x.id∧x.id≤t.next-1)∧(∀y,0<k→t.Af[k-1]? = some y→y.id<x.id)∧0≤x.Bp∧x.Bp≤x.cap∧(x.Cl=false→t.clock<x.Bp)
def Ie (t:As):Prop:=0≤t.clock∧(1≤t.next∧t.next≤1000000)∧t.Af.length≤40∧∀k x,t.Af[k]? = some x→Zh t k x
end Go.Ev
namespace Go.Ev
def De (l:List Int) (a b:Int):Prop:=∀k x,l[k]? = some x→(a≤x∧x≤b)∧∀y,0<k→l[k-1]? = some y→y<x
theorem g107_eq (a b:Aa):g107 a b=some (tf (a=b)):=by
 unfold g107
 obtain ⟨a1,a2,a3,a4⟩:=a
 obtain ⟨b1,b2,b3,b4⟩:=b
 by_cases h1:a1=b1<;>by_cases h2:a2=b2<;>by_cases h3:a3=b3<;>by_cases h4:a4=b4<;>simp [h1,h2,h3,h4,tf]
theorem g64_eq (a b:List Aa) (hl:a.length≤1048576):g64 a b=some (tf (a=b)):=by
 by_cases hlen:a.length=b.length
 ·have h:By (aF a b) 0=some (if tf (∀(k:Nat) (x:Aa),a[k]? = some x→b[k]? = some x)=true then .inl () else .inr false):=by
   refine EH a _ (fun k hk _=>?_) ?_
   ·have hw3:IntKind.i64.wrap ((k:Int)+1)=((k+1:Nat):Int):=wr ⟨by omega,by omega⟩
    simp only [aF]
    rw [if_pos (decide_eq_true (by omega)),Cc hk,Cc (l:=b) (k:=k) (by omega)]
    simp only [Option.bind_some,g107_eq,hw3]
    refine ⟨_,?_,rfl⟩
    rw [List.getElem?_eq_getElem (by omega)]
    simp only [tf_not,tf_iff,Option.some.injEq]
    exact not_congr eq_comm
   ·simp only [aF]
    rw [if_neg (by simp)]
  have e:(∀(k:Nat) (x:Aa),a[k]? = some x→b[k]? = some x)↔a=b:=by
   constructor
   ·intro h
    apply List.ext_getElem hlen
    intro k h1 h2
    have:=h k _ (List.getElem?_eq_getElem h1)
    rw [List.getElem?_eq_getElem h2] at this
    exact (Option.some.inj this).symm
   ·rintro rfl k x hx; exact hx
  rw [GE e] at h
  simp only [g64]
  rw [if_neg (by simp [hlen]),h]
  by_cases hab:a=b
  ·rw [hO hab]; rfl
  ·rw [gZ hab]; rfl
 ·simp only [g64]
  rw [if_pos (by simp; omega)]
  exact tf_ext (by simp; rintro rfl; exact hlen rfl)
theorem g21_eq (a b:As) (hl:a.Af.length≤1048576):g21 a b=some (tf (a=b)):=by
 simp only [g21,g64_eq _ _ hl]
 obtain ⟨a1,a2,a3⟩:=a
 obtain ⟨b1,b2,b3⟩:=b
 by_cases h1:a1=b1<;>by_cases h2:a2=b2<;>by_cases h3:a3=b3<;>simp [h1,h2,h3,tf]
end Go.Ev
end
section
namespace Go.Ev
theorem jI {σ ρ:Type} {step:σ→Option (σ⊕ρ)} (I:σ→Prop) (μ:σ→Nat) (R:ρ→Prop) (s0:σ) (h0:I s0)
  (h:∀s,I s→(∃s',step s=some (.inl s')∧I s'∧μ s'<μ s)∨(∃r,step s=some (.inr r)∧R r)):∃r,By step s0=some r∧R r:=by
 have key:∀(n:Nat) (s0:σ),μ s0<n→I s0→∃r,By step s0=some r∧R r:=by
  intro n
  induction n with
  | zero=>intro s0 hn; omega
  | succ n ih=>
   intro s0 hn hI
   rcases h s0 hI with ⟨s',h1,h2,h3⟩ | ⟨r,h1,h2⟩
   ·obtain ⟨r,h4,h5⟩:=ih s' (by omega) h2
    exact ⟨r,by rw [Dp h1,h4],h5⟩
   ·exact ⟨r,Dm h1,h2⟩
 exact key (μ s0+1) s0 (by omega) h0
theorem w1 {k:Nat} (h:k<4611686018427387904):IntKind.i64.wrap ((k:Int)+1)=((k+1:Nat):Int):=wr ⟨by omega,by omega⟩
theorem slcK {α:Type} (l:List α) (a b:Nat) (h:a≤b) (h2:b≤l.length):cW l (a:Int) (b:Int)=some ((l.take b).drop a):=by
 unfold cW
 rw [if_pos ⟨by omega,by omega,by omega⟩]
 simp
theorem ovlK {α:Type} (l:List α) (n:Nat) (y:List α) (h:n+y.length=l.length):ovl l n y=l.take n++y:=by
 apply List.ext_getElem
 ·simp [ovl]; omega
 ·intro k h1 h2
  simp only [ovl,List.length_mapIdx] at h1
  simp only [ovl,List.getElem_mapIdx,List.getElem_append]
  by_cases hn:n≤k
  ·rw [if_pos hn,dif_neg (by simp; omega),List.getElem?_eq_getElem (by omega:k-n<y.length)]
   simp only [Option.getD_some,List.length_take]
   congr 1; omega
  ·rw [if_neg hn,dif_pos (by simp; omega),List.getElem_take]
def Iv {α:Type} (l:List α) (p:α→Bool):Int:=match l.findIdx? p with
 | some k=>(k:Int)
 | none => -1
theorem Sr {α:Type} (l:List α) (f:α→Option Bool) (p:α→Bool) (hf:∀x∈l,f x=some (p x)) (hl:l.length≤4611686018427387903) {step:Int→Option (Int⊕(Unit⊕Int))}
  (hs:∀s,step s=if decide (s<(l.length:Int))=true then (Cr l s).bind fun y=>(f y).bind fun r=>if r=true then some (.inr (.inr s)) else some (.inl (IntKind.i64.wrap (s+1))) else some (.inr (.inl ()))):
  (By step 0).bind (fun r=>match r with | .inl ()=>some (-1) | .inr q=>some q)=some (Iv l p):=by
 have go:∀k (hk:k<l.length),p l[k]=false→step (k:Int)=some (.inl ((k+1:Nat):Int)):=fun k hk hp=>by
  rw [hs,if_pos (decide_eq_true (by omega)),Cc hk]
  simp [hf _ (List.getElem_mem hk),hp,w1 (show k<4611686018427387904 by omega)]
 unfold Iv
 cases hfi:l.findIdx? p with
 | none=>
  have hall:∀x∈l,p x=false:=by simpa using List.findIdx?_eq_none_iff.1 hfi
  have:=Ec (step:=step) (fun k=>(k:Int)) l.length (.inl ()) (fun k hk=>go k hk (hall _ (List.getElem_mem hk))) (by rw [hs,if_neg (by simp)])
  rw [show (0:Int)=((0:Nat):Int) from rfl,this]
  rfl
 | some k=>
  obtain ⟨hk,hp,hj⟩:=List.findIdx?_eq_some_iff_getElem.1 hfi
  have:=Pw (step:=step) (fun k=>(k:Int)) k (fun j hj'=>go j (by omega) (by simpa using hj j hj'))
  rw [show (0:Int)=((0:Nat):Int) from rfl,this,Dm (r:=.inr (k:Int)) (by
   rw [hs,if_pos (decide_eq_true (by omega)),Cc hk]
   simp [hf _ (List.getElem_mem hk),hp])]
  rfl
theorem Zx {α:Type} (l:List α) (p:α→Bool):decide (Iv l p≥0)=l.any p:=by
 unfold Iv
 cases hfi:l.findIdx? p with
 | none=>
  have hall:∀x∈l,p x=false:=by simpa using List.findIdx?_eq_none_iff.1 hfi
  rw [show l.any p=false from List.any_eq_false.2 fun x hx=>by simp [hall x hx]]
  rfl
 | some k=>
  obtain ⟨hk,hp,hj⟩:=List.findIdx?_eq_some_iff_getElem.1 hfi
  rw [show l.any p=true from List.any_eq_true.2 ⟨_,List.getElem_mem hk,hp⟩]
  simp
theorem oL {α:Type} (l:List α) (p:α→Bool):(!l.any fun x => !p x)=l.all p:=by
 induction l with
 | nil=>rfl
 | cons x r ih=>simp only [List.any_cons,List.all_cons,Bool.not_or,Bool.not_not,ih]
theorem iU {α:Type} (l:List α) (f:α→Option Bool) (p:α→Bool) (hf:∀x∈l,f x=some (p x)) (hl:l.length≤4611686018427387903) (z:α) {step:List α×Int×Int→Option ((List α×Int×Int)⊕(List α×Int))}
  (hs:∀row i j,step (row,i,j)=if decide (j<(row.length:Int))=true then (Cr row j).bind fun _=>(row[j.toNat]?).bind fun y=>(f y).bind fun r=>
   if (!r)=true then (Cr row i).bind fun _=>(row[i.toNat]?).bind fun _=>some (.inl (row.set i.toNat y,IntKind.i64.wrap (i+1),IntKind.i64.wrap (j+1))) else some (.inl (row,i,IntKind.i64.wrap (j+1)))
   else some (.inr (row,i))):
  (if (Iv l p==(-1))=true then some l else (By step (l,Iv l p,IntKind.i64.wrap (Iv l p+1))).bind fun r=>
   (match r with
   | (a,b)=>(cW a b (a.length:Int)).bind fun s=>(cW (ovl a b.toNat (List.replicate s.length z)) 0 b).bind fun s2=>some s2))=some (l.filter fun x => !p x):=by
 unfold Iv
 cases hfi:l.findIdx? p with
 | none=>
  have hall:∀x∈l,p x=false:=by simpa using List.findIdx?_eq_none_iff.1 hfi
  rw [if_pos (by rfl)]
  congr 1
  exact (List.filter_eq_self.2 fun x hx=>by simp [hall x hx]).symm
 | some k=>
  obtain ⟨hk,hp,hj⟩:=List.findIdx?_eq_some_iff_getElem.1 hfi
  simp only
  rw [if_neg (by simp)]
  have hk0:l.take k=(l.take (k+1)).filter fun x => !p x:=by
   rw [List.take_succ_eq_append_getElem hk,List.filter_append]
   have e1:(l.take k).filter (fun x => !p x)=l.take k:=List.filter_eq_self.2 fun x hx=>by
    obtain ⟨j,hj1,rfl⟩:=List.getElem_of_mem hx
    simp only [List.length_take] at hj1
    have:=hj j (by omega)
    simpa using this
   rw [e1]; simp [hp]
  obtain ⟨r,h3,h4⟩:=jI (step:=step) (fun s=>∃i j:Nat,s.2.1=i∧s.2.2=j∧i≤j∧j≤l.length∧s.1.length=l.length∧s.1.take i=(l.take j).filter (fun x => !p x)∧s.1.drop j=l.drop j)
   (fun s=>(l.length-s.2.2).toNat) (fun r=>∃i:Nat,r.2=i∧i≤r.1.length∧r.1.length=l.length∧r.1.take i=l.filter fun x => !p x) (l,(k:Int),IntKind.i64.wrap ((k:Int)+1))
   ⟨k,k+1,rfl,w1 (by omega),by omega,by omega,rfl,hk0,rfl⟩ (by
    rintro ⟨row,_,_⟩ ⟨i,j,rfl,rfl,hij,hjl,hlen,ht,hd⟩
    simp only at hlen ht hd
    rw [hs]
    by_cases hlt:j<l.length
    ·have hrj:row[j]'(by omega)=l[j]:=by
      have e1:=congrArg (fun z=>z[0]?) hd
      simp only [List.getElem?_drop,Nat.add_zero] at e1
      rw [List.getElem?_eq_getElem (by omega),List.getElem?_eq_getElem hlt] at e1
      exact Option.some.inj e1
     have hwi:=w1 (show i<4611686018427387904 by omega)
     have hwj:=w1 (show j<4611686018427387904 by omega)
     have hd':row.drop (j+1)=l.drop (j+1):=by
      have:=congrArg (List.drop 1) hd
      simpa [List.drop_drop,Nat.add_comm] using this
     rw [if_pos (decide_eq_true (by omega)),Cc (by omega)]
     simp only [Option.bind_some,Int.toNat_natCast]
     rw [List.getElem?_eq_getElem (by omega)]
     simp only [Option.bind_some,hrj,hf _ (List.getElem_mem hlt)]
     left
     cases hpj:p l[j] with
     | false=>
      rw [if_pos (by rfl),Cc (by omega)]
      simp only [Option.bind_some]
      rw [List.getElem?_eq_getElem (by omega)]
      simp only [Option.bind_some,hwi,hwj]
      refine ⟨_,rfl,⟨i+1,j+1,rfl,rfl,by omega,by omega,by simp [hlen],?_,?_⟩,by simp only; omega⟩
      ·simp only
       rw [List.take_succ_eq_append_getElem (by simp; omega),List.take_succ_eq_append_getElem hlt,List.filter_append,←ht]
       simp [hpj,List.take_set_of_le]
      ·simp only
       rw [List.drop_set_of_lt (by omega),hd']
     | true=>
      rw [if_neg (by simp)]
      simp only [hwj]
      refine ⟨_,rfl,⟨i,j+1,rfl,rfl,by omega,by omega,hlen,?_,hd'⟩,by simp only; omega⟩
      simp only
      rw [List.take_succ_eq_append_getElem hlt,List.filter_append,←ht]
      simp [hpj]
    ·rw [if_neg (by simp; omega)]
     right
     refine ⟨_,rfl,i,rfl,by simp only; omega,hlen,?_⟩
     simp only
     rw [ht,List.take_of_length_le (by omega)])
  obtain ⟨row,i'⟩:=r
  obtain ⟨i,hi,hil,hlen,ht⟩:=h4
  simp only at hi hil hlen ht
  subst hi
  rw [h3]
  simp only [Option.bind_some]
  rw [slcK _ _ _ hil (Nat.le_refl _)]
  simp only [Option.bind_some,Int.toNat_natCast,List.take_length]
  rw [ovlK _ _ _ (by simp; omega)]
  have e:=slcK (row.take i++List.replicate (row.drop i).length z) 0 i (by omega) (by simp; omega)
  rw [show ((0:Nat):Int)=0 from rfl] at e
  rw [e]
  simp only [Option.bind_some,List.drop_zero]
  rw [List.take_append_of_le_length (by simp; omega),List.take_take,Nat.min_self,ht]
theorem qH {α β:Type} (l:List β) (F:β→α) (z:α) {step:List α×Int→Option ((List α×Int)⊕List α)}
  (hs:∀k (hk:k<l.length) (p:List α),p.length=l.length→step (p,(k:Int))=some (.inl (p.set k (F l[k]),((k+1:Nat):Int)))) (he:∀p:List α,p.length=l.length→step (p,(l.length:Int))=some (.inr p)):
  By step (List.replicate l.length z,0)=some (l.map F):=by
 have h:=Ec (step:=step) (fun k=>((l.take k).map F++List.replicate (l.length-k) z,(k:Int))) l.length (l.map F) (fun k hk=>by
  rw [hs k hk _ (by simp; omega)]
  congr 3
  rw [List.set_append,if_neg (by simp; omega),List.take_succ_eq_append_getElem hk,List.map_append,List.append_assoc]
  congr 1
  have e:l.length-k=(l.length-(k+1))+1:=by omega
  have e2:k-((l.take k).map F).length=0:=by simp; omega
  rw [e,List.replicate_succ,e2]
  rfl) (by
  rw [he _ (by simp)]
  simp)
 simpa using h
theorem Rq {α:Type} (l:List α) {step:Int→Option (Int⊕(Unit⊕Bool))}
  (hs:∀k,k<l.length→step (k:Int)=some (.inl ((k+1:Nat):Int))) (he:step (l.length:Int)=some (.inr (.inl ()))):By step 0=some (.inl ()):=
 Ec (step:=step) (fun k=>(k:Int)) l.length (.inl ()) hs he
def El {α:Type} (mk:Int→α→α) (w:Nat) (l:List α) (a:Int):List α:=l.mapIdx fun i x=>mk (a+(w:Int)*(i:Int)) x
@[simp] theorem marked_len {α:Type} (mk:Int→α→α) (w:Nat) (l:List α) (a:Int):(El mk w l a).length=l.length:=by simp [El]
theorem Sy {α:Type} (mk:Int→α→α) (w:Nat) (l:List α) (a:Int) (k:Nat) (h:k<(El mk w l a).length):
  (El mk w l a)[k]=mk (a+(w:Int)*(k:Int)) (l[k]'(by simpa using h)):=by simp [El]
theorem Rk {α:Type} (mk:Int→α→α) (w:Nat) (l:List α) (a:Int) {step:List α×Int×Int→Option ((List α×Int×Int)⊕(List α×Int))}
  (hs:∀k (p:List α) (hp:p.length=l.length) (hk:k<l.length),step (p,a+(w:Int)*(k:Int),(k:Int))=some (.inl (p.set k (mk (a+(w:Int)*(k:Int)) (p[k]'(by omega))),a+(w:Int)*((k+1:Nat):Int),((k+1:Nat):Int))))
  (he:∀(p:List α) c,p.length=l.length→step (p,c,(l.length:Int))=some (.inr (p,c))):
  By step (l,a,0)=some (El mk w l a,a+(w:Int)*(l.length:Int)):=by
 have h:=Ec (step:=step) (fun k=>(l.mapIdx (fun i x=>if i<k then mk (a+(w:Int)*(i:Int)) x else x),a+(w:Int)*(k:Int),(k:Int))) l.length (El mk w l a,a+(w:Int)*(l.length:Int)) (fun k hk=>by
  rw [hs k _ (by simp) hk]
  congr 3
  apply List.ext_getElem
  ·simp
  ·intro j h1 h2
   simp only [List.length_set,List.length_mapIdx] at h1
   simp only [List.getElem_set,List.getElem_mapIdx]
   by_cases e:k=j
   ·subst e; simp
   ·rw [if_neg e]
    by_cases e2:j<k
    ·simp [e2,show j<k+1 by omega]
    ·simp [e2,show ¬j<k+1 by omega]) (by
  rw [he _ _ (by simp)]
  congr 3
  unfold El
  apply List.ext_getElem
  ·simp
  ·intro j h1 h2
   simp only [List.length_mapIdx] at h1
   simp [h1])
 simp only [Nat.not_lt_zero,if_false] at h
 have e0:l.mapIdx (fun (_:Nat) (x:α)=>x)=l:=by
  apply List.ext_getElem
  ·simp
  ·intro j h1 h2; simp
 have h':By step (l.mapIdx (fun (_:Nat) (x:α)=>x),a+(w:Int)*((0:Nat):Int),((0:Nat):Int))=some (El mk w l a,a+(w:Int)*(l.length:Int)):=h
 rw [e0] at h'
 simpa using h'
theorem tN {n:Nat} (ok:Nat→Bool) {step:Int→Option (Int⊕(Unit⊕Bool))}
  (hs:∀k,k<n→(∀j,j<k→ok j=true)→step (k:Int)=if (!ok k)=true then some (.inr (.inr false)) else some (.inl ((k+1:Nat):Int))) (he:step (n:Int)=some (.inr (.inl ()))):
  (By step 0).bind (fun r=>match r with | .inl ()=>some true | .inr q=>some q)=some ((List.range n).all ok):=by
 by_cases h:∀k,k<n→ok k=true
 ·have:=Ec (step:=step) (fun k=>(k:Int)) n (.inl ()) (fun k hk=>by rw [hs k hk (fun j hj=>h j (by omega)),h k hk]; rfl) he
  rw [show (0:Int)=((0:Nat):Int) from rfl,this]
  rw [show (List.range n).all ok=true from List.all_eq_true.2 fun x hx=>h x (List.mem_range.1 hx)]
  rfl
 ·obtain ⟨k,hk,hj,hn⟩:=aR h
  have hf:ok k=false:=by simpa using hn
  have:=Pw (step:=step) (fun k=>(k:Int)) k (fun j hj'=>by rw [hs j (by omega) (fun i hi=>hj i (by omega)),hj j hj']; rfl)
  rw [show (0:Int)=((0:Nat):Int) from rfl,this,Dm (r:=.inr false) (by rw [hs k hk hj,hf]; rfl)]
  rw [show (List.range n).all ok=false from List.all_eq_false.2 ⟨k,List.mem_range.2 hk,by simp [hf]⟩]
  rfl
theorem sJ {α:Type} [Inhabited α] (l:List α) (p:α→Bool):((List.range l.length).all fun k=>p (l[k]?.getD default))=l.all p:=by
 rw [Bool.eq_iff_iff]
 simp only [List.all_eq_true,List.mem_range]
 constructor
 ·intro h x hx
  obtain ⟨k,hk,rfl⟩:=List.getElem_of_mem hx
  have:=h k hk
  rwa [List.getElem?_eq_getElem hk] at this
 ·intro h k hk
  rw [List.getElem?_eq_getElem hk]
  exact h _ (List.getElem_mem hk)
end Go.Ev
end
section
set_option maxHeartbeats 1000000
namespace Go.Ev
theorem dT (l:List Int) (hl:l.length≤1048576):g36 l l=some true:=by
 have h:=Rq l (step:=aD l l) (fun k hk=>by
  simp only [aD]
  rw [if_pos (decide_eq_true (by omega)),Cc hk]
  simp only [Option.bind_some]
  rw [if_neg (by simp),w1 (show k<4611686018427387904 by omega)]) (by
  simp only [aD]
  rw [if_neg (by simp)])
 unfold g36
 rw [if_neg (by simp),h]
 rfl
theorem dS (l:List Int) (a:Int) (ha:0≤a∧a≤1099511627776) (hl:l.length≤1048576):g37 l a=some (a+(l.length:Int),El (fun c _=>c) 1 l a):=by
 have h:=Rk (fun c _=>c) 1 l a (step:=Pq) (fun k p hp hk=>by
  simp only [Pq]
  rw [if_pos (decide_eq_true (by omega)),Cc (l:=p) (k:=k) (by omega)]
  simp only [Option.bind_some,Int.toNat_natCast]
  rw [List.getElem?_eq_getElem (by omega)]
  have e1:IntKind.i64.wrap (a+((1:Nat):Int)*(k:Int)+1)=a+((1:Nat):Int)*((k+1:Nat):Int):=by rw [wr ⟨by omega,by omega⟩]; omega
  simp only [Option.bind_some,w1 (show k<4611686018427387904 by omega),e1]) (fun p c hp=>by
  simp only [Pq]
  rw [if_neg (by simp; omega)])
 simp only [g37,h,Option.bind_some]
 simp
theorem rX (l:List Int) (a:Int) (ha:0≤a∧a≤1099511627776) (hl:l.length≤1048576):g38 (El (fun c _=>c) 1 l a) a=some (a+(l.length:Int)):=by
 have h:=Ec (step:=Wc (El (fun c _=>c) 1 l a)) (fun k=>(a+(k:Int),(k:Int))) l.length (.inl (a+(l.length:Int))) (fun k hk=>by
  simp only [Wc]
  rw [if_pos (decide_eq_true (by simp; omega)),Cc (by simp; omega)]
  have e1:IntKind.i64.wrap (a+(k:Int)+1)=a+((k+1:Nat):Int):=by rw [wr ⟨by omega,by omega⟩]; omega
  simp only [Option.bind_some,w1 (show k<4611686018427387904 by omega),e1,Sy]
  rw [if_neg (by simp)]) (by
  simp only [Wc]
  rw [if_neg (by simp)])
 have h':By (Wc (El (fun c _=>c) 1 l a)) (a,0)=some (.inl (a+(l.length:Int))):=by
  rw [show a+((0:Nat):Int)=a by simp] at h; exact h
 simp only [g38,h',Option.bind_some]
theorem ints_to (l:List Int) (hl:l.length≤1048576):g43 l=some l:=by
 have h:=qH l (fun x=>x) 0 (step:=aE l) (fun k hk p hp=>by
  simp only [aE]
  rw [if_pos (decide_eq_true (by omega)),Cc hk]
  simp only [Option.bind_some]
  rw [Cc (l:=p) (k:=k) (by omega)]
  simp only [Option.bind_some,Int.toNat_natCast,w1 (show k<4611686018427387904 by omega)]
  rw [List.getElem?_eq_getElem (by omega)]
  rfl) (fun p hp=>by
  simp only [aE]
  rw [if_neg (by simp)])
 simp only [List.map_id'] at h
 unfold g43
 rw [if_pos (by omega),if_pos (by omega),Int.toNat_natCast]
 simp only [h,Option.bind_some]
theorem De.lt {l:List Int} {a b:Int} (h:De l a b) {i j:Nat} (hj:j<l.length) (hij:i<j):l[i]<l[j]:=by
 induction j with
 | zero=>omega
 | succ j ih=>
  have h1:=(h (j+1) l[j+1] (List.getElem?_eq_getElem hj)).2 l[j] (by omega) (List.getElem?_eq_getElem (by omega))
  by_cases e:i=j
  ·subst e; exact h1
  ·have:=ih (by omega) (by omega); omega
def Ms (l:List Int) (x:Int) (p:Nat):Prop:=p≤l.length∧(∀k,∀h:k<l.length,k<p→l[k]<x)∧∀k,∀h:k<l.length,p≤k→x≤l[k]
theorem cut_ex {l:List Int} {a b:Int} (h:De l a b) (x:Int):∃p,Ms l x p:=by
 by_cases hall:∀k,k<l.length→l[k]?.getD 0<x
 ·refine ⟨l.length,Nat.le_refl _,fun k hk _=>?_,fun k hk hh=>by omega⟩
  have:=hall k hk
  rwa [List.getElem?_eq_getElem hk] at this
 ·obtain ⟨p,hp,h1,h2⟩:=aR (ok:=fun k=>l[k]?.getD 0<x) hall
  rw [List.getElem?_eq_getElem hp] at h2
  simp only [Option.getD_some] at h2
  refine ⟨p,Nat.le_of_lt hp,fun k hk hkp=>?_,fun k hk hpk=>?_⟩
  ·have:=h1 k hkp
   rwa [List.getElem?_eq_getElem hk] at this
  ·by_cases e:k=p
   ·subst e; omega
   ·have:=h.lt hk (show p<k by omega)
    omega
theorem Ms.one {l:List Int} {x:Int} {p q:Nat} (h1:Ms l x p) (h2:Ms l x q):p=q:=by
 obtain ⟨a1,a2,a3⟩:=h1
 obtain ⟨b1,b2,b3⟩:=h2
 by_cases h:p<q
 ·have:=b2 p (by omega) h; have:=a3 p (by omega) (Nat.le_refl _); omega
 ·by_cases h':q<p
  ·have:=a2 q (by omega) h'; have:=b3 q (by omega) (Nat.le_refl _); omega
  ·omega
theorem jH (a:Int):jB a=some false∧DI a=some false:=by simp [jB,DI]
theorem less_eq (a b:Int):g140 a b=some (decide (a<b)):=by simp [g140,(jH a).1,Cd]
theorem halfN (a:Nat) (h:a≤4194304):IntKind.i64.wrap (Nu .u64 (IntKind.u64.wrap (IntKind.i64.wrap (a:Int))) 1)=((a / 2:Nat):Int):=by
 have h1:IntKind.u64.wrap (a:Int)=a:=by
  have e:IntKind.u64.wrap (a:Int)=(a:Int)%18446744073709551616:=by simp [IntKind.wrap,IntKind.bits,IntKind.signed]
  rw [e]; omega
 have h2:(2:Int)^min (1:Int).toNat 64=2:=by decide
 rw [wr (n:=(a:Int)) ⟨by omega,by omega⟩,h1]
 simp only [Nu,h2]
 rw [Int.fdiv_eq_ediv_of_nonneg _ (by omega),wr ⟨by omega,by omega⟩]
 omega
def Io (l:List Int) (x:Int) (p:Nat):Bool:=decide (l[p]? = some x)
theorem g121_eq {l:List Int} {a b:Int} (h:De l a b) (hl:l.length≤1048576) (x:Int) {p:Nat} (hp:Ms l x p):g121 l x=some ((p:Int),Io l x p):=by
 obtain ⟨r,h1,h2⟩:=jI (step:=Yd l x) (fun s=>∃i j:Nat,s=((i:Int),(j:Int))∧i≤j∧j≤l.length∧(∀k,∀h:k<l.length,k<i→l[k]<x)∧∀k,∀h:k<l.length,j≤k→x≤l[k])
  (fun s=>(s.2-s.1).toNat) (fun r=>∃i:Nat,r=i∧Ms l x i) (0,(l.length:Int))
  ⟨0,l.length,rfl,by omega,by omega,by intros; omega,by intros; omega⟩ (by
   rintro _ ⟨i,j,rfl,hij,hj,ha,hb⟩
   simp only [Yd]
   by_cases hlt:i<j
   ·have e:(i:Int)+(j:Int)=((i+j:Nat):Int):=by omega
    rw [if_pos (decide_eq_true (by omega)),e,halfN _ (by omega)]
    have hm:(i+j) / 2<l.length:=by omega
    simp only [Cd,Cc hm,Option.bind_some,less_eq]
    have hw:IntKind.i64.wrap (((i+j) / 2:Nat)+1:Int)=(((i+j) / 2+1:Nat):Int):=wr ⟨by omega,by omega⟩
    rw [hw]
    left
    by_cases hc:l[(i+j) / 2]<x
    ·rw [if_pos (decide_eq_true hc)]
     refine ⟨_,rfl,⟨_,j,rfl,by omega,hj,fun k hk hki=>?_,hb⟩,by simp only; omega⟩
     by_cases e:k=(i+j) / 2
     ·subst e; exact hc
     ·have:=h.lt hm (show k<(i+j) / 2 by omega); omega
    ·rw [if_neg (by simpa using hc)]
     refine ⟨_,rfl,⟨i,_,rfl,by omega,by omega,ha,fun k hk hki=>?_⟩,by simp only; omega⟩
     by_cases e:k=(i+j) / 2
     ·subst e; omega
     ·have:=h.lt hk (show (i+j) / 2<k by omega); omega
   ·rw [if_neg (by simp; omega)]
    exact .inr ⟨_,rfl,i,rfl,by omega,ha,fun k hk hki=>hb k hk (by omega)⟩)
 obtain ⟨i,rfl,hi⟩:=h2
 obtain rfl:=hi.one hp
 simp only [g121,h1,Option.bind_some]
 by_cases hlt:i<l.length
 ·have hd:decide ((i:Int)<(l.length:Int))=true:=by simp; omega
  simp only [hd,Cc hlt,Option.bind_some,Cd,Io,List.getElem?_eq_getElem hlt,(jH _).2,beq_self_eq_true,if_true,Bool.true_and,Option.some.injEq,cond_true]
  by_cases hx:l[i]=x
  ·simp [hx]
  ·simp [hx]
 ·have hd:decide ((i:Int)<(l.length:Int))=false:=by simp; omega
  have hd2:(false==true)=false:=rfl
  simp only [hd,hd2,Bool.false_and,Bool.false_eq_true,if_false,Option.bind_some,Cd,cond_false,Io,List.getElem?_eq_none (show l.length≤i by omega),reduceCtorEq,decide_false]
def Ld (l:List Int) (x:Int) (create:Bool) (p:Nat):List Int:=
 if create=true then (if Io l x p=true then l else l.take p++[x]++l.drop p) else if Io l x p=true then l.take p++l.drop (p+1) else l
def Mj (f:Int):Int:=if (f==2)=true then 15 else 0
theorem g89_eq {l:List Int} {a b:Int} (h:De l a b) (hl:l.length≤1048575) (x:Int) (c:Bool) (f:Int) {p:Nat} (hp:Ms l x p):
  g89 l x c f=some (if (f==1)=true then (l,13) else (Ld l x c p,Mj f)):=by
 have hc:lW l=some l:=by unfold lW; rw [if_pos (by simp; omega)]
 have j:∀q,Wi f q=some (q,Mj f):=fun q=>by unfold Wi Mj; split<;>rfl
 simp only [g89,hc,Option.bind_some,g121_eq h (by omega) x hp,j]
 by_cases hf:(f==1)=true
 ·simp [hf]
 ·have hp1:=hp.1
  simp only [hf,if_false]
  cases c with
  | true=>
   simp only [cond_true,Ld,if_true,Bool.not_true,cond_false,Bool.false_eq_true,if_false]
   cases hat:Io l x p with
   | true=>simp
   | false=>
    simp only [Bool.not_false,if_true,Bool.false_eq_true,if_false,g122]
    rw [if_pos ⟨⟨by omega,by omega⟩,by simp,by simp; omega⟩]
    simp
  | false=>
   simp only [cond_false,Ld,Bool.false_eq_true,if_false,Bool.not_false,cond_true]
   cases hat:Io l x p with
   | false=>simp
   | true=>
    have hlt:p<l.length:=by
     simp only [Io,decide_eq_true_eq] at hat
     exact (List.getElem?_eq_some_iff.1 hat).1
    have hw:IntKind.i64.wrap ((p:Int)+1)=((p+1:Nat):Int):=w1 (by omega)
    simp only [if_true,hw,g123]
    rw [if_pos ⟨⟨by omega,by omega,by omega⟩,by omega⟩]
    simp
theorem g86_eq {l:List Int} (hl:l.length≤1048575) (x:Int) (c:Bool) (f:Int) {p:Nat} (hp:Ms l x p):
  g86 l x c f=some (if (f==1)=true then (l,13) else (Ld l x c p,Mj f)):=by
 obtain ⟨hp1,hp2,hp3⟩:=hp
 have hloop:By (Wh l x) ([],0)=some (l.take p):=by
  have h:=Ec (step:=Wh l x) (fun k=>(l.take k,(k:Int))) p (l.take p) (fun k hk=>by
   have hkl:k<l.length:=by omega
   simp only [Wh]
   rw [decide_eq_true (show (k:Int)<(l.length:Int) by omega)]
   simp only [beq_self_eq_true,if_true,Cc hkl,Option.bind_some,Cd,cond_true]
   rw [if_pos (decide_eq_true (hp2 k hkl hk)),if_pos (by simp; omega),w1 (by omega),List.take_succ_eq_append_getElem hkl]) (by
   simp only [Wh]
   by_cases hlt:p<l.length
   ·rw [decide_eq_true (show (p:Int)<(l.length:Int) by omega)]
    simp only [beq_self_eq_true,if_true,Cc hlt,Option.bind_some,Cd,cond_true]
    rw [if_neg (by have:=hp3 p hlt (Nat.le_refl _); simp; omega)]
   ·rw [decide_eq_false (show ¬(p:Int)<(l.length:Int) by omega)]
    simp [Cd])
  simpa using h
 have hlen:((l.take p).length:Int)=(p:Int):=by simp; omega
 have hj1:∀(o:List Int) (k:Nat),k≤l.length→o.length≤l.length+1→aJ l f o (k:Int)=some (o++l.drop k,Mj f):=fun o k hk ho=>by
  simp only [aJ]
  rw [slcK l k l.length hk (Nat.le_refl _),List.take_length]
  simp only [Option.bind_some]
  rw [if_pos (by simp; omega)]
  unfold Mj; split<;>rfl
 have hj0:∀o:List Int,o.length≤l.length+1→aI l x f (l.take p) o=some (o++l.drop (if Io l x p=true then p+1 else p),Mj f):=fun o ho=>by
  simp only [aI,hlen]
  by_cases hlt:p<l.length
  ·rw [decide_eq_true (show (p:Int)<(l.length:Int) by omega)]
   simp only [beq_self_eq_true,if_true,Cc hlt,Option.bind_some,Cd,cond_true,Io,List.getElem?_eq_getElem hlt,Option.some.injEq]
   by_cases hx:l[p]=x
   ·simp only [hx,beq_self_eq_true,if_true,decide_true]
    rw [w1 (by omega),hj1 o (p+1) (by omega) ho]
   ·have:(l[p]==x)=false:=by simpa using hx
    simp only [this,hx,decide_false,Bool.false_eq_true,if_false]
    rw [hj1 o p (by omega) ho]
  ·rw [decide_eq_false (show ¬(p:Int)<(l.length:Int) by omega)]
   have:Io l x p=false:=by simp [Io,List.getElem?_eq_none (show l.length≤p by omega)]
   simp only [this,Cd,cond_false,Bool.false_eq_true,if_false,Bool.false_beq,Option.bind_some]
   simp [hj1 o p (by omega) ho]
 by_cases hf:(f==1)=true
 ·simp [g86,hf]
 ·simp only [g86,hf,Bool.false_eq_true,if_false,hloop,Option.bind_some]
  have hsplit:Io l x p=true→l.take p++[x]++l.drop (p+1)=l:=fun hat=>by
   simp only [Io,decide_eq_true_eq] at hat
   obtain ⟨hlt,hx⟩:=List.getElem?_eq_some_iff.1 hat
   rw [←hx,←List.take_succ_eq_append_getElem hlt,List.take_append_drop]
  cases c with
  | true=>
   simp only [if_true]
   rw [if_pos (by simp; omega),hj0 _ (by simp; omega)]
   simp only [Ld,if_true]
   cases hat:Io l x p with
   | true=>simp only [if_true,hsplit hat]
   | false=>simp
  | false=>
   simp only [Bool.false_eq_true,if_false]
   rw [hj0 _ (by simp; omega)]
   simp only [Ld,Bool.false_eq_true,if_false]
   cases hat:Io l x p with
   | true=>simp
   | false=>simp
end Go.Ev
end
section
set_option maxHeartbeats 1000000
namespace Go.Ev
open Go.Sort
theorem Kf {σ τ ρ:Type} {step:σ→Option (σ⊕ρ)} (emb:τ→σ) (ok:τ→Prop) (m:τ→Nat) (F:τ→ρ)
  (h:∀t,ok t→(∃t',step (emb t)=some (.inl (emb t'))∧ok t'∧F t'=F t∧m t'<m t)∨step (emb t)=some (.inr (F t))) (t:τ) (ht:ok t):By step (emb t)=some (F t):=by
 have key:∀(n:Nat) (t:τ),m t<n→ok t→By step (emb t)=some (F t):=by
  intro n
  induction n with
  | zero=>intro t hn; omega
  | succ n ih=>
   intro t hn ht
   rcases h t ht with ⟨t',h1,h2,h3,h4⟩ | h1
   ·rw [Dp h1,ih t' (by omega) h2,h3]
   ·exact Dm h1
 exact key (m t+1) t (by omega) ht
theorem bX {i:Nat} (h:i≤4611686018427387904):IntKind.i64.wrap ((i:Int)+1)=((i+1:Nat):Int):=by rw [wr ⟨by omega,by omega⟩]; omega
theorem eM {i:Nat} (h:i≤4611686018427387904) (h0:1≤i):IntKind.i64.wrap ((i:Int)-1)=((i-1:Nat):Int):=by rw [wr ⟨by omega,by omega⟩]; omega
theorem HL {i j:Nat} (h:i≤2305843009213693952) (h2:j≤2305843009213693952):IntKind.i64.wrap ((i:Int)+(j:Int))=((i+j:Nat):Int):=by rw [wr ⟨by omega,by omega⟩]; omega
theorem qE {i j:Nat} (h:i≤2305843009213693952) (h2:j≤i):IntKind.i64.wrap ((i:Int)-(j:Int))=((i-j:Nat):Int):=by rw [wr ⟨by omega,by omega⟩]; omega
theorem sdb {i:Nat} (h:i≤2305843009213693952):IntKind.i64.wrap (2*(i:Int))=((2*i:Nat):Int):=by rw [wr ⟨by omega,by omega⟩]; omega
theorem sml {i:Nat} (k:Nat) (hk:k≤3) (h:i≤1152921504606846976):IntKind.i64.wrap ((i:Int)*(k:Int))=((i*k:Nat):Int):=by
 have:i*k≤i*3:=Nat.mul_le_mul_left _ hk
 have e:(i:Int)*(k:Int)=((i*k:Nat):Int):=by simp
 rw [e,wr ⟨by omega,by omega⟩]
theorem sdv {i:Nat} (k:Nat) (h:i≤2305843009213693952):IntKind.i64.wrap ((i:Int).tdiv (k:Int))=((i / k:Nat):Int):=by
 have:i / k≤i:=Nat.div_le_self _ _
 have e:(i:Int).tdiv (k:Int)=((i / k:Nat):Int):=by simp
 rw [e]
 generalize i / k=q at *
 rw [wr ⟨by omega,by omega⟩]
variable {α:Type} [Inhabited α]
theorem Il {d:Array α} {i:Nat} (h:i<d.size):Cr d.toList (i:Int)=some d[i]! := by
 rw [Cc (by simpa using h),getElem!_pos d i h]; simp
theorem Iy {d:Array α} {i:Nat} (h:i<d.size):d.toList[i]? = some d[i]! := by
 rw [getElem!_pos d i h]; simp [h]
theorem nN {d:Array α} {i:Nat} {v:α}:d.toList.set i v=(d.setIfInBounds i v).toList:=by simp
theorem nP {d:Array α} {i j:Nat}:(d.setIfInBounds i d[j]!).setIfInBounds j d[i]! = swp d i j:=by rw [swp]
variable (c:Aa→Aa→Int)
abbrev fC:Aa→Aa→Option Int:=fun x y=>some (c x y)
abbrev lC:Aa→Aa→Bool:=fun x y=>decide (c x y<0)
theorem mB (a:Nat) (d:Array Aa) (j:Nat) (hj:j<d.size) (hs:d.size≤1048576):
  By (Yg (a:Int) (fC c)) (d.toList,(j:Int))=some (insInner (lC c) a j d).toList:=by
 refine Kf (fun t:Array Aa×Nat=>(t.1.toList,(t.2:Int))) (fun t=>t.2<t.1.size∧t.1.size≤1048576) (fun t=>t.2) (fun t=>(insInner (lC c) a t.2 t.1).toList) ?_ (d,j) ⟨hj,hs⟩
 rintro ⟨d,j⟩ ⟨hj,hs⟩
 simp only at hj hs
 simp only [Yg]
 by_cases h1:a<j
 ·obtain ⟨j,rfl⟩:∃k,j=k+1:=⟨j-1,by omega⟩
  have e1:decide (((j+1:Nat):Int)>(a:Int))=true:=decide_eq_true (by omega)
  have e2:IntKind.i64.wrap (((j+1:Nat):Int)-1)=(j:Int):=eM (by omega) (by omega)
  simp only [e1,e2,beq_self_eq_true,if_true,Il hj,Il (show j<d.size by omega),Int.toNat_natCast,Iy hj,Iy (show j<d.size by omega),Option.bind_some,cond_true,nN]
  by_cases h2:c d[j+1]! d[j]! < 0
  ·rw [if_pos (decide_eq_true h2)]
   simp only [Il (show j<(d.setIfInBounds (j+1) d[j]!).size by simpa using (by omega:j<d.size)),Iy (show j<(d.setIfInBounds (j+1) d[j]!).size by simpa using (by omega:j<d.size)),Option.bind_some,nP]
   refine .inl ⟨(swp d (j+1) j,j),rfl,⟨by rw [size_swp]; omega,by rw [size_swp]; exact hs⟩,?_,by simp⟩
   simp only [insInner]
   rw [if_pos (by simp [h1,h2])]
  ·rw [if_neg (by simpa using h2)]
   refine .inr ?_
   simp only [insInner]
   rw [if_neg (by simp; intro _; omega)]
 ·have e1:decide ((j:Int)>(a:Int))=false:=decide_eq_false (by omega)
  simp only [e1,cond_false,Bool.false_eq_true,if_false,Option.bind_some,show (false==true)=false from rfl]
  refine .inr ?_
  cases j with
  | zero=>simp [insInner]
  | succ j=>simp only [insInner]; rw [if_neg (by simp; intro h; omega)]
theorem Mm (a:Nat):∀(j:Nat) (d:Array Aa),(insInner (lC c) a j d).size=d.size
 | 0,d=>by simp [insInner]
 | j+1,d=>by
  simp only [insInner]
  split
  ·rw [Mm a j,size_swp]
  ·rfl
theorem pB (d:Array Aa) (a b:Nat) (hb:b≤d.size) (hs:d.size≤1048576) (hab:a≤b):
  g148 d.toList (a:Int) (b:Int) (fC c)=some (insertionSort (lC c) d a b).toList:=by
 simp only [g148,bX (show a≤4611686018427387904 by omega)]
 have:=Kf (step:=Yf (a:Int) (b:Int) (fC c)) (fun t:Array Aa×Nat=>(t.1.toList,(t.2:Int))) (fun t=>t.1.size=d.size) (fun t=>b-t.2) (fun t=>(insOuter (lC c) a b t.2 t.1).toList) (by
  rintro ⟨e,i⟩ he
  simp only at he
  simp only [Yf]
  by_cases hi:i<b
  ·rw [if_pos (decide_eq_true (by omega)),mB c a e i (by omega) (by omega)]
   simp only [Option.bind_some,bX (show i≤4611686018427387904 by omega)]
   refine .inl ⟨(insInner (lC c) a i e,i+1),rfl,by rw [Mm]; exact he,?_,by simp only; omega⟩
   simp only
   conv=>rhs; unfold insOuter
   rw [if_pos hi]
  ·rw [if_neg (by simpa using hi)]
   refine .inr ?_
   conv=>rhs; unfold insOuter
   simp only [hi,if_false]) (d,a+1) rfl
 simp only at this
 rw [this]
 rfl
end Go.Ev
end
section
set_option maxHeartbeats 1000000
namespace Go.Ev
open Go.Sort
theorem iterQ {σ τ ρ β:Type} {step:σ→Option (σ⊕ρ)} (R:β→ρ→Prop) (emb:τ→σ) (ok:τ→Prop) (m:τ→Nat) (F:τ→β)
  (h:∀t,ok t→(∃t',step (emb t)=some (.inl (emb t'))∧ok t'∧F t'=F t∧m t'<m t)∨∃r,step (emb t)=some (.inr r)∧R (F t) r) (t:τ) (ht:ok t):∃r,By step (emb t)=some r∧R (F t) r:=by
 have key:∀(n:Nat) (t:τ),m t<n→ok t→∃r,By step (emb t)=some r∧R (F t) r:=by
  intro n
  induction n with
  | zero=>intro t hn; omega
  | succ n ih=>
   intro t hn ht
   rcases h t ht with ⟨t',h1,h2,h3,h4⟩ | ⟨r,h1,h2⟩
   ·obtain ⟨r,r1,r2⟩:=ih t' (by omega) h2
    exact ⟨r,by rw [Dp h1,r1],by rw [h3] at r2; exact r2⟩
   ·exact ⟨r,Dm h1,h2⟩
 exact key (m t+1) t (by omega) ht
variable (c:Aa→Aa→Int)
theorem Gj (hi f:Nat):∀(n r:Nat) (d:Array Aa),hi-r≤n→(siftDown (lC c) hi f r d).size=d.size
 | 0,r,d,h=>by
  unfold siftDown
  rw [dif_pos (by omega)]
 | n+1,r,d,h=>by
  unfold siftDown
  split
  ·rfl
  ·split
   ·split
    ·rfl
    ·split
     ·rw [Gj hi f n _ _ (by omega),size_swp]
     ·rfl
   ·split
    ·rfl
    ·rw [Gj hi f n _ _ (by omega),size_swp]
theorem mM (d:Array Aa) (r k f:Nat) (hr:f+r<d.size) (hk:f+k<d.size) (hs:d.size≤1048576):
  Nq (f:Int) (fC c) d.toList (r:Int) (k:Int)=if c d[f+r]! d[f+k]! < 0 then some (.inl ((swp d (f+r) (f+k)).toList,(k:Int))) else some (.inr (.inr d.toList)):=by
 simp only [Nq,HL (show f≤2305843009213693952 by omega) (show r≤2305843009213693952 by omega),HL (show f≤2305843009213693952 by omega) (show k≤2305843009213693952 by omega),Il hr,Il hk,Int.toNat_natCast,Iy hr,Iy hk,Option.bind_some,nN]
 have hk2:f+k<(d.setIfInBounds (f+r) d[f+k]!).size:=by simpa using hk
 by_cases h:c d[f+r]! d[f+k]! < 0
 ·rw [if_neg (by simpa using h),if_pos h]
  simp only [Il hk2,Iy hk2,Option.bind_some,nP]
 ·rw [if_pos (by simpa using h),if_neg h]
theorem pC (d:Array Aa) (r hi f:Nat) (hr:r≤hi) (hb:f+hi≤d.size) (hs:d.size≤1048576):
  DK d.toList (r:Int) (hi:Int) (f:Int) (fC c)=some (siftDown (lC c) hi f r d).toList:=by
 obtain ⟨q,q1,q2⟩:=iterQ (step:=Yu (hi:Int) (f:Int) (fC c)) (fun (X:Array Aa) q=>q = .inl X.toList∨q = .inr X.toList) (fun t:Array Aa×Nat=>(t.1.toList,(t.2:Int))) (fun t=>t.1.size=d.size∧t.2≤hi) (fun t=>hi-t.2) (fun t=>siftDown (lC c) hi f t.2 t.1) (by
  rintro ⟨e,r⟩ ⟨he,hr⟩
  simp only at he hr
  have w1:IntKind.i64.wrap ((IntKind.i64.wrap (2*(r:Int)))+1)=((2*r+1:Nat):Int):=by rw [sdb (by omega),bX (by omega)]
  simp only [Yu,w1]
  by_cases h1:2*r+1≥hi
  ·rw [if_pos (decide_eq_true (by omega))]
   refine .inr ⟨_,rfl,.inl ?_⟩
   unfold siftDown
   rw [dif_pos h1]
  ·rw [if_neg (by simp; omega)]
   have w2:IntKind.i64.wrap (((2*r+1:Nat):Int)+1)=((2*r+1+1:Nat):Int):=bX (by omega)
   have w3:IntKind.i64.wrap ((f:Int)+((2*r+1:Nat):Int))=((f+(2*r+1):Nat):Int):=HL (by omega) (by omega)
   have w4:IntKind.i64.wrap (((f+(2*r+1):Nat):Int)+1)=((f+(2*r+1)+1:Nat):Int):=bX (by omega)
   simp only [w2,w3,w4]
   have i1:f+(2*r+1)<e.size:=by omega
   have hF:∀k,k=2*r+1∨k=2*r+2→k<hi →
     (siftDown (lC c) hi f r e=if c e[f+r]! e[f+k]! < 0 then siftDown (lC c) hi f k (swp e (f+r) (f+k)) else e) →
     (∃t':Array Aa×Nat,Nq (f:Int) (fC c) e.toList (r:Int) (k:Int)=some (.inl (t'.1.toList,(t'.2:Int)))∧(t'.1.size=d.size∧t'.2≤hi)∧siftDown (lC c) hi f t'.2 t'.1=siftDown (lC c) hi f r e∧hi-t'.2<hi-r) ∨
     ∃q,Nq (f:Int) (fC c) e.toList (r:Int) (k:Int)=some (.inr q)∧(q = .inl (siftDown (lC c) hi f r e).toList∨q = .inr (siftDown (lC c) hi f r e).toList):=by
    intro k hk hkh hsd
    rw [mM c e r k f (by omega) (by omega) (by omega)]
    by_cases h:c e[f+r]! e[f+k]! < 0
    ·rw [if_pos h] at hsd ⊢
     exact .inl ⟨(swp e (f+r) (f+k),k),rfl,⟨by rw [size_swp]; exact he,by simp only; omega⟩,hsd.symm,by simp only; omega⟩
    ·rw [if_neg h] at hsd ⊢
     exact .inr ⟨_,rfl,.inr (by rw [hsd])⟩
   by_cases h2:2*r+1+1<hi
   ·have i2:f+(2*r+1)+1<e.size:=by omega
    have e1:decide (((2*r+1+1:Nat):Int)<(hi:Int))=true:=decide_eq_true (by omega)
    simp only [e1,beq_self_eq_true,if_true,Il i1,Il i2,Int.toNat_natCast,Iy i1,Iy i2,Option.bind_some,cond_true,Cd]
    by_cases h3:c e[f+(2*r+1)]! e[f+(2*r+1)+1]! < 0
    ·rw [if_pos (decide_eq_true h3)]
     refine hF (2*r+1+1) (.inr rfl) h2 ?_
     conv=>lhs; unfold siftDown
     rw [dif_neg h1,if_pos (by simp [h2,h3])]
     by_cases h4:c e[f+r]! e[f+(2*r+1+1)]! < 0
     ·rw [if_neg (by simpa using h4),dif_pos h2,if_pos h4]
     ·rw [if_pos (by simpa using h4),if_neg h4]
    ·rw [if_neg (by simpa using h3)]
     refine hF (2*r+1) (.inl rfl) (by omega) ?_
     conv=>lhs; unfold siftDown
     rw [dif_neg h1,if_neg (by simp; intro _; omega)]
     by_cases h4:c e[f+r]! e[f+(2*r+1)]! < 0
     ·rw [if_neg (by simpa using h4),if_pos h4]
     ·rw [if_pos (by simpa using h4),if_neg h4]
   ·have e1:decide (((2*r+1+1:Nat):Int)<(hi:Int))=false:=decide_eq_false (by omega)
    simp only [e1,show (false==true)=false from rfl,Bool.false_eq_true,if_false,Option.bind_some,cond_false,Cd]
    refine hF (2*r+1) (.inl rfl) (by omega) ?_
    conv=>lhs; unfold siftDown
    rw [dif_neg h1,if_neg (by simp; intro h; omega)]
    by_cases h4:c e[f+r]! e[f+(2*r+1)]! < 0
    ·rw [if_neg (by simpa using h4),if_pos h4]
    ·rw [if_pos (by simpa using h4),if_neg h4]) (d,r) ⟨rfl,hr⟩
 simp only at q1 q2
 simp only [DK,q1,Option.bind_some]
 rcases q2 with rfl | rfl<;>rfl
theorem Lk (hi f:Nat):∀(k:Nat) (d:Array Aa),(heapBuild (lC c) hi f k d).size=d.size
 | 0,d=>rfl
 | k+1,d=>by rw [heapBuild,Lk hi f k,Gj c hi f _ _ _ (Nat.le_refl _)]
theorem Ut (f:Nat):∀(k:Nat) (d:Array Aa),(heapPop (lC c) f k d).size=d.size
 | 0,d=>rfl
 | k+1,d=>by rw [heapPop,Ut f k,Gj c k f _ _ _ (Nat.le_refl _),size_swp]
theorem g149_eq (d:Array Aa) (a b:Nat) (hb:b≤d.size) (hs:d.size≤1048576) (hab:a<b):
  g149 d.toList (a:Int) (b:Int) (fC c)=some (heapSort (lC c) d a b).toList:=by
 have w1:IntKind.i64.wrap ((b:Int)-(a:Int))=((b-a:Nat):Int):=qE (by omega) (by omega)
 have w2:IntKind.i64.wrap (((b-a:Nat):Int)-1)=((b-a-1:Nat):Int):=eM (by omega) (by omega)
 have w3:IntKind.i64.wrap (((b-a-1:Nat):Int).tdiv 2)=(((b-a-1) / 2:Nat):Int):=sdv 2 (by omega)
 have L0:=Kf (step:=Yh (a:Int) (b:Int) (fC c)) (fun t:Array Aa×Nat=>(t.1.toList,(t.2:Int)-1)) (fun t=>t.1.size=d.size∧t.2≤b-a) (fun t=>t.2) (fun t=>(heapBuild (lC c) (b-a) a t.2 t.1).toList) (by
  rintro ⟨e,k⟩ ⟨he,hk⟩
  simp only at he hk
  simp only [Yh,w1]
  cases k with
  | zero=>
   rw [if_neg (by simp)]
   exact .inr rfl
  | succ k=>
   rw [if_pos (decide_eq_true (by omega))]
   rw [show ((k+1:Nat):Int)-1=(k:Int) by omega,pC c e k (b-a) a (by omega) (by omega) (by omega)]
   have sz:=Gj c (b-a) a _ k e (Nat.le_refl _)
   simp only [Option.bind_some]
   rw [if_pos (by simpa using sz)]
   refine .inl ⟨(siftDown (lC c) (b-a) a k e,k),?_,⟨by rw [←he]; exact sz,by simp only; omega⟩,rfl,by simp⟩
   simp only
   rw [wr ⟨by omega,by omega⟩]) (d,(b-a-1) / 2+1) ⟨rfl,by simp only; omega⟩
 have L1:=Kf (step:=Yi (a:Int) (fC c)) (fun t:Array Aa×Nat=>(t.1.toList,(t.2:Int)-1)) (fun t=>t.1.size=d.size∧t.2≤b-a) (fun t=>t.2) (fun t=>(heapPop (lC c) a t.2 t.1).toList) (by
  rintro ⟨e,k⟩ ⟨he,hk⟩
  simp only at he hk
  simp only [Yi]
  cases k with
  | zero=>
   rw [if_neg (by simp)]
   exact .inr rfl
  | succ k=>
   rw [if_pos (decide_eq_true (by omega))]
   rw [show ((k+1:Nat):Int)-1=(k:Int) by omega]
   have i1:a+k<e.size:=by omega
   have i2:a<e.size:=by omega
   have i3:a+k<(e.setIfInBounds a e[a+k]!).size:=by simpa using i1
   simp only [HL (show a≤2305843009213693952 by omega) (show k≤2305843009213693952 by omega),Il i1,Il i2,Int.toNat_natCast,Iy i1,Iy i2,nN,Option.bind_some,Il i3,Iy i3,nP]
   have:=pC c (swp e a (a+k)) 0 k a (by omega) (by rw [size_swp]; omega) (by rw [size_swp]; omega)
   rw [show ((0:Nat):Int)=0 from rfl] at this
   rw [this]
   have sz:=Gj c k a _ 0 (swp e a (a+k)) (Nat.le_refl _)
   simp only [Option.bind_some]
   rw [if_pos (by simpa using sz)]
   refine .inl ⟨(siftDown (lC c) k a 0 (swp e a (a+k)),k),?_,⟨by rw [←he]; rw [sz,size_swp],by simp only; omega⟩,rfl,by simp⟩
   simp only
   rw [wr ⟨by omega,by omega⟩]) (heapBuild (lC c) (b-a) a ((b-a-1) / 2+1) d,b-a) ⟨by rw [Lk],Nat.le_refl _⟩
 simp only at L0 L1
 rw [show (((b-a-1) / 2+1:Nat):Int)-1=(((b-a-1) / 2:Nat):Int) by omega] at L0
 rw [show ((b-a:Nat):Int)-1=((b-a-1:Nat):Int) by omega] at L1
 simp only [g149,Cd,w1,w2,w3,L0,L1,Option.bind_some]
 rfl
theorem Nd:∀(n i j:Nat) (d:Array Aa),j-i≤n→(reverseLoop i j d).size=d.size
 | 0,i,j,d,h=>by unfold reverseLoop; rw [if_neg (by omega)]
 | n+1,i,j,d,h=>by
  unfold reverseLoop
  split
  ·rw [Nd n _ _ _ (by omega),size_swp]
  ·rfl
theorem g152_eq (d:Array Aa) (a b:Nat) (hb:b≤d.size) (hs:d.size≤1048576) (hab:a<b):
  g152 d.toList (a:Int) (b:Int) (fC c)=some (reverseRange d a b).toList:=by
 have w2:IntKind.i64.wrap ((b:Int)-1)=((b-1:Nat):Int):=eM (by omega) (by omega)
 have L0:=Kf (step:=Yj) (fun t:Array Aa×Nat×Nat=>(t.1.toList,(t.2.1:Int),(t.2.2:Int))) (fun t=>t.1.size=d.size∧t.2.2<b) (fun t=>t.2.2-t.2.1) (fun t=>(reverseLoop t.2.1 t.2.2 t.1).toList) (by
  rintro ⟨e,i,j⟩ ⟨he,hj⟩
  simp only at he hj
  simp only [Yj]
  by_cases h:i<j
  ·rw [if_pos (decide_eq_true (by omega))]
   have i1:i<e.size:=by omega
   have i2:j<e.size:=by omega
   have i3:j<(e.setIfInBounds i e[j]!).size:=by simpa using i2
   simp only [Il i1,Il i2,Int.toNat_natCast,Iy i1,Iy i2,nN,Option.bind_some,Il i3,Iy i3,nP,bX (show i≤4611686018427387904 by omega),eM (show j≤4611686018427387904 by omega) (show 1≤j by omega)]
   refine .inl ⟨(swp e i j,i+1,j-1),rfl,⟨by rw [size_swp]; exact he,by simp only; omega⟩,?_,by simp only; omega⟩
   simp only
   conv=>rhs; unfold reverseLoop
   rw [if_pos h]
  ·rw [if_neg (by simpa using h)]
   refine .inr ?_
   unfold reverseLoop
   rw [if_neg h]) (d,a,b-1) ⟨rfl,by simp only; omega⟩
 simp only at L0
 simp only [g152,w2,L0,Option.bind_some]
 rfl
end Go.Ev
end
section
set_option maxHeartbeats 1000000
namespace Go.Ev
open Go.Sort
variable (c:Aa→Aa→Int)
theorem aB (d:Array Aa) (a i j:Nat) (ha:a<d.size) (hj:j<d.size) (hs:d.size≤1048576) (hi:i≤1048577):
  By (Ud (a:Int) (fC c) d.toList (j:Int)) (i:Int)=some ((scanUp (fun x=>lC c x d[a]!) d j i:Nat):Int):=by
 refine Kf (fun t:Nat=>(t:Int)) (fun t=>t≤1048577) (fun t=>j+1-t) (fun t=>((scanUp (fun x=>lC c x d[a]!) d j t:Nat):Int)) ?_ i hi
 intro i hi
 simp only [Ud]
 by_cases h:i≤j
 ·have hi2:i<d.size:=by omega
  have e1:decide ((i:Int)≤(j:Int))=true:=decide_eq_true (by omega)
  simp only [e1,beq_self_eq_true,if_true,Il hi2,Il ha,Int.toNat_natCast,Iy hi2,Iy ha,Option.bind_some,cond_true]
  by_cases h2:c d[i]! d[a]! < 0
  ·rw [if_pos (decide_eq_true h2),bX (by omega)]
   refine .inl ⟨i+1,rfl,by omega,?_,by omega⟩
   conv=>rhs; unfold scanUp
   rw [if_pos (by simp [h,h2])]
  ·rw [if_neg (by simpa using h2)]
   refine .inr ?_
   conv=>rhs; unfold scanUp
   rw [if_neg (by simp; intro _; omega)]
 ·have e1:decide ((i:Int)≤(j:Int))=false:=decide_eq_false (by omega)
  simp only [e1,show (false==true)=false from rfl,Bool.false_eq_true,if_false,Option.bind_some,cond_false]
  refine .inr ?_
  conv=>rhs; unfold scanUp
  rw [if_neg (by simp; intro h; omega)]
theorem aC (d:Array Aa) (a i j:Nat) (ha:a<d.size) (hj:j<d.size) (hs:d.size≤1048576) (hi:1≤i):
  By (Ue (a:Int) (fC c) d.toList (i:Int)) (j:Int)=some ((scanDown (fun x => !lC c x d[a]!) d i j:Nat):Int):=by
 refine Kf (fun t:Nat=>(t:Int)) (fun t=>t<d.size) (fun t=>t) (fun t=>((scanDown (fun x => !lC c x d[a]!) d i t:Nat):Int)) ?_ j hj
 intro j hj
 simp only [Ue]
 by_cases h:i≤j
 ·obtain ⟨j,rfl⟩:∃k,j=k+1:=⟨j-1,by omega⟩
  have e1:decide ((i:Int)≤((j+1:Nat):Int))=true:=decide_eq_true (by omega)
  simp only [e1,beq_self_eq_true,if_true,Il hj,Il ha,Int.toNat_natCast,Iy hj,Iy ha,Option.bind_some,cond_true]
  by_cases h2:c d[j+1]! d[a]! < 0
  ·rw [if_neg (by simpa using h2)]
   refine .inr ?_
   simp only [scanDown]
   rw [if_neg (by simp; intro _; omega)]
  ·rw [if_pos (by simpa using h2),eM (by omega) (by omega)]
   refine .inl ⟨j,rfl,by omega,?_,by omega⟩
   simp only [scanDown]
   rw [if_pos (by simp [h]; omega)]
 ·have e1:decide ((i:Int)≤(j:Int))=false:=decide_eq_false (by omega)
  simp only [e1,show (false==true)=false from rfl,Bool.false_eq_true,if_false,Option.bind_some,cond_false]
  refine .inr ?_
  cases j with
  | zero=>simp [scanDown]
  | succ j=>simp only [scanDown]; rw [if_neg (by simp; intro h; omega)]
theorem Mq (a:Nat):∀(n i j:Nat) (d:Array Aa),j+1-i≤n→(partLoop (lC c) a i j d).2.size=d.size∧(partLoop (lC c) a i j d).1≤j
 | 0,i,j,d,h=>by
  rw [partLoop_eq]
  have h1:=scanUp_ge (fun x=>lC c x d[a]!) d j i
  have h2:=scanDown_le (fun x => !lC c x d[a]!) d (scanUp (fun x=>lC c x d[a]!) d j i) j
  rw [if_pos (by omega)]
  exact ⟨rfl,h2⟩
 | n+1,i,j,d,h=>by
  rw [partLoop_eq]
  have h1:=scanUp_ge (fun x=>lC c x d[a]!) d j i
  have h2:=scanDown_le (fun x => !lC c x d[a]!) d (scanUp (fun x=>lC c x d[a]!) d j i) j
  split
  ·exact ⟨rfl,h2⟩
  ·have:=Mq a n (scanUp (fun x=>lC c x d[a]!) d j i+1) (scanDown (fun x => !lC c x d[a]!) d (scanUp (fun x=>lC c x d[a]!) d j i) j-1) (swp d (scanUp (fun x=>lC c x d[a]!) d j i) (scanDown (fun x => !lC c x d[a]!) d (scanUp (fun x=>lC c x d[a]!) d j i) j)) (by omega)
   rw [size_swp] at this
   exact ⟨this.1,by omega⟩
theorem Ws (p:Aa→Bool) (d:Array Aa) (j i:Nat) (h:i≤1048577) (hj:j≤1048576):scanUp p d j i≤1048577:=by
 have key:∀n i,j+1-i≤n→i≤1048577→scanUp p d j i≤1048577:=by
  intro n
  induction n with
  | zero=>
   intro i hn hi
   unfold scanUp
   rw [if_neg (by simp; intro h; omega)]; exact hi
  | succ n ih=>
   intro i hn hi
   unfold scanUp
   by_cases hc:(decide (i≤j)&&p d[i]!)=true
   ·rw [if_pos hc]
    simp only [Bool.and_eq_true,decide_eq_true_eq] at hc
    exact ih (i+1) (by omega) (by omega)
   ·rw [if_neg hc]; exact hi
 exact key _ i (Nat.le_refl _) h
theorem mL (d:Array Aa) (a i j:Nat) (ha:a<d.size) (hj:j<d.size) (hs:d.size≤1048576) (hi:1≤i) (hij:i≤1048577):
  By (Ys (a:Int) (fC c)) (d.toList,(i:Int),(j:Int))=some ((partLoop (lC c) a i j d).2.toList,(((partLoop (lC c) a i j d).1:Nat):Int)):=by
 refine Kf (fun t:Array Aa×Nat×Nat=>(t.1.toList,(t.2.1:Int),(t.2.2:Int))) (fun t=>t.1.size=d.size∧t.2.2<d.size∧1≤t.2.1∧t.2.1≤1048577) (fun t=>t.2.2+1-t.2.1)
  (fun t=>((partLoop (lC c) a t.2.1 t.2.2 t.1).2.toList,(((partLoop (lC c) a t.2.1 t.2.2 t.1).1:Nat):Int))) ?_ (d,i,j) ⟨rfl,hj,hi,hij⟩
 rintro ⟨e,i,j⟩ ⟨he,hj,hi,hij⟩
 simp only at he hj hi hij
 simp only [Ys]
 have u1:=scanUp_ge (fun x=>lC c x e[a]!) e j i
 have u2:=Ws (fun x=>lC c x e[a]!) e j i hij (by omega)
 rw [aB c e a i j (by omega) (by omega) (by omega) hij]
 simp only [Option.bind_some]
 rw [aC c e a _ j (by omega) (by omega) (by omega) (by omega)]
 simp only [Option.bind_some]
 rw [partLoop_eq]
 have v1:=scanDown_le (fun x => !lC c x e[a]!) e (scanUp (fun x=>lC c x e[a]!) e j i) j
 generalize scanUp (fun x=>lC c x e[a]!) e j i=i2 at *
 generalize scanDown (fun x => !lC c x e[a]!) e i2 j=j2 at *
 by_cases h:i2>j2
 ·rw [if_pos (decide_eq_true (by omega)),if_pos h]
  exact .inr rfl
 ·rw [if_neg (by simpa using h),if_neg h]
  have i1:i2<e.size:=by omega
  have i3:j2<e.size:=by omega
  have i4:j2<(e.setIfInBounds i2 e[j2]!).size:=by simpa using i3
  simp only [Il i1,Il i3,Int.toNat_natCast,Iy i1,Iy i3,nN,Option.bind_some,Il i4,Iy i4,nP,bX (show i2≤4611686018427387904 by omega),eM (show j2≤4611686018427387904 by omega) (show 1≤j2 by omega)]
  exact .inl ⟨(swp e i2 j2,i2+1,j2-1),rfl,⟨by rw [size_swp]; exact he,by simp only; omega,by simp only; omega,by simp only; omega⟩,rfl,by simp only; omega⟩
theorem mJ (d:List Aa) (a b p:Int) (f:Aa→Aa→Option Int) (x y:Aa):
  fN d a b p f x y=Ud a f ((d.set a.toNat x).set p.toNat y) (IntKind.i64.wrap (b-1)):=rfl
theorem mK (d:List Aa) (a p:Int) (f:Aa→Aa→Option Int) (x y:Aa) (i:Int):
  fO d a p f x y i=Ue a f ((d.set a.toNat x).set p.toNat y) i:=rfl
theorem g155_eq (d:Array Aa) (a b p:Nat) (hb:b≤d.size) (hs:d.size≤1048576) (hab:a+1<b) (hp:p<b):
  DJ d.toList (a:Int) (b:Int) (p:Int) (fC c)=some ((((partition (lC c) d a b p).1:Nat):Int),(partition (lC c) d a b p).2.1,(partition (lC c) d a b p).2.2.toList)∧(partition (lC c) d a b p).2.2.size=d.size:=by
 have i1:p<d.size:=by omega
 have i2:a<d.size:=by omega
 have i3:p<(d.setIfInBounds a d[p]!).size:=by simpa using i1
 have w2:IntKind.i64.wrap ((b:Int)-1)=((b-1:Nat):Int):=eM (by omega) (by omega)
 simp only [DJ,Il i1,Il i2,Int.toNat_natCast,Iy i1,Iy i2,nN,Option.bind_some,Il i3,Iy i3,mJ,mK,nP,w2,bX (show a≤4611686018427387904 by omega)]
 have sz:(swp d a p).size=d.size:=size_swp d a p
 generalize hd1:swp d a p=d1 at sz
 have u1:=scanUp_ge (fun x=>lC c x d1[a]!) d1 (b-1) (a+1)
 have u2:=Ws (fun x=>lC c x d1[a]!) d1 (b-1) (a+1) (by omega) (by omega)
 rw [aB c d1 a (a+1) (b-1) (by omega) (by omega) (by omega) (by omega)]
 simp only [Option.bind_some]
 rw [aC c d1 a _ (b-1) (by omega) (by omega) (by omega) (by omega)]
 simp only [Option.bind_some]
 simp only [partition,hd1]
 have v1:=scanDown_le (fun x => !lC c x d1[a]!) d1 (scanUp (fun x=>lC c x d1[a]!) d1 (b-1) (a+1)) (b-1)
 generalize scanUp (fun x=>lC c x d1[a]!) d1 (b-1) (a+1)=i at *
 generalize scanDown (fun x => !lC c x d1[a]!) d1 i (b-1)=j at *
 have k1:a<d1.size:=by omega
 have k2:j<d1.size:=by omega
 by_cases h:i>j
 ·rw [if_pos (decide_eq_true (by omega)),if_pos h]
  have k3:a<(d1.setIfInBounds j d1[a]!).size:=by simpa using k1
  simp only [Il k1,Il k2,Int.toNat_natCast,Iy k1,Iy k2,nN,Option.bind_some,Il k3,Iy k3,nP,Cd]
  exact ⟨by trivial,by rw [size_swp,sz]⟩
 ·rw [if_neg (by simpa using h),if_neg h]
  have k4:i<d1.size:=by omega
  have k3:j<(d1.setIfInBounds i d1[j]!).size:=by simpa using k2
  simp only [Il k4,Il k2,Int.toNat_natCast,Iy k4,Iy k2,nN,Option.bind_some,Il k3,Iy k3,nP,Cd,bX (show i≤4611686018427387904 by omega),eM (show j≤4611686018427387904 by omega) (show 1≤j by omega)]
  have sz2:(swp d1 i j).size=d.size:=by rw [size_swp,sz]
  generalize swp d1 i j=d2 at sz2
  rw [mL c d2 a (i+1) (j-1) (by omega) (by omega) (by omega) (by omega) (by omega)]
  obtain ⟨z1,z2⟩:=Mq c a _ (i+1) (j-1) d2 (Nat.le_refl _)
  simp only [Option.bind_some]
  generalize partLoop (lC c) a (i+1) (j-1) d2=r at *
  have m1:a<r.2.size:=by omega
  have m2:r.1<r.2.size:=by omega
  have m3:a<(r.2.setIfInBounds r.1 r.2[a]!).size:=by simpa using m1
  simp only [Il m1,Il m2,Int.toNat_natCast,Iy m1,Iy m2,nN,Option.bind_some,Il m3,Iy m3,nP]
  exact ⟨by trivial,by rw [size_swp]; omega⟩
theorem mH (d:Array Aa) (a i j:Nat) (ha:a<d.size) (hj:j<d.size) (hs:d.size≤1048576) (hi:i≤1048577):
  By (Yq (a:Int) (fC c) d.toList (j:Int)) (i:Int)=some ((scanUp (fun x => !lC c d[a]! x) d j i:Nat):Int):=by
 refine Kf (fun t:Nat=>(t:Int)) (fun t=>t≤1048577) (fun t=>j+1-t) (fun t=>((scanUp (fun x => !lC c d[a]! x) d j t:Nat):Int)) ?_ i hi
 intro i hi
 simp only [Yq]
 by_cases h:i≤j
 ·have hi2:i<d.size:=by omega
  have e1:decide ((i:Int)≤(j:Int))=true:=decide_eq_true (by omega)
  simp only [e1,beq_self_eq_true,if_true,Il hi2,Il ha,Int.toNat_natCast,Iy hi2,Iy ha,Option.bind_some,cond_true]
  by_cases h2:c d[a]! d[i]! < 0
  ·rw [if_neg (by simpa using h2)]
   refine .inr ?_
   conv=>rhs; unfold scanUp
   rw [if_neg (by simp; intro _; omega)]
  ·rw [if_pos (by simpa using h2),bX (by omega)]
   refine .inl ⟨i+1,rfl,by omega,?_,by omega⟩
   conv=>rhs; unfold scanUp
   rw [if_pos (by simp [h]; omega)]
 ·have e1:decide ((i:Int)≤(j:Int))=false:=decide_eq_false (by omega)
  simp only [e1,show (false==true)=false from rfl,Bool.false_eq_true,if_false,Option.bind_some,cond_false]
  refine .inr ?_
  conv=>rhs; unfold scanUp
  rw [if_neg (by simp; intro h; omega)]
theorem mI (d:Array Aa) (a i j:Nat) (ha:a<d.size) (hj:j<d.size) (hs:d.size≤1048576) (hi:1≤i):
  By (Yr (a:Int) (fC c) d.toList (i:Int)) (j:Int)=some ((scanDown (fun x=>lC c d[a]! x) d i j:Nat):Int):=by
 refine Kf (fun t:Nat=>(t:Int)) (fun t=>t<d.size) (fun t=>t) (fun t=>((scanDown (fun x=>lC c d[a]! x) d i t:Nat):Int)) ?_ j hj
 intro j hj
 simp only [Yr]
 by_cases h:i≤j
 ·obtain ⟨j,rfl⟩:∃k,j=k+1:=⟨j-1,by omega⟩
  have e1:decide ((i:Int)≤((j+1:Nat):Int))=true:=decide_eq_true (by omega)
  simp only [e1,beq_self_eq_true,if_true,Il hj,Il ha,Int.toNat_natCast,Iy hj,Iy ha,Option.bind_some,cond_true]
  by_cases h2:c d[a]! d[j+1]! < 0
  ·rw [if_pos (by simpa using h2),eM (by omega) (by omega)]
   refine .inl ⟨j,rfl,by omega,?_,by omega⟩
   simp only [scanDown]
   rw [if_pos (by simp [h]; omega)]
  ·rw [if_neg (by simpa using h2)]
   refine .inr ?_
   simp only [scanDown]
   rw [if_neg (by simp; intro _; omega)]
 ·have e1:decide ((i:Int)≤(j:Int))=false:=decide_eq_false (by omega)
  simp only [e1,show (false==true)=false from rfl,Bool.false_eq_true,if_false,Option.bind_some,cond_false]
  refine .inr ?_
  cases j with
  | zero=>simp [scanDown]
  | succ j=>simp only [scanDown]; rw [if_neg (by simp; intro h; omega)]
theorem Kc (a:Nat):∀(n i j:Nat) (d:Array Aa),j+1-i≤n→(partEqLoop (lC c) a i j d).2.size=d.size
 | 0,i,j,d,h=>by
  rw [partEqLoop_eq]
  have h1:=scanUp_ge (fun x => !lC c d[a]! x) d j i
  have h2:=scanDown_le (fun x=>lC c d[a]! x) d (scanUp (fun x => !lC c d[a]! x) d j i) j
  rw [if_pos (by omega)]
 | n+1,i,j,d,h=>by
  rw [partEqLoop_eq]
  have h1:=scanUp_ge (fun x => !lC c d[a]! x) d j i
  have h2:=scanDown_le (fun x=>lC c d[a]! x) d (scanUp (fun x => !lC c d[a]! x) d j i) j
  split
  ·rfl
  ·have:=Kc a n (scanUp (fun x => !lC c d[a]! x) d j i+1) (scanDown (fun x=>lC c d[a]! x) d (scanUp (fun x => !lC c d[a]! x) d j i) j-1) (swp d (scanUp (fun x => !lC c d[a]! x) d j i) (scanDown (fun x=>lC c d[a]! x) d (scanUp (fun x => !lC c d[a]! x) d j i) j)) (by omega)
   rw [size_swp] at this
   exact this
theorem mG (d:Array Aa) (a i j:Nat) (ha:a<d.size) (hj:j<d.size) (hs:d.size≤1048576) (hi:1≤i) (hij:i≤1048577):
  By (Yp (a:Int) (fC c)) (d.toList,(i:Int),(j:Int))=some ((partEqLoop (lC c) a i j d).2.toList,(((partEqLoop (lC c) a i j d).1:Nat):Int)):=by
 refine Kf (fun t:Array Aa×Nat×Nat=>(t.1.toList,(t.2.1:Int),(t.2.2:Int))) (fun t=>t.1.size=d.size∧t.2.2<d.size∧1≤t.2.1∧t.2.1≤1048577) (fun t=>t.2.2+1-t.2.1)
  (fun t=>((partEqLoop (lC c) a t.2.1 t.2.2 t.1).2.toList,(((partEqLoop (lC c) a t.2.1 t.2.2 t.1).1:Nat):Int))) ?_ (d,i,j) ⟨rfl,hj,hi,hij⟩
 rintro ⟨e,i,j⟩ ⟨he,hj,hi,hij⟩
 simp only at he hj hi hij
 simp only [Yp]
 have u1:=scanUp_ge (fun x => !lC c e[a]! x) e j i
 have u2:=Ws (fun x => !lC c e[a]! x) e j i hij (by omega)
 rw [mH c e a i j (by omega) (by omega) (by omega) hij]
 simp only [Option.bind_some]
 rw [mI c e a _ j (by omega) (by omega) (by omega) (by omega)]
 simp only [Option.bind_some]
 rw [partEqLoop_eq]
 have v1:=scanDown_le (fun x=>lC c e[a]! x) e (scanUp (fun x => !lC c e[a]! x) e j i) j
 generalize scanUp (fun x => !lC c e[a]! x) e j i=i2 at *
 generalize scanDown (fun x=>lC c e[a]! x) e i2 j=j2 at *
 by_cases h:i2>j2
 ·rw [if_pos (decide_eq_true (by omega)),if_pos h]
  exact .inr rfl
 ·rw [if_neg (by simpa using h),if_neg h]
  have i1:i2<e.size:=by omega
  have i3:j2<e.size:=by omega
  have i4:j2<(e.setIfInBounds i2 e[j2]!).size:=by simpa using i3
  simp only [Il i1,Il i3,Int.toNat_natCast,Iy i1,Iy i3,nN,Option.bind_some,Il i4,Iy i4,nP,bX (show i2≤4611686018427387904 by omega),eM (show j2≤4611686018427387904 by omega) (show 1≤j2 by omega)]
  exact .inl ⟨(swp e i2 j2,i2+1,j2-1),rfl,⟨by rw [size_swp]; exact he,by simp only; omega,by simp only; omega,by simp only; omega⟩,rfl,by simp only; omega⟩
theorem g154_eq (d:Array Aa) (a b p:Nat) (hb:b≤d.size) (hs:d.size≤1048576) (hab:a+1<b) (hp:p<b):
  g154 d.toList (a:Int) (b:Int) (p:Int) (fC c)=some ((((partitionEqual (lC c) d a b p).1:Nat):Int),(partitionEqual (lC c) d a b p).2.toList)∧(partitionEqual (lC c) d a b p).2.size=d.size:=by
 have i1:p<d.size:=by omega
 have i2:a<d.size:=by omega
 have i3:p<(d.setIfInBounds a d[p]!).size:=by simpa using i1
 have w2:IntKind.i64.wrap ((b:Int)-1)=((b-1:Nat):Int):=eM (by omega) (by omega)
 have sz:(swp d a p).size=d.size:=size_swp d a p
 simp only [g154,Il i1,Il i2,Int.toNat_natCast,Iy i1,Iy i2,nN,Option.bind_some,Il i3,Iy i3,nP,w2,bX (show a≤4611686018427387904 by omega)]
 rw [mG c (swp d a p) a (a+1) (b-1) (by omega) (by omega) (by omega) (by omega) (by omega)]
 exact ⟨rfl,by rw [partitionEqual,Kc c a _ _ _ _ (Nat.le_refl _),sz]⟩
end Go.Ev
end
section
set_option maxHeartbeats 1000000
namespace Go.Ev
open Go.Sort
variable (c:Aa→Aa→Int)
theorem mC (d:Array Aa) (b i:Nat) (hb:b≤d.size) (hs:d.size≤1048576) (hi:1≤i) (hib:i≤1048577):
  By (Ym (b:Int) (fC c) d.toList) (i:Int)=some ((scanSorted (lC c) d b i:Nat):Int):=by
 refine Kf (fun t:Nat=>(t:Int)) (fun t=>1≤t∧t≤1048577) (fun t=>b-t) (fun t=>((scanSorted (lC c) d b t:Nat):Int)) ?_ i ⟨hi,hib⟩
 rintro i ⟨hi,hib⟩
 simp only [Ym]
 by_cases h:i<b
 ·have hi2:i<d.size:=by omega
  have hi3:i-1<d.size:=by omega
  have e1:decide ((i:Int)<(b:Int))=true:=decide_eq_true (by omega)
  simp only [e1,beq_self_eq_true,if_true,eM (show i≤4611686018427387904 by omega) hi,Il hi2,Il hi3,Int.toNat_natCast,Iy hi2,Iy hi3,Option.bind_some,cond_true]
  by_cases h2:c d[i]! d[i-1]! < 0
  ·rw [if_neg (by simpa using h2)]
   refine .inr ?_
   conv=>rhs; unfold scanSorted
   rw [if_neg (by simp; intro _; omega)]
  ·rw [if_pos (by simpa using h2),bX (by omega)]
   refine .inl ⟨i+1,rfl,⟨by omega,by omega⟩,?_,by omega⟩
   conv=>rhs; unfold scanSorted
   rw [if_pos (by simp [h]; omega)]
 ·have e1:decide ((i:Int)<(b:Int))=false:=decide_eq_false (by omega)
  simp only [e1,show (false==true)=false from rfl,Bool.false_eq_true,if_false,Option.bind_some,cond_false]
  refine .inr ?_
  conv=>rhs; unfold scanSorted
  rw [if_neg (by simp; intro h; omega)]
theorem Sf (d:Array Aa) (b:Nat):∀n i,b-i≤n→i≤scanSorted (lC c) d b i∧(i≤b→scanSorted (lC c) d b i≤b)∧(b<i→scanSorted (lC c) d b i=i)
 | 0,i,h=>by
  unfold scanSorted
  rw [if_neg (by simp; intro h; omega)]; exact ⟨Nat.le_refl _,id,fun _=>rfl⟩
 | n+1,i,h=>by
  unfold scanSorted
  by_cases hc:(decide (i<b) && !lC c d[i]! d[i-1]!)=true
  ·rw [if_pos hc]
   simp only [Bool.and_eq_true,decide_eq_true_eq] at hc
   have:=Sf d b n (i+1) (by omega)
   exact ⟨by omega,fun _=>this.2.1 (by omega),fun _=>by omega⟩
  ·rw [if_neg hc]; exact ⟨Nat.le_refl _,id,fun _=>rfl⟩
theorem mE (d:Array Aa) (j:Nat) (hj:j<d.size) (hs:d.size≤1048576):
  By (Yo (fC c)) (d.toList,(j:Int))=some (shiftDown (lC c) j d).toList:=by
 refine Kf (fun t:Array Aa×Nat=>(t.1.toList,(t.2:Int))) (fun t=>t.1.size=d.size∧t.2<d.size) (fun t=>t.2) (fun t=>(shiftDown (lC c) t.2 t.1).toList) ?_ (d,j) ⟨rfl,hj⟩
 rintro ⟨e,j⟩ ⟨he,hj⟩
 simp only at he hj
 simp only [Yo]
 cases j with
 | zero=>
  rw [if_neg (by simp)]
  exact .inr rfl
 | succ j=>
  rw [if_pos (decide_eq_true (by omega))]
  have i1:j+1<e.size:=by omega
  have i2:j<e.size:=by omega
  have i3:j<(e.setIfInBounds (j+1) e[j]!).size:=by simpa using i2
  have e2:IntKind.i64.wrap (((j+1:Nat):Int)-1)=(j:Int):=eM (by omega) (by omega)
  simp only [e2,Il i1,Il i2,Int.toNat_natCast,Iy i1,Iy i2,Option.bind_some,shiftDown]
  by_cases h2:c e[j+1]! e[j]! < 0
  ·rw [if_neg (by simpa using h2),if_neg (by simpa using h2)]
   simp only [nN,Il i3,Iy i3,Option.bind_some,nP]
   exact .inl ⟨(swp e (j+1) j,j),rfl,⟨by rw [size_swp]; exact he,by simp only; omega⟩,rfl,by simp⟩
  ·rw [if_pos (by simpa using h2),if_pos (by simpa using h2)]
   exact .inr rfl
theorem Lr:∀(j:Nat) (d:Array Aa),(shiftDown (lC c) j d).size=d.size
 | 0,d=>rfl
 | j+1,d=>by
  simp only [shiftDown]
  split
  ·rfl
  ·rw [Lr j,size_swp]
theorem mD (d:Array Aa) (b j:Nat) (hj:1≤j) (hb:b≤d.size) (hs:d.size≤1048576):
  By (Yn (b:Int) (fC c)) (d.toList,(j:Int))=some (shiftUp (lC c) b j d).toList:=by
 refine Kf (fun t:Array Aa×Nat=>(t.1.toList,(t.2:Int))) (fun t=>t.1.size=d.size∧1≤t.2) (fun t=>b-t.2) (fun t=>(shiftUp (lC c) b t.2 t.1).toList) ?_ (d,j) ⟨rfl,hj⟩
 rintro ⟨e,j⟩ ⟨he,hj⟩
 simp only at he hj
 simp only [Yn]
 by_cases h:j<b
 ·rw [if_pos (decide_eq_true (by omega))]
  have i1:j<e.size:=by omega
  have i2:j-1<e.size:=by omega
  have i3:j-1<(e.setIfInBounds j e[j-1]!).size:=by simpa using i2
  simp only [eM (show j≤4611686018427387904 by omega) hj,Il i1,Il i2,Int.toNat_natCast,Iy i1,Iy i2,Option.bind_some]
  by_cases h2:c e[j]! e[j-1]! < 0
  ·rw [if_neg (by simpa using h2)]
   simp only [nN,Il i3,Iy i3,Option.bind_some,nP,bX (show j≤4611686018427387904 by omega)]
   refine .inl ⟨(swp e j (j-1),j+1),rfl,⟨by rw [size_swp]; exact he,by simp only; omega⟩,?_,by simp only; omega⟩
   simp only
   conv=>rhs; unfold shiftUp
   rw [if_pos h,if_neg (by simpa using h2)]
  ·rw [if_pos (by simpa using h2)]
   refine .inr ?_
   conv=>rhs; unfold shiftUp
   rw [if_pos h,if_pos (by simpa using h2)]
 ·rw [if_neg (by simpa using h)]
  refine .inr ?_
  conv=>rhs; unfold shiftUp
  rw [if_neg h]
theorem Og (b:Nat):∀(n j:Nat) (d:Array Aa),b-j≤n→(shiftUp (lC c) b j d).size=d.size
 | 0,j,d,h=>by unfold shiftUp; rw [if_neg (by omega)]
 | n+1,j,d,h=>by
  unfold shiftUp
  split
  ·split
   ·rfl
   ·rw [Og b n _ _ (by omega),size_swp]
  ·rfl
theorem Oq (a b:Nat):∀(s i:Nat) (d:Array Aa),(partialIns (lC c) a b s i d).1.size=d.size
 | 0,i,d=>rfl
 | s+1,i,d=>by
  rw [partialIns_succ]
  split
  ·rfl
  ·split
   ·rfl
   ·rw [Oq a b s]
    simp only [fixUp,fixDown]
    split<;>split<;>simp [Og c b _ _ _ (Nat.le_refl _),Lr,size_swp]
theorem g153_eq (d:Array Aa) (a b:Nat) (hb:b≤d.size) (hs:d.size≤1048576) (hab:a<b):
  g153 d.toList (a:Int) (b:Int) (fC c)=some ((partialInsertionSort (lC c) d a b).2,(partialInsertionSort (lC c) d a b).1.toList):=by
 obtain ⟨q,q1,q2⟩:=iterQ (step:=Yl (a:Int) (b:Int) (fC c)) (fun (X:Array Aa×Bool) q=>(q = .inl X.1.toList∧X.2=false)∨q = .inr (X.2,X.1.toList))
  (fun t:Array Aa×Nat×Nat=>(t.1.toList,(t.2.1:Int),5-(t.2.2:Int))) (fun t=>t.1.size=d.size∧a+1≤t.2.1∧t.2.1≤b∧t.2.2≤5) (fun t=>t.2.2) (fun t=>partialIns (lC c) a b t.2.2 t.2.1 t.1) (by
  rintro ⟨e,i,s⟩ ⟨he,hi,hib,hs5⟩
  simp only at he hi hib hs5
  simp only [Yl]
  cases s with
  | zero=>
   rw [if_neg (by simp)]
   exact .inr ⟨_,rfl,.inl ⟨rfl,rfl⟩⟩
  | succ s=>
   rw [if_pos (decide_eq_true (by omega)),mC c e b i (by omega) (by omega) (by omega) (by omega)]
   obtain ⟨s1,s2,_⟩:=Sf c e b _ i (Nat.le_refl _)
   have s2:=s2 hib
   simp only [Option.bind_some]
   rw [partialIns_succ]
   generalize scanSorted (lC c) e b i=i2 at *
   by_cases h1:i2=b
   ·rw [if_pos (by simp [h1]),if_pos h1]
    exact .inr ⟨_,rfl,.inr rfl⟩
   ·rw [if_neg (by simp; omega),if_neg h1]
    have w1:IntKind.i64.wrap ((b:Int)-(a:Int))=((b-a:Nat):Int):=qE (by omega) (by omega)
    rw [w1]
    by_cases h2:b-a<50
    ·rw [if_pos (decide_eq_true (by omega)),if_pos h2]
     exact .inr ⟨_,rfl,.inr rfl⟩
    ·rw [if_neg (by simp; omega),if_neg h2]
     simp only [fixUp,fixDown]
     have i1:i2<e.size:=by omega
     have i3:i2-1<e.size:=by omega
     have i4:i2-1<(e.setIfInBounds i2 e[i2-1]!).size:=by simpa using i3
     have w3:IntKind.i64.wrap ((i2:Int)-(a:Int))=((i2-a:Nat):Int):=qE (by omega) (by omega)
     have w4:IntKind.i64.wrap ((b:Int)-(i2:Int))=((b-i2:Nat):Int):=qE (by omega) (by omega)
     simp only [eM (show i2≤4611686018427387904 by omega) (show 1≤i2 by omega),Il i1,Il i3,Int.toNat_natCast,Iy i1,Iy i3,Option.bind_some,nN,Il i4,Iy i4,nP,Cd,w3]
     have sz:(swp e i2 (i2-1)).size=d.size:=by rw [size_swp]; exact he
     have hj1:∀(v:Array Aa),v.size=d.size→(∃t':Array Aa×Nat×Nat,Uc (b:Int) (fC c) (5-((s+1:Nat):Int)) (i2:Int) v.toList=some (.inl (t'.1.toList,(t'.2.1:Int),5-(t'.2.2:Int)))∧(t'.1.size=d.size∧a+1≤t'.2.1∧t'.2.1≤b∧t'.2.2≤5) ∧
       partialIns (lC c) a b t'.2.2 t'.2.1 t'.1=partialIns (lC c) a b s i2 (if b-i2≥2 then shiftUp (lC c) b (i2+1) v else v)∧t'.2.2<s+1):=by
      intro v hv
      have w5:IntKind.i64.wrap ((5-((s+1:Nat):Int))+1)=5-(s:Int):=by rw [wr ⟨by omega,by omega⟩]; omega
      simp only [Uc,Yk,w4,w5]
      by_cases h5:b-i2≥2
      ·rw [if_pos (decide_eq_true (by omega)),if_pos h5,bX (by omega),mD c v b (i2+1) (by omega) (by omega) (by omega)]
       exact ⟨(shiftUp (lC c) b (i2+1) v,i2,s),rfl,⟨by rw [Og c b _ _ _ (Nat.le_refl _)]; exact hv,by simp only; omega,by simp only; omega,by simp only; omega⟩,rfl,by simp⟩
      ·rw [if_neg (by simp; omega),if_neg h5]
       exact ⟨(v,i2,s),rfl,⟨hv,by simp only; omega,by simp only; omega,by simp only; omega⟩,rfl,by simp⟩
     refine .inl ?_
     by_cases h4:i2-a≥2
     ·rw [if_pos (decide_eq_true (by omega)),if_pos h4,mE c _ (i2-1) (by omega) (by omega)]
      exact hj1 _ (by rw [Lr]; exact sz)
     ·rw [if_neg (by simp; omega),if_neg h4]
      exact hj1 _ sz) (d,a+1,5) ⟨rfl,by simp,by simp only; omega,by simp⟩
 simp only at q1 q2
 rw [show (5:Int)-((5:Nat):Int)=0 by decide] at q1
 simp only [g153,bX (show a≤4611686018427387904 by omega),q1,Option.bind_some]
 rcases q2 with ⟨rfl,q3⟩ | rfl
 ·simp only [partialInsertionSort,q3]
 ·rfl
theorem fU (d:Array Aa) (a b s:Nat) (ha:a<d.size) (hb:b<d.size) (hs:s≤1000):
  rP d.toList (a:Int) (b:Int) (s:Int) (fC c)=some (((order2 (lC c) d a b s).1:Int),((order2 (lC c) d a b s).2.1:Int),((order2 (lC c) d a b s).2.2:Int)):=by
 simp only [rP,Il ha,Il hb,Option.bind_some,order2]
 by_cases h:c d[b]! d[a]! < 0
 ·rw [if_pos (decide_eq_true h),if_pos (decide_eq_true h),bX (by omega)]
 ·rw [if_neg (by simpa using h),if_neg (by simpa using h)]
theorem fS (d:Array Aa) (a b e s:Nat) (ha:a<d.size) (hb:b<d.size) (he:e<d.size) (hs:s≤900):
  DL d.toList (a:Int) (b:Int) (e:Int) (s:Int) (fC c)=some (((median (lC c) d a b e s).1:Int),((median (lC c) d a b e s).2:Int)):=by
 have o1:=order2_mem (lC c) d a b s
 have o2:=order2_count (lt:=lC c) d a b s
 simp only [DL,fU c d a b s ha hb (by omega),Option.bind_some,median]
 generalize order2 (lC c) d a b s=r1 at *
 rw [fU c d r1.2.1 e r1.2.2 (by omega) he (by omega)]
 have o3:=order2_mem (lC c) d r1.2.1 e r1.2.2
 have o4:=order2_count (lt:=lC c) d r1.2.1 e r1.2.2
 simp only [Option.bind_some]
 generalize order2 (lC c) d r1.2.1 e r1.2.2=r2 at *
 rw [fU c d r1.1 r2.1 r2.2.2 (by omega) (by omega) (by omega)]
 rfl
theorem fR (d:Array Aa) (a s:Nat) (ha:a+1<d.size) (h1:1≤a) (hs:s≤900) (hz:d.size≤1048576):
  rO d.toList (a:Int) (s:Int) (fC c)=some (((medianAdjacent (lC c) d a s).1:Int),((medianAdjacent (lC c) d a s).2:Int)):=by
 simp only [rO,bX (show a≤4611686018427387904 by omega),eM (show a≤4611686018427387904 by omega) h1]
 rw [fS c d (a-1) a (a+1) s (by omega) (by omega) ha hs]
 rfl
def aN (h:Hint):Int:=match h with | .unknown=>0 | .increasing=>1 | .decreasing=>2
theorem Sp (p s:Nat):Ua (p:Int) (s:Int)=some ((p:Int),aN (if s=0 then .increasing else if s=12 then .decreasing else .unknown)):=by
 simp only [Ua]
 by_cases h0:s=0
 ·rw [if_pos (by simp [h0]),if_pos h0]; rfl
 ·rw [if_neg (by simp; omega),if_neg h0]
  by_cases h1:s=12
  ·rw [if_pos (by simp [h1]),if_pos h1]; rfl
  ·rw [if_neg (by simp; omega),if_neg h1]; rfl
theorem g151_eq (d:Array Aa) (a b:Nat) (hb:b≤d.size) (hs:d.size≤1048576) (hab:a<b):
  g151 d.toList (a:Int) (b:Int) (fC c)=some (((choosePivot (lC c) d a b).1:Int),aN (choosePivot (lC c) d a b).2):=by
 have w1:IntKind.i64.wrap ((b:Int)-(a:Int))=((b-a:Nat):Int):=qE (by omega) (by omega)
 have w2:IntKind.i64.wrap (((b-a:Nat):Int).tdiv 4)=(((b-a) / 4:Nat):Int):=sdv 4 (by omega)
 have m1:IntKind.i64.wrap ((((b-a) / 4:Nat):Int)*1)=(((b-a) / 4*1:Nat):Int):=sml 1 (by omega) (by omega)
 have m2:IntKind.i64.wrap ((((b-a) / 4:Nat):Int)*2)=(((b-a) / 4*2:Nat):Int):=sml 2 (by omega) (by omega)
 have m3:IntKind.i64.wrap ((((b-a) / 4:Nat):Int)*3)=(((b-a) / 4*3:Nat):Int):=sml 3 (by omega) (by omega)
 have n1:IntKind.i64.wrap ((a:Int)+(((b-a) / 4*1:Nat):Int))=((a+(b-a) / 4*1:Nat):Int):=HL (by omega) (by omega)
 have n2:IntKind.i64.wrap ((a:Int)+(((b-a) / 4*2:Nat):Int))=((a+(b-a) / 4*2:Nat):Int):=HL (by omega) (by omega)
 have n3:IntKind.i64.wrap ((a:Int)+(((b-a) / 4*3:Nat):Int))=((a+(b-a) / 4*3:Nat):Int):=HL (by omega) (by omega)
 simp only [g151,w1,w2,m1,m2,m3,n1,n2,n3,Cd,choosePivot]
 have z:((0:Nat):Int)=0:=rfl
 by_cases h8:b-a≥8
 ·rw [if_pos (decide_eq_true (by omega)),if_pos h8]
  by_cases h50:b-a≥50
  ·rw [if_pos (decide_eq_true (by omega)),if_pos h50]
   have p1:=fR c d (a+(b-a) / 4*1) 0 (by omega) (by omega) (by omega) hs
   have q1:=medianAdjacent_count (lt:=lC c) d (a+(b-a) / 4*1) 0
   have r1:=medianAdjacent_mem (lC c) d (a+(b-a) / 4*1) 0
   rw [z] at p1
   simp only [p1,Option.bind_some]
   generalize medianAdjacent (lC c) d (a+(b-a) / 4*1) 0=x1 at *
   have p2:=fR c d (a+(b-a) / 4*2) x1.2 (by omega) (by omega) (by omega) hs
   have q2:=medianAdjacent_count (lt:=lC c) d (a+(b-a) / 4*2) x1.2
   have r2:=medianAdjacent_mem (lC c) d (a+(b-a) / 4*2) x1.2
   simp only [p2,Option.bind_some]
   generalize medianAdjacent (lC c) d (a+(b-a) / 4*2) x1.2=x2 at *
   have p3:=fR c d (a+(b-a) / 4*3) x2.2 (by omega) (by omega) (by omega) hs
   have q3:=medianAdjacent_count (lt:=lC c) d (a+(b-a) / 4*3) x2.2
   have r3:=medianAdjacent_mem (lC c) d (a+(b-a) / 4*3) x2.2
   simp only [p3,Option.bind_some]
   generalize medianAdjacent (lC c) d (a+(b-a) / 4*3) x2.2=x3 at *
   simp only [Ub,fS c d x1.1 x2.1 x3.1 x3.2 (by omega) (by omega) (by omega) (by omega),Option.bind_some,Sp]
  ·rw [if_neg (by simp; omega),if_neg h50]
   have:=fS c d (a+(b-a) / 4*1) (a+(b-a) / 4*2) (a+(b-a) / 4*3) 0 (by omega) (by omega) (by omega) (by omega)
   rw [z] at this
   simp only [Ub,this,Option.bind_some,Sp]
 ·rw [if_neg (by simp; omega),if_neg h8]
  have:=Sp (a+(b-a) / 4*2) 0
  rw [z] at this
  rw [this]
end Go.Ev
end
section
set_option maxHeartbeats 1000000
set_option maxRecDepth 10000
namespace Go.Ev
open Go.Sort
variable (c:Aa→Aa→Int)
theorem EB (k:IntKind) (a b:Nat) (ha:a<2^k.bits) (hb:b<2^k.bits):gC k (a:Int) (b:Int)=k.wrap ((a &&& b:Nat):Int):=by
 unfold gC
 rw [BitVec.ofInt_natCast,BitVec.ofInt_natCast,BitVec.toNat_and,BitVec.toNat_ofNat,BitVec.toNat_ofNat,Nat.mod_eq_of_lt ha,Nat.mod_eq_of_lt hb]
theorem EJ (k:IntKind) (a b:Nat) (ha:a<2^k.bits) (hb:b<2^k.bits):cP k (a:Int) (b:Int)=k.wrap ((a ^^^ b:Nat):Int):=by
 unfold cP
 rw [BitVec.ofInt_natCast,BitVec.ofInt_natCast,BitVec.toNat_xor,BitVec.toNat_ofNat,BitVec.toNat_ofNat,Nat.mod_eq_of_lt ha,Nat.mod_eq_of_lt hb]
theorem wi64 {n:Nat} (h:n<9223372036854775808):IntKind.i64.wrap (n:Int)=(n:Int):=wr ⟨by omega,by omega⟩
theorem b8_nat (n:Nat):(b8 (n:Int)).toNat=n%256:=by
 have:=qJ (n:Int)
 unfold b8
 rw [GU] at this
 have e:((u8 (IntKind.u8.wrap (n:Int))).toNat:Int)=(n:Int)%256:=by rw [GU]; exact this
 omega
theorem HW {n v:Nat} (h1:n<2^v) (h2:v=0∨2^(v-1)≤n):bitsLen n=v:=by
 have a1:=(bitsLen_le_iff n v).2 h1
 rcases h2 with rfl | h2
 ·omega
 ·by_cases hv:v=0
  ·omega
  ·have a2:¬bitsLen n≤v-1:=fun h=>by
    have:=(bitsLen_le_iff n (v-1)).1 h
    omega
   omega
theorem shrK {n:Nat} (k:Nat) (hk:k≤60) (h:n<18446744073709551616):Nu .u64 (n:Int) (k:Int)=((n / 2^k:Nat):Int):=by
 unfold Nu
 rw [Int.toNat_natCast,show min k 64=k by omega,Int.fdiv_eq_ediv_of_nonneg _ (by exact_mod_cast Nat.zero_le _)]
 norm_cast
abbrev EN:List UInt8:=[0,1,2,2,3,3,3,3,4,4,4,4,4,4,4,4,5,5,5,5,5,5,5,5,5,5,5,5,5,5,5,5,6,6,6,6,6,6,6,6,6,6,6,6,6,6,6,6,6,6,6,6,6,6,6,6,6,6,6,6,6,6,6,6,7,7,7,7,7,7,7,7,7,7,7,7,7,7,7,7,7,7,7,7,7,7,7,7,7,7,7,7,7,7,7,7,7,7,7,7,7,7,7,7,7,7,7,7,7,7,7,7,7,7,7,7,7,7,7,7,7,7,7,7,7,7,7,7,8,8,8,8,8,8,8,8,8,8,8,8,8,8,8,8,8,8,8,8,8,8,8,8,8,8,8,8,8,8,8,8,8,8,8,8,8,8,8,8,8,8,8,8,8,8,8,8,8,8,8,8,8,8,8,8,8,8,8,8,8,8,8,8,8,8,8,8,8,8,8,8,8,8,8,8,8,8,8,8,8,8,8,8,8,8,8,8,8,8,8,8,8,8,8,8,8,8,8,8,8,8,8,8,8,8,8,8,8,8,8,8,8,8,8,8,8,8,8,8,8,8,8,8,8,8,8,8]
theorem rZ:∀x:Fin 256,∃v:UInt8,EN[x.1]? = some v∧x.1<2^v.toNat∧(v.toNat=0∨2^(v.toNat-1)≤x.1)∧(x.1≠0→v.toNat≠0)∧v.toNat≤8:=by decide +kernel
theorem EK (n off:Nat) (ho:off≤16) (hx:n / 2^off<256) (h0:off=0∨n / 2^off≠0):Ug ((n / 2^off:Nat):Int) (off:Int)=some ((bitsLen n:Nat):Int):=by
 obtain ⟨v,v1,v2,v3,v4,v5⟩:=rZ ⟨n / 2^off,hx⟩
 simp only at v1 v2 v3 v4 v5
 have e:(b8 ((n / 2^off:Nat):Int)).toNat=n / 2^off:=by
  rw [b8_nat]
  generalize n / 2^off=x at hx
  omega
 have e2:Ug ((n / 2^off:Nat):Int) (off:Int)=(Cr EN ((b8 ((n / 2^off:Nat):Int)).toNat:Int)).bind fun y10=>some (IntKind.i64.wrap ((off:Int)+(IntKind.i64.wrap ((y10).toNat:Int)))):=rfl
 rw [e2,e,Uu,v1]
 simp only [Option.bind_some]
 rw [wi64 (by omega),HL (by omega) (by omega)]
 congr 2
 refine (HW ?_ ?_).symm
 ·rw [Nat.add_comm,Nat.pow_add]
  exact (Nat.div_lt_iff_lt_mul (Nat.pos_of_ne_zero (by simp))).1 v2
 ·rcases v3 with v3 | v3
  ·rcases h0 with h0 | h0
   ·exact .inl (by omega)
   ·exact absurd v3 (v4 h0)
  ·by_cases hz:v.toNat=0
   ·rcases h0 with h0 | h0
    ·exact .inl (by omega)
    ·exact absurd hz (v4 h0)
   ·right
    rw [show off+v.toNat-1=(v.toNat-1)+off by omega,Nat.pow_add]
    exact (Nat.le_div_iff_mul_le (Nat.pos_of_ne_zero (by simp))).1 v3
theorem pA (n:Nat) (h:n<16777216):DH (n:Int)=some ((bitsLen n:Nat):Int):=by
 have key:g157 (n:Int)=some ((bitsLen n:Nat):Int):=by
  simp only [g157]
  rw [if_neg (by simp; omega)]
  simp only [Yt]
  have z:((0:Nat):Int)=0:=rfl
  by_cases h1:n≥65536
  ·rw [if_pos (decide_eq_true (by omega))]
   have e1:=shrK (n:=n) 16 (by omega) (by omega)
   rw [show ((16:Nat):Int)=16 from rfl] at e1
   simp only [e1,Uf]
   rw [if_neg (by simp; omega)]
   have e2:=EK n 16 (by omega) (by omega) (.inr (by omega))
   rw [show ((16:Nat):Int)=16 from rfl] at e2
   rw [←e2,wr ⟨by decide,by decide⟩]; rfl
  ·rw [if_neg (by simp; omega)]
   simp only [Uf]
   by_cases h2:n≥256
   ·rw [if_pos (decide_eq_true (by omega))]
    have e1:=shrK (n:=n) 8 (by omega) (by omega)
    rw [show ((8:Nat):Int)=8 from rfl] at e1
    have e2:=EK n 8 (by omega) (by omega) (.inr (by omega))
    rw [show ((8:Nat):Int)=8 from rfl] at e2
    rw [e1,←e2,wr ⟨by decide,by decide⟩]; rfl
   ·rw [if_neg (by simp; omega)]
    have e2:=EK n 0 (by omega) (by simp; omega) (.inl rfl)
    simp only [Nat.pow_zero,Nat.div_one] at e2
    rw [z] at e2
    exact e2
 simp only [DH,Bool.false_eq_true,if_false,key,Option.bind_some]
end Go.Ev
end
section
set_option maxHeartbeats 1000000
namespace Go.Ev
open Go.Sort
variable (c:Aa→Aa→Int)
theorem sZ {n:Nat} (h:n<18446744073709551616):IntKind.u64.wrap (n:Int)=(n:Int):=by
 have e:IntKind.u64.wrap (n:Int)=(n:Int)%18446744073709551616:=by simp [IntKind.wrap,IntKind.bits,IntKind.signed]
 rw [e]; omega
theorem wu64m {n:Nat}:IntKind.u64.wrap (n:Int)=((n%18446744073709551616:Nat):Int):=by
 have e:IntKind.u64.wrap (n:Int)=(n:Int)%18446744073709551616:=by simp [IntKind.wrap,IntKind.bits,IntKind.signed]
 rw [e]; omega
theorem shlK {n:Nat} (k:Nat) (hk:k≤60):gE .u64 (n:Int) (k:Int)=((n*2^k%18446744073709551616:Nat):Int):=by
 unfold gE
 rw [Int.toNat_natCast,show min k IntKind.u64.bits=k from Nat.min_eq_left (Nat.le_trans hk (by decide)),←wu64m]
 congr 1
theorem GW {a b:Nat} (ha:a<18446744073709551616) (hb:b<18446744073709551616):cP .u64 (a:Int) (b:Int)=((a ^^^ b:Nat):Int)∧a ^^^ b<18446744073709551616:=by
 have h:=Nat.xor_lt_two_pow (n:=64) (by simpa using ha) (by simpa using hb)
 have h2:a ^^^ b<18446744073709551616:=by simpa using h
 rw [EJ .u64 a b (by simpa [IntKind.bits] using ha) (by simpa [IntKind.bits] using hb),sZ h2]
 exact ⟨rfl,h2⟩
theorem g161_eq (r:UInt64):g161 (r.toNat:Int)=some (((xorNext r).toNat:Int),((xorNext r).toNat:Int)):=by
 have hr:r.toNat<18446744073709551616:=r.toNat_lt
 rw [xorNext_toNat]
 simp only [g161,Cd,xorNextN]
 generalize r.toNat=x at *
 have e1:=shlK (n:=x) 13 (by omega)
 rw [show ((13:Nat):Int)=13 from rfl,show (2:Nat)^13=8192 from rfl] at e1
 obtain ⟨e2,e3⟩:=GW hr (show x*8192%18446744073709551616<18446744073709551616 by omega)
 rw [e1,e2]
 generalize x ^^^ (x*8192%18446744073709551616)=a at *
 have e4:=shrK (n:=a) 7 (by omega) e3
 rw [show ((7:Nat):Int)=7 from rfl,show (2:Nat)^7=128 from rfl] at e4
 obtain ⟨e5,e6⟩:=GW e3 (show a / 128<18446744073709551616 by omega)
 rw [e4,e5]
 generalize a ^^^ (a / 128)=b at *
 have e7:=shlK (n:=b) 17 (by omega)
 rw [show ((17:Nat):Int)=17 from rfl,show (2:Nat)^17=131072 from rfl] at e7
 obtain ⟨e8,e9⟩:=GW e6 (show b*131072%18446744073709551616<18446744073709551616 by omega)
 rw [e7,e8]
theorem g160_eq (n:Nat) (h:n≤1048576):g160 (n:Int)=some ((1 <<< bitsLen n:Nat):Int)∧1 <<< bitsLen n≤2097152:=by
 have hb:bitsLen n≤21:=(bitsLen_le_iff n 21).2 (by omega)
 have hp:2^bitsLen n≤2^21:=Nat.pow_le_pow_right (by omega) hb
 have e:=shlK (n:=1) (bitsLen n) (by omega)
 rw [Nat.one_mul,Nat.mod_eq_of_lt (by omega)] at e
 rw [Nat.one_shiftLeft]
 refine ⟨?_,by omega⟩
 simp only [g160,sZ (show n<18446744073709551616 by omega),pA n (by omega),Option.bind_some]
 rw [if_pos (by omega)]
 rw [show ((1:Nat):Int)=1 from rfl] at e
 rw [e]
def brk (a len m:Nat):Nat→UInt64×Array Aa→Nat→Array Aa
 | 0,st,_=>st.2
 | n+1,st,i=>brk a len m n (breakStep a len m st i) (i+1)
theorem Zk (a len m:Nat):∀(n:Nat) (st:UInt64×Array Aa) (i:Nat),(brk a len m n st i).size=st.2.size
 | 0,_,_=>rfl
 | n+1,st,i=>by rw [brk,Zk]; simp [breakStep,size_swp]
theorem It (d:Array Aa) (a b:Nat) (h:b-a≥8):
  breakPatterns d a b=brk a (b-a) (1 <<< bitsLen (b-a)) 3 (UInt64.ofNat (b-a),d) (a+((b-a) / 4)*2-1):=by
 simp only [breakPatterns,if_pos h,brk]
theorem g150_eq (d:Array Aa) (a b:Nat) (hb:b≤d.size) (hs:d.size≤1048576) (hab:a<b):
  rN d.toList (a:Int) (b:Int) (fC c)=some (breakPatterns d a b).toList∧(breakPatterns d a b).size=d.size:=by
 have w1:IntKind.i64.wrap ((b:Int)-(a:Int))=((b-a:Nat):Int):=qE (by omega) (by omega)
 by_cases h8:b-a≥8
 ·refine ⟨?_,by rw [It d a b h8,Zk]⟩
  have w2:IntKind.i64.wrap (((b-a:Nat):Int).tdiv 4)=(((b-a) / 4:Nat):Int):=sdv 4 (by omega)
  have m2:IntKind.i64.wrap ((((b-a) / 4:Nat):Int)*2)=(((b-a) / 4*2:Nat):Int):=sml 2 (by omega) (by omega)
  have n2:IntKind.i64.wrap ((a:Int)+(((b-a) / 4*2:Nat):Int))=((a+(b-a) / 4*2:Nat):Int):=HL (by omega) (by omega)
  have n3:IntKind.i64.wrap (((a+(b-a) / 4*2:Nat):Int)-1)=((a+(b-a) / 4*2-1:Nat):Int):=eM (by omega) (by omega)
  have n4:IntKind.i64.wrap (((a+(b-a) / 4*2:Nat):Int)+1)=((a+(b-a) / 4*2+1:Nat):Int):=bX (by omega)
  obtain ⟨p1,p2⟩:=g160_eq (b-a) (by omega)
  have p3:1 <<< bitsLen (b-a)≤2*(b-a):=by rw [Nat.one_shiftLeft]; exact two_pow_bitsLen_le (by omega)
  have p4:1≤1 <<< bitsLen (b-a):=by rw [Nat.one_shiftLeft]; exact Nat.one_le_two_pow
  rw [It d a b h8]
  simp only [rN,w1,w2,m2,n2,n3,Cd]
  rw [if_pos (decide_eq_true (by omega)),p1]
  simp only [Option.bind_some,sZ (show b-a<18446744073709551616 by omega)]
  generalize 1 <<< bitsLen (b-a)=m at *
  have L:=Kf (step:=Tz (a:Int) (b:Int) (m:Int)) (fun t:(Array Aa×UInt64)×Nat=>(t.1.1.toList,((a+(b-a) / 4*2-1+(3-t.2):Nat):Int),(t.1.2.toNat:Int))) (fun t=>t.1.1.size=d.size∧t.2≤3) (fun t=>t.2)
   (fun t=>(brk a (b-a) m t.2 (t.1.2,t.1.1) (a+(b-a) / 4*2-1+(3-t.2))).toList) (by
   rintro ⟨⟨e,r⟩,n⟩ ⟨he,hn⟩
   simp only at he hn
   simp only [Tz,w1,w2,m2,n2,n4,Cd]
   cases n with
   | zero=>
    rw [if_neg (by simp; omega)]
    exact .inr rfl
   | succ n=>
    rw [if_pos (decide_eq_true (by omega)),g161_eq]
    simp only [Option.bind_some]
    have k1:IntKind.u64.wrap ((m:Int)-1)=((m-1:Nat):Int):=by
     rw [show (m:Int)-1=((m-1:Nat):Int) by omega,sZ (by omega)]
    have hr:(xorNext r).toNat<18446744073709551616:=(xorNext r).toNat_lt
    have hx:(xorNext r).toNat &&& (m-1)≤m-1:=Nat.and_le_right
    have k2:gC .u64 ((xorNext r).toNat:Int) ((m-1:Nat):Int)=(((xorNext r).toNat &&& (m-1):Nat):Int):=by
     rw [EB .u64 _ _ (by simpa [IntKind.bits] using hr) (by simp [IntKind.bits]; omega),sZ (by omega)]
    rw [k1,k2,wi64 (by omega)]
    have i1:a+(b-a) / 4*2-1+(3-(n+1))<e.size:=by omega
    have hj:∀o:Nat,o<b-a→(if (xorNext r).toNat &&& (m-1)≥b-a then ((xorNext r).toNat &&& (m-1))-(b-a) else (xorNext r).toNat &&& (m-1))=o →
      Tx (a:Int) e.toList ((a+(b-a) / 4*2-1+(3-(n+1)):Nat):Int) (((xorNext r).toNat:Int),((xorNext r).toNat:Int)) (o:Int) =
       some (.inl ((breakStep a (b-a) m (r,e) (a+(b-a) / 4*2-1+(3-(n+1)))).2.toList,((a+(b-a) / 4*2-1+(3-n):Nat):Int),(((breakStep a (b-a) m (r,e) (a+(b-a) / 4*2-1+(3-(n+1)))).1.toNat:Nat):Int))):=by
     intro o ho heq
     have i2:a+o<e.size:=by omega
     have i3:a+o<(e.setIfInBounds (a+(b-a) / 4*2-1+(3-(n+1))) e[a+o]!).size:=by simpa using i2
     simp only [Tx,HL (show a≤2305843009213693952 by omega) (show o≤2305843009213693952 by omega),Il i1,Il i2,Int.toNat_natCast,Iy i1,Iy i2,Option.bind_some,nN,Il i3,Iy i3,nP,breakStep,heq,bX (show a+(b-a) / 4*2-1+(3-(n+1))≤4611686018427387904 by omega)]
     rw [show a+(b-a) / 4*2-1+(3-(n+1))+1=a+(b-a) / 4*2-1+(3-n) by omega]
    refine .inl ⟨(((breakStep a (b-a) m (r,e) (a+(b-a) / 4*2-1+(3-(n+1)))).2,(breakStep a (b-a) m (r,e) (a+(b-a) / 4*2-1+(3-(n+1)))).1),n),?_,⟨by simp [breakStep,size_swp,he],by simp only; omega⟩,?_,by simp⟩
    ·by_cases hge:(xorNext r).toNat &&& (m-1)≥b-a
     ·rw [if_pos (decide_eq_true (by omega)),qE (by omega) (by omega)]
      exact hj _ (by omega) (by rw [if_pos hge])
     ·rw [if_neg (by simpa using hge)]
      exact hj _ (by omega) (by rw [if_neg hge])
    ·simp only [brk]
     rw [show a+(b-a) / 4*2-1+(3-(n+1))+1=a+(b-a) / 4*2-1+(3-n) by omega]) ((d,UInt64.ofNat (b-a)),3) ⟨rfl,Nat.le_refl _⟩
  simp only [Nat.sub_self,Nat.add_zero] at L
  rw [show ((UInt64.ofNat (b-a)).toNat:Int)=((b-a:Nat):Int) by rw [UInt64.toNat_ofNat']; rw [Nat.mod_eq_of_lt (by omega)]] at L
  rw [L]
  rfl
 ·simp only [rN,w1]
  rw [if_neg (by simp; omega)]
  simp [breakPatterns,h8]
end Go.Ev
end
section
set_option maxHeartbeats 1000000
namespace Go.Ev
open Go.Sort
variable (c:Aa→Aa→Int)
theorem Ry (a b:Nat):∀(n i:Nat) (d:Array Aa),b-i≤n→(insOuter (lC c) a b i d).size=d.size
 | 0,i,d,h=>by unfold insOuter; rw [if_neg (by omega)]
 | n+1,i,d,h=>by
  unfold insOuter
  split
  ·rw [Ry a b n _ _ (by omega),Mm]
  ·rfl
theorem Gb (d:Array Aa) (a b:Nat):(insertionSort (lC c) d a b).size=d.size:=Ry c a b _ _ d (Nat.le_refl _)
theorem Rx (d:Array Aa) (a b:Nat):(heapSort (lC c) d a b).size=d.size:=by rw [heapSort,Ut,Lk]
theorem Ga (d:Array Aa) (a b:Nat):(breakPatterns d a b).size=d.size:=by
 by_cases h:b-a≥8
 ·rw [It d a b h,Zk]
 ·simp [breakPatterns,h]
theorem Gp (d:Array Aa) (a b:Nat):(reverseRange d a b).size=d.size:=Nd _ _ _ d (Nat.le_refl _)
theorem Gz (d:Array Aa) (a b:Nat):(partialInsertionSort (lC c) d a b).1.size=d.size:=Oq c a b _ _ d
theorem Xk (d:Array Aa) (a b p:Nat):(partitionEqual (lC c) d a b p).2.size=d.size:=by rw [partitionEqual,Kc c a _ _ _ _ (Nat.le_refl _),size_swp]
theorem Nb (d:Array Aa) (a b p:Nat):(partition (lC c) d a b p).2.2.size=d.size:=by
 rw [partition_arr,size_swp,(Mq c a _ _ _ _ (Nat.le_refl _)).1,size_swp]
theorem Te (d:Array Aa) (a b p:Nat) (hab:a<b) (hb:b≤d.size):a≤(partition (lC c) d a b p).1∧(partition (lC c) d a b p).1<b:=by
 rw [partition_fst]
 obtain ⟨r1,r2,_⟩:=partLoop_spec (lC c) a b _ (a+1) (b-1) (swp d a p) (Nat.le_refl _) (Nat.lt_succ_self a) (by omega) (by omega) (by rw [size_swp]; exact hb) (fun t h1 h2=>by omega) (fun t h1 h2=>by omega)
 exact ⟨r1,r2⟩
theorem Vf (d:Array Aa) (a b p:Nat) (hab:a<b) (hb:b≤d.size):a<(partitionEqual (lC c) d a b p).1∧(partitionEqual (lC c) d a b p).1≤b:=by
 rw [partitionEqual]
 obtain ⟨r1,r2,_⟩:=partEqLoop_spec (lC c) a b _ (a+1) (b-1) (swp d a p) (Nat.le_refl _) (Nat.lt_succ_self a) (by omega) (by omega) (by rw [size_swp]; exact hb) (fun t h1 h2=>by omega) (fun t h1 h2=>by omega)
 exact ⟨r1,r2⟩
def Hz (d3:Array Aa) (a b limit p:Nat) (wb wp:Bool):Array Aa×Nat×Nat×Nat×Bool×Bool:=
 if (decide (a>0) && !lC c d3[a-1]! d3[p]!)=true then ((partitionEqual (lC c) d3 a b p).2,(partitionEqual (lC c) d3 a b p).1,b,limit,wb,wp)
 else
  let r:=partition (lC c) d3 a b p
  if r.1-a<b-r.1 then (pdq (lC c) r.2.2 a r.1 limit true true,r.1+1,b,limit,decide (r.1-a≥(b-a) / 8),r.2.1)
  else (pdq (lC c) r.2.2 (r.1+1) b limit true true,a,r.1,limit,decide (b-r.1≥(b-a) / 8),r.2.1)
abbrev gQ (t:Array Aa×Nat×Nat×Nat×Bool×Bool):Array Aa:=pdq (lC c) t.1 t.2.1 t.2.2.1 t.2.2.2.1 t.2.2.2.2.1 t.2.2.2.2.2
theorem eG (d:Array Aa) (a b limit:Nat) (wb wp:Bool) (h12:¬b-a≤12) (hl:limit≠0) (hb:b≤d.size):
  ∃d1 d2:Array Aa,∃lim p:Nat,∃h:Hint,d1=(if (!wb)=true then breakPatterns d a b else d)∧lim=(if (!wb)=true then limit-1 else limit) ∧
   d2=(if (choosePivot (lC c) d1 a b).2 = .decreasing then reverseRange d1 a b else d1)∧p=(if (choosePivot (lC c) d1 a b).2 = .decreasing then (b-1)-((choosePivot (lC c) d1 a b).1-a) else (choosePivot (lC c) d1 a b).1) ∧
   h=(if (choosePivot (lC c) d1 a b).2 = .decreasing then Hint.increasing else (choosePivot (lC c) d1 a b).2) ∧
   pdq (lC c) d a b limit wb wp=(if (wb&&wp&&decide (h = .increasing))=true then (if (partialInsertionSort (lC c) d2 a b).2=true then (partialInsertionSort (lC c) d2 a b).1 else gQ c (Hz c (partialInsertionSort (lC c) d2 a b).1 a b lim p wb wp)) else gQ c (Hz c d2 a b lim p wb wp)):=by
 refine ⟨_,_,_,_,_,rfl,rfl,rfl,rfl,rfl,?_⟩
 have z1:(if (!wb)=true then breakPatterns d a b else d).size=d.size:=by split<;>simp [Ga]
 conv=>lhs; unfold pdq
 rw [if_neg h12,if_neg hl]
 simp only []
 generalize hd1:(if (!wb)=true then breakPatterns d a b else d)=d1 at z1 ⊢
 generalize (if (!wb)=true then limit-1 else limit)=lim
 have z2:(if (choosePivot (lC c) d1 a b).2 = .decreasing then reverseRange d1 a b else d1).size=d.size:=by split<;>simp [Gp,z1]
 generalize (if (choosePivot (lC c) d1 a b).2 = .decreasing then reverseRange d1 a b else d1)=d2 at z2 ⊢
 generalize (if (choosePivot (lC c) d1 a b).2 = .decreasing then (b-1)-((choosePivot (lC c) d1 a b).1-a) else (choosePivot (lC c) d1 a b).1)=p
 generalize (if (choosePivot (lC c) d1 a b).2 = .decreasing then Hint.increasing else (choosePivot (lC c) d1 a b).2)=h
 have key:∀d3:Array Aa,b≤d3.size→(if (decide (a>0) && !lC c d3[a-1]! d3[p]!)=true then
   match partitionEqual (lC c) d3 a b p with
   | (mid,d4)=>if _h:a<mid∧mid≤b then pdq (lC c) d4 mid b lim wb wp else d4
  else
   match partition (lC c) d3 a b p with
   | (mid,alreadyPartitioned,d4)=>
    if _h:a≤mid∧mid<b then
     if mid-a<b-mid then
      pdq (lC c) (pdq (lC c) d4 a mid lim true true) (mid+1) b lim (decide (mid-a≥(b-a) / 8)) alreadyPartitioned
     else
      pdq (lC c) (pdq (lC c) d4 (mid+1) b lim true true) a mid lim (decide (b-mid≥(b-a) / 8)) alreadyPartitioned
    else d4)=gQ c (Hz c d3 a b lim p wb wp):=by
  intro d3 hd3
  have r1:=Te c d3 a b p (by omega) hd3
  have r2:=Vf c d3 a b p (by omega) hd3
  unfold Hz
  split
  ·generalize partitionEqual (lC c) d3 a b p=r at r2 ⊢
   obtain ⟨m,d4⟩:=r
   exact dif_pos r2
  ·generalize partition (lC c) d3 a b p=r at r1 ⊢
   obtain ⟨m,q,d4⟩:=r
   refine (dif_pos r1).trans ?_
   simp only []
   split<;>rfl
 by_cases hw:(wb&&wp&&decide (h = .increasing))=true
 ·rw [if_pos hw,if_pos hw]
  split
  ·rfl
  ·exact key _ (by rw [Gz]; omega)
 ·rw [if_neg hw,if_neg hw,if_neg (by simp)]
  exact key d2 (by omega)
theorem Xm (d3:Array Aa) (a b limit p:Nat) (wb wp:Bool) (hab:a<b) (hb:b≤d3.size) (hsz:∀(e:Array Aa) x y,y-x<b-a→y≤e.size→(pdq (lC c) e x y limit true true).size=e.size):
  (Hz c d3 a b limit p wb wp).1.size=d3.size∧(Hz c d3 a b limit p wb wp).2.1≤(Hz c d3 a b limit p wb wp).2.2.1∧(Hz c d3 a b limit p wb wp).2.2.1≤d3.size ∧
   (Hz c d3 a b limit p wb wp).2.2.1-(Hz c d3 a b limit p wb wp).2.1<b-a∧(Hz c d3 a b limit p wb wp).2.2.2.1=limit:=by
 have r1:=Te c d3 a b p hab hb
 have r2:=Vf c d3 a b p hab hb
 unfold Hz
 split
 ·exact ⟨Xk c _ _ _ _,r2.2,hb,by simp only; omega,rfl⟩
 ·simp only []
  split
  ·exact ⟨by rw [hsz _ _ _ (by omega) (by rw [Nb]; omega),Nb],by simp only; omega,hb,by simp only; omega,rfl⟩
  ·exact ⟨by rw [hsz _ _ _ (by omega) (by rw [Nb]; omega),Nb],by simp only; omega,by simp only; omega,by simp only; omega,rfl⟩
theorem Vh:∀(n:Nat) (d:Array Aa) (a b limit:Nat) (wb wp:Bool),b-a≤n→b≤d.size→(pdq (lC c) d a b limit wb wp).size=d.size:=by
 intro n
 induction n with
 | zero=>
  intro d a b limit wb wp hn hb
  unfold pdq
  rw [if_pos (by omega),Gb]
 | succ n ih=>
  intro d a b limit wb wp hn hb
  by_cases h12:b-a≤12
  ·unfold pdq
   rw [if_pos h12,Gb]
  ·by_cases hl:limit=0
   ·unfold pdq
    rw [if_neg h12,if_pos hl,Rx]
   ·obtain ⟨d1,d2,lim,p,h,e1,e2,e3,e4,e5,e6⟩:=eG c d a b limit wb wp h12 hl hb
    have z1:d1.size=d.size:=by rw [e1]; split<;>simp [Ga]
    have z2:d2.size=d.size:=by rw [e3]; split<;>simp [Gp,z1]
    have key:∀d3:Array Aa,d3.size=d.size→(gQ c (Hz c d3 a b lim p wb wp)).size=d.size:=by
     intro d3 z3
     obtain ⟨f1,f2,f3,f4,f5⟩:=Xm c d3 a b lim p wb wp (by omega) (by omega) (fun e x y h1 h2=>ih e x y lim true true (by omega) h2)
     rw [gQ,ih _ _ _ _ _ _ (by omega) (by omega),f1,z3]
    rw [e6]
    split
    ·split
     ·rw [Gz,z2]
     ·exact key _ (by rw [Gz,z2])
    ·exact key _ z2
end Go.Ev
end
section
set_option maxHeartbeats 1000000
namespace Go.Ev
open Go.Sort
variable (c:Aa→Aa→Int)
abbrev jY (t:Array Aa×Nat×Nat×Nat×Bool×Bool):List Aa×Int×Int×Int×Bool×Bool:=(t.1.toList,(t.2.1:Int),(t.2.2.1:Int),(t.2.2.2.1:Int),t.2.2.2.2.1,t.2.2.2.2.2)
abbrev Zg (n:Nat) (rc:List Aa→Int→Int→Int→(Aa→Aa→Option Int)→Option (List Aa)):Prop:=
 ∀(e:Array Aa) (x y lim:Nat),x≤y→y≤e.size→e.size≤1048576→y-x≤n+12→lim≤64→rc e.toList (x:Int) (y:Int) (lim:Int) (fC c)=some (pdq (lC c) e x y lim true true).toList
theorem aA {n:Nat} {rc} (hrc:Zg c n rc) (d3:Array Aa) (a b lim p:Nat) (wb wp:Bool) (hab:a+12<b) (hb:b≤d3.size) (hs:d3.size≤1048576) (hp:a≤p) (hpb:p<b) (hn:b-a≤n+13) (hl:lim≤64):
  Tw (fC c) rc (a:Int) (b:Int) wb wp (lim:Int) (p:Int) d3.toList=some (.inl (jY (Hz c d3 a b lim p wb wp))):=by
 have i2:p<d3.size:=by omega
 have hpart:(decide (a>0) && !lC c d3[a-1]! d3[p]!)=false→(DJ d3.toList (a:Int) (b:Int) (p:Int) (fC c)).bind (fun r180=>
   if r180.2.2.length=d3.toList.length then
    Cd ((decide ((IntKind.i64.wrap (r180.1-(a:Int)))<(IntKind.i64.wrap ((b:Int)-r180.1))))) fun v183=>
    if v183=true then
    Cd ((decide ((IntKind.i64.wrap (r180.1-(a:Int)))≥(IntKind.i64.wrap (((IntKind.i64.wrap ((b:Int)-(a:Int)))).tdiv 8))))) fun v186=>
    (rc r180.2.2 (a:Int) r180.1 (lim:Int) (fC c)).bind fun r188=>
    if r188.length=r180.2.2.length then
    some (.inl (r188,(IntKind.i64.wrap (r180.1+1)),(b:Int),(lim:Int),v186,r180.2.1))
    else none
    else
    Cd ((decide ((IntKind.i64.wrap ((b:Int)-r180.1))≥(IntKind.i64.wrap (((IntKind.i64.wrap ((b:Int)-(a:Int)))).tdiv 8))))) fun v191=>
    (rc r180.2.2 (IntKind.i64.wrap (r180.1+1)) (b:Int) (lim:Int) (fC c)).bind fun r193=>
    if r193.length=r180.2.2.length then
    some (.inl (r193,(a:Int),r180.1,(lim:Int),v191,r180.2.1))
    else none
   else none:_→Option ((List Aa×Int×Int×Int×Bool×Bool)⊕List Aa))=some (.inl (jY (Hz c d3 a b lim p wb wp))):=by
  intro hc
  have r1:=Te c d3 a b p (by omega) hb
  have r2:=Nb c d3 a b p
  rw [(g155_eq c d3 a b p hb hs (by omega) hpb).1]
  unfold Hz
  rw [if_neg (by rw [hc]; simp)]
  simp only [Option.bind_some]
  generalize partition (lC c) d3 a b p=r at *
  obtain ⟨m,q,d4⟩:=r
  simp only at r1 r2 ⊢
  rw [if_pos (by simp [r2])]
  have w1:IntKind.i64.wrap ((m:Int)-(a:Int))=((m-a:Nat):Int):=qE (by omega) (by omega)
  have w2:IntKind.i64.wrap ((b:Int)-(m:Int))=((b-m:Nat):Int):=qE (by omega) (by omega)
  have w3:IntKind.i64.wrap ((b:Int)-(a:Int))=((b-a:Nat):Int):=qE (by omega) (by omega)
  have w4:IntKind.i64.wrap (((b-a:Nat):Int).tdiv 8)=(((b-a) / 8:Nat):Int):=sdv 8 (by omega)
  simp only [w1,w2,w3,w4,Cd]
  by_cases h:m-a<b-m
  ·rw [if_pos (decide_eq_true (by omega)),if_pos h,hrc d4 a m lim (by omega) (by omega) (by omega) (by omega) hl]
   simp only [Option.bind_some,bX (show m≤4611686018427387904 by omega)]
   rw [if_pos (by have:=Vh c _ d4 a m lim true true (Nat.le_refl _) (by omega); simpa using this)]
   have hdec:decide (((m-a:Nat):Int)≥(((b-a) / 8:Nat):Int))=decide (m-a≥(b-a) / 8):=decide_eq_decide.2 ⟨fun h=>Int.ofNat_le.1 h,fun h=>Int.ofNat_le.2 h⟩
   rw [hdec]
  ·rw [if_neg (by simp; omega),if_neg h,bX (show m≤4611686018427387904 by omega),hrc d4 (m+1) b lim (by omega) (by omega) (by omega) (by omega) hl]
   simp only [Option.bind_some]
   rw [if_pos (by have:=Vh c _ d4 (m+1) b lim true true (Nat.le_refl _) (by omega); simpa using this)]
   have hdec:decide (((b-m:Nat):Int)≥(((b-a) / 8:Nat):Int))=decide (b-m≥(b-a) / 8):=decide_eq_decide.2 ⟨fun h=>Int.ofNat_le.1 h,fun h=>Int.ofNat_le.2 h⟩
   rw [hdec]
 simp only [Tw]
 by_cases ha:0<a
 ·have i1:a-1<d3.size:=by omega
  have e1:decide ((a:Int)>0)=true:=decide_eq_true (by omega)
  simp only [e1,beq_self_eq_true,if_true,eM (show a≤4611686018427387904 by omega) ha,Il i1,Il i2,Int.toNat_natCast,Iy i1,Iy i2,Option.bind_some,cond_true]
  by_cases h:c d3[a-1]! d3[p]! < 0
  ·rw [if_neg (by simpa using h)]
   exact hpart (by simp [h])
  ·rw [if_pos (by simpa using h),(g154_eq c d3 a b p hb hs (by omega) hpb).1]
   have z:=Xk c d3 a b p
   simp only [Option.bind_some]
   rw [if_pos (by simpa using z)]
   unfold Hz
   rw [if_pos (by simp [ha]; omega)]
 ·have e1:decide ((a:Int)>0)=false:=decide_eq_false (by omega)
  simp only [e1,show (false==true)=false from rfl,Bool.false_eq_true,if_false,Option.bind_some,cond_false]
  exact hpart (by simp [ha])
theorem EA (h:Hint):(aN h==2)=decide (h = .decreasing):=by cases h<;>rfl
theorem DZ (h:Hint):(aN h==1)=decide (h = .increasing):=by cases h<;>rfl
theorem lZ {n:Nat} {rc} (hrc:Zg c n rc) (d2:Array Aa) (a b lim p:Nat) (h:Hint) (wb wp:Bool) (hab:a+12<b) (hb:b≤d2.size) (hs:d2.size≤1048576) (hp:a≤p) (hpb:p<b) (hn:b-a≤n+13) (hl:lim≤64):
  Rb (fC c) rc (a:Int) (b:Int) wb wp (lim:Int) d2.toList (p:Int) (aN h) =
   (if (wb&&wp&&decide (h = .increasing))=true then (if (partialInsertionSort (lC c) d2 a b).2=true then some (.inr (partialInsertionSort (lC c) d2 a b).1.toList) else some (.inl (jY (Hz c (partialInsertionSort (lC c) d2 a b).1 a b lim p wb wp)))) else some (.inl (jY (Hz c d2 a b lim p wb wp)))):=by
 have e:(bif (bif wb then wp else false) then (aN h==1) else false)=(wb&&wp&&decide (h = .increasing)):=by rw [DZ]; cases wb<;>cases wp<;>rfl
 simp only [Rb,e]
 by_cases hw:(wb&&wp&&decide (h = .increasing))=true
 ·rw [if_pos hw,if_pos hw,g153_eq c d2 a b hb hs (by omega)]
  have z:=Gz c d2 a b
  simp only [Option.bind_some]
  rw [if_pos (by simpa using z)]
  by_cases hi:(partialInsertionSort (lC c) d2 a b).2=true
  ·rw [if_pos hi,if_pos hi]
  ·rw [if_neg hi,if_neg hi]
   exact aA c hrc _ a b lim p wb wp hab (by omega) (by omega) hp hpb hn hl
 ·rw [if_neg hw,if_neg hw]
  exact aA c hrc _ a b lim p wb wp hab (by omega) (by omega) hp hpb hn hl
theorem rM {n:Nat} {rc} (hrc:Zg c n rc) (d:Array Aa) (a b limit:Nat) (wb wp:Bool) (hab:a≤b) (hb:b≤d.size) (hs:d.size≤1048576) (hn:b-a≤n+13) (hl:limit≤64):
  (∃t:Array Aa×Nat×Nat×Nat×Bool×Bool,Kk (fC c) rc (d.toList,(a:Int),(b:Int),(limit:Int),wb,wp)=some (.inl (jY t)) ∧
   (t.1.size=d.size∧t.2.1≤t.2.2.1∧t.2.2.1≤d.size∧t.2.2.1-t.2.1<b-a∧t.2.2.2.1≤64)∧gQ c t=pdq (lC c) d a b limit wb wp) ∨
  Kk (fC c) rc (d.toList,(a:Int),(b:Int),(limit:Int),wb,wp)=some (.inr (pdq (lC c) d a b limit wb wp).toList):=by
 have w1:IntKind.i64.wrap ((b:Int)-(a:Int))=((b-a:Nat):Int):=qE (by omega) (by omega)
 simp only [Kk,w1]
 by_cases h12:b-a≤12
 ·right
  rw [if_pos (decide_eq_true (by omega)),pB c d a b hb hs hab]
  have z:=Gb c d a b
  simp only [Option.bind_some]
  rw [if_pos (by simpa using z)]
  unfold pdq
  rw [if_pos h12]
 ·rw [if_neg (by simp; omega)]
  by_cases h0:limit=0
  ·right
   rw [if_pos (by simp [h0]),g149_eq c d a b hb hs (by omega)]
   have z:=Rx c d a b
   simp only [Option.bind_some]
   rw [if_pos (by simpa using z)]
   unfold pdq
   rw [if_neg h12,if_pos h0]
  ·rw [if_neg (by simp; omega)]
   obtain ⟨d1,d2,lim,p,h,e1,e2,e3,e4,e5,e6⟩:=eG c d a b limit wb wp h12 h0 hb
   have z1:d1.size=d.size:=by rw [e1]; split<;>simp [Ga]
   have z2:d2.size=d.size:=by rw [e3]; split<;>simp [Gp,z1]
   have hlim:lim≤64:=by rw [e2]; split<;>omega
   have k0:(if (!wb)=true then (rN d.toList (a:Int) (b:Int) (fC c)).bind (fun r211=>if r211.length=d.toList.length then Md (fC c) rc (a:Int) (b:Int) wb wp r211 (IntKind.i64.wrap ((limit:Int)-1)) else none) else Md (fC c) rc (a:Int) (b:Int) wb wp d.toList (limit:Int))=Md (fC c) rc (a:Int) (b:Int) wb wp d1.toList (lim:Int):=by
    rw [e1,e2]
    by_cases hw:(!wb)=true
    ·rw [if_pos hw,if_pos hw,if_pos hw,(g150_eq c d a b hb hs (by omega)).1]
     simp only [Option.bind_some]
     rw [if_pos (by simp [Ga]),eM (by omega) (by omega)]
    ·rw [if_neg hw,if_neg hw,if_neg hw]
   rw [k0]
   have cp:=choosePivot_holds (lC c) d1 a b (by omega)
   have k1:Md (fC c) rc (a:Int) (b:Int) wb wp d1.toList (lim:Int)=Rb (fC c) rc (a:Int) (b:Int) wb wp (lim:Int) d2.toList (p:Int) (aN h):=by
    simp only [Md]
    rw [g151_eq c d1 a b (by omega) (by omega) (by omega)]
    simp only [Option.bind_some,EA]
    rw [e3,e4,e5]
    generalize choosePivot (lC c) d1 a b=r at cp ⊢
    by_cases hd:r.2 = .decreasing
    ·rw [if_pos (decide_eq_true hd),if_pos hd,if_pos hd,if_pos hd,g152_eq c d1 a b (by omega) (by omega) (by omega)]
     simp only [Option.bind_some,Cd]
     rw [if_pos (by simp [Gp]),eM (by omega) (by omega),qE (show r.1≤2305843009213693952 by omega) cp.1,qE (by omega) (by omega)]
     rfl
    ·rw [if_neg (by simpa using hd),if_neg hd,if_neg hd,if_neg hd]
   have hp:a≤p∧p<b:=by rw [e4]; split<;>omega
   rw [k1,lZ c hrc d2 a b lim p h wb wp (by omega) (by omega) (by omega) hp.1 hp.2 hn hlim]
   have key:∀d3:Array Aa,d3.size=d.size→gQ c (Hz c d3 a b lim p wb wp)=pdq (lC c) d a b limit wb wp →
     ∃t:Array Aa×Nat×Nat×Nat×Bool×Bool,(some (.inl (jY (Hz c d3 a b lim p wb wp))):Option ((List Aa×Int×Int×Int×Bool×Bool)⊕List Aa))=some (.inl (jY t)) ∧
      (t.1.size=d.size∧t.2.1≤t.2.2.1∧t.2.2.1≤d.size∧t.2.2.1-t.2.1<b-a∧t.2.2.2.1≤64)∧gQ c t=pdq (lC c) d a b limit wb wp:=by
    intro d3 z3 ht
    obtain ⟨f1,f2,f3,f4,f5⟩:=Xm c d3 a b lim p wb wp (by omega) (by omega) (fun e x y h1 h2=>Vh c _ e x y lim true true (Nat.le_refl _) h2)
    exact ⟨_,rfl,⟨by omega,f2,by omega,f4,by omega⟩,ht⟩
   by_cases hw:(wb&&wp&&decide (h = .increasing))=true
   ·rw [if_pos hw] at e6 ⊢
    by_cases hi:(partialInsertionSort (lC c) d2 a b).2=true
    ·rw [if_pos hi] at e6 ⊢
     right; rw [e6]
    ·rw [if_neg hi] at e6 ⊢
     exact .inl (key _ (by rw [Gz,z2]) e6.symm)
   ·rw [if_neg hw] at e6 ⊢
    exact .inl (key _ z2 e6.symm)
theorem rL {n:Nat} {rc} (hrc:Zg c n rc):Zg c (n+1) (Wb rc):=by
 intro e x y lim hxy hy hs hn hl
 have L:=Kf (step:=Kk (fC c) rc) jY (fun t=>t.1.size=e.size∧t.2.1≤t.2.2.1∧t.2.2.1≤e.size∧t.2.2.1-t.2.1≤n+13∧t.2.2.2.1≤64) (fun t=>t.2.2.1-t.2.1) (fun t=>(gQ c t).toList) (by
  rintro ⟨d,a,b,limit,wb,wp⟩ ⟨h1,h2,h3,h4,h5⟩
  simp only at h1 h2 h3 h4 h5
  rcases rM c hrc d a b limit wb wp h2 (by omega) (by omega) h4 h5 with ⟨t,t1,t2,t3⟩ | t1
  ·exact .inl ⟨t,t1,⟨by omega,t2.2.1,by omega,by omega,t2.2.2.2.2⟩,by rw [t3],t2.2.2.2.1⟩
  ·exact .inr t1) (e,x,y,lim,true,true) ⟨rfl,hxy,hy,hn,hl⟩
 simp only [Wb]
 have L':By (Kk (fC c) rc) (e.toList,(x:Int),(y:Int),(lim:Int),true,true)=some (pdq (lC c) e x y lim true true).toList:=L
 rw [L']
 rfl
theorem oZ:∀n,Zg c n (lY (n+1))
 | 0=>by
  have h:Zg c 0 (Wb (lY 0)):=by
   intro e x y lim hxy hy hs hn hl
   have L:By (Kk (fC c) (lY 0)) (e.toList,(x:Int),(y:Int),(lim:Int),true,true)=some (pdq (lC c) e x y lim true true).toList:=by
    refine Dm ?_
    have w1:IntKind.i64.wrap ((y:Int)-(x:Int))=((y-x:Nat):Int):=qE (by omega) (by omega)
    simp only [Kk,w1]
    rw [if_pos (decide_eq_true (by omega)),pB c e x y hy hs hxy]
    have z:=Gb c e x y
    simp only [Option.bind_some]
    rw [if_pos (by simpa using z)]
    unfold pdq
    rw [if_pos (by omega)]
   simp only [Wb,L]
   rfl
  exact h
 | n+1=>rL c (oZ n)
theorem g116_eq (l:List Aa) (hl:l.length≤1048576):DF l (fC c)=some (Go.Sort.sort (lC c) l.toArray).toList:=by
 have hb:bitsLen l.length≤21:=(bitsLen_le_iff _ 21).2 (by omega)
 simp only [DF,sZ (show l.length<18446744073709551616 by omega),pA l.length (by omega),Option.bind_some]
 have h:=oZ c 1048575 l.toArray 0 l.length (bitsLen l.length) (by omega) (by simp) (by simp; omega) (by omega) (by omega)
 rw [show ((0:Nat):Int)=0 from rfl,show l.toArray.toList=l from rfl] at h
 rw [show Oy=1048575+1 from rfl,h]
 have z:=Vh c _ l.toArray 0 l.length (bitsLen l.length) true true (Nat.le_refl _) (by simp)
 simp only [Option.bind_some]
 rw [if_pos (by simpa using z)]
 rfl
end Go.Ev
end
section
namespace Go.Ev
theorem oW (a b:Int):rH a b=some (if a<b then -1 else if b<a then 1 else 0):=by
 simp only [rH,jB,Option.bind_some]
 simp
 split
 ·rfl
 ·split<;>rfl
theorem DE (a b:Int):g109 [a,b]=some (if a=0 then b else a):=by
 have s0:Tt [a,b] 0=if (a != 0)=true then some (.inr (.inr a)) else some (.inl 1):=rfl
 have s1:Tt [a,b] 1=if (b != 0)=true then some (.inr (.inr b)) else some (.inl 2):=rfl
 have s2:Tt [a,b] 2=some (.inr (.inl ())):=rfl
 simp only [g109]
 by_cases ha:a=0
 ·by_cases hb:b=0
  ·rw [Dp (s':=1) (by rw [s0,if_neg (by simp [ha])]),Dp (s':=2) (by rw [s1,if_neg (by simp [hb])]),Dm (r:=.inl ()) s2]
   simp [ha,hb]
  ·rw [Dp (s':=1) (by rw [s0,if_neg (by simp [ha])]),Dm (r:=.inr b) (by rw [s1,if_pos (by simp [hb])])]
   simp [ha]
 ·rw [Dm (r:=.inr a) (by rw [s0,if_pos (by simp [ha])])]
  simp [ha]
def cQ (x y:Aa):Int:=if x.Bp<y.Bp then -1 else if y.Bp<x.Bp then 1 else if x.id<y.id then -1 else if y.id<x.id then 1 else 0
theorem g69_eq (x y:Aa):g69 x y=some (cQ x y):=by
 simp only [g69,oW,Option.bind_some,DE]
 unfold cQ
 split
 ·simp
 ·split
  ·simp
  ·simp
theorem Yv {x y:Aa}:cQ x y<0↔x.Bp<y.Bp∨(x.Bp=y.Bp∧x.id<y.id):=by
 unfold cQ; split
 ·simp; omega
 ·split
  ·simp; omega
  ·split
   ·simp; omega
   ·split
    ·simp; omega
    ·simp; omega
theorem Ie.lt {t:As} (h:Ie t) {i j:Nat} (hj:j<t.Af.length) (hij:i<j):(t.Af[i]'(by omega)).id<t.Af[j].id:=by
 induction j with
 | zero=>omega
 | succ j ih=>
  have h1:=(h.2.2.2 (j+1) _ (List.getElem?_eq_getElem hj)).2.1 t.Af[j] (by omega) (by simp [List.getElem?_eq_getElem (show j<t.Af.length by omega)])
  by_cases e:i=j
  ·subst e; exact h1
  ·have:=ih (by omega) (by omega); omega
theorem DV (l:List Aa) (h:l.length≤1048576):g66 l=some l:=by
 unfold g66; rw [if_pos (by simp; omega)]
def Hx (n:Nat) (a:Int):List Aa:=(List.range n).map fun (k:Nat)=>Aa.mk (a+4*k) (a+4*k+1) (a+4*k+2) ((a+4*k+3).tmod 3==0)
theorem Ku (n:Nat) (a:Int):(Hx n a).length=n:=by simp [Hx]
theorem dW (n:Nat) (a:Int) (k:Nat) (h:k<(Hx n a).length):(Hx n a)[k]=Aa.mk (a+4*k) (a+4*k+1) (a+4*k+2) ((a+4*k+3).tmod 3==0):=by simp [Hx]
theorem g72_eq (l:List Aa) (hl:l.length≤1048576):g72 l 1=some (1+4*(l.length:Int),Hx l.length 1):=by
 have hml:(Hx l.length 1).length=l.length:=Ku _ _
 have h:=Ec (step:=We) (fun k=>((Hx l.length 1).take k++l.drop k,1+4*(k:Int),(k:Int))) l.length (Hx l.length 1,1+4*(l.length:Int)) (fun k hk=>by
  have hlen:((Hx l.length 1).take k++l.drop k).length=l.length:=by simp [hml]; omega
  generalize hrow:(Hx l.length 1).take k++l.drop k=row at hlen ⊢
  have hkr:k<row.length:=by omega
  have w1:IntKind.i64.wrap (1+4*(k:Int)+1)=1+4*(k:Int)+1:=wr ⟨by omega,by omega⟩
  have w2:IntKind.i64.wrap (1+4*(k:Int)+1+1)=1+4*(k:Int)+2:=by rw [wr ⟨by omega,by omega⟩]; omega
  have w3:IntKind.i64.wrap (1+4*(k:Int)+2+1)=1+4*(k:Int)+3:=by rw [wr ⟨by omega,by omega⟩]; omega
  have w4:IntKind.i64.wrap (1+4*(k:Int)+3+1)=1+4*((k+1:Nat):Int):=by rw [wr ⟨by omega,by omega⟩]; omega
  have w5:IntKind.i64.wrap ((k:Int)+1)=((k+1:Nat):Int):=wr ⟨by omega,by omega⟩
  simp only [We]
  rw [if_pos (decide_eq_true (by omega))]
  have hi:∀r:List Aa,r.length=row.length→Cr r (k:Int)=some (r[k]?.getD default)∧r[k]? = some (r[k]?.getD default):=fun r hr=>by
   rw [Uu,List.getElem?_eq_getElem (by omega)]; exact ⟨rfl,rfl⟩
  rw [(hi row rfl).1]
  simp only [Option.bind_some,Int.toNat_natCast,Cd,w1,w2,w3,w4,w5]
  rw [(hi row rfl).2]
  simp only [Option.bind_some,List.set_set]
  have hs:∀x:Aa,(row.set k x)[k]? = some x:=fun x=>by rw [List.getElem?_set_self (by omega)]
  have hs':∀x:Aa,Cr (row.set k x) (k:Int)=some x:=fun x=>by rw [Uu,hs]
  simp only [hs,hs',Option.bind_some,List.set_set]
  congr 3
  rw [←hrow,List.set_append,if_neg (by simp [hml]; omega),List.take_succ_eq_append_getElem (by omega),dW,List.append_assoc]
  congr 1
  have e:k-(List.take k (Hx l.length 1)).length=0:=by simp [hml]; omega
  rw [e,List.drop_eq_getElem_cons hk]
  rfl) (by
  simp only [We]
  rw [if_neg (by simp [hml])]
  simp only [List.drop_length,List.append_nil]
  rw [List.take_of_length_le (by omega)])
 simp only [List.take_zero,List.nil_append,List.drop_zero] at h
 simp only [g72]
 have h':By We (l,1,0)=some (Hx l.length 1,1+4*(l.length:Int)):=h
 rw [h']
 rfl
theorem g73_eq (n:Nat) (hn:n≤1048576):g73 (Hx n 1) 1=some (1+4*(n:Int)):=by
 have hml:(Hx n 1).length=n:=Ku _ _
 have h:=Ec (step:=Wf (Hx n 1)) (fun k=>(1+4*(k:Int),(k:Int))) n (.inl (1+4*(n:Int))) (fun k hk=>by
  have w1:IntKind.i64.wrap (1+4*(k:Int)+1)=1+4*(k:Int)+1:=wr ⟨by omega,by omega⟩
  have w2:IntKind.i64.wrap (1+4*(k:Int)+1+1)=1+4*(k:Int)+2:=by rw [wr ⟨by omega,by omega⟩]; omega
  have w3:IntKind.i64.wrap (1+4*(k:Int)+2+1)=1+4*(k:Int)+3:=by rw [wr ⟨by omega,by omega⟩]; omega
  have w4:IntKind.i64.wrap (1+4*(k:Int)+3+1)=1+4*((k+1:Nat):Int):=by rw [wr ⟨by omega,by omega⟩]; omega
  have w5:IntKind.i64.wrap ((k:Int)+1)=((k+1:Nat):Int):=wr ⟨by omega,by omega⟩
  simp only [Wf]
  rw [if_pos (decide_eq_true (by omega)),Cc (by omega)]
  simp only [Option.bind_some,Cd,w1,w2,w3,w4,w5,dW]
  simp) (by
  simp only [Wf]
  rw [if_neg (by simp [hml])])
 simp only [g73]
 have h':By (Wf (Hx n 1)) (1,0)=some (.inl (1+4*(n:Int))):=h
 rw [h']
 rfl
theorem DN (t:As) (hl:t.Af.length≤1048576):g26 t 1=some (1+4*(t.Af.length:Int),Hx t.Af.length 1):=by
 simp [g26,g72_eq _ hl,Ku]
theorem g27_eq (c n:Int) (k:Nat) (hk:k≤1048576):g27 (As.mk c n (Hx k 1)) 1=some (1+4*(k:Int)):=by
 simp only [g27,g73_eq k hk,Option.bind_some]
 rw [if_neg (by simp; omega)]
theorem Kj (t:As) (hl:t.Af.length≤1048576):jA t=some t:=by
 unfold jA; rw [if_pos (by simp; omega)]; rfl
theorem Qx (t:As) (hl:t.Af.length≤1048576):fL t=some t:=by
 simp [fL,DV _ hl]
end Go.Ev
end
section
set_option maxHeartbeats 1000000
namespace Go.Ev
open Go.Sort
theorem GB:SWO (lC cQ) where
 irrefl x:=by simp only [lC,decide_eq_false_iff_not,Yv]; omega
 trans x y z:=by simp only [lC,decide_eq_true_eq,Yv]; omega
 ntrans x y z:=by simp only [lC,decide_eq_false_iff_not,Yv]; omega
theorem g69_fC:(fun a b=>g69 a b)=fC cQ:=by funext a b; exact g69_eq a b
abbrev leL (x y:Aa):Prop:=¬cQ y x<0
theorem sQ (l:List Aa) (hl:l.length≤1048576):∃s,DF l (fun a b=>g69 a b)=some s∧s.Perm l∧s.Pairwise leL:=by
 refine ⟨_,by rw [g69_fC]; exact g116_eq cQ l hl,?_⟩
 have h:=sort_holds (pdq_holds (lt:=lC cQ) insertionSort_holds heapSort_holds partialInsertionSort_holds (partition_holds _) (partitionEqual_holds _) reverseRange_holds) GB l.toArray
 obtain ⟨⟨h1,h2,h3⟩,h4⟩:=h
 generalize Go.Sort.sort (lC cQ) l.toArray=d at *
 refine ⟨?_,?_⟩
 ·rw [←h1] at h3
  have e1:d.extract 0 d.size=d:=by simp
  have e2:l.toArray.extract 0 d.size=l.toArray:=by rw [h1]; simp
  rw [e1,e2] at h3
  exact h3
 ·rw [List.pairwise_iff_getElem]
  intro i j hi hj hij
  have:=h4 i j (by omega) hij (by simpa [h1] using hj)
  simp only [lC,decide_eq_false_iff_not] at this
  have hi':i<d.size:=by simpa using hi
  have hj':j<d.size:=by simpa using hj
  rw [getElem!_pos d i hi',getElem!_pos d j hj'] at this
  simpa [leL] using this
end Go.Ev
end
section
set_option maxHeartbeats 1000000
namespace Go.Ev
def Ru (N:Int) (y:Aa):Bool := !y.Cl&&decide (y.Bp≤N)
abbrev mkQ (y:Aa):Aa:=Aa.mk y.id y.Bp y.cap true
def Hw (N:Int) (y:Aa):Aa:=if Ru N y=true then mkQ y else y
theorem oN (N:Int) (y:Aa):(bif (!y.Cl) then (decide (y.Bp≤N)) else false)=Ru N y:=by
 unfold Ru; cases y.Cl<;>rfl
abbrev Dc (t:As) (a:Int):Int:=if a>t.clock then a else t.clock
theorem pN {f:Aa→Aa} {l:List Aa} {k:Nat} (hk:k<l.length):((l.take k).map f++l.drop k)[k]? = some l[k]:=by
 rw [List.getElem?_append_right (by simp; omega)]
 simp [Nat.min_eq_left (Nat.le_of_lt hk),hk]
theorem row_set {f:Aa→Aa} {l:List Aa} {k:Nat} (hk:k<l.length):((l.take k).map f++l.drop k).set k (f l[k])=(l.take (k+1)).map f++l.drop (k+1):=by
 have e:k-((l.take k).map f).length=0:=by rw [List.length_map,List.length_take]; omega
 rw [List.set_append,if_neg (by rw [List.length_map,List.length_take]; omega),e,List.drop_eq_getElem_cons hk,List.set_cons_zero,List.take_succ_eq_append_getElem hk,List.map_append,List.append_assoc]
 rfl
theorem FU {f:Aa→Aa} {l:List Aa} {k:Nat} (hk:k<l.length) (he:f l[k]=l[k]):(l.take k).map f++l.drop k=(l.take (k+1)).map f++l.drop (k+1):=by
 rw [List.take_succ_eq_append_getElem hk,List.map_append,List.append_assoc,List.map_cons,he,List.drop_eq_getElem_cons hk]
 rfl
theorem DW (t:As) (a:Int) (l:List Aa) (hl:l.length≤1048576):
  By (Sq t a (As.mk t.clock t.next l)) ([],l,0)=some (l.filter (Ru (Dc t a)),l.map (Hw (Dc t a))):=by
 have h:=Ec (step:=Sq t a (As.mk t.clock t.next l)) (fun k=>((l.take k).filter (Ru (Dc t a)),(l.take k).map (Hw (Dc t a))++l.drop k,(k:Int))) l.length (l.filter (Ru (Dc t a)),l.map (Hw (Dc t a))) (fun k hk=>by
  simp only [Sq]
  rw [if_pos (decide_eq_true (by omega))]
  rw [Uu,pN hk]
  simp only [Option.bind_some,Int.toNat_natCast,pN hk,oN,Cd]
  by_cases hd:Ru (Dc t a) l[k]=true
  ·rw [if_pos hd]
   have hfl:((l.take k).filter (Ru (Dc t a))).length≤k:=by
    have:=List.length_filter_le (Ru (Dc t a)) (l.take k)
    simp at this; omega
   rw [if_pos (by simp; omega)]
   simp only [aH,w1 (show k<4611686018427387904 by omega)]
   have e:Aa.mk l[k].id l[k].Bp l[k].cap true=Hw (Dc t a) l[k]:=by unfold Hw; rw [if_pos hd]
   rw [e,row_set hk,List.take_succ_eq_append_getElem hk,List.filter_append,List.filter_cons_of_pos hd,List.filter_nil]
  ·rw [if_neg hd]
   simp only [aH,w1 (show k<4611686018427387904 by omega)]
   rw [FU hk (by unfold Hw; rw [if_neg hd]),List.take_succ_eq_append_getElem hk,List.filter_append,List.filter_cons_of_neg hd,List.filter_nil,List.append_nil]) (by
  simp only [Sq]
  rw [if_neg (by simp)]
  simp)
 simp only [List.take_zero,List.filter_nil,List.map_nil,List.nil_append,List.drop_zero] at h
 exact h
theorem g60_eq2 (c n:Int) (l:List Aa) (hl:l.length≤1048576):g60 (As.mk c n l)=some (l.map (·.id)):=by
 have h:=Ec (step:=Wd (As.mk c n l)) (fun k=>((l.take k).map (·.id),(k:Int))) l.length (l.map (·.id)) (fun k hk=>by
  simp only [Wd]
  rw [if_pos (decide_eq_true (by omega)),Cc hk]
  simp only [Option.bind_some]
  rw [if_pos (by simp; omega),w1 (show k<4611686018427387904 by omega),List.take_succ_eq_append_getElem hk,List.map_append]
  rfl) (by
  simp only [Wd]
  rw [if_neg (by simp)]
  simp)
 simp only [List.take_zero,List.map_nil] at h
 simp only [g60]
 have h':By (Wd (As.mk c n l)) ([],0)=some (l.map (·.id)):=h
 rw [h']
 rfl
theorem g82_eq (t:As) (a:Int) (hl:t.Af.length≤1048576):∃s:List Aa,g82 t a=some (As.mk (Dc t a) t.next (t.Af.map (Hw (Dc t a))),s.map (·.id))∧s.Perm (t.Af.filter (Ru (Dc t a)))∧s.Pairwise leL:=by
 have hfl:(t.Af.filter (Ru (Dc t a))).length≤1048576:=Nat.le_trans (List.length_filter_le _ _) hl
 obtain ⟨s,s1,s2,s3⟩:=sQ _ hfl
 refine ⟨s,?_,s2,s3⟩
 have h:=DW t a t.Af hl
 have h':By (Sq t a t) ([],t.Af,0)=some (t.Af.filter (Ru (Dc t a)),t.Af.map (Hw (Dc t a))):=h
 have hsl:s.length=(t.Af.filter (Ru (Dc t a))).length:=s2.length_eq
 simp only [g82,Qx t hl,Option.bind_some,h',s1]
 rw [if_pos hsl,g60_eq2 0 0 s (by omega)]
 rfl
def kY (N:Int) (L:List Aa) (n:Nat) (r:Int):Prop:=
 (r = -1∧∀j,∀h:j<L.length,j<n→Ru N L[j]=false) ∨
 ∃k,∃hk:k<L.length,k<n∧r=(k:Int)∧Ru N L[k]=true∧∀j,∀h:j<L.length,j<n→Ru N L[j]=true→L[k].Bp<L[j].Bp∨(L[k].Bp=L[j].Bp∧k≤j)
theorem rT (t:As) (a:Int) (L:List Aa) (hl:L.length≤1048576):∃r,By (aG t a L) (-1,0)=some r∧kY (Dc t a) L L.length r:=by
 obtain ⟨r,r1,r2⟩:=jI (step:=aG t a L) (fun s=>∃n:Nat,s.2=(n:Int)∧n≤L.length∧kY (Dc t a) L n s.1) (fun s=>(L.length-s.2).toNat) (fun r=>kY (Dc t a) L L.length r) (-1,0) ⟨0,rfl,by omega,.inl ⟨rfl,fun j _ h=>absurd h (by omega)⟩⟩ (by
  rintro ⟨r,_⟩ ⟨n,rfl,hn,hb⟩
  simp only at hb
  simp only [aG]
  by_cases hlt:n<L.length
  ·rw [if_pos (decide_eq_true (by omega)),Cc hlt]
   simp only [Option.bind_some,Int.toNat_natCast]
   rw [List.getElem?_eq_getElem hlt]
   simp only [Option.bind_some,oN,Cd]
   have w:IntKind.i64.wrap ((n:Int)+1)=((n+1:Nat):Int):=w1 (by omega)
   left
   by_cases hd:Ru (Dc t a) L[n]=true
   ·rw [hd]
    rcases hb with ⟨rfl,hb⟩ | ⟨k,hk,hkn,rfl,hdk,hb⟩
    ·rw [show decide ((-1:Int)<0)=true by decide]
     simp only [beq_self_eq_true,Bool.true_and,show (true==false)=false from rfl,Bool.false_eq_true,if_false,Option.bind_some,cond_true,if_true,Wg,w]
     refine ⟨_,rfl,⟨n+1,rfl,by omega,.inr ⟨n,hlt,by omega,rfl,hd,fun j h hj hdj=>?_⟩⟩,by simp only; omega⟩
     by_cases e:j=n
     ·subst e; exact .inr ⟨rfl,Nat.le_refl _⟩
     ·rw [hb j h (by omega)] at hdj; cases hdj
    ·rw [show decide ((k:Int)<0)=false from decide_eq_false (by omega)]
     simp only [beq_self_eq_true,Bool.true_and,if_true,Cc hk,Int.toNat_natCast,List.getElem?_eq_getElem hk,Option.bind_some,cond_true,cond_false,Wg,w]
     by_cases hc:L[n].Bp<L[k].Bp
     ·rw [if_pos (decide_eq_true hc)]
      refine ⟨_,rfl,⟨n+1,rfl,by omega,.inr ⟨n,hlt,by omega,rfl,hd,fun j h hj hdj=>?_⟩⟩,by simp only; omega⟩
      by_cases e:j=n
      ·subst e; exact .inr ⟨rfl,Nat.le_refl _⟩
      ·have:=hb j h (by omega) hdj
       left; omega
     ·rw [if_neg (by simpa using hc)]
      refine ⟨_,rfl,⟨n+1,rfl,by omega,.inr ⟨k,hk,by omega,rfl,hdk,fun j h hj hdj=>?_⟩⟩,by simp only; omega⟩
      by_cases e:j=n
      ·subst e; omega
      ·exact hb j h (by omega) hdj
   ·have hd:Ru (Dc t a) L[n]=false:=by simpa using hd
    rw [hd]
    simp only [show (false==true)=false from rfl,Bool.false_and,Bool.false_eq_true,if_false,Option.bind_some,cond_false,Wg,w]
    refine ⟨_,rfl,⟨n+1,rfl,by omega,?_⟩,by simp only; omega⟩
    rcases hb with ⟨rfl,hb⟩ | ⟨k,hk,hkn,rfl,hdk,hb⟩
    ·refine .inl ⟨rfl,fun j h hj=>?_⟩
     by_cases e:j=n
     ·subst e; exact hd
     ·exact hb j h (by omega)
    ·refine .inr ⟨k,hk,by omega,rfl,hdk,fun j h hj hdj=>?_⟩
     by_cases e:j=n
     ·subst e; rw [hd] at hdj; cases hdj
     ·exact hb j h (by omega) hdj
  ·rw [if_neg (by simpa using hlt)]
   have:n=L.length:=by omega
   subst this
   exact .inr ⟨_,rfl,hb⟩)
 exact ⟨r,r1,r2⟩
theorem lV {p:Aa→Bool} {L:List Aa} {k:Nat} {v:Aa} (hk:k<L.length) (h1:p L[k]=true) (h2:p v=false):(L.filter p).Perm (L[k]::(L.set k v).filter p):=by
 have e1:L=L.take k++L[k]::L.drop (k+1):=by rw [←List.drop_eq_getElem_cons hk,List.take_append_drop]
 have e2:L.set k v=L.take k++v::L.drop (k+1):=by rw [List.set_eq_take_append_cons_drop,if_pos hk]
 rw [e2,List.filter_append,List.filter_cons_of_neg (by simp [h2])]
 conv=>lhs; rw [e1]
 rw [List.filter_append,List.filter_cons_of_pos h1]
 exact List.perm_middle
theorem g81_eq (t:As) (a:Int) (h:Ie t) (hl:t.Af.length≤1048576):∃s:List Aa,g81 t a=some (As.mk (Dc t a) t.next (t.Af.map (Hw (Dc t a))),s.map (·.id))∧s.Perm (t.Af.filter (Ru (Dc t a)))∧s.Pairwise leL:=by
 obtain ⟨r,r1,r2⟩:=jI (step:=fY t a t) (fun s=>∃sel:List Aa,s.1=sel.map (·.id)∧(sel++s.2.filter (Ru (Dc t a))).Perm (t.Af.filter (Ru (Dc t a)))∧sel.Pairwise leL∧(∀x∈sel,∀y∈s.2.filter (Ru (Dc t a)),leL x y) ∧
   ∃hlen:s.2.length=t.Af.length,∀i,∀hi:i<t.Af.length,s.2[i]=t.Af[i]∨(Ru (Dc t a) t.Af[i]=true∧s.2[i]=mkQ t.Af[i]))
  (fun s=>(s.2.filter (Ru (Dc t a))).length) (fun r=>∃s:List Aa,r=(As.mk (Dc t a) t.next (t.Af.map (Hw (Dc t a))),s.map (·.id))∧s.Perm (t.Af.filter (Ru (Dc t a)))∧s.Pairwise leL) ([],t.Af)
  ⟨[],rfl,by simp,.nil,by simp,rfl,fun i hi=>.inl rfl⟩ (by
  rintro ⟨_,L⟩ ⟨sel,rfl,p1,p2,p3,hlen,p4⟩
  simp only at p1 p3 hlen p4
  obtain ⟨b,b1,b2⟩:=rT t a L (by omega)
  simp only [fY,b1,Option.bind_some]
  rcases b2 with ⟨rfl,b2⟩ | ⟨k,hk,_,rfl,hdk,b2⟩
  ·right
   rw [if_pos (by decide)]
   have hnil:L.filter (Ru (Dc t a))=[]:=by
    rw [List.filter_eq_nil_iff]
    intro x hx
    obtain ⟨j,hj,rfl⟩:=List.getElem_of_mem hx
    simp [b2 j hj hj]
   rw [hnil,List.append_nil] at p1
   refine ⟨_,rfl,sel,?_,p1,p2⟩
   have hL:L=t.Af.map (Hw (Dc t a)):=by
    refine List.ext_getElem (by simpa using hlen) fun i h1 h2=>?_
    have hi:i<t.Af.length:=by omega
    simp only [List.getElem_map,Hw]
    rcases p4 i hi with e | ⟨e1,e⟩
    ·have:=b2 i h1 h1
     rw [e] at this
     rw [if_neg (by simp [this])]; exact e
    ·rw [if_pos e1]; exact e
   rw [hL]
  ·left
   rw [if_neg (by simp)]
   have hmk:Ru (Dc t a) (mkQ L[k])=false:=by simp [Ru]
   have hlen2:(L.set k (mkQ L[k])).length=L.length:=by simp
   have hk2:k<(L.set k (mkQ L[k])).length:=by simpa using hk
   simp only [Cc hk,Int.toNat_natCast,List.getElem?_eq_getElem hk,Option.bind_some,Cc hk2,List.getElem?_eq_getElem hk2,List.getElem_set_self]
   have hf:=lV (p:=Ru (Dc t a)) hk hdk hmk
   have hlp:=p1.length_eq
   have hlf:=List.length_filter_le (Ru (Dc t a)) t.Af
   rw [List.length_append] at hlp
   rw [if_pos (by simp; omega)]
   refine ⟨_,rfl,⟨sel++[L[k]],by simp,?_,?_,?_,by simpa using hlen,?_⟩,?_⟩
   ·simp only [List.append_assoc,List.singleton_append]
    exact (List.Perm.append_left sel hf.symm).trans p1
   ·rw [List.pairwise_append]
    refine ⟨p2,by simp,fun x hx y hy=>?_⟩
    simp only [List.mem_singleton] at hy
    subst hy
    exact p3 x hx _ (List.mem_filter.2 ⟨List.getElem_mem hk,hdk⟩)
   ·intro x hx y hy
    have hy2:y∈L.filter (Ru (Dc t a)):=hf.mem_iff.2 (List.mem_cons_of_mem _ hy)
    rcases List.mem_append.1 hx with hx | hx
    ·exact p3 x hx y hy2
    ·simp only [List.mem_singleton] at hx
     subst hx
     obtain ⟨hyL,hdy⟩:=List.mem_filter.1 hy2
     obtain ⟨j,hj,rfl⟩:=List.getElem_of_mem hyL
     have:=b2 j hj hj hdy
     simp only [leL,Yv]
     have ids:∀i,∀hi:i<L.length,L[i].id=(t.Af[i]'(by omega)).id:=fun i hi=>by
      rcases p4 i (by omega) with e | ⟨_,e⟩<;>rw [e]
     rw [ids j hj,ids k hk]
     by_cases e:k=j
     ·subst e; omega
     ·rcases this with h1 | ⟨h1,h2⟩
      ·omega
      ·have:=h.lt (i:=k) (j:=j) (by omega) (by omega)
       omega
   ·intro i hi
    simp only [List.getElem_set]
    split
    ·rename_i e; subst e
     right
     rcases p4 k hi with e | ⟨e1,e⟩
     ·rw [e] at hdk; exact ⟨hdk,by rw [e]⟩
     ·exact ⟨e1,by rw [e]⟩
    ·exact p4 i hi
   ·have:=hf.length_eq
    simp only [List.length_cons,mkQ] at this ⊢
    omega)
 obtain ⟨s,rfl,s2,s3⟩:=r2
 refine ⟨s,?_,s2,s3⟩
 simp only [g81,Kj t hl,Option.bind_some,r1]
end Go.Ev
end
section
namespace Go.Ev
theorem EI {σ ρ:Type} {step:σ→Option (σ⊕ρ)} (I:σ→Prop) (μ:σ→Nat) (R:ρ→Prop)
  (h:∀s,I s→(∃s',step s=some (.inl s')∧I s'∧μ s'<μ s)∨(∃r,step s=some (.inr r)∧R r)):∀(n:Nat) (s0:σ),μ s0<n→I s0→∃r,By step s0=some r∧R r:=by
 intro n
 induction n with
 | zero=>intro s0 hn; omega
 | succ n ih=>
  intro s0 hn hI
  rcases h s0 hI with ⟨s',h1,h2,h3⟩ | ⟨r,h1,h2⟩
  ·obtain ⟨r,h4,h5⟩:=ih s' (by omega) h2
   exact ⟨r,by rw [Dp h1,h4],h5⟩
  ·exact ⟨r,Dm h1,h2⟩
theorem iter_inv' {σ ρ:Type} {step:σ→Option (σ⊕ρ)} (I:σ→Prop) (μ:σ→Nat) (R:ρ→Prop) (s0:σ) (h0:I s0)
  (h:∀s,I s→(∃s',step s=some (.inl s')∧I s'∧μ s'<μ s)∨(∃r,step s=some (.inr r)∧R r)):∃r,By step s0=some r∧R r:=
 EI I μ R h (μ s0+1) s0 (by omega) h0
theorem GA {α:Type} (l:List α) (a b:Nat) (h:a≤b) (h2:b≤l.length):cW l (a:Int) (b:Int)=some ((l.take b).drop a):=by
 unfold cW
 rw [if_pos ⟨by omega,by omega,by omega⟩]
 simp
def eQ (l:List Aa) (x n:Int):Prop:=(n = -1∧∀y∈l,y.id≠x)∨∃k,∃h:k<l.length,n=(k:Int)∧l[k].id=x
theorem Wj (t:As) (x:Int) (hl:t.Af.length≤1048576):∃n,g92 t x=some n∧eQ t.Af x n:=by
 obtain ⟨r,h1,h2⟩:=iter_inv' (step:=fZ t x) (fun s=>∃k:Nat,s=(k:Int)∧k≤t.Af.length∧∀j,∀h:j<t.Af.length,j<k→t.Af[j].id≠x) (fun s=>(t.Af.length-s).toNat)
  (fun r=>(r = .inl ()∧∀y∈t.Af,y.id≠x)∨∃n,r = .inr n∧eQ t.Af x n) 0 ⟨0,rfl,by omega,by intros; omega⟩ (by
   rintro _ ⟨k,rfl,hk,hj⟩
   simp only [fZ]
   by_cases hlt:k<t.Af.length
   ·rw [if_pos (decide_eq_true (by omega)),Cc hlt]
    simp only [Option.bind_some,wr (n:=(k:Int)+1) ⟨by omega,by omega⟩]
    by_cases hp:t.Af[k].id=x
    ·rw [if_pos (by simp [hp])]
     exact .inr ⟨_,rfl,.inr ⟨_,rfl,.inr ⟨k,hlt,rfl,hp⟩⟩⟩
    ·rw [if_neg (by simp [hp])]
     refine .inl ⟨_,rfl,⟨k+1,rfl,by omega,fun j h hj2=>?_⟩,by omega⟩
     by_cases e:j=k
     ·subst e; exact hp
     ·exact hj j h (by omega)
   ·rw [if_neg (by simp; omega)]
    refine .inr ⟨_,rfl,.inl ⟨rfl,fun y hy=>?_⟩⟩
    obtain ⟨j,hj1,rfl⟩:=List.getElem_of_mem hy
    exact hj j hj1 (by omega))
 simp only [g92,h1,Option.bind_some]
 rcases h2 with ⟨rfl,h2⟩ | ⟨n,rfl,h2⟩
 ·exact ⟨-1,rfl,.inl ⟨rfl,h2⟩⟩
 ·exact ⟨n,rfl,h2⟩
theorem half (a:Nat) (h:a≤4194304):IntKind.i64.wrap (Nu .u64 (IntKind.u64.wrap (IntKind.i64.wrap (a:Int))) 1)=((a / 2:Nat):Int):=by
 have h1:IntKind.u64.wrap (a:Int)=a:=by
  have e:IntKind.u64.wrap (a:Int)=(a:Int)%18446744073709551616:=by simp [IntKind.wrap,IntKind.bits,IntKind.signed]
  rw [e]; omega
 have h2:(2:Int)^min (1:Int).toNat 64=2:=by decide
 rw [wr (n:=(a:Int)) ⟨by omega,by omega⟩,h1]
 simp only [Nu,h2]
 rw [Int.fdiv_eq_ediv_of_nonneg _ (by omega),wr ⟨by omega,by omega⟩]
 omega
theorem oX (x:Aa) (a:Int):rI x a=some (if x.id<a then -1 else if a<x.id then 1 else 0):=by simp [rI,oW]
theorem mS (t:As) (h:Ie t) (x n:Int) (hn:eQ t.Af x n):∃i b,g77 t x=some (i,b)∧(b=true→i=n∧0≤n)∧(b=false→n = -1):=by
 have hl:=h.2.2.1
 obtain ⟨r,h1,h2⟩:=iter_inv' (step:=Yc t.Af x (fun a b=>rI a b)) (fun s=>∃i j:Nat,s=((i:Int),(j:Int))∧i≤j∧j≤t.Af.length∧(∀k,∀h:k<t.Af.length,k<i→t.Af[k].id<x)∧∀k,∀h:k<t.Af.length,j≤k→x≤t.Af[k].id)
  (fun s=>(s.2-s.1).toNat) (fun r=>∃i:Nat,r=i∧i≤t.Af.length∧(∀k,∀h:k<t.Af.length,k<i→t.Af[k].id<x)∧∀k,∀h:k<t.Af.length,i≤k→x≤t.Af[k].id) (0,(t.Af.length:Int))
  ⟨0,t.Af.length,rfl,by omega,by omega,by intros; omega,by intros; omega⟩ (by
   rintro _ ⟨i,j,rfl,hij,hj,ha,hb⟩
   simp only [Yc]
   by_cases hlt:i<j
   ·have e:(i:Int)+(j:Int)=((i+j:Nat):Int):=by omega
    rw [if_pos (decide_eq_true (by omega)),e,half _ (by omega)]
    have hm:(i+j) / 2<t.Af.length:=by omega
    simp only [Cd,Cc hm,Option.bind_some,oX]
    have hw:IntKind.i64.wrap (((i+j) / 2:Nat)+1:Int)=(((i+j) / 2+1:Nat):Int):=wr ⟨by omega,by omega⟩
    rw [hw]
    left
    by_cases hc:t.Af[(i+j) / 2].id<x
    ·rw [if_pos hc,if_pos (by decide)]
     refine ⟨_,rfl,⟨_,j,rfl,by omega,hj,fun k hk hki=>?_,hb⟩,by simp only; omega⟩
     by_cases e:k=(i+j) / 2
     ·subst e; exact hc
     ·have:=h.lt hm (show k<(i+j) / 2 by omega); omega
    ·have:¬(if t.Af[(i+j) / 2].id<x then (-1:Int) else if x<t.Af[(i+j) / 2].id then 1 else 0)<0:=by
      rw [if_neg hc]; split<;>omega
     rw [if_neg (by simpa using this)]
     refine ⟨_,rfl,⟨i,_,rfl,by omega,by omega,ha,fun k hk hki=>?_⟩,by simp only; omega⟩
     by_cases e:k=(i+j) / 2
     ·subst e; omega
     ·have:=h.lt hk (show (i+j) / 2<k by omega); omega
   ·rw [if_neg (by simp; omega)]
    exact .inr ⟨_,rfl,i,rfl,by omega,ha,fun k hk hki=>hb k hk (by omega)⟩)
 obtain ⟨i,rfl,hi,ha,hb⟩:=h2
 simp only [g77,g113,h1,Option.bind_some]
 by_cases hlt:i<t.Af.length
 ·have hd:(decide ((i:Int)<(t.Af.length:Int))==true)=true:=by simp; omega
  simp only [hd,if_true,Cc hlt,Option.bind_some,oX]
  refine ⟨_,_,rfl,?_,?_⟩
  ·intro hh
   have hx:t.Af[i].id=x:=by
    have:=hb i hlt (by omega)
    rw [decide_eq_true (by omega)] at hh
    simp at hh
    split at hh
    ·omega
    ·split at hh<;>omega
   rcases hn with ⟨rfl,hn⟩ | ⟨k,hk,rfl,hkx⟩
   ·exact absurd hx (hn _ (List.getElem_mem _))
   ·by_cases e:k=i
    ·subst e; exact ⟨rfl,by omega⟩
    ·by_cases e2:k<i
     ·have:=ha k hk e2; omega
     ·have:=h.lt hk (show i<k by omega); omega
  ·intro hh
   rcases hn with ⟨rfl,hn⟩ | ⟨k,hk,rfl,hkx⟩
   ·rfl
   ·exfalso
    have hne:t.Af[i].id≠x:=fun e=>by
     rw [decide_eq_true (by omega),e] at hh
     simp at hh
    have:=hb i hlt (by omega)
    by_cases e:k=i
    ·subst e; exact hne hkx
    ·by_cases e2:k<i
     ·have:=ha k hk e2; omega
     ·have:=h.lt hk (show i<k by omega); omega
 ·have hd:¬(decide ((i:Int)<(t.Af.length:Int))==true)=true:=by simp; omega
  simp only [hd,if_false,Option.bind_some]
  refine ⟨_,_,rfl,?_,?_⟩
  ·rw [decide_eq_false (by omega)]; intro hh; cases hh
  ·intro _
   rcases hn with ⟨rfl,hn⟩ | ⟨k,hk,rfl,hkx⟩
   ·rfl
   ·have:=ha k hk (by omega); omega
theorem mR (a b:Int):∃r,g53 a b=some r∧g54 a b=some r:=by
 unfold g53 g54
 split
 ·exact ⟨_,rfl,rfl⟩
 ·exact ⟨_,rfl,rfl⟩
end Go.Ev
end
section
namespace Go.Ev
end Go.Ev
end
section
set_option maxHeartbeats 1000000
namespace Go.Ev
abbrev Fz (t:As):Prop:=Ie t∧t.clock≤9223372036854775807∧∀x∈t.Af,x.cap≤9223372036854775807
theorem Ie.at {t:As} (h:Ie t) {k:Nat} (hk:k<t.Af.length):Zh t k t.Af[k]:=h.2.2.2 k _ (List.getElem?_eq_getElem hk)
theorem kO {t:As} (h:Ie t) (c:Int) (hc:t.clock≤c) (L:List Aa) (hl:L.length=t.Af.length)
  (hk:∀k,∀h1:k<L.length,∀h2:k<t.Af.length,L[k].id=t.Af[k].id∧0≤L[k].Bp∧L[k].Bp≤L[k].cap∧(L[k].Cl=false→c<L[k].Bp)):Ie (As.mk c t.next L):=by
 have h0:=h.1
 refine ⟨by simp only; omega,h.2.1,by simp only [hl]; exact h.2.2.1,fun k x hx=>?_⟩
 obtain ⟨h1,rfl⟩:=List.getElem?_eq_some_iff.1 hx
 simp only at h1
 have hkt:k<t.Af.length:=by omega
 obtain ⟨e1,e2,e3,e4⟩:=hk k h1 hkt
 obtain ⟨a1,a2,a3,a4,a5⟩:=h.at hkt
 refine ⟨by simp only [e1]; exact a1,fun y hpos hy=>?_,e2,e3,e4⟩
 obtain ⟨h3,rfl⟩:=List.getElem?_eq_some_iff.1 hy
 simp only at h3 ⊢
 rw [e1,(hk (k-1) h3 (by omega)).1]
 exact h.lt (by omega) (by omega)
theorem EZ (t:As) (a:Int):t.clock≤Dc t a:=by unfold Dc; split<;>omega
theorem cC {t:As} (h:Fz t) (a:Int) (ha:a≤9223372036854775807):Fz (As.mk (Dc t a) t.next (t.Af.map (Hw (Dc t a)))):=by
 refine ⟨kO h.1 _ (EZ t a) _ (by simp) fun k h1 h2=>?_,?_⟩
 ·simp only [List.getElem_map,Hw]
  obtain ⟨a1,a2,a3,a4,a5⟩:=h.1.at h2
  split
  ·exact ⟨rfl,a3,a4,fun hq=>by cases hq⟩
  ·rename_i hd
   refine ⟨rfl,a3,a4,fun hq=>?_⟩
   simp [Ru,hq] at hd
   exact hd
 ·refine ⟨by have:=h.2.1; simp only [Dc]; split<;>omega,fun x hx=>?_⟩
  obtain ⟨y,hy,rfl⟩:=List.mem_map.1 hx
  have:=h.2.2 y hy
  unfold Hw
  split<;>exact this
theorem qD {t:As} (h:Fz t) {k:Nat} (hk:k<t.Af.length) (v:Aa) (h1:v.id=t.Af[k].id) (h2:0≤v.Bp) (h3:v.Bp≤v.cap) (h4:v.Cl=false→t.clock<v.Bp) (h5:v.cap=t.Af[k].cap):
  Fz (As.mk t.clock t.next (t.Af.set k v)):=by
 refine ⟨kO h.1 _ (Int.le_refl _) _ (by simp) fun j j1 j2=>?_,h.2.1,fun x hx=>by
  rcases List.mem_or_eq_of_mem_set hx with hx | rfl
  ·exact h.2.2 x hx
  ·rw [h5]; exact h.2.2 _ (List.getElem_mem hk)⟩
 simp only [List.getElem_set]
 split
 ·rename_i e; subst e
  exact ⟨h1,h2,h3,h4⟩
 ·obtain ⟨a1,a2,a3,a4,a5⟩:=h.1.at j2
  exact ⟨rfl,a3,a4,a5⟩
theorem aQ (c a:Int) (hc:0≤c∧c≤9223372036854775807) (ha:1≤a∧a≤9223372036854775807):g53 c a=some (if c+a≤9223372036854775807 then c+a else 9223372036854775807):=by
 have e:IntKind.i64.wrap (9223372036854775807-a)=9223372036854775807-a:=wr ⟨by omega,by omega⟩
 simp only [g53]
 rw [e]
 by_cases h:c+a≤9223372036854775807
 ·rw [if_neg (by simp; omega),if_pos h,wr ⟨by omega,by omega⟩]
 ·rw [if_pos (decide_eq_true (by omega)),if_neg h]
theorem nL {t:As} (h:Fz t) (a:Int):∃r,g74 t a=some r∧Fz r.1:=by
 have hl:=h.1.2.2.1
 obtain ⟨n,h1,h2⟩:=Wj t a (by omega)
 simp only [g74,h1,Option.bind_some]
 rcases h2 with ⟨rfl,h2⟩ | ⟨k,hk,rfl,h2⟩
 ·exact ⟨_,rfl,h⟩
 ·rw [if_neg (by simp),Kj t (by omega)]
  simp only [Option.bind_some,Cc hk,Int.toNat_natCast,List.getElem?_eq_getElem hk]
  obtain ⟨a1,a2,a3,a4,a5⟩:=h.1.at hk
  exact ⟨_,rfl,qD h hk _ rfl a3 a4 (fun hq=>by cases hq) rfl⟩
theorem sK {t:As} (h:Fz t) {k:Nat} (hk:k<t.Af.length) (hq:t.Af[k].Cl=false) (u:Int) (hu:t.clock<u):
  Fz (As.mk t.clock t.next (t.Af.set k (Aa.mk t.Af[k].id (if u<t.Af[k].cap then u else t.Af[k].cap) t.Af[k].cap t.Af[k].Cl))):=by
 obtain ⟨a1,a2,a3,a4,a5⟩:=h.1.at hk
 have:=a5 hq
 have h0:=h.1.1
 exact qD h hk _ rfl (by simp only; split<;>omega) (by simp only; split<;>omega) (fun _=>by simp only; split<;>omega) rfl
theorem EL (c a:Int) (hc:0≤c∧c<9223372036854775807) (ha:1≤a):c<(if c+a≤9223372036854775807 then c+a else 9223372036854775807):=by split<;>omega
theorem nJ {t:As} (h:Fz t) (a b:Int) (hb:1≤b∧b≤9223372036854775807):∃r,g79 t a b=some r∧Fz r.1:=by
 have hl:=h.1.2.2.1
 obtain ⟨n,h1,h2⟩:=Wj t a (by omega)
 simp only [g79,h1,Option.bind_some]
 rw [if_neg (by simp; omega)]
 rcases h2 with ⟨rfl,h2⟩ | ⟨k,hk,rfl,h2⟩
 ·exact ⟨_,rfl,h⟩
 ·rw [if_neg (by simp),Cc hk]
  simp only [Option.bind_some]
  by_cases hq:t.Af[k].Cl=true
  ·rw [if_pos hq]; exact ⟨_,rfl,h⟩
  ·rw [if_neg hq,Kj t (by omega)]
   have hq:t.Af[k].Cl=false:=by simpa using hq
   obtain ⟨a1,a2,a3,a4,a5⟩:=h.1.at hk
   have h0:=h.1.1
   have hc:=h.2.1
   simp only [Option.bind_some,Cc hk,Int.toNat_natCast,List.getElem?_eq_getElem hk,aQ _ _ ⟨h0,hc⟩ hb]
   have hcm:t.clock<9223372036854775807:=by
    have:=a5 hq
    have:=h.2.2 _ (List.getElem_mem hk)
    omega
   exact ⟨_,rfl,sK h hk hq _ (EL _ _ ⟨h0,hcm⟩ hb.1)⟩
theorem rU {t:As} (h:Fz t) (a b:Int) (ha:1≤a∧a≤b∧b≤9223372036854775807):∃r,g70 t a b=some r∧Fz r.1:=by
 have hl:=h.1.2.2.1
 have h0:=h.1.1
 have hc:=h.2.1
 have hn:=h.1.2.1
 simp only [g70]
 have e1:decide (a<1)=false:=decide_eq_false (by omega)
 have e2:decide (b<a)=false:=decide_eq_false (by omega)
 rw [e1,e2]
 simp only [cond_false,Bool.false_eq_true,if_false]
 by_cases hm:t.clock=9223372036854775807
 ·rw [if_pos (by simpa using hm)]; exact ⟨_,rfl,h⟩
 ·rw [if_neg (by simpa using hm)]
  simp only [Cd]
  by_cases hf:t.Af.length=40∨t.next=1000000
  ·rw [if_pos (by rcases hf with hf | hf<;>simp [hf])]; exact ⟨_,rfl,h⟩
  ·have hf1:t.Af.length≠40:=fun e=>hf (.inl e)
   have hf2:t.next≠1000000:=fun e=>hf (.inr e)
   have e3:((t.Af.length:Int)==40)=false:=by simp; omega
   have e4:(t.next==1000000)=false:=by simp; exact hf2
   rw [e3,e4]
   simp only [cond_false,Bool.false_eq_true,if_false,Kj t (by omega),Option.bind_some,aQ _ _ ⟨h0,hc⟩ ⟨ha.1,by omega⟩,aQ _ _ ⟨h0,hc⟩ ⟨by omega,ha.2.2⟩]
   rw [if_pos (by simp; omega)]
   refine ⟨_,rfl,⟨by simp only; exact h0,by simp only; rw [wr ⟨by omega,by omega⟩]; omega,by simp; omega,fun k x hx=>?_⟩,hc,fun x hx=>by
    rcases List.mem_append.1 hx with hx | hx
    ·exact h.2.2 x hx
    ·simp only [List.mem_singleton] at hx; subst hx; simp only; split<;>omega⟩
   simp only at hx
   have hw:IntKind.i64.wrap (t.next+1)=t.next+1:=wr ⟨by omega,by omega⟩
   by_cases hk:k<t.Af.length
   ·rw [List.getElem?_append_left hk] at hx
    obtain ⟨a1,a2,a3,a4,a5⟩:=h.1.2.2.2 k x hx
    refine ⟨by simp only [hw]; omega,fun y hp hy=>?_,a3,a4,a5⟩
    simp only at hy
    rw [List.getElem?_append_left (by omega)] at hy
    exact a2 y hp hy
   ·have hk2:k=t.Af.length:=by
     have:=(List.getElem?_eq_some_iff.1 hx).1
     simp at this; omega
    subst hk2
    simp only [List.getElem?_append_right (Nat.le_refl _),Nat.sub_self,List.getElem?_cons_zero,Option.some.injEq] at hx
    subst hx
    refine ⟨by simp only [hw]; omega,fun y hp hy=>?_,by simp only; split<;>omega,by simp only; split<;>split<;>omega,fun _=>by simp only; split<;>omega⟩
    simp only at hy
    rw [List.getElem?_append_left (by omega)] at hy
    obtain ⟨a1,a2,a3,a4,a5⟩:=h.1.2.2.2 _ y hy
    simp only; omega
end Go.Ev
end
section
set_option maxHeartbeats 1000000
namespace Go.Ev
end Go.Ev
end
section
set_option maxHeartbeats 1000000
namespace Go.Ev
theorem De.mono {l:List Int} {a b b':Int} (h:De l a b) (hb:b≤b'):De l a b':=fun k x hx=>⟨⟨(h k x hx).1.1,by have:=(h k x hx).1.2; omega⟩,(h k x hx).2⟩
theorem De.of {l:List Int} {a b:Int} (h1:∀x∈l,a≤x∧x≤b) (h2:∀i j,∀hj:j<l.length,∀hij:i<j,l[i]'(by omega)<l[j]):De l a b:=fun k x hx=>by
 obtain ⟨hk,rfl⟩:=List.getElem?_eq_some_iff.1 hx
 refine ⟨h1 _ (List.getElem_mem hk),fun y hp hy=>?_⟩
 obtain ⟨hk',rfl⟩:=List.getElem?_eq_some_iff.1 hy
 exact h2 (k-1) k hk (by omega)
theorem De.mem {l:List Int} {a b:Int} (h:De l a b) {x:Int} (hx:x∈l):a≤x∧x≤b:=by
 obtain ⟨k,hk,rfl⟩:=List.getElem_of_mem hx
 exact (h k _ (List.getElem?_eq_getElem hk)).1
theorem De.ge {l:List Int} {b:Int} (h:De l 1 b):∀k,∀hk:k<l.length,(k:Int)+1≤l[k]:=by
 intro k
 induction k with
 | zero=>intro hk; have:=h.mem (List.getElem_mem hk); simp; omega
 | succ k ih=>
  intro hk
  have h1:=ih (by omega)
  have h2:=h.lt hk (show k<k+1 by omega)
  omega
theorem De.len {l:List Int} {b:Int} (h:De l 1 b) (hb:0≤b):(l.length:Int)≤b:=by
 by_cases h0:l.length=0
 ·omega
 ·have h1:=h.ge (l.length-1) (by omega)
  have h2:=h.mem (List.getElem_mem (show l.length-1<l.length by omega))
  omega
theorem tP {l:List Int} {a b:Int} (h:De l a b) {x:Int} {p:Nat} (hp:Ms l x p):Io l x p=true↔x∈l:=by
 unfold Io
 rw [decide_eq_true_eq]
 constructor
 ·intro hx; exact List.mem_of_getElem? hx
 ·intro hx
  obtain ⟨j,hj,rfl⟩:=List.getElem_of_mem hx
  obtain ⟨h1,h2,h3⟩:=hp
  by_cases e:j=p
  ·subst e; exact List.getElem?_eq_getElem hj
  ·by_cases e2:j<p
   ·have:=h2 j hj e2; omega
   ·have:=h.lt hj (show p<j by omega)
    have:=h3 p (by omega) (Nat.le_refl _)
    omega
theorem gP {l:List Int} {a b:Int} (h:De l a b):l.Pairwise (· < ·):=by
 rw [List.pairwise_iff_getElem]
 intro i j hi hj hij
 exact h.lt hj hij
theorem Yw {l:List Int} {a b:Int} (h1:∀x∈l,a≤x∧x≤b) (h2:l.Pairwise (· < ·)):De l a b:=by
 refine De.of h1 fun i j hj hij=>?_
 exact List.pairwise_iff_getElem.1 h2 i j (by omega) hj hij
theorem Zr {l:List Int} {x:Int} {p:Nat} (hp:Ms l x p) {y:Int} (hy:y∈l.take p):y<x:=by
 obtain ⟨j,hj,rfl⟩:=List.getElem_of_mem hy
 simp only [List.length_take] at hj
 rw [List.getElem_take]
 exact hp.2.1 j (by omega) (by omega)
theorem Zq {l:List Int} {x:Int} {p:Nat} (hp:Ms l x p) {y:Int} (hy:y∈l.drop p):x≤y:=by
 obtain ⟨j,hj,rfl⟩:=List.getElem_of_mem hy
 simp only [List.length_drop] at hj
 rw [List.getElem_drop]
 exact hp.2.2 _ (by omega) (by omega)
theorem cM {l:List Int} {M:Int} (h:De l 1 M) {x:Int} (c:Bool) (hx:c=true→1≤x∧x≤M) {p:Nat} (hp:Ms l x p):De (Ld l x c p) 1 M:=by
 have hpw:=gP h
 unfold Ld
 split
 ·split
  ·exact h
  ·rename_i hat
   have hn:x∉l:=fun hm=>hat ((tP h hp).2 hm)
   refine Yw (fun y hy=>?_) ?_
   ·rcases List.mem_append.1 hy with hy | hy
    ·rcases List.mem_append.1 hy with hy | hy
     ·exact h.mem (List.mem_of_mem_take hy)
     ·simp only [List.mem_singleton] at hy; subst hy; exact hx (by assumption)
    ·exact h.mem (List.mem_of_mem_drop hy)
   ·rw [List.append_assoc,List.pairwise_append]
    refine ⟨hpw.sublist (List.take_sublist _ _),?_,fun y hy z hz=>?_⟩
    ·rw [List.singleton_append,List.pairwise_cons]
     refine ⟨fun z hz=>?_,hpw.sublist (List.drop_sublist _ _)⟩
     have h1:=Zq hp hz
     have h2:z≠x:=fun e=>hn (e ▸ List.mem_of_mem_drop hz)
     omega
    ·have h1:=Zr hp hy
     rcases List.mem_append.1 hz with hz | hz
     ·simp only [List.mem_singleton] at hz; subst hz; exact h1
     ·have:=Zq hp hz; omega
 ·split
  ·refine Yw (fun y hy=>?_) ?_
   ·rcases List.mem_append.1 hy with hy | hy
    ·exact h.mem (List.mem_of_mem_take hy)
    ·exact h.mem (List.mem_of_mem_drop hy)
   ·rw [List.pairwise_append]
    refine ⟨hpw.sublist (List.take_sublist _ _),hpw.sublist (List.drop_sublist _ _),fun y hy z hz=>?_⟩
    have h1:=Zr hp hy
    have h2:=Zq hp (y:=z) (by
     rw [←List.drop_drop] at hz
     exact (List.drop_sublist 1 _).mem hz)
    omega
  ·exact h
theorem rem_tab {t:As} (h:Fz t) {k:Nat} (hk:k<t.Af.length):Fz (As.mk t.clock t.next (t.Af.take k++t.Af.drop (k+1))):=by
 have hget:∀j,(t.Af.take k++t.Af.drop (k+1))[j]? = if j<k then t.Af[j]? else t.Af[j+1]? := fun j=>by
  rw [List.getElem?_append]
  simp only [List.length_take,Nat.min_eq_left (Nat.le_of_lt hk)]
  split
  ·rw [List.getElem?_take]; simp [*]
  ·rw [List.getElem?_drop]; congr 1; omega
 refine ⟨⟨h.1.1,h.1.2.1,by have:=h.1.2.2.1; simp; omega,fun j x hx=>?_⟩,h.2.1,fun x hx=>?_⟩
 ·simp only [hget] at hx
  have key:∀i,t.Af[i]? = some x→j≤i→(∀y,0<j→(if j-1<k then t.Af[j-1]? else t.Af[j-1+1]?)=some y→y.id<x.id)→Zh (As.mk t.clock t.next (t.Af.take k++t.Af.drop (k+1))) j x:=fun i hi hji hy=>by
   obtain ⟨a1,a2,a3,a4,a5⟩:=h.1.2.2.2 i x hi
   refine ⟨a1,fun y hp hy'=>?_,a3,a4,a5⟩
   simp only [hget] at hy'
   exact hy y hp hy'
  split at hx
  ·rename_i hjk
   refine key j hx (Nat.le_refl _) fun y hp hy=>?_
   rw [if_pos (by omega)] at hy
   exact (h.1.2.2.2 j x hx).2.1 y hp hy
  ·rename_i hjk
   refine key (j+1) hx (by omega) fun y hp hy=>?_
   obtain ⟨hlt,rfl⟩:=List.getElem?_eq_some_iff.1 hx
   split at hy
   ·obtain ⟨hlt2,rfl⟩:=List.getElem?_eq_some_iff.1 hy
    exact h.1.lt hlt (by omega)
   ·obtain ⟨hlt2,rfl⟩:=List.getElem?_eq_some_iff.1 hy
    exact h.1.lt hlt (by omega)
 ·simp only at hx
  rcases List.mem_append.1 hx with hx | hx
  ·exact h.2.2 x (List.mem_of_mem_take hx)
  ·exact h.2.2 x (List.mem_of_mem_drop hx)
theorem EW {t:As} (h:Fz t) (hn:t.next+1≤1000000):Fz (As.mk t.clock (t.next+1) t.Af):=by
 have hn1:=h.1.2.1
 refine ⟨⟨h.1.1,by simp only; omega,h.1.2.2.1,fun k x hx=>?_⟩,h.2⟩
 obtain ⟨a1,a2,a3,a4,a5⟩:=h.1.2.2.2 k x hx
 exact ⟨by simp only; omega,a2,a3,a4,a5⟩
end Go.Ev
end
section
set_option maxHeartbeats 1000000
namespace Go.Ev
def Zd (a:Ai):Prop:=(a.kind=1→1≤a.ttl∧a.ttl≤a.Db∧a.Db≤9223372036854775807)∧(a.kind=2→1≤a.ttl∧a.ttl≤9223372036854775807)∧(a.kind=4→a.clock≤9223372036854775807)∧a.Bi.length≤1048576
end Go.Ev
end
section
namespace Go.Ev
theorem g127_eq (l:List Int) (f:Int→Option Bool) (p:Int→Bool) (hf:∀x∈l,f x=some (p x)) (hl:l.length≤4611686018427387903):g127 l f=some (Iv l p):=Sr l f p hf hl (fun _=>rfl)
theorem g129_eq (l:List Int) (f:Int→Option Bool) (p:Int→Bool) (hf:∀x∈l,f x=some (p x)) (hl:l.length≤4611686018427387903):g129 l f=some (l.any p):=by
 unfold g129; rw [g127_eq l f p hf hl]; simp only [Option.bind_some,Zx]
theorem g97_eq (l:List Int) (f:Int→Option Bool) (p:Int→Bool) (hf:∀x∈l,f x=some (p x)) (hl:l.length≤4611686018427387903):g97 l f=some (l.all p):=by
 unfold g97; rw [g129_eq l _ (fun x => !p x) (fun x hx=>by simp [g130,hf x hx]) hl]; simp only [Option.bind_some,oL]
theorem rJ (a:Ag):DG a a=some true:=by simp [DG]
theorem DX (l:List Ag) (hl:l.length≤1048576) (hE:∀x∈l,DG x x=some true):g99 l l=some true:=by
 have h:=Rq l (step:=aK l l) (fun k hk=>by
  simp only [aK]
  rw [if_pos (decide_eq_true (by omega)),Cc hk]
  simp [w1 (show k<4611686018427387904 by omega),hE _ (List.getElem_mem hk)]) (by
  simp only [aK]
  rw [if_neg (by simp)])
 unfold g99
 rw [if_neg (by simp),h]
 rfl
end Go.Ev
end
section
set_option maxHeartbeats 1000000
namespace Go.Ev
theorem CW (v:Ap) (h1:v.Ac.Af.length≤1048576) (h2:v.Ad.length≤1048576) (h3:v.Aj.length≤1048576):g49 v v=some true:=by
 simp [g49,g21_eq v.Ac v.Ac h1,DX v.Ad h2 (fun x _=>rJ x),dT v.Aj h3]
end Go.Ev
end
section
set_option maxHeartbeats 1000000
namespace Go.Ev
abbrev digs:List UInt8:=[48,49,50,51,52,53,54,55,56,57,97,98,99,100,101,102]
noncomputable def hx (x:Int):UInt8:=(digs[(gC .i64 x 15).toNat]?).getD 0
abbrev Lo (c:Int) (_:Ag):Ag:=Ag.mk c ((c+1).tmod 3==0)
theorem EE (l:List Ag) (a:Int) (ha:0≤a∧a≤1099511627776) (hl:l.length≤1048576):g315 l a=some (a+2*(l.length:Int),El Lo 2 l a):=by
 have h:=Rk Lo 2 l a (step:=Uh) (fun k p hp hk=>by
  simp only [Uh]
  rw [if_pos (decide_eq_true (by omega)),Cc (l:=p) (k:=k) (by omega)]
  have e0:IntKind.i64.wrap (a+((2:Nat):Int)*(k:Int)+1)=a+((2:Nat):Int)*(k:Int)+1:=wr ⟨by omega,by omega⟩
  have e1:IntKind.i64.wrap (a+((2:Nat):Int)*(k:Int)+1+1)=a+((2:Nat):Int)*((k+1:Nat):Int):=by rw [wr ⟨by omega,by omega⟩]; omega
  simp only [Option.bind_some,Int.toNat_natCast,e0,e1,w1 (show k<4611686018427387904 by omega),Cd]
  rw [List.getElem?_eq_getElem (by omega)]
  simp only [Option.bind_some]
  rw [Cc (by simp; omega),List.getElem?_eq_getElem (by simp; omega)]
  simp only [Option.bind_some,List.set_set,List.getElem_set_self]) (fun p c hp=>by
  simp only [Uh]
  rw [if_neg (by simp; omega)])
 simp only [g315,h,Option.bind_some]
 simp
end Go.Ev
end
section
set_option maxHeartbeats 1000000
namespace Go.Ev
end Go.Ev
end
section
set_option maxHeartbeats 1000000
namespace Go.Ev
end Go.Ev
end
section
set_option maxHeartbeats 1000000
namespace Go.Ev
theorem iheld (l:List Ag) (a:Int) (ha:0≤a∧a≤1099511627776) (hl:l.length≤1048576):g324 (El Lo 2 l a) a=some (a+2*(l.length:Int)):=by
 have h:=Ec (step:=Rd (El Lo 2 l a)) (fun k=>(a+2*(k:Int),(k:Int))) l.length (.inl (a+2*(l.length:Int))) (fun k hk=>by
  simp only [Rd]
  rw [if_pos (decide_eq_true (by simp; omega)),Cc (by simp; omega)]
  have e0:IntKind.i64.wrap (a+2*(k:Int)+1)=a+2*(k:Int)+1:=wr ⟨by omega,by omega⟩
  have e1:IntKind.i64.wrap (a+2*(k:Int)+1+1)=a+2*((k+1:Nat):Int):=by rw [wr ⟨by omega,by omega⟩]; omega
  simp only [Option.bind_some,e0,e1,Sy,w1 (show k<4611686018427387904 by omega)]
  simp) (by
  simp only [Rd]
  rw [if_neg (by simp)])
 have h':By (Rd (El Lo 2 l a)) (a,0)=some (.inl (a+2*(l.length:Int))):=by
  rw [show a+2*((0:Nat):Int)=a by simp] at h; exact h
 simp only [g324,h',Option.bind_some]
theorem nU (v:Ap) (h1:v.Ac.Af.length≤1048576) (h2:v.Ad.length≤1048576) (h3:v.Aj.length≤1048576):
  ∃n x y z,mN v 1=some (n,x,y,z)∧0≤n∧x.length=v.Ac.Af.length∧y.length=v.Ad.length∧z.length=v.Aj.length ∧
   DM (Ap.mk (As.mk v.Ac.clock v.Ac.next x) y z v.Am) 1=some n:=by
 have e:=show mN v 1=some (1+4*(v.Ac.Af.length:Int)+2*(v.Ad.length:Int)+(v.Aj.length:Int),Hx v.Ac.Af.length 1,El Lo 2 v.Ad (1+4*(v.Ac.Af.length:Int)),El (fun c _=>c) 1 v.Aj (1+4*(v.Ac.Af.length:Int)+2*(v.Ad.length:Int))) by
  simp only [mN,DN v.Ac h1,Option.bind_some,Ku,if_true,EE v.Ad (1+4*(v.Ac.Af.length:Int)) (by omega) h2,marked_len,dS v.Aj (1+4*(v.Ac.Af.length:Int)+2*(v.Ad.length:Int)) (by omega) h3]
 refine ⟨_,_,_,_,e,by omega,Ku _ _,by simp,by simp,?_⟩
 unfold DM
 rw [g27_eq _ _ _ h1,Option.bind_some,if_neg (by simp; omega),iheld v.Ad _ (by omega) h2,Option.bind_some,if_neg (by simp; omega),rX v.Aj _ (by omega) h3,Option.bind_some,if_neg (by simp; omega)]
end Go.Ev
end
section
namespace Go.Ev
theorem g475_eq (l:List Ag) (f:Ag→Option Bool) (p:Ag→Bool) (hf:∀x∈l,f x=some (p x)) (hl:l.length≤4611686018427387903):g475 l f=some (Iv l p):=Sr l f p hf hl (fun _=>rfl)
theorem g473_eq (l:List Ag) (f:Ag→Option Bool) (p:Ag→Bool) (hf:∀x∈l,f x=some (p x)) (hl:l.length≤4611686018427387903):DT l f=some (l.filter fun x => !p x):=by
 unfold DT; rw [g475_eq l f p hf hl]; exact iU l f p hf hl _ (fun _ _ _=>rfl)
theorem pE (l:List Ag) (hl:l.length≤1048576):mP l=some l:=by
 unfold mP; rw [if_pos (by simp; omega)]
theorem g468_eq (l:List Ai) (f:Ai→Option Bool) (p:Ai→Bool) (hf:∀x∈l,f x=some (p x)) (hl:l.length≤4611686018427387903):g468 l f=some (Iv l p):=Sr l f p hf hl (fun _=>rfl)
theorem g461_eq (l:List Ai) (f:Ai→Option Bool) (p:Ai→Bool) (hf:∀x∈l,f x=some (p x)) (hl:l.length≤4611686018427387903):g461 l f=some (l.any p):=by
 unfold g461; rw [g468_eq l f p hf hl]; simp only [Option.bind_some,Zx]
theorem g456_eq (l:List Ai) (f:Ai→Option Bool) (p:Ai→Bool) (hf:∀x∈l,f x=some (p x)) (hl:l.length≤4611686018427387903):g456 l f=some (l.all p):=by
 unfold g456; rw [g461_eq l _ (fun x => !p x) (fun x hx=>by simp [g462,hf x hx]) hl]; simp only [Option.bind_some,oL]
end Go.Ev
end
