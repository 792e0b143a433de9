/- The plain part of the proof: what the functions compute answers as the law says. -/
import Derived.Test.YtfpbbpkdjmldkaaGreatQvL
import Derived.Test.YtfpbbpkdjmldkaaGreatQvM
import Derived.Test.YtfpbbpkdjmldkaaGreatQgD
import Derived.Sort.AssemblyPlain
import Derived.Sort.LotA
set_option linter.all false
section
namespace Go.Ev
noncomputable def tf (P:Prop):Bool:=@decide P (Classical.propDecidable P)
@[simp] theorem tf_iff {P:Prop}:tf P=true↔P:=by unfold tf; exact @decide_eq_true_iff P (Classical.propDecidable P)
@[simp] theorem tf_false {P:Prop}:tf P=false↔¬P:=by rw [←Bool.not_eq_true,tf_iff]
theorem oN {P Q:Prop} (h:P↔Q):tf P=tf Q:=by rw [propext h]
theorem Kg {P:Prop} (h:P):tf P=true:=tf_iff.2 h
theorem Hr {P:Prop} (h:¬P):tf P=false:=tf_false.2 h
theorem dec_tf {P:Prop} [Decidable P]:decide P=tf P:=by
 by_cases h:P
 ·rw [Kg h,decide_eq_true h]
 ·rw [Hr h,decide_eq_false h]
theorem tf_and {P Q:Prop}:(tf P&&tf Q)=tf (P∧Q):=by
 by_cases h:P
 ·rw [Kg h,Bool.true_and]; exact oN (by simp [h])
 ·rw [Hr h,Bool.false_and,Hr (fun hh=>h hh.1)]
theorem sY {a b:Bool}:(bif a then b else false)=(a&&b):=by cases a<;>rfl
theorem if_tf {α:Type} {P:Prop} {a b:α} (h:P):(if tf P=true then a else b)=a:=by rw [Kg h]; rfl
theorem if_tfn {α:Type} {P:Prop} {a b:α} (h:¬P):(if tf P=true then a else b)=b:=by rw [Hr h]; rfl
abbrev I64 (n:Int):Prop := -9223372036854775808≤n∧n≤9223372036854775807
theorem wr {n:Int} (h:I64 n):IntKind.i64.wrap n=n:=by
 obtain ⟨h1,h2⟩:=h
 have e:IntKind.i64.wrap n=if n%18446744073709551616≥9223372036854775808 then n%18446744073709551616-18446744073709551616 else n%18446744073709551616:=by
  simp [IntKind.wrap,IntKind.bits,IntKind.signed]
 rw [e]
 split<;>omega
theorem kE {α:Type} {l:List α} {k:Nat}:El l (k:Int)=l[k]? := by
 unfold El
 rw [if_pos (by omega)]
 simp
theorem Bx {α:Type} {l:List α} {k:Nat} (h:k<l.length):El l (k:Int)=some l[k]:=by
 rw [kE,List.getElem?_eq_getElem h]
section
variable {σ ρ:Type} {step:σ→Option (σ⊕ρ)}
theorem Mf (st:Nat→σ):∀n,(∀k,k<n→step (st k)=some (.inl (st (k+1))))→Ce step (st 0)=Ce step (st n)
 | 0,_=>rfl
 | n+1,h=>by
  rw [Mf st n fun k hk=>h k (by omega),Dw (h n (by omega))]
theorem Cz (st:Nat→σ) (n:Nat) (r:ρ) (h:∀k,k<n→step (st k)=some (.inl (st (k+1)))) (he:step (st n)=some (.inr r)):Ce step (st 0)=some r:=by
 rw [Mf st n h,Ea he]
theorem dI (st:Nat→σ) (n:Nat) (ok:Nat→Prop) (bad:Nat→ρ) (fin:ρ) (h1:∀k,k<n→(∀j,j<k→ok j)→ok k→step (st k)=some (.inl (st (k+1))))
  (h2:∀k,k<n→(∀j,j<k→ok j)→¬ok k→step (st k)=some (.inr (bad k))) (he:(∀j,j<n→ok j)→step (st n)=some (.inr fin)):
  ((∀k,k<n→ok k)→Ce step (st 0)=some fin)∧(∀k,k<n→(∀j,j<k→ok j)→¬ok k→Ce step (st 0)=some (bad k)):=by
 constructor
 ·intro h
  exact Cz st n fin (fun k hk=>h1 k hk (fun j hj=>h j (by omega)) (h k hk)) (he h)
 ·intro k hk hj hn
  rw [Mf st k fun i hi=>h1 i (by omega) (fun j hj'=>hj j (by omega)) (hj i hi)]
  exact Ea (h2 k hk hj hn)
theorem Rd {n:Nat} {ok:Nat→Prop} (h:¬ ∀k,k<n→ok k):∃k,k<n∧(∀j,j<k→ok j)∧¬ok k:=by
 obtain ⟨k,hk⟩:=Classical.not_forall.1 h
 rw [Classical.not_imp] at hk
 obtain ⟨h1,h2⟩:=hk
 induction k using Nat.strongRecOn with
 | _ k ih=>
  by_cases hex:∃j,j<k∧¬ok j
  ·obtain ⟨j,hj,hn⟩:=hex
   exact ih j hj (by omega) hn
  ·exact ⟨k,h1,fun j hj=>Classical.byContradiction fun hn=>hex ⟨j,hj,hn⟩,h2⟩
end
theorem JY {α:Type} {step:Int→Option (Int⊕(Unit⊕Bool))} (l:List α) (ok:Nat→α→Prop)
  (h1:∀k (hk:k<l.length),(∀j x,j<k→l[j]? = some x→ok j x)→∃v:Bool,(v=true↔¬ok k l[k])∧step (k:Int)=(if v=true then some (.inr (.inr false)) else some (.inl ((k+1:Nat):Int))))
  (h3:step (l.length:Int)=some (.inr (.inl ()))):Ce step 0=some (if tf (∀k x,l[k]? = some x→ok k x)=true then .inl () else .inr false):=by
 have pre:∀k,(∀j,j<k→∀h:j<l.length,ok j l[j])→∀j x,j<k→l[j]? = some x→ok j x:=fun k hj j x hjk hx=>by
  obtain ⟨hlt,rfl⟩:=List.getElem?_eq_some_iff.1 hx
  exact hj j hjk hlt
 have hh:=dI (step:=step) (fun k=>(k:Int)) l.length (fun k=>∀h:k<l.length,ok k l[k]) (fun _=>.inr false) (.inl ()) (fun k hk hj ho=>by
  obtain ⟨v,hv,hs⟩:=h1 k hk (pre k hj)
  rw [hs,if_neg (fun h=>hv.1 h (ho hk))]) (fun k hk hj ho=>by
  obtain ⟨v,hv,hs⟩:=h1 k hk (pre k hj)
  rw [hs,if_pos (hv.2 fun h=>ho fun _=>h)]) (fun _=>h3)
 by_cases h:∀k x,l[k]? = some x→ok k x
 ·rw [if_tf h]; exact hh.1 fun k hk _=>h k _ (List.getElem?_eq_getElem hk)
 ·rw [if_tfn h]
  obtain ⟨k,hk,hj,ho⟩:=Rd (n:=l.length) (ok:=fun k=>∀h:k<l.length,ok k l[k]) fun hall=>h fun k x hx=>by
   obtain ⟨hlt,rfl⟩:=List.getElem?_eq_some_iff.1 hx
   exact hall k hlt hlt
  exact hh.2 k hk hj ho
theorem sG {b:Bool} {P:Prop} (h:b=true↔P):some b=some (tf P):=by
 congr 1
 rw [Bool.eq_iff_iff,tf_iff,h]
theorem mU {α:Type} [Inhabited α] {g:Bool} {o:Option α} (h:g=true→∃y,o=some y):∃y,(if g=true then o else some default)=some y∧(g=true→o=some y):=by
 cases g with
 | true=>obtain ⟨y,hy⟩:=h rfl; exact ⟨y,by simpa using hy,fun _=>hy⟩
 | false=>exact ⟨default,rfl,fun h=>by cases h⟩
end Go.Ev
end
section
namespace Go.Ev
theorem Oe {σ ρ:Type} {step:σ→Option (σ⊕ρ)} (I:σ→Prop) (μ:σ→Nat) (R:ρ→Prop) (s0:σ) (h0:I s0)
  (h:∀s,I s→(∃s',step s=some (.inl s')∧I s'∧μ s'<μ s)∨(∃r,step s=some (.inr r)∧R r)):∃r,Ce step s0=some r∧R r:=by
 have key:∀(n:Nat) (s0:σ),μ s0<n→I s0→∃r,Ce step s0=some r∧R r:=by
  intro n
  induction n with
  | zero=>intro s0 hn; omega
  | succ n ih=>
   intro s0 hn hI
   rcases h s0 hI with ⟨s',h1,h2,h3⟩ | ⟨r,h1,h2⟩
   ·obtain ⟨r,h4,h5⟩:=ih s' (by omega) h2
    exact ⟨r,by rw [Dw h1,h4],h5⟩
   ·exact ⟨r,Ea h1,h2⟩
 exact key (μ s0+1) s0 (by omega) h0
theorem w1 {k:Nat} (h:k<4611686018427387904):IntKind.i64.wrap ((k:Int)+1)=((k+1:Nat):Int):=wr ⟨by omega,by omega⟩
theorem Tz {α:Type} (l:List α) (a b:Nat) (h:a≤b) (h2:b≤l.length):Lp l (a:Int) (b:Int)=some ((l.take b).drop a):=by
 unfold Lp
 rw [if_pos ⟨by omega,by omega,by omega⟩]
 simp
theorem ovlK {α:Type} (l:List α) (n:Nat) (y:List α) (h:n+y.length=l.length):ovl l n y=l.take n++y:=by
 apply List.ext_getElem
 ·simp [ovl]; omega
 ·intro k h1 h2
  simp only [ovl,List.length_mapIdx] at h1
  simp only [ovl,List.getElem_mapIdx,List.getElem_append]
  by_cases hn:n≤k
  ·rw [if_pos hn,dif_neg (by simp; omega),List.getElem?_eq_getElem (by omega:k-n<y.length)]
   simp only [Option.getD_some,List.length_take]
   congr 1; omega
  ·rw [if_neg hn,dif_pos (by simp; omega),List.getElem_take]
def Gj {α:Type} (l:List α) (p:α→Bool):Int:=match l.findIdx? p with
 | some k=>(k:Int)
 | none => -1
theorem Md {α:Type} (l:List α) (f:α→Option Bool) (p:α→Bool) (hf:∀x∈l,f x=some (p x)) (hl:l.length≤4611686018427387903) {step:Int→Option (Int⊕(Unit⊕Int))}
  (hs:∀s,step s=if decide (s<(l.length:Int))=true then (El l s).bind fun y=>(f y).bind fun r=>if r=true then some (.inr (.inr s)) else some (.inl (IntKind.i64.wrap (s+1))) else some (.inr (.inl ()))):
  (Ce step 0).bind (fun r=>match r with | .inl ()=>some (-1) | .inr q=>some q)=some (Gj l p):=by
 have go:∀k (hk:k<l.length),p l[k]=false→step (k:Int)=some (.inl ((k+1:Nat):Int)):=fun k hk hp=>by
  rw [hs,if_pos (decide_eq_true (by omega)),Bx hk]
  simp [hf _ (List.getElem_mem hk),hp,w1 (show k<4611686018427387904 by omega)]
 unfold Gj
 cases hfi:l.findIdx? p with
 | none=>
  have hall:∀x∈l,p x=false:=by simpa using List.findIdx?_eq_none_iff.1 hfi
  have:=Cz (step:=step) (fun k=>(k:Int)) l.length (.inl ()) (fun k hk=>go k hk (hall _ (List.getElem_mem hk))) (by rw [hs,if_neg (by simp)])
  rw [show (0:Int)=((0:Nat):Int) from rfl,this]
  rfl
 | some k=>
  obtain ⟨hk,hp,hj⟩:=List.findIdx?_eq_some_iff_getElem.1 hfi
  have:=Mf (step:=step) (fun k=>(k:Int)) k (fun j hj'=>go j (by omega) (by simpa using hj j hj'))
  rw [show (0:Int)=((0:Nat):Int) from rfl,this,Ea (r:=.inr (k:Int)) (by
   rw [hs,if_pos (decide_eq_true (by omega)),Bx hk]
   simp [hf _ (List.getElem_mem hk),hp])]
  rfl
theorem Oy {α:Type} (l:List α) (p:α→Bool):decide (Gj l p≥0)=l.any p:=by
 unfold Gj
 cases hfi:l.findIdx? p with
 | none=>
  have hall:∀x∈l,p x=false:=by simpa using List.findIdx?_eq_none_iff.1 hfi
  rw [show l.any p=false from List.any_eq_false.2 fun x hx=>by simp [hall x hx]]
  rfl
 | some k=>
  obtain ⟨hk,hp,hj⟩:=List.findIdx?_eq_some_iff_getElem.1 hfi
  rw [show l.any p=true from List.any_eq_true.2 ⟨_,List.getElem_mem hk,hp⟩]
  simp
theorem aM {α:Type} (l:List α) (p:α→Bool):(!l.any fun x => !p x)=l.all p:=by
 induction l with
 | nil=>rfl
 | cons x r ih=>simp only [List.any_cons,List.all_cons,Bool.not_or,Bool.not_not,ih]
theorem mE {α:Type} (l:List α) (f:α→Option Bool) (p:α→Bool) (hf:∀x∈l,f x=some (p x)) (hl:l.length≤4611686018427387903) (z:α) {step:List α×Int×Int→Option ((List α×Int×Int)⊕(List α×Int))}
  (hs:∀row i j,step (row,i,j)=if decide (j<(row.length:Int))=true then (El row j).bind fun _=>(row[j.toNat]?).bind fun y=>(f y).bind fun r=>
   if (!r)=true then (El row i).bind fun _=>(row[i.toNat]?).bind fun _=>some (.inl (row.set i.toNat y,IntKind.i64.wrap (i+1),IntKind.i64.wrap (j+1))) else some (.inl (row,i,IntKind.i64.wrap (j+1)))
   else some (.inr (row,i))):
  (if (Gj l p==(-1))=true then some l else (Ce step (l,Gj l p,IntKind.i64.wrap (Gj l p+1))).bind fun r=>
   (match r with
   | (a,b)=>(Lp a b (a.length:Int)).bind fun s=>(Lp (ovl a b.toNat (List.replicate s.length z)) 0 b).bind fun s2=>some s2))=some (l.filter fun x => !p x):=by
 unfold Gj
 cases hfi:l.findIdx? p with
 | none=>
  have hall:∀x∈l,p x=false:=by simpa using List.findIdx?_eq_none_iff.1 hfi
  rw [if_pos (by rfl)]
  congr 1
  exact (List.filter_eq_self.2 fun x hx=>by simp [hall x hx]).symm
 | some k=>
  obtain ⟨hk,hp,hj⟩:=List.findIdx?_eq_some_iff_getElem.1 hfi
  simp only
  rw [if_neg (by simp)]
  have hk0:l.take k=(l.take (k+1)).filter fun x => !p x:=by
   rw [List.take_succ_eq_append_getElem hk,List.filter_append]
   have e1:(l.take k).filter (fun x => !p x)=l.take k:=List.filter_eq_self.2 fun x hx=>by
    obtain ⟨j,hj1,rfl⟩:=List.getElem_of_mem hx
    simp only [List.length_take] at hj1
    have:=hj j (by omega)
    simpa using this
   rw [e1]; simp [hp]
  obtain ⟨r,h3,h4⟩:=Oe (step:=step) (fun s=>∃i j:Nat,s.2.1=i∧s.2.2=j∧i≤j∧j≤l.length∧s.1.length=l.length∧s.1.take i=(l.take j).filter (fun x => !p x)∧s.1.drop j=l.drop j)
   (fun s=>(l.length-s.2.2).toNat) (fun r=>∃i:Nat,r.2=i∧i≤r.1.length∧r.1.length=l.length∧r.1.take i=l.filter fun x => !p x) (l,(k:Int),IntKind.i64.wrap ((k:Int)+1))
   ⟨k,k+1,rfl,w1 (by omega),by omega,by omega,rfl,hk0,rfl⟩ (by
    rintro ⟨row,_,_⟩ ⟨i,j,rfl,rfl,hij,hjl,hlen,ht,hd⟩
    simp only at hlen ht hd
    rw [hs]
    by_cases hlt:j<l.length
    ·have hrj:row[j]'(by omega)=l[j]:=by
      have e1:=congrArg (fun z=>z[0]?) hd
      simp only [List.getElem?_drop,Nat.add_zero] at e1
      rw [List.getElem?_eq_getElem (by omega),List.getElem?_eq_getElem hlt] at e1
      exact Option.some.inj e1
     have hwi:=w1 (show i<4611686018427387904 by omega)
     have hwj:=w1 (show j<4611686018427387904 by omega)
     have hd':row.drop (j+1)=l.drop (j+1):=by
      have:=congrArg (List.drop 1) hd
      simpa [List.drop_drop,Nat.add_comm] using this
     rw [if_pos (decide_eq_true (by omega)),Bx (by omega)]
     simp only [Option.bind_some,Int.toNat_natCast]
     rw [List.getElem?_eq_getElem (by omega)]
     simp only [Option.bind_some,hrj,hf _ (List.getElem_mem hlt)]
     left
     cases hpj:p l[j] with
     | false=>
      rw [if_pos (by rfl),Bx (by omega)]
      simp only [Option.bind_some]
      rw [List.getElem?_eq_getElem (by omega)]
      simp only [Option.bind_some,hwi,hwj]
      refine ⟨_,rfl,⟨i+1,j+1,rfl,rfl,by omega,by omega,by simp [hlen],?_,?_⟩,by simp only; omega⟩
      ·simp only
       rw [List.take_succ_eq_append_getElem (by simp; omega),List.take_succ_eq_append_getElem hlt,List.filter_append,←ht]
       simp [hpj,List.take_set_of_le]
      ·simp only
       rw [List.drop_set_of_lt (by omega),hd']
     | true=>
      rw [if_neg (by simp)]
      simp only [hwj]
      refine ⟨_,rfl,⟨i,j+1,rfl,rfl,by omega,by omega,hlen,?_,hd'⟩,by simp only; omega⟩
      simp only
      rw [List.take_succ_eq_append_getElem hlt,List.filter_append,←ht]
      simp [hpj]
    ·rw [if_neg (by simp; omega)]
     right
     refine ⟨_,rfl,i,rfl,by simp only; omega,hlen,?_⟩
     simp only
     rw [ht,List.take_of_length_le (by omega)])
  obtain ⟨row,i'⟩:=r
  obtain ⟨i,hi,hil,hlen,ht⟩:=h4
  simp only at hi hil hlen ht
  subst hi
  rw [h3]
  simp only [Option.bind_some]
  rw [Tz _ _ _ hil (Nat.le_refl _)]
  simp only [Option.bind_some,Int.toNat_natCast,List.take_length]
  rw [ovlK _ _ _ (by simp; omega)]
  have e:=Tz (row.take i++List.replicate (row.drop i).length z) 0 i (by omega) (by simp; omega)
  rw [show ((0:Nat):Int)=0 from rfl] at e
  rw [e]
  simp only [Option.bind_some,List.drop_zero]
  rw [List.take_append_of_le_length (by simp; omega),List.take_take,Nat.min_self,ht]
theorem To {α:Type} (l:List α) {step:Int→Option (Int⊕(Unit⊕Bool))}
  (hs:∀k,k<l.length→step (k:Int)=some (.inl ((k+1:Nat):Int))) (he:step (l.length:Int)=some (.inr (.inl ()))):Ce step 0=some (.inl ()):=
 Cz (step:=step) (fun k=>(k:Int)) l.length (.inl ()) hs he
def KG {α:Type} (mk:Int→α→α) (w:Nat) (l:List α) (a:Int):List α:=l.mapIdx fun i x=>mk (a+(w:Int)*(i:Int)) x
@[simp] theorem marked_len {α:Type} (mk:Int→α→α) (w:Nat) (l:List α) (a:Int):(KG mk w l a).length=l.length:=by simp [KG]
theorem zF {n:Nat} (ok:Nat→Bool) {step:Int→Option (Int⊕(Unit⊕Bool))}
  (hs:∀k,k<n→(∀j,j<k→ok j=true)→step (k:Int)=if (!ok k)=true then some (.inr (.inr false)) else some (.inl ((k+1:Nat):Int))) (he:step (n:Int)=some (.inr (.inl ()))):
  (Ce step 0).bind (fun r=>match r with | .inl ()=>some true | .inr q=>some q)=some ((List.range n).all ok):=by
 by_cases h:∀k,k<n→ok k=true
 ·have:=Cz (step:=step) (fun k=>(k:Int)) n (.inl ()) (fun k hk=>by rw [hs k hk (fun j hj=>h j (by omega)),h k hk]; rfl) he
  rw [show (0:Int)=((0:Nat):Int) from rfl,this]
  rw [show (List.range n).all ok=true from List.all_eq_true.2 fun x hx=>h x (List.mem_range.1 hx)]
  rfl
 ·obtain ⟨k,hk,hj,hn⟩:=Rd h
  have hf:ok k=false:=by simpa using hn
  have:=Mf (step:=step) (fun k=>(k:Int)) k (fun j hj'=>by rw [hs j (by omega) (fun i hi=>hj i (by omega)),hj j hj']; rfl)
  rw [show (0:Int)=((0:Nat):Int) from rfl,this,Ea (r:=.inr false) (by rw [hs k hk hj,hf]; rfl)]
  rw [show (List.range n).all ok=false from List.all_eq_false.2 ⟨k,List.mem_range.2 hk,by simp [hf]⟩]
  rfl
theorem Uo {P:UInt8→Prop} (h:∀n:Fin 256,P (UInt8.ofNat n.val)) (y:UInt8):P y:=by
 have:=h ⟨y.toNat,y.toNat_lt⟩
 simpa using this
end Go.Ev
end
section
namespace Go.Ev
theorem AlE (l:List Aw) (f:Aw→Option Bool) (p:Aw→Bool) (hf:∀x∈l,f x=some (p x)) (hl:l.length≤4611686018427387903):g367 l f=some (Gj l p):=Md l f p hf hl (fun _=>rfl)
theorem Alz (l:List Aw) (f:Aw→Option Bool) (p:Aw→Bool) (hf:∀x∈l,f x=some (p x)) (hl:l.length≤4611686018427387903):Aly l f=some (l.any p):=by
 unfold Aly; rw [AlE l f p hf hl]; simp only [Option.bind_some,Oy]
theorem Alp (l:List Aw) (f:Aw→Option Bool) (p:Aw→Bool) (hf:∀x∈l,f x=some (p x)) (hl:l.length≤4611686018427387903):Alo l f=some (l.all p):=by
 unfold Alo; rw [Alz l _ (fun x => !p x) (fun x hx=>by simp [AlA,hf x hx]) hl]; simp only [Option.bind_some,aM]
theorem Su (l:List UInt8) (hl:l.length≤1048576):jO l=some l:=by
 unfold jO; rw [if_pos (by simp; omega)]
end Go.Ev
end
section
namespace Go.Ev
def bT (s:Aw):Prop:=(0≤s.at_∧s.at_≤127)∧s.data.length=32
def Mq (d:Ay):Prop:=d.held.length%32=0∧d.held.length≤4096∧d.Av.length≤4096∧∀s∈d.Av,bT s
def Kt (b:List UInt8) (n:Nat):List UInt8:=b++List.replicate (n-b.length) 0
@[simp] theorem padB_len (b:List UInt8) (n:Nat):(Kt b n).length=max b.length n:=by simp [Kt]; omega
def Mp (b:List UInt8) (k:Nat) (d:List UInt8):List UInt8:=(Kt b (32*(k+1))).take (32*k)++d++(Kt b (32*(k+1))).drop (32*k+32)
theorem eD (b:List UInt8) (k:Nat) (d:List UInt8) (h:d.length=32):(Mp b k d).length=max b.length (32*(k+1)):=by
 simp [Mp,h]; omega
def gt (l:List UInt8) (i:Nat):UInt8:=l[i]?.getD 0
theorem kB (b:List UInt8) (n i:Nat):gt (Kt b n) i=gt b i:=by
 unfold gt Kt
 by_cases h:i<b.length
 ·rw [List.getElem?_append_left h]
 ·rw [List.getElem?_append_right (by omega),List.getElem?_eq_none (by omega:b.length≤i)]
  by_cases h2:i-b.length<n-b.length
  ·rw [List.getElem?_replicate,if_pos h2]; rfl
  ·rw [List.getElem?_replicate,if_neg h2]
theorem JQ (b:List UInt8) (k i:Nat) (d:List UInt8) (h:d.length=32):gt (Mp b k d) i=if 32*k≤i∧i<32*k+32 then gt d (i-32*k) else gt b i:=by
 have hp:∀j,gt (Kt b (32*(k+1))) j=gt b j:=kB b _
 unfold gt at hp ⊢
 unfold Mp
 have hlen:((Kt b (32*(k+1))).take (32*k)).length=32*k:=by simp; omega
 by_cases h1:i<32*k
 ·rw [if_neg (by omega),List.append_assoc,List.getElem?_append_left (by omega),List.getElem?_take_of_lt h1,hp]
 ·by_cases h2:i<32*k+32
  ·rw [if_pos ⟨by omega,h2⟩,List.append_assoc,List.getElem?_append_right (by omega),hlen,List.getElem?_append_left (by omega)]
  ·rw [if_neg (by omega),List.getElem?_append_right (by simp; omega),List.getElem?_drop]
   rw [←hp]
   congr 2
   simp; omega
def Eg (d:Ay):List UInt8:=d.Av.foldl (fun b s=>Mp b s.at_.toNat s.data) d.held
theorem mM (l:List Aw) (b:List UInt8) (hl:∀s∈l,bT s) (h1:b.length%32=0) (h2:b.length≤4096):
  (l.foldl (fun b s=>Mp b s.at_.toNat s.data) b).length%32=0∧(l.foldl (fun b s=>Mp b s.at_.toNat s.data) b).length≤4096∧b.length≤(l.foldl (fun b s=>Mp b s.at_.toNat s.data) b).length:=by
 induction l generalizing b with
 | nil=>exact ⟨h1,h2,Nat.le_refl _⟩
 | cons s r ih=>
  have hs:=hl s (by simp)
  have hlen:=eD b s.at_.toNat s.data hs.2
  have:=hs.1
  obtain ⟨i1,i2,i3⟩:=ih (Mp b s.at_.toNat s.data) (fun x hx=>hl x (by simp [hx])) (by rw [hlen]; omega) (by rw [hlen]; omega)
  exact ⟨i1,i2,by have:=i3; simp only [List.foldl_cons]; omega⟩
theorem iJ (d:Ay) (h:Mq d):(Eg d).length%32=0∧(Eg d).length≤4096∧d.held.length≤(Eg d).length:=mM d.Av d.held h.2.2.2 h.1 h.2.1
theorem MT {k:Nat} (h:k≤1099511627776):IntKind.i64.wrap (32*(k:Int))=((32*k:Nat):Int):=by rw [wr ⟨by omega,by omega⟩]; omega
theorem nU (b:List UInt8) (k:Nat) (d:List UInt8) (h:d.length=32) (hb:32*(k+1)≤b.length):
  ((Lp b ((32*k:Nat):Int) (b.length:Int)).bind fun s=>Bs (ovl b (((32*k:Nat):Int)).toNat (d.take s.length)) fun v=>some v)=some (Mp b k d):=by
 rw [Tz _ _ _ (by omega) (Nat.le_refl _)]
 simp only [Option.bind_some,Bs,Int.toNat_natCast,List.take_length,List.length_drop]
 rw [List.take_of_length_le (by omega)]
 congr 1
 have hp:Kt b (32*(k+1))=b:=by simp [Kt,show 32*(k+1)-b.length=0 by omega]
 unfold Mp
 rw [hp]
 apply List.ext_getElem
 ·simp [ovl]; omega
 ·intro i h1 h2
  simp only [ovl,List.length_mapIdx] at h1
  simp only [ovl,List.getElem_mapIdx,List.getElem_append,List.length_take,List.length_append]
  by_cases c1:32*k≤i
  ·rw [if_pos c1]
   by_cases c2:i<32*k+32
   ·rw [dif_pos (by omega),dif_neg (by omega),List.getElem?_eq_getElem (by omega)]
    simp only [Option.getD_some]
    congr 1; omega
   ·rw [dif_neg (by omega),List.getElem?_eq_none (by omega)]
    simp only [Option.getD_none,List.getElem_drop]
    congr 1; omega
  ·rw [if_neg c1,dif_pos (by omega),dif_pos (by omega),List.getElem_take]
theorem tR (b:List UInt8) (s:Aw) (hs:bT s) (hb:b.length≤1048576):IT b s=some (Mp b s.at_.toNat s.data):=by
 obtain ⟨k,hk⟩:∃k:Nat,s.at_=k:=⟨s.at_.toNat,by have:=hs.1; omega⟩
 have hk1:k≤127:=by have:=hs.1; omega
 have e1:IntKind.i64.wrap (s.at_+1)=((k+1:Nat):Int):=by rw [hk]; exact w1 (by omega)
 have e2:=MT (show k+1≤1099511627776 by omega)
 have e3:IntKind.i64.wrap (32*s.at_)=((32*k:Nat):Int):=by rw [hk]; exact MT (by omega)
 simp only [IT,Bs,e1,e2]
 have e4:s.at_.toNat=k:=by omega
 rw [e4]
 by_cases hlt:b.length<32*(k+1)
 ·have e5:IntKind.i64.wrap (((32*(k+1):Nat):Int)-(b.length:Int))=((32*(k+1)-b.length:Nat):Int):=by rw [wr ⟨by omega,by omega⟩]; omega
  rw [if_pos (decide_eq_true (by omega)),e5,if_pos (by omega),if_pos (by omega)]
  simp only [Wk,e3,Int.toNat_natCast]
  have hlen:(b++List.replicate (32*(k+1)-b.length) (0:UInt8)).length=32*(k+1):=by simp; omega
  have:=nU (b++List.replicate (32*(k+1)-b.length) 0) k s.data hs.2 (by omega)
  simp only [Int.toNat_natCast] at this
  rw [this]
  congr 1
  have hp:Kt (b++List.replicate (32*(k+1)-b.length) 0) (32*(k+1))=Kt b (32*(k+1)):=by
   conv=>lhs; unfold Kt
   rw [hlen]
   simp [Kt]
  unfold Mp
  rw [hp]
 ·rw [if_neg (by simp; omega)]
  simp only [Wk,e3]
  exact nU b k s.data hs.2 (by omega)
theorem wP (l:List Aw) (b:List UInt8) (hl:∀s∈l,bT s) (hn:l.length≤1048576) (h1:b.length%32=0) (h2:b.length≤4096) {step:List UInt8×Int→Option ((List UInt8×Int)⊕List UInt8)}
  (hs:∀k (hk:k<l.length) (p:List UInt8),p.length%32=0→p.length≤4096→step (p,(k:Int))=some (.inl (Mp p l[k].at_.toNat l[k].data,((k+1:Nat):Int)))) (he:∀p,step (p,(l.length:Int))=some (.inr p)):
  Ce step (b,0)=some (l.foldl (fun b s=>Mp b s.at_.toNat s.data) b):=by
 have h:=Cz (step:=step) (fun k=>((l.take k).foldl (fun b s=>Mp b s.at_.toNat s.data) b,(k:Int))) l.length (l.foldl (fun b s=>Mp b s.at_.toNat s.data) b) (fun k hk=>by
  have hf:=mM (l.take k) b (fun s hs'=>hl s (List.mem_of_mem_take hs')) h1 h2
  rw [hs k hk _ hf.1 hf.2.1,List.take_succ_eq_append_getElem hk,List.foldl_append]
  rfl) (by
  rw [he,List.take_length])
 exact h
theorem Sq (d:Ay) (h:Mq d):fI d=some (Eg d):=by
 have hh:=h.2.1; have hw:=h.2.2.1
 have hl:=wP d.Av d.held h.2.2.2 (by omega) h.1 h.2.1 (step:=Wh d) (fun k hk p p1 p2=>by
  simp only [Wh]
  rw [if_pos (decide_eq_true (by omega)),Bx hk]
  simp only [Option.bind_some,tR p _ (h.2.2.2 _ (List.getElem_mem hk)) (by omega),w1 (show k<4611686018427387904 by omega)]) (fun p=>by
  simp only [Wh]
  rw [if_neg (by simp)])
 simp only [fI,Su d.held (by omega),Option.bind_some,hl]
 rfl
def oZ (all:List UInt8) (k:Nat) (data:List UInt8):List UInt8:=ovl (Kt all (32*((k+data.length-1) / 32+1))) k data
theorem JP (l:List UInt8) (k:Nat) (y:List UInt8) (h:k+y.length≤l.length) (i:Nat):gt (ovl l k y) i=if k≤i∧i<k+y.length then gt y (i-k) else gt l i:=by
 unfold gt
 by_cases hi:i<l.length
 ·have h1:i<(ovl l k y).length:=by rw [Ng]; exact hi
  rw [List.getElem?_eq_getElem h1]
  simp only [ovl,List.getElem_mapIdx,Option.getD_some]
  by_cases c1:k≤i
  ·rw [if_pos c1]
   by_cases c2:i<k+y.length
   ·rw [if_pos ⟨c1,c2⟩,List.getElem?_eq_getElem (by omega)]; rfl
   ·rw [if_neg (by omega),List.getElem?_eq_none (by omega),List.getElem?_eq_getElem hi]; rfl
  ·rw [if_neg c1,if_neg (by omega),List.getElem?_eq_getElem hi]; rfl
 ·rw [if_neg (by omega),List.getElem?_eq_none (by rw [Ng]; omega),List.getElem?_eq_none (by omega)]
def jG (all:List UInt8) (k:Nat):List UInt8:=(all.drop (32*k)).take 32
def Ja (all:List UInt8) (a n:Nat):List Aw:=(List.range' a n).map fun (k:Nat)=>Aw.mk (k:Int) (jG all k)
def Dq (d:Ay) (k:Nat) (data:List UInt8):Ay:=
 if data.length=0 then d else Ay.mk d.held (d.Av++Ja (oZ (Eg d) k data) (k / 32) ((k+data.length-1) / 32+1-k / 32))
theorem cF (all:List UInt8) (k:Nat) (h:32*(k+1)≤all.length):(jG all k).length=32:=by simp [jG]; omega
theorem slc_cut (all:List UInt8) (k:Nat) (h:32*(k+1)≤all.length):Lp all ((32*k:Nat):Int) ((32*(k+1):Nat):Int)=some (jG all k):=by
 rw [Tz _ _ _ (by omega) h]
 unfold jG
 rw [List.drop_take]
 congr 2
 omega
theorem lL (all:List UInt8) (k:Nat) (data:List UInt8):(oZ all k data).length=max all.length (32*((k+data.length-1) / 32+1)):=by
 unfold oZ; rw [Ng,padB_len]
theorem LD (d:Ay) (h:Mq d):AlD d=some d:=by
 have hh:=h.2.1; have hw:=h.2.2.1
 have hl:=Cz (step:=Ta d) (fun k=>((k:Int),d.Av.take k)) d.Av.length d.Av (fun k hk=>by
  have hd:=(h.2.2.2 _ (List.getElem_mem hk)).2
  simp only [Ta]
  rw [if_pos (decide_eq_true (by omega)),Bx hk]
  simp only [Option.bind_some,Su d.Av[k].data (by omega),w1 (show k<4611686018427387904 by omega)]
  rw [if_pos (by simp; omega),List.take_succ_eq_append_getElem hk]) (by
  simp only [Ta]
  rw [if_neg (by simp),List.take_length])
 have hl':Ce (Ta d) (0,([]:List Aw))=some d.Av:=hl
 simp only [AlD,Su d.held (by omega),Option.bind_some,hl']
theorem yD (all:List UInt8) (l0:List Aw) (a n:Nat) (hall:32*(a+n)≤all.length) (hn:all.length≤1048576) {step:Int×List Aw→Option ((Int×List Aw)⊕List Aw)}
  (hs:∀k (p:List Aw),a≤k→k<a+n→p.length≤l0.length+n→step ((k:Int),p)=some (.inl (((k+1:Nat):Int),p++[Aw.mk (k:Int) (jG all k)]))) (he:∀p,step (((a+n:Nat):Int),p)=some (.inr p)):
  Ce step ((a:Int),l0)=some (l0++Ja all a n):=by
 have h:=Cz (step:=step) (fun k=>(((a+k:Nat):Int),l0++Ja all a k)) n (l0++Ja all a n) (fun k hk=>by
  rw [hs (a+k) _ (by omega) (by omega) (by simp [Ja]; omega),List.append_assoc]
  congr 4
  unfold Ja
  rw [←List.range'_append_1 (s:=a) (m:=k) (n:=1),List.map_append]
  rfl) (he _)
 simpa [Ja] using h
theorem tT (d:Ay) (h:Mq d) (k:Nat) (data:List UInt8) (hk:k+data.length≤4096):IU d (k:Int) data=some (Dq d k data):=by
 simp only [IU,LD d h,Option.bind_some]
 by_cases h0:data.length=0
 ·rw [if_pos (by simp [h0])]
  simp [Dq,h0]
 ·rw [if_neg (by simpa using h0),Sq d h]
  obtain ⟨r1,r2,r3⟩:=iJ d h
  have e0:IntKind.i64.wrap ((k:Int)+(data.length:Int))=((k+data.length:Nat):Int):=by rw [wr ⟨by omega,by omega⟩]; omega
  have e1:IntKind.i64.wrap (((k+data.length:Nat):Int)-1)=((k+data.length-1:Nat):Int):=by rw [wr ⟨by omega,by omega⟩]; omega
  have e2:(((k+data.length-1:Nat):Int)).tdiv 32=(((k+data.length-1) / 32:Nat):Int):=by rw [Int.tdiv_eq_ediv_of_nonneg (by omega)]; omega
  generalize hq:(k+data.length-1) / 32=q at e2
  have hq1:q≤128:=by omega
  have e3:IntKind.i64.wrap ((q:Nat):Int)=(q:Int):=wr ⟨by omega,by omega⟩
  have e4:=w1 (show q<4611686018427387904 by omega)
  have e5:=MT (show q+1≤1099511627776 by omega)
  have e6:IntKind.i64.wrap (((k:Int)).tdiv 32)=((k / 32:Nat):Int):=by
   rw [Int.tdiv_eq_ediv_of_nonneg (by omega),wr ⟨by omega,by omega⟩]; omega
  simp only [Option.bind_some,e0,e1,e2,e3,e4,e5,Bs]
  have key:∀p:List UInt8,p=Kt (Eg d) (32*(q+1))→Wl (k:Int) data d (q:Int) p=some (Dq d k data):=by
   rintro p rfl
   have hpl:(Kt (Eg d) (32*(q+1))).length=max (Eg d).length (32*(q+1)):=padB_len _ _
   simp only [Wl]
   rw [Tz _ _ _ (by omega) (Nat.le_refl _)]
   simp only [Option.bind_some,e6]
   have hd:(data.take ((Kt (Eg d) (32*(q+1))).take (Kt (Eg d) (32*(q+1))).length |>.drop k).length)=data:=List.take_of_length_le (by simp; omega)
   have hw0:ovl (Kt (Eg d) (32*(q+1))) k data=oZ (Eg d) k data:=by unfold oZ; rw [hq]
   have hwl:(oZ (Eg d) k data).length=max (Eg d).length (32*(q+1)):=by rw [lL,hq]
   have hle:k / 32≤q:=by omega
   have hw:=h.2.2.1
   have hl:=yD (oZ (Eg d) k data) d.Av (k / 32) (q+1-k / 32) (by omega) (by omega) (step:=Wm (k:Int) data (q:Int) (Kt (Eg d) (32*(q+1))) ((Kt (Eg d) (32*(q+1))).take (Kt (Eg d) (32*(q+1))).length |>.drop k)) (fun j p j1 j2 j3=>by
    simp only [Wm]
    rw [if_pos (decide_eq_true (by omega)),hd,w1 (show j<4611686018427387904 by omega),MT (show j≤1099511627776 by omega),MT (show j+1≤1099511627776 by omega)]
    simp only [Int.toNat_natCast,hw0]
    rw [slc_cut _ _ (by omega)]
    simp only [Option.bind_some]
    rw [Su _ (by rw [cF _ _ (by omega)]; omega)]
    simp only [Option.bind_some]
    rw [if_pos (by simp; omega)]) (fun p=>by
    simp only [Wm]
    rw [if_neg (by simp; omega)])
   rw [hl]
   simp only [Option.bind_some,Dq]
   rw [if_neg h0,hq]
  by_cases hlt:(Eg d).length<32*(q+1)
  ·have e7:IntKind.i64.wrap (((32*(q+1):Nat):Int)-((Eg d).length:Int))=((32*(q+1)-(Eg d).length:Nat):Int):=by rw [wr ⟨by omega,by omega⟩]; omega
   rw [if_pos (decide_eq_true (by omega)),e7,if_pos (by omega),if_pos (by omega)]
   refine key _ ?_
   unfold Kt
   rw [Int.toNat_natCast]
  ·rw [if_neg (by simp; omega)]
   refine key _ ?_
   unfold Kt
   rw [show 32*(q+1)-(Eg d).length=0 by omega]
   simp
end Go.Ev
end
section
namespace Go.Ev
def Hu (s:Bz) (B:Int):Prop:=s.code_.length≤1048576∧(0≤s.at_∧s.at_≤B)∧0≤s.Fv∧s.Fv<2147483648
theorem Hu.mono {s:Bz} {B B':Int} (h:Hu s B) (hb:B≤B'):Hu s B':=⟨h.1,⟨h.2.1.1,by have:=h.2.1.2; omega⟩,h.2.2⟩
theorem JL (code:List UInt8) (h:code.length≤1048576):∃s,g83 code=some s∧Hu s 0:=by
 refine ⟨_,rfl,h,⟨by simp,by simp⟩,?_⟩
 have e:((code.length:Int)).tmod 1000=(code.length:Int)%1000:=Int.tmod_eq_emod_of_nonneg (by omega)
 simp only [e]
 omega
theorem aX {s:Bz} {B:Int} (h:Hu s B) (hB:B≤4611686018427387904):∃v s',qK s=some (v,s')∧(0≤v∧v≤255)∧Hu s' (B+1):=by
 obtain ⟨h1,⟨h2,h3⟩,h4,h5⟩:=h
 have hw:IntKind.i64.wrap (s.at_+1)=s.at_+1:=wr ⟨by omega,by omega⟩
 have hw2:IntKind.i64.wrap (s.at_+1-1)=s.at_:=by rw [wr ⟨by omega,by omega⟩]; omega
 simp only [qK,hw,hw2]
 by_cases hc:s.at_+1≤(s.code_.length:Int)
 ·rw [if_pos (decide_eq_true hc)]
  obtain ⟨k,hk⟩:∃k:Nat,s.at_=k:=⟨s.at_.toNat,by omega⟩
  have hlt:k<s.code_.length:=by omega
  rw [hk,Bx hlt]
  generalize s.code_[k]=y
  have hy:(y.toNat:Int)<256:=by have:=y.toNat_lt; omega
  have e1:IntKind.i64.wrap (y.toNat:Int)=(y.toNat:Int):=wr ⟨by omega,by omega⟩
  have e2:IntKind.i64.wrap (s.Fv*31)=s.Fv*31:=wr ⟨by omega,by omega⟩
  have e3:IntKind.i64.wrap (s.Fv*31+(y.toNat:Int))=s.Fv*31+(y.toNat:Int):=wr ⟨by omega,by omega⟩
  have e4:IntKind.i64.wrap (s.Fv*31+(y.toNat:Int)+7)=s.Fv*31+(y.toNat:Int)+7:=wr ⟨by omega,by omega⟩
  have e5:(s.Fv*31+(y.toNat:Int)+7).tmod 2147483648=(s.Fv*31+(y.toNat:Int)+7)%2147483648:=Int.tmod_eq_emod_of_nonneg (by omega)
  simp only [Option.bind_some,Bs,e1,e2,e3,e4,e5]
  exact ⟨_,_,rfl,⟨by omega,by omega⟩,h1,⟨by simp only; omega,by simp only; omega⟩,by simp only; omega,by simp only; omega⟩
 ·rw [if_neg (by simpa using hc)]
  by_cases h3':s.at_+1>3000
  ·rw [if_pos (decide_eq_true h3')]
   exact ⟨_,_,rfl,⟨by omega,by omega⟩,h1,⟨by simp only; omega,by simp only; omega⟩,h4,h5⟩
  ·rw [if_neg (by simpa using h3')]
   have e2:IntKind.i64.wrap (s.Fv*1103515245)=s.Fv*1103515245:=wr ⟨by omega,by omega⟩
   have e3:IntKind.i64.wrap (s.Fv*1103515245+12345)=s.Fv*1103515245+12345:=wr ⟨by omega,by omega⟩
   have e4:(s.Fv*1103515245+12345).tmod 2147483648=(s.Fv*1103515245+12345)%2147483648:=Int.tmod_eq_emod_of_nonneg (by omega)
   have hr:0≤(s.Fv*1103515245+12345)%2147483648∧(s.Fv*1103515245+12345)%2147483648<2147483648:=by omega
   generalize hv:(s.Fv*1103515245+12345)%2147483648=v at e4 hr
   have e5:v.tdiv 65536=v / 65536:=Int.tdiv_eq_ediv_of_nonneg hr.1
   have e6:IntKind.i64.wrap (v / 65536)=v / 65536:=wr ⟨by omega,by omega⟩
   have e7:(v / 65536).tmod 256=v / 65536%256:=Int.tmod_eq_emod_of_nonneg (by omega)
   simp only [Bs,e2,e3,e4,e5,e6,e7]
   exact ⟨_,_,rfl,⟨by omega,by omega⟩,h1,⟨by simp only; omega,by simp only; omega⟩,hr.1,hr.2⟩
theorem Gv {s:Bz} {B n:Int} (h:Hu s B) (hB:B≤4611686018427380000) (hn:n≤1152921504606846976):∃v s',Qy s n=some (v,s')∧(0≤v∧(n≤1→v=0)∧(1<n→v<n))∧Hu s' (B+3):=by
 simp only [Qy]
 by_cases h1:n≤1
 ·rw [if_pos (decide_eq_true h1)]
  exact ⟨_,_,rfl,⟨by omega,by omega,by omega⟩,h.mono (by omega)⟩
 ·rw [if_neg (by simpa using h1)]
  by_cases h2:n≤256
  ·rw [if_pos (decide_eq_true h2)]
   obtain ⟨v,s',e1,e2,e3⟩:=aX h (by omega)
   rw [e1]
   simp only [Option.bind_some]
   rw [if_pos (by omega)]
   have e4:v.tmod n=v%n:=Int.tmod_eq_emod_of_nonneg e2.1
   refine ⟨_,_,rfl,⟨?_,by omega,fun _=>?_⟩,e3.mono (by omega)⟩
   ·rw [e4]; exact Int.emod_nonneg _ (by omega)
   ·rw [e4]; exact Int.emod_lt_of_pos _ (by omega)
  ·rw [if_neg (by simpa using h2)]
   obtain ⟨a,s1,a1,a2,a3⟩:=aX h (by omega)
   obtain ⟨b,s2,b1,b2,b3⟩:=aX a3 (by omega)
   obtain ⟨c,s3,c1,c2,c3⟩:=aX b3 (by omega)
   rw [a1]
   simp only [Option.bind_some,b1,c1]
   rw [if_pos (by omega)]
   have e1:IntKind.i64.wrap (a*65536)=a*65536:=wr ⟨by omega,by omega⟩
   have e2:IntKind.i64.wrap (b*256)=b*256:=wr ⟨by omega,by omega⟩
   have e3:IntKind.i64.wrap (a*65536+b*256)=a*65536+b*256:=wr ⟨by omega,by omega⟩
   have e4:IntKind.i64.wrap (a*65536+b*256+c)=a*65536+b*256+c:=wr ⟨by omega,by omega⟩
   have e5:(a*65536+b*256+c).tmod n=(a*65536+b*256+c)%n:=Int.tmod_eq_emod_of_nonneg (by omega)
   simp only [Bs,e1,e2,e3,e4,e5]
   refine ⟨_,_,rfl,⟨Int.emod_nonneg _ (by omega),by omega,fun _=>Int.emod_lt_of_pos _ (by omega)⟩,c3.mono (by omega)⟩
end Go.Ev
end
section
namespace Go.Ev
end Go.Ev
end
section
namespace Go.Ev
theorem JH (a b c:Int) (h:b≤a∧a≤c):bI a b c=some true:=by simp [bI,h.1,h.2]
theorem Alq (s:Aw) (h:bT s):wX s=some true:=by
 have h2:=h.2
 simp only [wX,JH _ _ _ (show (0:Int)≤s.at_∧s.at_≤127 from h.1),Option.bind_some,cond_true]
 simp [h2]
theorem So (d:Ay) (h:Mq d):mP d=some true:=by
 obtain ⟨h1,h2,h3,h4⟩:=h
 have e1:(((d.held.length:Int)).tmod 32==0)=true:=by rw [Int.tmod_eq_emod_of_nonneg (by omega)]; simp; omega
 have e2:decide ((d.held.length:Int)≤4096)=true:=decide_eq_true (by omega)
 have e3:decide ((d.Av.length:Int)≤4096)=true:=decide_eq_true (by omega)
 have e4:d.Av.all (fun _=>true)=true:=by simp
 simp [mP,e1,e2,wW,e3,Alp d.Av (fun z=>wX z) (fun _=>true) (fun x hx=>Alq x (h4 x hx)) (by omega),e4,Bs]
theorem Zc (all:List UInt8) (a n:Nat):(Ja all a n).length=n:=by simp [Ja]
theorem Zh (d:Ay) (h:Mq d) (k:Nat) (data:List UInt8) (hk:k+data.length≤4096) (hw:(Dq d k data).Av.length≤4096):Mq (Dq d k data):=by
 unfold Dq at hw ⊢
 split
 ·exact h
 ·rename_i h0
  rw [if_neg h0] at hw
  refine ⟨h.1,h.2.1,hw,fun s hs=>?_⟩
  rcases List.mem_append.1 hs with hs | hs
  ·exact h.2.2.2 s hs
  ·simp only [Ja,List.mem_map,List.mem_range'_1] at hs
   obtain ⟨j,⟨hj1,hj2⟩,rfl⟩:=hs
   exact ⟨⟨by simp only; omega,by simp only; omega⟩,cF _ _ (by rw [lL]; omega)⟩
theorem JO (all:List UInt8) (j t:Nat) (ht:t<32):gt (jG all j) t=gt all (32*j+t):=by
 unfold gt jG
 rw [List.getElem?_take_of_lt ht,List.getElem?_drop]
theorem wQ (all:List UInt8) (a:Nat) (b:List UInt8):∀n,32*(a+n)≤all.length →
  ((Ja all a n).foldl (fun b s=>Mp b s.at_.toNat s.data) b).length=max b.length (if n=0 then 0 else 32*(a+n)) ∧
  ∀i,gt ((Ja all a n).foldl (fun b s=>Mp b s.at_.toNat s.data) b) i=if 32*a≤i∧i<32*(a+n) then gt all i else gt b i:=by
 intro n
 induction n with
 | zero=>intro _; exact ⟨by simp [Ja],fun i=>by rw [if_neg (by omega)]; rfl⟩
 | succ n ih=>
  intro hall
  obtain ⟨i1,i2⟩:=ih (by omega)
  have e:Ja all a (n+1)=Ja all a n++[Aw.mk ((a+n:Nat):Int) (jG all (a+n))]:=by
   unfold Ja
   rw [←List.range'_append_1 (s:=a) (m:=n) (n:=1),List.map_append]
   rfl
  have hc:=cF all (a+n) (by omega)
  rw [e,List.foldl_append]
  simp only [List.foldl_cons,List.foldl_nil,Int.toNat_natCast]
  refine ⟨?_,fun i=>?_⟩
  ·rw [eD _ _ _ hc,i1]
   by_cases h0:n=0
   ·simp [h0]
   ·simp only [h0,if_false]; rw [if_neg (by omega)]; omega
  ·rw [JQ _ _ _ _ hc,i2]
   by_cases c1:32*(a+n)≤i∧i<32*(a+n)+32
   ·rw [if_pos c1,if_pos (by omega),JO _ _ _ (by omega)]
    congr 1; omega
   ·rw [if_neg c1]
    by_cases c2:32*a≤i∧i<32*(a+n)
    ·rw [if_pos c2,if_pos (by omega)]
    ·rw [if_neg c2,if_neg (by omega)]
theorem rQ (d:Ay) (h:Mq d) (k:Nat) (data:List UInt8) (hk:k+data.length≤4096):
  (Eg d).length≤(Eg (Dq d k data)).length∧(data.length≠0→k+data.length≤(Eg (Dq d k data)).length)∧∀i,gt (Eg (Dq d k data)) i=if k≤i∧i<k+data.length then gt data (i-k) else gt (Eg d) i:=by
 unfold Dq
 by_cases h0:data.length=0
 ·rw [if_pos h0]
  exact ⟨Nat.le_refl _,fun hh=>absurd h0 hh,fun i=>by rw [if_neg (by omega)]⟩
 ·rw [if_neg h0]
  have e:Eg (Ay.mk d.held (d.Av++Ja (oZ (Eg d) k data) (k / 32) ((k+data.length-1) / 32+1-k / 32))) =
    (Ja (oZ (Eg d) k data) (k / 32) ((k+data.length-1) / 32+1-k / 32)).foldl (fun b s=>Mp b s.at_.toNat s.data) (Eg d):=by
   unfold Eg; rw [List.foldl_append]
  have hle:k / 32≤(k+data.length-1) / 32:=by omega
  obtain ⟨f1,f2⟩:=wQ (oZ (Eg d) k data) (k / 32) (Eg d) ((k+data.length-1) / 32+1-k / 32) (by rw [lL]; omega)
  rw [e]
  rw [if_neg (by omega)] at f1
  refine ⟨by omega,fun _=>by omega,fun i=>?_⟩
  rw [f2]
  have hg:gt (oZ (Eg d) k data) i=if k≤i∧i<k+data.length then gt data (i-k) else gt (Eg d) i:=by
   unfold oZ
   rw [JP _ _ _ (by rw [padB_len]; omega),kB]
  by_cases c:32*(k / 32)≤i∧i<32*(k / 32+((k+data.length-1) / 32+1-k / 32))
  ·rw [if_pos c,hg]
  ·rw [if_neg c,if_neg (by omega)]
theorem All (d:Ay) (h:Mq d) (k:Nat) (data:List UInt8) (hk:k+data.length≤4096) (hw:(Dq d k data).Av.length≤4096):IQ d (k:Int) data=some (Dq d k data,0):=by
 have e0:IntKind.i64.wrap ((k:Int)+(data.length:Int))=((k+data.length:Nat):Int):=by rw [wr ⟨by omega,by omega⟩]; omega
 have e1:decide (((k+data.length:Nat):Int)≤4096)=true:=decide_eq_true (by omega)
 have e2:qN (k:Int) (data.length:Int)=some true:=by
  simp only [qN,JH _ _ _ (show (0:Int)≤(k:Int)∧(k:Int)≤4096 by omega),Option.bind_some,Bs,e0,e1,cond_true]
 have e3:wW (Dq d k data).Av=some true:=by
  simp only [wW,decide_eq_true (show (((Dq d k data).Av.length:Nat):Int)≤4096 by omega)]
 simp [IQ,e2,tT d h k data hk,e3]
theorem Alc (d:Ay) (h:Mq d) (k:Nat) (data:List UInt8) (hk:k+data.length≤4096) (hw:(Dq d k data).Av.length≤4096):wU d (k:Int) data=some (Dq d k data,0):=by
 have e3:qM data=some true:=by simp only [qM,decide_eq_true (show ((data.length:Nat):Int)≤65536 by omega)]
 simp [wU,e3,So d h,All d h k data hk hw]
end Go.Ev
end
section
namespace Go.Ev
theorem JS (k:IntKind) (a b:Nat) (ha:a<2^k.bits) (hb:b<2^k.bits):Ym k (a:Int) (b:Int)=k.wrap ((a &&& b:Nat):Int):=by
 unfold Ym
 rw [BitVec.ofInt_natCast,BitVec.ofInt_natCast,BitVec.toNat_and,BitVec.toNat_ofNat,BitVec.toNat_ofNat,Nat.mod_eq_of_lt ha,Nat.mod_eq_of_lt hb]
theorem ior_nat (k:IntKind) (a b:Nat) (ha:a<2^k.bits) (hb:b<2^k.bits):ior k (a:Int) (b:Int)=k.wrap ((a ||| b:Nat):Int):=by
 unfold ior
 rw [BitVec.ofInt_natCast,BitVec.ofInt_natCast,BitVec.toNat_or,BitVec.toNat_ofNat,BitVec.toNat_ofNat,Nat.mod_eq_of_lt ha,Nat.mod_eq_of_lt hb]
theorem dJ (k:IntKind) (a b:Nat) (ha:a<2^k.bits) (hb:b<2^k.bits):xI k (a:Int) (b:Int)=k.wrap ((a ^^^ b:Nat):Int):=by
 unfold xI
 rw [BitVec.ofInt_natCast,BitVec.ofInt_natCast,BitVec.toNat_xor,BitVec.toNat_ofNat,BitVec.toNat_ofNat,Nat.mod_eq_of_lt ha,Nat.mod_eq_of_lt hb]
theorem MV {n:Nat} (h:n<4294967296):IntKind.u32.wrap (n:Int)=(n:Int):=by
 have e:IntKind.u32.wrap (n:Int)=(n:Int)%4294967296:=by simp [IntKind.wrap,IntKind.bits,IntKind.signed]
 rw [e]; omega
theorem wi64 {n:Nat} (h:n<9223372036854775808):IntKind.i64.wrap (n:Int)=(n:Int):=wr ⟨by omega,by omega⟩
theorem pS (n:Nat):(b8 (n:Int)).toNat=n%256:=by
 have:=vM (n:Int)
 unfold b8
 rw [MU] at this
 have e:((u8 (IntKind.u8.wrap (n:Int))).toNat:Int)=(n:Int)%256:=by rw [MU]; exact this
 omega
def Vz (c:Nat):Nat:=if c%2=1 then (c / 2) ^^^ 3988292384 else c / 2
def Gm:Nat→Nat→Nat
 | 0,c=>c
 | n+1,c=>Vz (Gm n c)
def Mw (c:Nat) (y:UInt8):Nat:=Gm 8 (c ^^^ y.toNat)
def cE (b:List UInt8):Nat:=(b.foldl Mw 4294967295) ^^^ 4294967295
theorem eW {a b:Nat} (ha:a<4294967296) (hb:b<4294967296):a ^^^ b<4294967296:=Nat.xor_lt_two_pow (n:=32) ha hb
theorem qB {c:Nat} (h:c<4294967296):Vz c<4294967296:=by
 unfold Vz
 split
 ·exact eW (by omega) (by omega)
 ·omega
theorem Ql {c:Nat} (h:c<4294967296):∀n,Gm n c<4294967296
 | 0=>h
 | n+1=>qB (Ql h n)
theorem qA {c:Nat} (y:UInt8) (h:c<4294967296):Mw c y<4294967296:=Ql (eW h (by have:=y.toNat_lt; omega)) 8
theorem Uv (b:List UInt8):∀ {c:Nat},c<4294967296→b.foldl Mw c<4294967296:=by
 induction b with
 | nil=>exact fun h=>h
 | cons y r ih=>exact fun h=>ih (qA y h)
theorem tF (b:List UInt8):cE b<4294967296:=eW (Uv b (by omega)) (by omega)
theorem two1:(2:Int)^min (1:Int).toNat 64=2:=by decide
theorem shr1 {c:Nat}:Kc .u32 (c:Int) 1=((c / 2:Nat):Int):=by
 unfold Kc
 rw [two1,Int.fdiv_eq_ediv_of_nonneg _ (by omega)]
 omega
theorem qO {c:Nat} (h:c<4294967296):Ce Sx ((c:Int),0)=some ((Gm 8 c:Nat):Int):=by
 refine Cz (step:=Sx) (fun k=>((Gm k c:Nat),(k:Int))) 8 _ (fun k hk=>?_) ?_
 ·have hc:=Ql h k
  have e1:Ym .u32 ((Gm k c:Nat):Int) 1=((Gm k c%2:Nat):Int):=by
   have:=JS .u32 (Gm k c) 1 (by simpa [IntKind.bits] using hc) (by decide)
   rw [Nat.and_one_is_mod,MV (by omega)] at this
   exact this
  simp only [Sx,bC]
  rw [if_pos (decide_eq_true (by omega)),e1,w1 (by omega),shr1]
  have es:Gm (k+1) c=Vz (Gm k c):=rfl
  rw [es]
  unfold Vz
  by_cases h2:Gm k c%2=1
  ·rw [if_pos (by simp [h2]),if_pos h2]
   have:=dJ .u32 (Gm k c / 2) 3988292384 (by simp [IntKind.bits]; omega) (by decide)
   rw [MV (eW (by omega) (by omega))] at this
   rw [show xI .u32 ((Gm k c / 2:Nat):Int) 3988292384=_ from this]
  ·rw [if_neg (by simp; omega),if_neg h2]
 ·simp only [Sx]
  rw [if_neg (by decide)]
theorem tU (b:List UInt8) (hb:b.length≤1048576):IV b=some ((cE b:Nat):Int):=by
 have h:=Cz (step:=Sw b) (fun k=>((((b.take k).foldl Mw 4294967295:Nat):Int),(k:Int))) b.length ((b.foldl Mw 4294967295:Nat):Int) (fun k hk=>by
  have hc:=Uv (b.take k) (c:=4294967295) (by omega)
  have hy:(b[k].toNat)<256:=b[k].toNat_lt
  simp only [Sw]
  rw [if_pos (decide_eq_true (by omega)),Bx hk]
  simp only [Option.bind_some]
  rw [MV (show b[k].toNat<4294967296 by omega),dJ .u32 _ _ (by simpa [IntKind.bits] using hc) (by simp [IntKind.bits]; omega),MV (eW hc (by omega)),qO (eW hc (by omega))]
  simp only [Option.bind_some,w1 (show k<4611686018427387904 by omega)]
  rw [List.take_succ_eq_append_getElem hk,List.foldl_append]
  rfl) (by
  simp only [Sw]
  rw [if_neg (by simp),List.take_length])
 have hc:=Uv b (c:=4294967295) (by omega)
 have h':Ce (Sw b) (4294967295,0)=some ((b.foldl Mw 4294967295:Nat):Int):=h
 simp only [IV,h',Option.bind_some]
 have e:inot .u32 ((b.foldl Mw 4294967295:Nat):Int)=((cE b:Nat):Int):=by
  have:=dJ .u32 4294967295 (b.foldl Mw 4294967295) (by decide) (by simpa [IntKind.bits] using hc)
  rw [MV (eW (by omega) hc),Nat.xor_comm] at this
  exact this
 rw [e,wi64 (by have:=tF b; omega)]
def Kw (n i:Nat):UInt8:=b8 ((n / 2^(8*i):Nat):Int)
def Io (n m:Nat):List UInt8:=(List.range m).map fun j=>Kw n (m-1-j)
@[simp] theorem bigB_len (n m:Nat):(Io n m).length=m:=by simp [Io]
theorem shrN {n i:Nat} (hi:i≤7):Kc .i64 (n:Int) ((8*i:Nat):Int)=((n / 2^(8*i):Nat):Int):=by
 unfold Kc
 have e:min (((8*i:Nat):Int)).toNat 64=8*i:=by omega
 rw [e,Int.fdiv_eq_ediv_of_nonneg _ (by exact Int.pow_nonneg (by omega))]
 simp
theorem jQ (n m:Nat) (hm:m≤8):jP (n:Int) (m:Int)=some (Io n m):=by
 have h:=Cz (step:=Sv (n:Int) (m:Int)) (fun k=>((List.range m).map (fun j=>if m-k≤j then Kw n (m-1-j) else 0),(k:Int))) m (Io n m) (fun k hk=>by
  have e1:IntKind.i64.wrap (8*(k:Int))=((8*k:Nat):Int):=by rw [wr ⟨by omega,by omega⟩]; omega
  have e2:IntKind.i64.wrap ((m:Int)-1)=((m-1:Nat):Int):=by rw [wr ⟨by omega,by omega⟩]; omega
  have e3:IntKind.i64.wrap (((m-1:Nat):Int)-(k:Int))=((m-1-k:Nat):Int):=by rw [wr ⟨by omega,by omega⟩]; omega
  simp only [Sv,e1,e2,e3,Int.toNat_natCast,List.length_replicate]
  rw [if_pos (decide_eq_true (by omega)),if_pos (by omega),Bx (by simp; omega)]
  simp only [Option.bind_some]
  rw [List.getElem?_eq_getElem (by simp; omega)]
  simp only [Option.bind_some,shrN (show k≤7 by omega),w1 (show k<4611686018427387904 by omega)]
  congr 3
  apply List.ext_getElem
  ·simp
  ·intro j j1 j2
   simp only [List.length_set,List.length_map,List.length_range] at j1
   simp only [List.getElem_set,List.getElem_map,List.getElem_range]
   by_cases c:m-1-k=j
   ·rw [if_pos c,if_pos (by omega)]
    unfold Kw
    congr 4; omega
   ·rw [if_neg c]
    by_cases c2:m-k≤j
    ·rw [if_pos c2,if_pos (by omega)]
    ·rw [if_neg c2,if_neg (by omega)]) (by
  simp only [Sv,Int.toNat_natCast,List.length_replicate]
  rw [if_neg (by simp)]
  congr 2
  unfold Io
  apply List.map_congr_left
  intro j hj
  rw [if_pos (by omega)])
 have h0:(List.range m).map (fun j=>if m-0≤j then Kw n (m-1-j) else (0:UInt8))=List.replicate m 0:=by
  apply List.ext_getElem
  ·simp
  ·intro j j1 j2
   simp only [List.length_map,List.length_range] at j1
   simp only [List.getElem_map,List.getElem_range,List.getElem_replicate]
   rw [if_neg (by omega)]
 have h':Ce (Sv (n:Int) (m:Int)) (List.replicate m 0,0)=some (Io n m):=by rw [←h0]; exact h
 simp only [jP,Int.toNat_natCast]
 rw [if_pos (by omega),if_pos (by omega),h']
 rfl
def Mo (l:List UInt8):Nat:=l.foldl (fun n y=>n*256+y.toNat) 0
theorem tA (l:List UInt8):∀(c k:Nat),c<256^k→l.foldl (fun n y=>n*256+y.toNat) c<256^(k+l.length):=by
 induction l with
 | nil=>exact fun c k h=>h
 | cons y r ih=>
  intro c k h
  have hy:=y.toNat_lt
  have:=ih (c*256+y.toNat) (k+1) (by rw [Nat.pow_succ]; omega)
  rw [List.length_cons,show k+(r.length+1)=k+1+r.length by omega]
  exact this
theorem jR (l:List UInt8) (hl:l.length≤7):qP l=some ((Mo l:Nat):Int):=by
 have h:=Cz (step:=Sy l) (fun k=>((((l.take k).foldl (fun n y=>n*256+y.toNat) 0:Nat):Int),(k:Int))) l.length ((Mo l:Nat):Int) (fun k hk=>by
  have hb:=tA (l.take k) 0 0 (by simp)
  rw [Nat.zero_add] at hb
  have hpw:256^(l.take k).length≤256^6:=Nat.pow_le_pow_right (by omega) (by simp; omega)
  have h6:(256:Nat)^6=281474976710656:=by decide
  generalize hc:(l.take k).foldl (fun n y=>n*256+y.toNat) 0=c at hb
  have hy:l[k].toNat<256:=l[k].toNat_lt
  have e1:fP .i64 (c:Int) 8=((c*256:Nat):Int):=by
   unfold fP
   have:(2:Int)^min (8:Int).toNat IntKind.i64.bits=256:=by decide
   rw [this,wr ⟨by omega,by omega⟩]; omega
  have e2:c*256 ||| l[k].toNat=c*256+l[k].toNat:=by
   have:=Nat.shiftLeft_add_eq_or_of_lt (a:=c) (b:=l[k].toNat) (i:=8) (by omega)
   rw [Nat.shiftLeft_eq] at this
   exact this.symm
  simp only [Sy]
  rw [if_pos (decide_eq_true (by omega)),Bx hk]
  simp only [Option.bind_some]
  rw [wi64 (show l[k].toNat<9223372036854775808 by omega),e1,ior_nat .i64 _ _ (by simp [IntKind.bits]; omega) (by simp [IntKind.bits]; omega),e2,wi64 (by omega),w1 (show k<4611686018427387904 by omega)]
  rw [List.take_succ_eq_append_getElem hk,List.foldl_append,hc]
  rfl) (by
  simp only [Sy]
  rw [if_neg (by simp),List.take_length]
  rfl)
 have h':Ce (Sy l) (0,0)=some ((Mo l:Nat):Int):=h
 simp only [qP,h',Option.bind_some]
theorem gD (n:Nat) (h:n<65536):Mo (Io n 2)=n:=by
 have e:Io n 2=[Kw n 1,Kw n 0]:=rfl
 rw [e]
 simp only [Mo,List.foldl_cons,List.foldl_nil,Kw,pS]
 omega
theorem vW (n:Nat) (h:n<4294967296):Mo (Io n 4)=n:=by
 have e:Io n 4=[Kw n 3,Kw n 2,Kw n 1,Kw n 0]:=rfl
 rw [e]
 simp only [Mo,List.foldl_cons,List.foldl_nil,Kw,pS]
 omega
end Go.Ev
end
section
namespace Go.Ev
def Pv (p:List UInt8):List UInt8:=Io (p.length+1) 2++p
def Ed (p:List UInt8):List UInt8:=Pv p++Io (cE (Pv p)) 4
theorem Ll (p:List UInt8):(Pv p).length=p.length+2:=by simp [Pv]; omega
@[simp] theorem frameB_len (p:List UInt8):(Ed p).length=p.length+6:=by simp [Ed,Ll]
theorem Alt (p:List UInt8) (hp:p.length≤65536):Als p=some (Ed p):=by
 have e1:IntKind.i64.wrap ((p.length:Int)+1)=((p.length+1:Nat):Int):=w1 (by omega)
 have e2:jP ((p.length+1:Nat):Int) 2=some (Io (p.length+1) 2):=jQ (p.length+1) 2 (by omega)
 have e4:jP ((cE (Pv p):Nat):Int) 4=some (Io (cE (Pv p)) 4):=jQ (cE (Pv p)) 4 (by omega)
 simp only [Als,e1,e2,Option.bind_some]
 rw [if_pos (by simp; omega),show Io (p.length+1) 2++p=Pv p from rfl,tU _ (by rw [Ll]; omega)]
 simp only [Option.bind_some,e4]
 rw [if_pos (by rw [Ll]; simp; omega)]
 rfl
def kO (b:List UInt8) (k:Nat):Option (List UInt8):=
 if k+2≤b.length then
  if (1≤Mo ((b.drop k).take 2)∧Mo ((b.drop k).take 2)≤2001)∧k+Mo ((b.drop k).take 2)+5≤b.length then
   if cE ((b.drop k).take (Mo ((b.drop k).take 2)+1))=Mo ((b.drop (k+Mo ((b.drop k).take 2)+1)).take 4) then some ((b.drop (k+2)).take (Mo ((b.drop k).take 2)-1)) else none
  else none
 else none
theorem kY {α:Type} (b:List α) (k n:Nat) (h:k+n≤b.length):Lp b (k:Int) ((k+n:Nat):Int)=some ((b.drop k).take n):=by
 rw [Tz _ _ _ (by omega) h,List.drop_take]
 congr 2; omega
theorem Tp (b:List UInt8) (hb:b.length≤1048576) (l:List (List UInt8)) (k:Nat) (hl:l.length≤1048576) (hk:k≤1048576):
  Km b (l,(k:Int))=match kO b k with
   | none=>some (.inr (l,(k:Int)))
   | some p=>some (.inl (l++[p],((k+p.length+6:Nat):Int))):=by
 have e1:IntKind.i64.wrap ((k:Int)+2)=((k+2:Nat):Int):=by rw [wr ⟨by omega,by omega⟩]; omega
 simp only [Km,e1]
 by_cases c1:k+2≤b.length
 ·rw [if_pos (decide_eq_true (by omega)),kY b k 2 c1]
  simp only [Option.bind_some]
  have hn2:((b.drop k).take 2).length=2:=by simp; omega
  rw [jR _ (by omega)]
  have hnl:=tA ((b.drop k).take 2) 0 0 (by simp)
  rw [hn2] at hnl
  have hnl':Mo ((b.drop k).take 2)<65536:=by simpa [Mo] using hnl
  generalize hnv:Mo ((b.drop k).take 2)=n at hnl'
  have e2:IntKind.i64.wrap ((n:Int)-1)=(n:Int)-1:=wr ⟨by omega,by omega⟩
  have e3:IntKind.i64.wrap (((k+2:Nat):Int)+((n:Int)-1))=((k+n+1:Nat):Int):=by rw [wr ⟨by omega,by omega⟩]; omega
  have e4:IntKind.i64.wrap (((k+n+1:Nat):Int)+4)=((k+n+5:Nat):Int):=by rw [wr ⟨by omega,by omega⟩]; omega
  simp only [Option.bind_some,Bs,e2,e3,e4]
  by_cases c2:1≤n∧n≤2001
  ·rw [JH _ _ _ (by omega)]
   simp only [Option.bind_some,Bool.not_true,cond_false]
   by_cases c3:k+n+5≤b.length
   ·have e5:decide (((k+n+5:Nat):Int)>(b.length:Int))=false:=decide_eq_false (by omega)
    have s1:Lp b (k:Int) ((k+n+1:Nat):Int)=some ((b.drop k).take (n+1)):=kY b k (n+1) (by omega)
    have s2:Lp b ((k+n+1:Nat):Int) ((k+n+5:Nat):Int)=some ((b.drop (k+n+1)).take 4):=kY b (k+n+1) 4 (by omega)
    have s3:Lp b ((k+2:Nat):Int) ((k+n+1:Nat):Int)=some ((b.drop (k+2)).take (n-1)):=by
     have:=kY b (k+2) (n-1) (by omega)
     rwa [show k+2+(n-1)=k+n+1 by omega] at this
    rw [e5]
    simp only [beq_self_eq_true,if_true,s1,s2,Option.bind_some]
    rw [tU _ (by simp; omega),jR _ (by simp; omega)]
    simp only [Option.bind_some,cond_false]
    by_cases c4:cE ((b.drop k).take (n+1))=Mo ((b.drop (k+n+1)).take 4)
    ·have hx:kO b k=some ((b.drop (k+2)).take (n-1)):=by
      unfold kO; rw [hnv,if_pos c1,if_pos ⟨c2,c3⟩,if_pos c4]
     have hpl:((b.drop (k+2)).take (n-1)).length=n-1:=by simp; omega
     rw [hx,if_neg (by simp [c4]),s3]
     simp only [Option.bind_some]
     rw [Su _ (by omega)]
     simp only [Option.bind_some]
     rw [if_pos (by simp; omega),hpl]
     congr 4; omega
    ·have hx:kO b k=none:=by
      unfold kO; rw [hnv,if_pos c1,if_pos ⟨c2,c3⟩,if_neg c4]
     rw [hx,if_pos (by rw [bne_iff_ne]; intro hh; exact c4 (by omega))]
   ·have e5:decide (((k+n+5:Nat):Int)>(b.length:Int))=true:=decide_eq_true (by omega)
    have hx:kO b k=none:=by
     unfold kO; rw [hnv,if_pos c1,if_neg (fun h=>c3 h.2)]
    rw [hx,e5]
    rfl
  ·have e6:bI ((n:Int)-1) 0 2000=some false:=by
    unfold bI
    by_cases h1:1≤n
    ·rw [decide_eq_false (show ¬(n:Int)-1≤2000 by omega)]; cases decide ((0:Int)≤(n:Int)-1)<;>rfl
    ·rw [decide_eq_false (show ¬(0:Int)≤(n:Int)-1 by omega)]; rfl
   have hx:kO b k=none:=by
    unfold kO; rw [hnv,if_pos c1,if_neg (fun h=>c2 h.1)]
   rw [hx,e6]
   rfl
 ·have hx:kO b k=none:=by
   unfold kO; rw [if_neg c1]
  rw [hx,if_neg (by simp; omega)]
def Aq (L:List (List UInt8)):List UInt8:=(L.map Ed).flatten
theorem Dd (A B:List (List UInt8)):Aq (A++B)=Aq A++Aq B:=by simp [Aq]
theorem Fo (p:List UInt8):Aq [p]=Ed p:=by simp [Aq]
theorem iE (A C p:List UInt8) (hp:p.length≤2000):kO (A++(Ed p++C)) A.length=some p:=by
 have d0:(A++(Ed p++C)).drop A.length=Ed p++C:=by simp
 have dk:∀j,(A++(Ed p++C)).drop (A.length+j)=(Ed p++C).drop j:=fun j=>by rw [←List.drop_drop,d0]
 have t2:(Ed p++C).take 2=Io (p.length+1) 2:=by
  unfold Ed Pv
  rw [List.append_assoc,List.append_assoc,List.take_append_of_le_length (by simp),List.take_of_length_le (by simp)]
 have th:(Ed p++C).take (p.length+2)=Pv p:=by
  unfold Ed
  rw [List.append_assoc,List.take_append_of_le_length (by rw [Ll]; omega),List.take_of_length_le (by rw [Ll]; omega)]
 have tc:((Ed p++C).drop (p.length+2)).take 4=Io (cE (Pv p)) 4:=by
  unfold Ed
  rw [List.append_assoc,←Ll p,List.drop_left,List.take_append_of_le_length (by simp),List.take_of_length_le (by simp)]
 have tp:((Ed p++C).drop 2).take p.length=p:=by
  unfold Ed Pv
  rw [List.append_assoc,List.append_assoc]
  have hd:∀R:List UInt8,(Io (p.length+1) 2++R).drop 2=R:=fun R=>by
   have:=List.drop_left (l₁:=Io (p.length+1) 2) (l₂:=R)
   rwa [bigB_len] at this
  rw [hd]
  simp
 unfold kO
 rw [d0,t2,gD _ (by omega)]
 have hlen:(A++(Ed p++C)).length=A.length+(p.length+6+C.length):=by simp
 rw [if_pos (by omega),if_pos ⟨⟨by omega,by omega⟩,by omega⟩]
 rw [show p.length+1+1=p.length+2 by omega,th,show A.length+(p.length+1)+1=A.length+(p.length+2) by omega,dk,tc,vW _ (tF _),if_pos rfl,dk,show p.length+1-1=p.length by omega,tp]
theorem KS (A:List UInt8) (m:Nat):kO (A++List.replicate m 0) A.length=none:=by
 unfold kO
 have d0:(A++List.replicate m (0:UInt8)).drop A.length=List.replicate m 0:=by simp
 rw [d0]
 by_cases h:A.length+2≤(A++List.replicate m (0:UInt8)).length
 ·rw [if_pos h]
  simp only [List.length_append,List.length_replicate] at h
  have e:(List.replicate m (0:UInt8)).take 2=[0,0]:=by
   rw [List.take_replicate,show min 2 m=2 by omega]; rfl
  rw [e]
  have:Mo [0,0]=0:=by decide
  rw [this,if_neg (by omega)]
 ·rw [if_neg h]
theorem nY (L:List (List UInt8)) (m:Nat) (hL:∀p∈L,p.length≤2000) (hb:(Aq L).length+m≤1048576):
  fJ (Aq L++List.replicate m 0)=some (L,(((Aq L).length:Nat):Int)):=by
 have hcount:∀M:List (List UInt8),6*M.length≤(Aq M).length:=by
  intro M
  induction M with
  | nil=>simp [Aq]
  | cons p r ih=>rw [show p::r=[p]++r from rfl,Dd,Fo]; simp; omega
 have hlen:∀k,(Aq (L.take k)).length≤(Aq L).length:=fun k=>by
  conv=>rhs; rw [←List.take_append_drop k L,Dd]
  simp
 have h:=Cz (step:=Km (Aq L++List.replicate m 0)) (fun k=>(L.take k,(((Aq (L.take k)).length:Nat):Int))) L.length (L,(((Aq L).length:Nat):Int)) (fun k hk=>by
  have h1:=hlen k
  have h2:=hcount (L.take k)
  rw [Tp _ (by simp; omega) _ _ (by omega) (by omega)]
  have eb:Aq L++List.replicate m 0=Aq (L.take k)++(Ed L[k]++(Aq (L.drop (k+1))++List.replicate m 0)):=by
   conv=>lhs; rw [←List.take_append_drop k L,Dd,List.drop_eq_getElem_cons hk,show L[k]::L.drop (k+1)=[L[k]]++L.drop (k+1) from rfl,Dd,Fo]
   simp only [List.append_assoc]
  rw [eb,iE _ _ _ (hL _ (List.getElem_mem hk)),List.take_succ_eq_append_getElem hk,Dd,Fo]
  simp only [List.length_append,frameB_len]
  congr 4) (by
  rw [List.take_length]
  have h2:=hcount L
  rw [Tp _ (by simp; omega) _ _ (by omega) (by omega),KS])
 have h':Ce (Km (Aq L++List.replicate m 0)) ([],0)=some (L,(((Aq L).length:Nat):Int)):=h
 simp only [fJ,h',Option.bind_some]
theorem oX (b F:List UInt8) (h:F.length≤b.length) (hg:∀i,gt b i=gt F i):b=F++List.replicate (b.length-F.length) 0:=by
 apply List.ext_getElem
 ·simp; omega
 ·intro i i1 i2
  have:=hg i
  unfold gt at this
  rw [List.getElem?_eq_getElem i1] at this
  simp only [Option.getD_some] at this
  rw [this]
  by_cases c:i<F.length
  ·rw [List.getElem_append_left c,List.getElem?_eq_getElem c]; rfl
  ·rw [List.getElem_append_right (by omega),List.getElem_replicate,List.getElem?_eq_none (by omega)]; rfl
theorem mV (F:List UInt8) (m i:Nat):gt (F++List.replicate m 0) i=gt F i:=by
 have:=kB F (F.length+m) i
 unfold Kt at this
 rwa [show F.length+m-F.length=m by omega] at this
theorem xG (A B:List UInt8) (i:Nat):gt (A++B) i=if i<A.length then gt A i else gt B (i-A.length):=by
 unfold gt
 by_cases c:i<A.length
 ·rw [if_pos c,List.getElem?_append_left c]
 ·rw [if_neg c,List.getElem?_append_right (by omega)]
theorem uG (A:List UInt8) (i:Nat) (h:A.length≤i):gt A i=0:=by unfold gt; rw [List.getElem?_eq_none h]; rfl
end Go.Ev
end
section
namespace Go.Ev
theorem Alk (p:List UInt8) (h:p.length≤65536):qM p=some true:=by simp only [qM,decide_eq_true (show ((p.length:Nat):Int)≤65536 by omega)]
def Nv (L:List (List UInt8)) (d:Ay):Prop:=d.Av=[]∧d.held.length%32=0∧d.held.length≤4096∧∃m,d.held=Aq L++List.replicate m 0
theorem Nv.ok {L:List (List UInt8)} {d:Ay} (h:Nv L d):Mq d:=⟨h.2.1,h.2.2.1,by rw [h.1]; simp,by rw [h.1]; simp⟩
theorem Nv.read {L:List (List UInt8)} {d:Ay} (h:Nv L d):Eg d=d.held:=by unfold Eg; rw [h.1]; rfl
theorem Nv.len {L:List (List UInt8)} {d:Ay} (h:Nv L d):(Aq L).length≤4096:=by
 obtain ⟨_,_,h3,m,h4⟩:=h
 rw [h4] at h3; simp at h3; omega
theorem Nv.scan {L:List (List UInt8)} {d:Ay} (h:Nv L d) (hL:∀p∈L,p.length≤2000):fJ d.held=some (L,(((Aq L).length:Nat):Int)):=by
 obtain ⟨_,_,h3,m,h4⟩:=h
 rw [h4] at h3 ⊢
 simp only [List.length_append,List.length_replicate] at h3
 exact nY L m hL (by omega)
theorem IM {L:List (List UInt8)} {d:Ay} (h:Nv L d) (hL:∀p∈L,p.length≤2000):Ald d=some (L,0):=by
 simp [Ald,So d h.ok,Sq d h.ok,h.read,h.scan hL]
theorem tS (k n:Nat) (hk:k≤1048576) (hn:n≤1048576):qN (k:Int) (n:Int)=some (decide (k+n≤4096)):=by
 have e0:IntKind.i64.wrap ((k:Int)+(n:Int))=((k+n:Nat):Int):=by rw [wr ⟨by omega,by omega⟩]; omega
 simp only [qN,bI,Option.bind_some,Bs,e0]
 rw [decide_eq_true (show (0:Int)≤(k:Int) by omega)]
 by_cases c:k+n≤4096
 ·rw [decide_eq_true (show (k:Int)≤4096 by omega),decide_eq_true (show ((k+n:Nat):Int)≤4096 by omega),decide_eq_true c]; rfl
 ·rw [decide_eq_false (show ¬((k+n:Nat):Int)≤4096 by omega),decide_eq_false c]; cases decide ((k:Int)≤4096)<;>rfl
theorem xM {L:List (List UInt8)} {d:Ay} (h:Nv L d) (p:List UInt8) (hk:(Aq L).length+(Ed p).length≤4096):
  Nv (L++[p]) (Ay.mk (Eg (Dq d (Aq L).length (Ed p))) []):=by
 have hwl:(Dq d (Aq L).length (Ed p)).Av.length≤4096:=by
  unfold Dq
  split
  ·rw [h.1]; simp
  ·simp only [List.length_append,Zc,h.1,List.length_nil]; omega
 have hok:=Zh d h.ok _ (Ed p) hk hwl
 obtain ⟨w1,w2,w3⟩:=rQ d h.ok _ (Ed p) hk
 have hl:=iJ _ hok
 refine ⟨rfl,hl.1,hl.2.1,?_⟩
 have w2:=w2 (by simp)
 have:=oX (Eg (Dq d (Aq L).length (Ed p))) (Aq (L++[p])) (by rw [Dd,Fo]; simp at w2 ⊢; omega) (fun i=>by
  rw [w3,Dd,Fo,xG,h.read]
  obtain ⟨_,_,_,m,h4⟩:=h
  rw [h4,mV]
  by_cases c:(Aq L).length≤i∧i<(Aq L).length+(Ed p).length
  ·rw [if_pos c,if_neg (by omega)]
  ·rw [if_neg c]
   by_cases c2:i<(Aq L).length
   ·rw [if_pos c2]
   ·rw [if_neg c2,uG _ _ (by omega),uG _ _ (by omega)])
 exact ⟨_,this⟩
theorem IS {L:List (List UInt8)} {d:Ay} (h:Nv L d) (hL:∀p∈L,p.length≤2000) (p:List UInt8) (hp:p.length≤2000):
  Alr d p=if (Aq L).length+(Ed p).length≤4096 then some (Ay.mk (Eg (Dq d (Aq L).length (Ed p))) [],0) else some (Ay.mk [] [],9):=by
 have hl:=h.len
 simp only [Alr]
 rw [if_neg (by simp; omega),Sq d h.ok,h.read]
 simp only [Option.bind_some,h.scan hL,Alt p (by omega)]
 rw [tS _ _ (by omega) (by simp; omega)]
 simp only [Option.bind_some]
 by_cases c:(Aq L).length+(Ed p).length≤4096
 ·rw [if_pos c,decide_eq_true c,if_neg (by simp),tT d h.ok _ _ c]
  have hwl:(Dq d (Aq L).length (Ed p)).Av.length≤4096:=by
   unfold Dq
   split
   ·rw [h.1]; simp
   ·simp only [List.length_append,Zc,h.1,List.length_nil]; omega
  have hok:=Zh d h.ok _ (Ed p) c hwl
  simp [g267,Sq _ hok]
 ·rw [if_neg c,decide_eq_false c]; rfl
end Go.Ev
end
section
namespace Go.Ev
end Go.Ev
end
section
namespace Go.Ev
end Go.Ev
end
section
namespace Go.Ev
def jE (l:List Aw) (F:List Bool) (b:List UInt8):Nat→List UInt8
 | 0=>b
 | k+1=>if F[k]?.getD false=true then Mp (jE l F b k) (l[k]?.getD default).at_.toNat (l[k]?.getD default).data else jE l F b k
theorem jF (l:List Aw) (F:List Bool) (b:List UInt8) (hl:∀s∈l,bT s) (h1:b.length%32=0) (h2:b.length≤4096):∀k,k≤l.length →
  (jE l F b k).length%32=0∧(jE l F b k).length≤4096∧b.length≤(jE l F b k).length
 | 0,_=>⟨h1,h2,Nat.le_refl _⟩
 | k+1,hk=>by
  obtain ⟨i1,i2,i3⟩:=jF l F b hl h1 h2 k (by omega)
  unfold jE
  split
  ·rw [List.getElem?_eq_getElem (by omega)]
   have hs:=hl _ (List.getElem_mem (show k<l.length by omega))
   have:=hs.1
   simp only [Option.getD_some]
   rw [eD _ _ _ hs.2]
   exact ⟨by omega,by omega,by omega⟩
  ·exact ⟨i1,i2,i3⟩
theorem Aln (d:Ay) (h:Mq d) (F:List Bool) (hF:F.length≤1048576):Alm d F=some (Ay.mk (jE d.Av F d.held d.Av.length) []):=by
 have hh:=h.2.1; have hw:=h.2.2.1
 have hl:=Cz (step:=Sr d F) (fun k=>(jE d.Av F d.held k,(k:Int))) d.Av.length (jE d.Av F d.held d.Av.length) (fun k hk=>by
  obtain ⟨c1,c2,c3⟩:=jF d.Av F d.held h.2.2.2 h.1 h.2.1 k (by omega)
  simp only [Sr]
  rw [if_pos (decide_eq_true (by omega)),Bx hk]
  simp only [Option.bind_some,bA,w1 (show k<4611686018427387904 by omega)]
  have ec:jE d.Av F d.held (k+1)=if F[k]?.getD false=true then Mp (jE d.Av F d.held k) d.Av[k].at_.toNat d.Av[k].data else jE d.Av F d.held k:=by
   show (if _ then _ else _)=_
   rw [List.getElem?_eq_getElem hk]; rfl
  rw [ec]
  by_cases c:k<F.length
  ·rw [decide_eq_true (show (k:Int)<(F.length:Int) by omega),List.getElem?_eq_getElem c]
   simp only [beq_self_eq_true,if_true,Bx c,Option.bind_some,cond_true,Option.getD_some]
   cases F[k] with
   | true=>simp only [if_true,tR _ _ (h.2.2.2 _ (List.getElem_mem hk)) (show (jE d.Av F d.held k).length≤1048576 by omega),Option.bind_some]
   | false=>simp only [Bool.false_eq_true,if_false]
  ·rw [decide_eq_false (show ¬(k:Int)<(F.length:Int) by omega),List.getElem?_eq_none (by omega)]
   simp) (by
  simp only [Sr]
  rw [if_neg (by simp)])
 have hl':Ce (Sr d F) (d.held,0)=some (jE d.Av F d.held d.Av.length):=hl
 simp only [Alm,Su d.held (by omega),Option.bind_some,hl']
theorem Ale (d:Ay) (h:Mq d) (F:List Bool) (hF:F.length≤4096):IN d F=some (Ay.mk (jE d.Av F d.held d.Av.length) [],0):=by
 simp only [IN,g305,decide_eq_true (show (F.length:Int)≤4096 by omega),Option.bind_some,Bool.not_true,Bool.false_eq_true,if_false,So d h,Aln d h F (by omega)]
end Go.Ev
end
section
namespace Go.Ev
end Go.Ev
end
section
namespace Go.Ev
def Wa (c:Ar):List UInt8:=(([b8 (c.key.length:Int)]++c.key)++Io (if c.Li=true then 0 else c.value.length+1) 2)++c.value
def Fs (l:List Ar):List UInt8:=(l.map Wa).flatten
def Nk (c:Ar):Prop:=(1≤c.key.length∧c.key.length≤60)∧c.value.length≤400∧(c.Li=true→c.value=[])
def Qg (l:List Ar):Prop:=l.length≤30∧∀c∈l,Nk c
theorem cN (c:Ar):(Wa c).length=c.key.length+c.value.length+3:=by simp [Wa,bigB_len]; omega
theorem gL (c:Ar) (l:List Ar):Fs (c::l)=Wa c++Fs l:=by simp [Fs]
theorem mJ (a b:List Ar):Fs (a++b)=Fs a++Fs b:=by simp [Fs]
theorem HV (c:Ar):Fs [c]=Wa c:=by simp [Fs]
theorem cM (l:List Ar) (h:∀c∈l,Nk c):(Fs l).length≤463*l.length:=by
 induction l with
 | nil=>simp [Fs]
 | cons c r ih=>
  have h1:=h c (by simp)
  have h2:=ih fun x hx=>h x (by simp [hx])
  rw [gL,List.length_append,cN,List.length_cons]
  have:=h1.1.2; have:=h1.2.1
  omega
theorem JT {α:Type} (l:List α) (j:Nat) (h:j<l.length):El l (j:Int)=some l[j]:=by
 unfold El
 rw [if_pos (by omega),Int.toNat_natCast,List.getElem?_eq_getElem h]
theorem oM {α:Type} (l:List α) (j:Nat) (h:j<l.length):l.take (j+1)=l.take j++[l[j]]:=(List.take_append_getElem h).symm
theorem cQ (out:List UInt8) (k:Nat) (c:Ar) (hc:Nk c) (n:Nat) (hn:n≤401) (ho:out.length≤20000) (hk:k≤1000):
  Wn out (k:Int) c (n:Int)=some (.inl ((((out++([b8 (c.key.length:Int)]:List UInt8))++c.key)++Io n 2)++c.value,((k+1:Nat):Int))):=by
 have h1:=hc.1.2; have h2:=hc.2.1
 have e:jP (n:Int) 2=some (Io n 2):=jQ n 2 (by omega)
 simp only [Wn,e,Option.bind_some]
 rw [if_pos (by simp [bigB_len]; omega),if_pos (by simp [bigB_len]; omega),w1 (by omega)]
 rfl
theorem AlN (l:List Ar) (h:Qg l):AlM l=some (Fs l):=by
 obtain ⟨hl,hc⟩:=h
 obtain ⟨r,r1,r2⟩:=Oe (step:=bD l) (fun x=>∃j:Nat,x.2=(j:Int)∧j≤l.length∧x.1=Fs (l.take j)) (fun x=>(l.length-x.2).toNat) (fun r=>r=Fs l) ([],0) ⟨0,rfl,by omega,by simp [Fs]⟩ (by
  rintro ⟨out,k⟩ ⟨j,rfl,h1,rfl⟩
  simp only [bD]
  by_cases h0:j<l.length
  ·rw [if_pos (decide_eq_true (by omega)),JT l j h0]
   have hr:=hc l[j] (List.getElem_mem h0)
   have hlen:=cM (l.take j) fun x hx=>hc x (List.mem_of_mem_take hx)
   have hj:(l.take j).length=j:=by simp; omega
   rw [hj] at hlen
   have:=hr.1.2; have:=hr.2.1
   simp only [Option.bind_some]
   rw [if_pos (by simp; omega),if_pos (by simp; omega)]
   refine .inl ⟨(Fs (l.take (j+1)),((j+1:Nat):Int)),?_,⟨j+1,rfl,by omega,rfl⟩,by simp only; omega⟩
   rw [oM l j h0,mJ,HV]
   split
   ·rename_i hg
    have:=cQ (Fs (l.take j)) j l[j] hr 0 (by omega) (by omega) (by omega)
    simp only [Wa,hg,if_true]
    simpa [List.append_assoc] using this
   ·rename_i hg
    have e1:IntKind.i64.wrap ((l[j].value.length:Int)+1)=((l[j].value.length+1:Nat):Int):=w1 (by omega)
    have:=cQ (Fs (l.take j)) j l[j] hr (l[j].value.length+1) (by omega) (by omega) (by omega)
    rw [e1]
    simp only [Wa,hg,if_false]
    simpa [List.append_assoc] using this
  ·rw [if_neg (by simp; omega)]
   have:j=l.length:=by omega
   subst this
   exact .inr ⟨_,rfl,by rw [List.take_length]⟩)
 simp only [AlM,r1,Option.bind_some,r2]
end Go.Ev
end
section
namespace Go.Ev
theorem Amc (l:List Ar) (f:Ar→Option Bool) (p:Ar→Bool) (hf:∀x∈l,f x=some (p x)) (hl:l.length≤4611686018427387903):g429 l f=some (Gj l p):=Md l f p hf hl (fun _=>rfl)
theorem Ama (l:List Ar) (f:Ar→Option Bool) (p:Ar→Bool) (hf:∀x∈l,f x=some (p x)) (hl:l.length≤4611686018427387903):AlZ l f=some (l.any p):=by
 unfold AlZ; rw [Amc l f p hf hl]; simp only [Option.bind_some,Oy]
theorem AlT (l:List Ar) (f:Ar→Option Bool) (p:Ar→Bool) (hf:∀x∈l,f x=some (p x)) (hl:l.length≤4611686018427387903):AlS l f=some (l.all p):=by
 unfold AlS; rw [Ama l _ (fun x => !p x) (fun x hx=>by simp [Amb,hf x hx]) hl]; simp only [Option.bind_some,aM]
theorem AlR (l:List Bd) (hl:l.length≤1048576):AlQ l=some l:=by
 unfold AlQ; rw [if_pos (by simp; omega)]
end Go.Ev
end
section
namespace Go.Ev
theorem tX {c:Ar} (h:Nk c):qS c=some true:=by
 obtain ⟨h1,h2,h3⟩:=h
 have e:qQ c.key=some true:=by simp [qQ,bI,decide_eq_true (show (1:Int)≤(c.key.length:Int) by omega),decide_eq_true (show ((c.key.length:Nat):Int)≤60 by omega)]
 simp only [qS,e,Option.bind_some,Bs,decide_eq_true (show ((c.value.length:Nat):Int)≤400 by omega),cond_true]
 by_cases hg:c.Li=true
 ·rw [hg,h3 hg]; rfl
 ·simp only [Bool.not_eq_true] at hg; rw [hg]; rfl
theorem AlL {l:List Ar} (h:Qg l):AlK l=some true:=by
 have e:=AlT l (fun z=>qS z) (fun _=>true) (fun x hx=>tX (h.2 x hx)) (by have:=h.1; omega)
 have h1:=h.1
 simp only [AlK,decide_eq_true (show ((l.length:Nat):Int)≤30 by omega),e,Option.bind_some,beq_self_eq_true,if_true,cond_true]
 simp
theorem AlJ {l:List Ar} (h:Qg l):AlI l=some true:=by
 have h1:=h.1
 simp only [AlI,decide_eq_true (show ((l.length:Nat):Int)≤4096 by omega)]
theorem cS (A R:List UInt8):qU (A++R) (A.length:Int)=some (A,R,true):=by
 have e1:Lp (A++R) 0 (A.length:Int)=some A:=by
  have:=Tz (A++R) 0 A.length (by omega) (by simp)
  simpa using this
 have e2:Lp (A++R) (A.length:Int) ((A++R).length:Int)=some R:=by
  rw [Tz (A++R) A.length (A++R).length (by simp) (by omega),List.take_length,List.drop_left]
 simp only [qU]
 rw [if_neg (by simp; omega),e1,e2]
 rfl
theorem b8_key {c:Ar} (h:Nk c):(b8 (c.key.length:Int)).toNat=c.key.length:=by
 have:=h.1.2
 rw [pS]; omega
theorem wr_nat {n:Nat} (h:n<4611686018427387904):IntKind.i64.wrap (n:Int)=(n:Int):=wr ⟨by omega,by omega⟩
theorem IZ {c:Ar} (h:Nk c) (R:List UInt8) (hR:R.length≤1048576):AlU (Wa c++R)=some (c,R,true):=by
 obtain ⟨⟨h1,h1'⟩,h2,h3⟩:=h
 have hr:Nk c:=⟨⟨h1,h1'⟩,h2,h3⟩
 let n:=if c.Li=true then 0 else c.value.length+1
 have hn:n≤401:=by show (if c.Li=true then 0 else c.value.length+1)≤401; split<;>omega
 have e0:Wa c++R=b8 (c.key.length:Int)::(c.key++(Io n 2++(c.value++R))):=by simp [Wa,n,List.append_assoc]
 have e1:Lp (Wa c++R) 1 ((Wa c++R).length:Int)=some (c.key++(Io n 2++(c.value++R))):=by
  rw [e0]
  have:=Tz (b8 (c.key.length:Int)::(c.key++(Io n 2++(c.value++R)))) 1 (b8 (c.key.length:Int)::(c.key++(Io n 2++(c.value++R)))).length (by simp) (by omega)
  rw [List.take_length] at this
  exact this
 have e2:El (Wa c++R) 0=some (b8 (c.key.length:Int)):=by rw [e0]; rfl
 have e3:IntKind.i64.wrap (((b8 (c.key.length:Int)).toNat:Nat):Int)=(c.key.length:Int):=by rw [b8_key hr]; exact wr_nat (by omega)
 have e4:=cS c.key (Io n 2++(c.value++R))
 have e5:qU (Io n 2++(c.value++R)) 2=some (Io n 2,c.value++R,true):=by
  have:=cS (Io n 2) (c.value++R)
  rwa [bigB_len] at this
 have e6:qP (Io n 2)=some (n:Int):=by rw [jR _ (by rw [bigB_len]; omega),gD n (by omega)]
 have e7:(if 0>IntKind.i64.wrap ((n:Int)-1) then 0 else IntKind.i64.wrap ((n:Int)-1))=(c.value.length:Int):=by
  have hw:IntKind.i64.wrap ((n:Int)-1)=(n:Int)-1:=wr ⟨by omega,by omega⟩
  rw [hw]
  by_cases hg:c.Li=true
  ·have:n=0:=by show (if c.Li=true then 0 else c.value.length+1)=0; rw [if_pos hg]
   rw [this,h3 hg]; rfl
  ·have:n=c.value.length+1:=by show (if c.Li=true then 0 else c.value.length+1)=_; rw [if_neg hg]
   rw [this,if_neg (by omega)]; omega
 have e8:=cS c.value R
 have e9:((n:Int)==0)=c.Li:=by
  by_cases hg:c.Li=true
  ·have:n=0:=by show (if c.Li=true then 0 else c.value.length+1)=0; rw [if_pos hg]
   rw [this,hg]; rfl
  ·have:n=c.value.length+1:=by show (if c.Li=true then 0 else c.value.length+1)=_; rw [if_neg hg]
   simp only [Bool.not_eq_true] at hg
   rw [this,hg]; simp; omega
 simp only [AlU,e1,e2,Option.bind_some,e3,e4,e5,e6,e7,e8,e9]
 rfl
theorem dropS {α:Type} (l:List α) (j:Nat) (h:j<l.length):l.drop j=l[j]::l.drop (j+1):=List.drop_eq_getElem_cons h
theorem AlP (l:List Ar) (h:Qg l):AlO (Fs l)=some (l,true):=by
 obtain ⟨hl,hc⟩:=h
 obtain ⟨r,r1,r2⟩:=Oe (step:=bE) (fun x=>∃j:Nat,j≤l.length∧x.1=Fs (l.drop j)∧x.2=l.take j) (fun x=>x.1.length) (fun r=>r = .inl l) (Fs l,[]) ⟨0,by omega,by simp,by simp⟩ (by
  rintro ⟨b,out⟩ ⟨j,h1,rfl,rfl⟩
  simp only [bE]
  by_cases h0:j<l.length
  ·have hr:=hc l[j] (List.getElem_mem h0)
   have hd:Fs (l.drop j)=Wa l[j]++Fs (l.drop (j+1)):=by rw [dropS l j h0,gL]
   have hlen:=cM (l.drop (j+1)) fun x hx=>hc x (List.mem_of_mem_drop hx)
   have hdl:(l.drop (j+1)).length≤30:=by simp; omega
   have hj:(l.take j).length=j:=by simp; omega
   rw [if_pos (decide_eq_true (by rw [hd,List.length_append,cN]; omega)),hd,IZ hr _ (by omega)]
   simp only [Option.bind_some,Bool.not_true,cond_false,hj]
   rw [show ((j:Int)==30)=false from by simp; omega]
   simp only [show (false==false)=true from rfl,if_true,tX hr,Option.bind_some,Bs,Bool.not_true,cond_false,Bool.false_eq_true,if_false]
   rw [if_pos (by simp; omega)]
   exact .inl ⟨_,rfl,⟨j+1,by omega,rfl,(oM l j h0).symm⟩,by simp only [List.length_append,cN]; omega⟩
  ·have:j=l.length:=by omega
   subst this
   rw [if_neg (by simp [Fs])]
   exact .inr ⟨_,rfl,by rw [List.take_length]⟩)
 simp only [AlO,r1,Option.bind_some,r2]
end Go.Ev
end
section
namespace Go.Ev
end Go.Ev
end
section
namespace Go.Ev
theorem ba_get (l:List UInt8) (i:Nat):(ByteArray.mk l.toArray)[i]! = l.getD i 0:=by
 rw [getElem!_def]
 by_cases h:i<l.length
 ·rw [getElem?_pos (ByteArray.mk l.toArray) i (by simpa [ByteArray.size] using h)]
  simp [List.getD,h]
  rfl
 ·rw [getElem?_neg (ByteArray.mk l.toArray) i (by simpa [ByteArray.size] using h)]
  simp [List.getD,h]
  rfl
def aH (x y:List UInt8):Int:=match (List.range (min x.length y.length)).find? fun i=>x.getD i 0 != y.getD i 0 with
 | some i=>if x.getD i 0<y.getD i 0 then -1 else 1
 | none=>if x.length<y.length then -1 else if x.length>y.length then 1 else 0
theorem HN (x y:List UInt8):jD x y=aH x y:=by
 unfold jD aH Extern.BytealgCompare.cmp
 simp only [ba_get]
 rfl
theorem wG (a b:UInt8) (x y:List UInt8):aH (a::x) (b::y)=if a=b then aH x y else if a<b then -1 else 1:=by
 have e:min (a::x).length (b::y).length=min x.length y.length+1:=by simp
 unfold aH
 rw [e,List.range_succ_eq_map,List.find?_cons]
 by_cases h:a=b
 ·subst h
  simp only [List.getD_cons_zero,bne_self_eq_false,if_true]
  rw [List.find?_map]
  have e2:((fun i=>(a::x).getD i 0 != (a::y).getD i 0)∘Nat.succ)=fun i=>x.getD i 0 != y.getD i 0:=by
   funext i; simp
  rw [e2]
  cases (List.range (min x.length y.length)).find? (fun i=>x.getD i 0 != y.getD i 0) with
  | none=>simp
  | some i=>simp
 ·have:((a::x).getD 0 0 != (b::y).getD 0 0)=true:=by simpa using h
  simp only [this,if_neg h]
  simp
theorem HM:aH [] []=0:=rfl
theorem wH (b:UInt8) (y:List UInt8):aH [] (b::y) = -1:=by simp [aH]
theorem wF (a:UInt8) (x:List UInt8):aH (a::x) []=1:=by simp [aH]
theorem Yd:∀x y:List UInt8,(aH x y<0↔Op.bytesLess x y=true)∧(aH x y=0↔x=y)
 | [],[]=>by simp [HM,Op.bytesLess]
 | [],b::y=>by simp [wH,Op.bytesLess]
 | a::x,[]=>by simp [wF,Op.bytesLess]
 | a::x,b::y=>by
  obtain ⟨h1,h2⟩:=Yd x y
  rw [wG]
  by_cases h:a=b
  ·subst h
   rw [if_pos rfl]
   refine ⟨by rw [h1]; simp [Op.bytesLess],by rw [h2]; simp⟩
  ·rw [if_neg h]
   by_cases hl:a<b
   ·rw [if_pos hl]; exact ⟨by simp [Op.bytesLess,hl],by simp [h]⟩
   ·rw [if_neg hl]; exact ⟨by simp [Op.bytesLess,hl,h],by simp [h]⟩
theorem AkD (x y:List UInt8):decide (jD x y<0)=Op.bytesLess x y:=by
 rw [HN,Bool.eq_iff_iff,decide_eq_true_eq]; exact (Yd x y).1
theorem AkC (x y:List UInt8):(jD x y==0)=(x==y):=by
 rw [HN,Bool.eq_iff_iff,beq_iff_eq,beq_iff_eq]; exact (Yd x y).2
theorem tY (p:Bd) (k:List UInt8):qT p k=some (jD p.key k):=by simp [qT,g418,g427]
abbrev gY (x y:List UInt8):Bool:=Op.bytesLess x y
theorem Th:∀ {x y z:List UInt8},gY x y=true→gY y z=true→gY x z=true
 | _,_,[],_,h=>by simp [gY,Op.bytesLess] at h
 | _,[],_::_,h,_=>by simp [gY,Op.bytesLess] at h
 | [],_::_,_::_,_,_=>rfl
 | a::x,b::y,c::z,h1,h2=>by
  simp only [gY,Op.bytesLess,Bool.or_eq_true,Bool.and_eq_true,decide_eq_true_eq,beq_iff_eq] at h1 h2 ⊢
  rcases h1 with h1 | ⟨rfl,h1⟩
  ·rcases h2 with h2 | ⟨rfl,h2⟩
   ·exact .inl (UInt8.lt_trans h1 h2)
   ·exact .inl h1
  ·rcases h2 with h2 | ⟨rfl,h2⟩
   ·exact .inl h2
   ·exact .inr ⟨rfl,Th h1 h2⟩
theorem uO:∀x y:List UInt8,gY x y=true∨x=y∨gY y x=true
 | [],[]=>.inr (.inl rfl)
 | [],_::_=>.inl rfl
 | _::_,[]=>.inr (.inr rfl)
 | a::x,b::y=>by
  simp only [gY,Op.bytesLess,Bool.or_eq_true,Bool.and_eq_true,decide_eq_true_eq,beq_iff_eq]
  by_cases h:a=b
  ·subst h
   rcases uO x y with h | h | h
   ·exact .inl (.inr ⟨rfl,h⟩)
   ·exact .inr (.inl (by rw [h]))
   ·exact .inr (.inr (.inr ⟨rfl,h⟩))
  ·by_cases hl:a<b
   ·exact .inl (.inl hl)
   ·exact .inr (.inr (.inl (by
     have h1:a.toNat≠b.toNat:=fun e=>h (UInt8.toNat_inj.1 e)
     have h2:¬a.toNat<b.toNat:=fun e=>hl (UInt8.lt_iff_toNat_lt.2 e)
     exact UInt8.lt_iff_toNat_lt.2 (by omega))))
end Go.Ev
end
section
namespace Go.Ev
def Ik (l:List Bd):Prop:=l.Pairwise fun a b=>gY a.key b.key=true
def Kx (l:List Bd) (k:List UInt8):Nat:=(l.takeWhile fun p=>gY p.key k).length
theorem qC (l:List Bd) (k:List UInt8):Kx l k≤l.length:=by
 induction l with
 | nil=>simp [Kx]
 | cons p r ih=>
  unfold Kx at ih ⊢
  rw [List.takeWhile_cons]
  split<;>simp<;>omega
theorem jH {l:List Bd} (hs:Ik l) (k:List UInt8):∀(j:Nat) (h:j<l.length),gY l[j].key k=true↔j<Kx l k:=by
 induction l with
 | nil=>intro j h; simp at h
 | cons p r ih=>
  obtain ⟨h1,h2⟩:=List.pairwise_cons.1 hs
  intro j h
  unfold Kx
  rw [List.takeWhile_cons]
  by_cases hp:gY p.key k=true
  ·rw [if_pos hp]
   cases j with
   | zero=>simp [hp]
   | succ j=>simpa [Kx] using ih h2 j (by simpa using h)
  ·rw [if_neg hp]
   simp only [List.length_nil,Nat.not_lt_zero,iff_false]
   cases j with
   | zero=>exact hp
   | succ j=>
    intro hh
    have hm:r[j]'(by simpa using h)∈r:=List.getElem_mem _
    exact hp (Th (h1 _ hm) hh)
theorem halfK (a:Nat) (h:a≤4194304):IntKind.i64.wrap (Kc .u64 (IntKind.u64.wrap (IntKind.i64.wrap (a:Int))) 1)=((a / 2:Nat):Int):=by
 have h1:IntKind.u64.wrap (a:Int)=a:=by
  have e:IntKind.u64.wrap (a:Int)=(a:Int)%18446744073709551616:=by simp [IntKind.wrap,IntKind.bits,IntKind.signed]
  rw [e]; omega
 have h2:(2:Int)^min (1:Int).toNat 64=2:=by decide
 rw [wr (n:=(a:Int)) ⟨by omega,by omega⟩,h1]
 simp only [Kc,h2]
 rw [Int.fdiv_eq_ediv_of_nonneg _ (by omega),wr ⟨by omega,by omega⟩]
 omega
def Tw (l:List Bd) (k:List UInt8):Bool:=match l.drop (Kx l k) with
 | p::_=>p.key==k
 | []=>false
theorem AlW {l:List Bd} (hs:Ik l) (hl:l.length≤1048576) (k:List UInt8):AlV l k (fun a b=>qT a b)=some ((Kx l k:Int),Tw l k):=by
 have hc:=qC l k
 obtain ⟨r,r1,r2⟩:=Oe (step:=bH l k (fun a b=>qT a b)) (fun s=>∃a b:Nat,s=((a:Int),(b:Int))∧a≤Kx l k∧Kx l k≤b∧b≤l.length) (fun s=>(s.2-s.1).toNat) (fun r=>r=(Kx l k:Int)) (0,(l.length:Int)) ⟨0,l.length,rfl,by omega,hc,by omega⟩ (by
  rintro _ ⟨a,b,rfl,h1,h2,h3⟩
  simp only [bH]
  by_cases h0:a<b
  ·rw [if_pos (decide_eq_true (by omega))]
   have e1:IntKind.i64.wrap (Kc .u64 (IntKind.u64.wrap (IntKind.i64.wrap ((a:Int)+(b:Int)))) 1)=(((a+b) / 2:Nat):Int):=by
    rw [show ((a:Int)+(b:Int))=((a+b:Nat):Int) from by omega]; exact halfK _ (by omega)
   have hm:(a+b) / 2<l.length:=by omega
   simp only [e1,Bs,JT l _ hm,Option.bind_some,tY,AkD]
   have hi:=jH hs k _ hm
   by_cases hp:gY l[(a+b) / 2].key k=true
   ·have:=hi.1 hp
    rw [if_pos hp,w1 (by omega)]
    exact .inl ⟨_,rfl,⟨(a+b) / 2+1,b,rfl,by omega,by omega,by omega⟩,by simp only; omega⟩
   ·have:¬(a+b) / 2<Kx l k:=fun h=>hp (hi.2 h)
    rw [if_neg hp]
    exact .inl ⟨_,rfl,⟨a,(a+b) / 2,rfl,by omega,by omega,by omega⟩,by simp only; omega⟩
  ·rw [if_neg (by simp; omega)]
   exact .inr ⟨_,rfl,by omega⟩)
 simp only [AlV,r1,r2,Option.bind_some]
 by_cases h0:Kx l k<l.length
 ·simp only [decide_eq_true (show ((Kx l k:Nat):Int)<(l.length:Int) by omega),beq_self_eq_true,if_true,JT l _ h0,Option.bind_some,tY,AkC,cond_true]
  unfold Tw
  rw [List.drop_eq_getElem_cons h0]
 ·rw [decide_eq_false (show ¬((Kx l k:Nat):Int)<(l.length:Int) by omega)]
  simp only [show (false==true)=false from rfl,Bool.false_eq_true,if_false,Option.bind_some,cond_false]
  unfold Tw
  rw [List.drop_of_length_le (by omega)]
def Ou (l:List Bd) (c:Ar):List Bd:=
 (l.take (Kx l c.key)++(if c.Li=true then [] else [Bd.mk c.key c.value]))++l.drop (Kx l c.key+if Tw l c.key=true then 1 else 0)
def Nl (l:List Bd) (cs:List Ar):List Bd:=cs.foldl Ou l
theorem uH {l:List Bd} {k:List UInt8} (h:Tw l k=true):Kx l k<l.length:=by
 unfold Tw at h
 by_cases h0:Kx l k<l.length
 ·exact h0
 ·rw [List.drop_of_length_le (by omega)] at h; cases h
theorem zI (l:List Bd) (c:Ar):(Ou l c).length≤l.length+1:=by
 have:=qC l c.key
 unfold Ou
 simp only [List.length_append,List.length_take,List.length_drop]
 split<;>split<;>simp<;>omega
end Go.Ev
end
section
namespace Go.Ev
theorem KE {l:List Bd} (hs:Ik l) (k:List UInt8) {a:Bd} (h:a∈l.take (Kx l k)):gY a.key k=true:=by
 obtain ⟨j,hj,rfl⟩:=List.getElem_of_mem h
 have hj':j<Kx l k∧j<l.length:=by rw [List.length_take] at hj; omega
 rw [List.getElem_take]
 exact (jH hs k j hj'.2).2 hj'.1
theorem uF {l:List Bd} (hs:Ik l) (k:List UInt8) {b:Bd} (h:b∈l.drop (Kx l k+if Tw l k=true then 1 else 0)):gY k b.key=true:=by
 obtain ⟨j,hj,rfl⟩:=List.getElem_of_mem h
 rw [List.getElem_drop]
 rw [List.length_drop] at hj
 have hge:∀(i:Nat) (hi:i<l.length),Kx l k≤i→¬gY l[i].key k=true:=fun i hi h1 h2=>by
  have:=(jH hs k i hi).1 h2; omega
 have hlt:∀(i m:Nat) (hi:i<l.length) (hm:m<l.length),i<m→gY l[i].key l[m].key=true:=fun i m hi hm him=>List.pairwise_iff_getElem.1 hs i m hi hm him
 by_cases hh:Tw l k=true
 ·have hcl:=uH hh
  rw [if_pos hh] at hj
  have hk:l[Kx l k].key=k:=by
   unfold Tw at hh
   rw [List.drop_eq_getElem_cons hcl] at hh
   exact beq_iff_eq.1 hh
  have hidx:Kx l k+(if Tw l k=true then 1 else 0)+j=Kx l k+1+j:=by rw [if_pos hh]
  have:=hlt (Kx l k) (Kx l k+1+j) hcl (by omega) (by omega)
  rw [hk] at this
  simpa only [hidx] using this
 ·rw [if_neg hh] at hj
  have hidx:Kx l k+(if Tw l k=true then 1 else 0)+j=Kx l k+j:=by rw [if_neg hh]; omega
  simp only [hidx]
  have hcl:Kx l k<l.length:=by omega
  have hk:l[Kx l k].key≠k:=by
   intro e
   apply hh
   unfold Tw
   rw [List.drop_eq_getElem_cons hcl]
   exact beq_iff_eq.2 e
  have h0:gY k l[Kx l k].key=true:=by
   rcases uO l[Kx l k].key k with h | h | h
   ·exact absurd h (hge _ hcl (by omega))
   ·exact absurd h hk
   ·exact h
  cases j with
  | zero=>exact h0
  | succ j=>exact Th h0 (hlt (Kx l k) (Kx l k+(j+1)) hcl (by omega) (by omega))
theorem Zl {l:List Bd} (hs:Ik l) (c:Ar):Ik (Ou l c):=by
 unfold Ou Ik
 rw [List.pairwise_append,List.pairwise_append]
 refine ⟨⟨hs.sublist (List.take_sublist _ _),?_,?_⟩,hs.sublist (List.drop_sublist _ _),?_⟩
 ·split<;>simp
 ·intro a ha b hb
  split at hb
  ·cases hb
  ·simp only [List.mem_singleton] at hb; subst hb
   exact KE hs c.key ha
 ·intro a ha b hb
  rw [List.mem_append] at ha
  rcases ha with ha | ha
  ·exact Th (KE hs c.key ha) (uF hs c.key hb)
  ·split at ha
   ·cases ha
   ·simp only [List.mem_singleton] at ha; subst ha
    exact uF hs c.key hb
theorem lV (cs:List Ar):∀ {l:List Bd},Ik l→Ik (Nl l cs):=by
 induction cs with
 | nil=>intro l h; exact h
 | cons c r ih=>intro l h; exact ih (Zl h c)
theorem zG (cs:List Ar):∀l:List Bd,(Nl l cs).length≤l.length+cs.length:=by
 induction cs with
 | nil=>intro l; simp [Nl]
 | cons c r ih=>
  intro l
  have h1:=ih (Ou l c); have h2:=zI l c
  show (Nl (Ou l c) r).length≤_
  simp only [List.length_cons]; omega
theorem vS (l:List Bd) (cs:List Ar) (c:Ar):Nl l (cs++[c])=Ou (Nl l cs) c:=by simp [Nl]
theorem wZ {l:List Bd} (hs:Ik l) (hl:l.length≤1000000) (c:Ar) (j:Nat) (hj:j≤1000) (cs:List Ar) (hc:cs[j]? = some c):
  Tb cs (l,(j:Int))=some (.inl (Ou l c,((j+1:Nat):Int))):=by
 obtain ⟨hjl,rfl⟩:=List.getElem?_eq_some_iff.1 hc
 have hcut:=qC l cs[j].key
 have core:∀(q:List Bd) (b:Bool),q.take (Kx l cs[j].key)=l.take (Kx l cs[j].key)→q.drop (Kx l cs[j].key)=l.drop (Kx l cs[j].key+if Tw l cs[j].key=true then 1 else 0)→q.length≤1000000→Kx l cs[j].key≤q.length →
   Wo (j:Int) cs[j] ((Kx l cs[j].key:Int),b) q=some (.inl (Ou l cs[j],((j+1:Nat):Int))):=by
  intro q b h1 h2 h3 h4
  simp only [Wo,bF]
  by_cases hg:cs[j].Li=true
  ·rw [if_neg (by simp [hg]),w1 (by omega)]
   have:q=Ou l cs[j]:=by
    unfold Ou
    rw [if_pos hg,List.append_nil,←h1,←h2,List.take_append_drop]
   rw [this]
  ·rw [if_pos (by simpa using hg)]
   have e:AlY q (Kx l cs[j].key:Int) [Bd.mk cs[j].key cs[j].value]=some (Ou l cs[j],[Bd.mk cs[j].key cs[j].value]):=by
    unfold AlY Ou
    rw [if_pos ⟨⟨by omega,by omega⟩,by simp,by simp; omega⟩,Int.toNat_natCast,h1,h2,if_neg hg]
   rw [e]
   simp only [Option.bind_some]
   rw [if_pos trivial,w1 (by omega)]
 simp only [Tb]
 rw [if_pos (decide_eq_true (by omega)),JT cs j hjl]
 simp only [Option.bind_some]
 rw [AlW hs (by omega)]
 simp only [Option.bind_some]
 by_cases hh:Tw l cs[j].key=true
 ·have hcl:=uH hh
  rw [if_pos hh,w1 (by omega)]
  have e:AlX l (Kx l cs[j].key:Int) ((Kx l cs[j].key+1:Nat):Int)=some (l.take (Kx l cs[j].key)++l.drop (Kx l cs[j].key+1)):=by
   unfold AlX
   rw [if_pos ⟨⟨by omega,by omega,by omega⟩,by omega⟩,Int.toNat_natCast,Int.toNat_natCast]
  rw [e]
  simp only [Option.bind_some]
  have ht:(l.take (Kx l cs[j].key)).length=Kx l cs[j].key:=by rw [List.length_take]; omega
  refine core _ _ ?_ ?_ (by simp; omega) (by simp; omega)
  ·rw [List.take_append_of_le_length (by omega),List.take_take,Nat.min_self]
  ·rw [if_pos hh,List.drop_append_of_le_length (by omega),List.drop_of_length_le (by omega),List.nil_append]
 ·rw [if_neg hh]
  exact core l _ rfl (by rw [if_neg hh]; rfl) hl (by omega)
theorem tW {l:List Bd} (hs:Ik l) (hl:l.length≤900000) (cs:List Ar) (hcs:cs.length≤1000):IX l cs=some (Nl l cs,decide (((Nl l cs).length:Int)≤100)):=by
 obtain ⟨r,r1,r2⟩:=Oe (step:=Tb cs) (fun s=>∃j:Nat,j≤cs.length∧s=(Nl l (cs.take j),(j:Int))) (fun s=>(cs.length-s.2).toNat) (fun r=>r=Nl l cs) (l,0) ⟨0,by omega,by simp [Nl]⟩ (by
  rintro _ ⟨j,h1,rfl⟩
  by_cases h0:j<cs.length
  ·have hlen:=zG (cs.take j) l
   rw [List.length_take] at hlen
   rw [wZ (lV _ hs) (by omega) cs[j] j (by omega) cs (List.getElem?_eq_getElem h0)]
   refine .inl ⟨_,rfl,⟨j+1,by omega,?_⟩,by simp only; omega⟩
   rw [oM cs j h0,vS]
  ·have:j=cs.length:=by omega
   subst this
   simp only [Tb]
   rw [if_neg (by simp)]
   exact .inr ⟨_,rfl,by rw [List.take_length]⟩)
 simp only [IX,AlR l (by omega),r1,r2,Option.bind_some]
end Go.Ev
end
section
namespace Go.Ev
end Go.Ev
end
section
namespace Go.Ev
def Ff (bs:List (List Ar)):List Bd:=bs.foldl Nl []
theorem Lj (bs:List (List Ar)) (b:List Ar):Ff (bs++[b])=Nl (Ff bs) b:=by simp [Ff]
def RightP (p:Bd):Prop:=(1≤p.key.length∧p.key.length≤60)∧p.value.length≤400
def Ot (l:List Bd):Prop:=Ik l∧∀p∈l,RightP p
theorem pQ {l:List Bd} (h:Ot l) {c:Ar} (hc:Nk c):Ot (Ou l c):=by
 refine ⟨Zl h.1 c,fun p hp=>?_⟩
 unfold Ou at hp
 rw [List.mem_append,List.mem_append] at hp
 rcases hp with (hp | hp) | hp
 ·exact h.2 p (List.mem_of_mem_take hp)
 ·split at hp
  ·cases hp
  ·simp only [List.mem_singleton] at hp; subst hp; exact ⟨hc.1,hc.2.1⟩
 ·exact h.2 p (List.mem_of_mem_drop hp)
theorem pP (cs:List Ar) (hc:∀c∈cs,Nk c):∀ {l:List Bd},Ot l→Ot (Nl l cs):=by
 induction cs with
 | nil=>intro l h; exact h
 | cons c r ih=>intro l h; exact ih (fun x hx=>hc x (by simp [hx])) (pQ h (hc c (by simp)))
theorem emptyS:Ot []:=⟨List.Pairwise.nil,fun p hp=>by cases hp⟩
end Go.Ev
end
section
namespace Go.Ev
abbrev pre6:List UInt8:=[108,101,97,115,101,47]
def hp (k:List UInt8):Bool:=decide (6≤k.length)&&(k.take 6==pre6)
end Go.Ev
end
section
namespace Go.Ev
structure Ps (bs:List (List Ar)):Prop where
 n:bs.length≤1000
 right:∀b∈bs,Qg b
 fits:∀j,j≤bs.length→(Ff (bs.take j)).length≤100
 short:∀p∈bs.map Fs,p.length≤2000
theorem RightBs.store (bs:List (List Ar)) (h:∀b∈bs,Qg b):∀l,Ot l→Ot (bs.foldl Nl l):=by
 induction bs with
 | nil=>intro l hl; exact hl
 | cons b r ih=>intro l hl; exact ih (fun x hx=>h x (by simp [hx])) (Nl l b) (pP b (fun c hc=>(h b (by simp)).2 c hc) hl)
theorem Ps.store {bs:List (List Ar)} (h:Ps bs) (j:Nat):Ot (Ff (bs.take j)):=RightBs.store _ (fun b hb=>h.right b (List.mem_of_mem_take hb)) [] emptyS
theorem Ps.pre {bs:List (List Ar)} {b:List Ar} (h:Ps (bs++[b])):Ps bs:=
 ⟨by have:=h.n; simp at this; omega,fun x hx=>h.right x (by simp [hx]),fun j hj=>by
  have:=h.fits j (by simp; omega)
  rwa [List.take_append_of_le_length hj] at this,fun p hp=>h.short p (by rw [List.map_append]; exact List.mem_append_left _ hp)⟩
theorem gS {bs:List (List Ar)} (h:Ps bs) {d:Ay} {b:List UInt8} {n:Int} (hr:fI d=some b) (hs:fJ b=some (bs.map Fs,n)):xA d=some (Ff bs):=by
 have hb8:=h.n
 simp only [xA,hr,Option.bind_some,hs]
 obtain ⟨r,r1,r2⟩:=Oe (step:=bG (bs.map Fs,n)) (fun s=>∃j:Nat,j≤bs.length∧s=(Ff (bs.take j),(j:Int))) (fun s=>(bs.length-s.2).toNat) (fun r=>r=Ff bs) ([],0) ⟨0,by omega,by simp [Ff]⟩ (by
  rintro _ ⟨j,h1,rfl⟩
  simp only [bG]
  by_cases h0:j<bs.length
  ·have hm:j<(bs.map Fs).length:=by simpa using h0
   have hg:(bs.map Fs)[((j:Nat):Int).toNat]? = some (Fs bs[j]):=by rw [Int.toNat_natCast,List.getElem?_map,List.getElem?_eq_getElem h0]; rfl
   have hb:=h.right bs[j] (List.getElem_mem h0)
   have s1:=h.store j
   have s2:=h.fits j h1
   have hbl:=hb.1
   have hl:(Nl (Ff (bs.take j)) bs[j]).length≤100:=by
    have:=h.fits (j+1) (by omega)
    rwa [oM bs j h0,Lj] at this
   rw [if_pos (decide_eq_true (by omega)),JT _ j hm]
   simp only [Option.bind_some,hg,AlP bs[j] hb,Bool.not_true,Bool.false_eq_true,if_false]
   rw [tW s1.1 (by omega) bs[j] (by omega)]
   simp only [Option.bind_some,decide_eq_true (show (((Nl (Ff (bs.take j)) bs[j]).length:Nat):Int)≤100 by omega),Bool.not_true,Bool.false_eq_true,if_false]
   refine .inl ⟨_,rfl,⟨j+1,by omega,?_⟩,by simp only; rw [w1 (by omega)]; omega⟩
   rw [oM bs j h0,Lj,w1 (by omega)]
  ·have:j=bs.length:=by omega
   subst this
   rw [if_neg (by simp)]
   exact .inr ⟨_,rfl,by rw [List.take_length]⟩)
 rw [r1,r2]
 rfl
theorem IY {bs:List (List Ar)} (h:Ps bs) {d:Ay} (hd:Nv (bs.map Fs) d):xA d=some (Ff bs):=gS h ((Sq d hd.ok).trans (congrArg some hd.read)) (hd.scan h.short)
theorem IW {bs:List (List Ar)} {b:List Ar} (h:Ps (bs++[b])) {d:Ay} (hd:Nv (bs.map Fs) d):
  (∃d',qR d b=some (d',0)∧Nv ((bs++[b]).map Fs) d')∨∃d',qR d b=some (d',9):=by
 have hbs:=h.pre
 have hb:Qg b:=h.right b (by simp)
 have s1:Ot (Ff bs):=by have:=hbs.store bs.length; rwa [List.take_length] at this
 have s2:(Ff bs).length≤100:=by have:=hbs.fits bs.length (by omega); rwa [List.take_length] at this
 have hbl:=hb.1
 have hl:(Nl (Ff bs) b).length≤100:=by
  have:=h.fits (bs.length+1) (by simp)
  rwa [List.take_of_length_le (by simp),Lj] at this
 have hlen:(Fs b).length≤2000:=h.short _ (by simp)
 have e:=IS hd hbs.short (Fs b) hlen
 simp only [qR,AlJ hb,So d hd.ok,AlL hb,Option.bind_some,Bool.not_true,show (false==false)=true from rfl,if_true,cond_false,Bool.false_eq_true,if_false,IY hbs hd]
 rw [tW s1.1 (by omega) b (by omega)]
 simp only [Option.bind_some,decide_eq_true (show (((Nl (Ff bs) b).length:Nat):Int)≤100 by omega),Bool.not_true,Bool.false_eq_true,if_false,AlN b hb,e]
 by_cases c:(Aq (bs.map Fs)).length+(Ed (Fs b)).length≤4096
 ·rw [if_pos c]
  refine .inl ⟨_,rfl,?_⟩
  rw [List.map_append,List.map_singleton]
  exact xM hd (Fs b) c
 ·rw [if_neg c]
  exact .inr ⟨_,rfl⟩
end Go.Ev
end
section
namespace Go.Ev
theorem Alv {s:Bz} {B n:Int} (h:Hu s B) (hB:B≤4611686018427000000) (hn:0≤n∧n≤10000):∃l s',Alu s n=some (l,s')∧(l.length:Int)≤n:=by
 have hw:IntKind.i64.wrap (n+1)=n+1:=wr ⟨by omega,by omega⟩
 obtain ⟨v,s1,e1,e2,e3⟩:=Gv (n:=n+1) h (by omega) (by omega)
 have hv:v≤n:=by
  by_cases h0:n+1≤1
  ·have:=e2.2.1 h0; omega
  ·have:=e2.2.2 (by omega); omega
 simp only [Alu,hw,e1,Option.bind_some]
 obtain ⟨r,h1,h2⟩:=Oe (step:=bB) (fun t=>0≤t.2.1∧(t.1.length:Int)+t.2.1=v∧Hu (Bz.mk t.2.2.1 t.2.2.2.1 t.2.2.2.2) (B+3+3*(v-t.2.1))) (fun t=>t.2.1.toNat)
  (fun r=>(r.1.length:Int)=v) ([],v,s1.code_,s1.at_,s1.Fv) ⟨e2.1,by simp,e3.mono (by simp only; omega)⟩ (by
   rintro ⟨l,i,c,a,d⟩ ⟨i1,i2,i3⟩
   simp only at i1 i2 i3
   simp only [bB]
   by_cases h0:i>0
   ·rw [if_pos (decide_eq_true h0)]
    obtain ⟨u,s2,u1,u2,u3⟩:=Gv (n:=2) i3 (by omega) (by omega)
    have hw2:IntKind.i64.wrap (i-1)=i-1:=wr ⟨by omega,by omega⟩
    simp only [IH,u1,Option.bind_some,hw2]
    rw [if_pos (by simp only [List.length_singleton]; omega)]
    exact .inl ⟨_,rfl,⟨by simp only; omega,by simp only [List.length_append,List.length_singleton]; omega,u3.mono (by simp only; omega)⟩,by simp only; omega⟩
   ·rw [if_neg (by simpa using h0)]
    exact .inr ⟨_,rfl,by simp only; omega⟩)
 obtain ⟨l,c,a,d⟩:=r
 have h2a:(l.length:Int)=v:=h2
 rw [h1]
 exact ⟨_,_,rfl,by omega⟩
theorem Alg (code:List UInt8) (hc:code.length≤1048576):∃F,Alf code=some F∧F.length≤12:=by
 obtain ⟨s,s1,s2⟩:=JL code hc
 obtain ⟨l,s',l1,l2⟩:=Alv (n:=12) s2 (by omega) ⟨by omega,by omega⟩
 exact ⟨l,by simp [Alf,s1,l1],by omega⟩
theorem sF (b F:List UInt8) (h:F.length≤b.length) (hg:∀i,i<F.length→gt b i=gt F i):b=F++b.drop F.length:=by
 conv=>lhs; rw [←List.take_append_drop F.length b]
 congr 1
 apply List.ext_getElem
 ·simp; omega
 ·intro i i1 i2
  have:=hg i i2
  unfold gt at this
  rw [List.getElem?_eq_getElem (by omega),List.getElem?_eq_getElem i2] at this
  simpa using this
end Go.Ev
end
section
namespace Go.Ev
theorem qZ (a b c:Int):bI a b c=some (tf (b≤a∧a≤c)):=by
 simp only [bI,dec_tf,sY,tf_and]
theorem g58_eq (a:Int):g58 a=some (tf (1≤a∧a≤1000000)):=by
 simp only [g58,qZ,Option.bind_some]
def bU (t:Ak) (k:Nat) (x:Af):Prop:=(1≤x.id∧x.id≤t.next-1)∧(∀y,0<k→t.Ac[k-1]? = some y→y.id<x.id)∧0≤x.Bn∧x.Bn≤x.cap∧(x.Cg=false→t.clock<x.Bn)
def Gy (t:Ak):Prop:=0≤t.clock∧(1≤t.next∧t.next≤1000000)∧t.Ac.length≤40∧∀k x,t.Ac[k]? = some x→bU t k x
end Go.Ev
namespace Go.Ev
theorem JE (t:Ak) (hl:t.Ac.length≤1048576):g60 t=some (t.Ac.map Af.id):=by
 have h:=Cz (step:=Oz t) (fun k=>((t.Ac.take k).map Af.id,(k:Int))) t.Ac.length (t.Ac.map Af.id) (fun k hk=>by
  have hw3:IntKind.i64.wrap ((k:Int)+1)=((k+1:Nat):Int):=wr ⟨by omega,by omega⟩
  simp only [Oz]
  rw [if_pos (decide_eq_true (by omega)),Bx hk]
  simp only [Option.bind_some,hw3]
  rw [if_pos (by simp; omega),List.take_succ_eq_append_getElem hk,List.map_append]
  rfl) (by
  simp only [Oz]
  rw [if_neg (by simp),List.take_length])
 simp only [g60]
 rw [show ([]:List Int)=(t.Ac.take 0).map Af.id from rfl,show (0:Int)=((0:Nat):Int) from rfl,h]
 rfl
def Cx (l:List Int) (a b:Int):Prop:=∀k x,l[k]? = some x→(a≤x∧x≤b)∧∀y,0<k→l[k-1]? = some y→y<x
theorem jW (l:List Int) (a b:Int) (hl:l.length≤1048576):g59 l a b=some (tf (Cx l a b)):=by
 have h:Ce (cV l a b) 0=some (if tf (Cx l a b)=true then .inl () else .inr false):=by
  refine JY l _ (fun k hk _=>?_) ?_
  ·have hw2:IntKind.i64.wrap ((k:Int)-1)=(k:Int)-1:=wr ⟨by omega,by omega⟩
   have hw3:IntKind.i64.wrap ((k:Int)+1)=((k+1:Nat):Int):=wr ⟨by omega,by omega⟩
   simp only [cV]
   rw [if_pos (decide_eq_true (by omega)),Bx hk]
   generalize hx:l[k]=x
   simp only [Option.bind_some,qZ,hw2]
   have hm:0<k→El l ((k:Int)-1)=l[k-1]? := fun h=>by
    have:((k:Int)-1)=((k-1:Nat):Int):=by omega
    rw [this,kE]
   obtain ⟨y,h1,h2⟩:=mU (o:=El l ((k:Int)-1)) (g:=((!tf (a≤x∧x≤b))==false&&decide ((k:Int)>0)==true)) (fun h=>by
    rw [hm (by simp at h; omega)]
    exact ⟨_,List.getElem?_eq_getElem (by omega)⟩)
   rw [h1]
   simp only [Option.bind_some,Bs,hw3]
   refine ⟨_,?_,rfl⟩
   by_cases hr:a≤x∧x≤b
   ·by_cases hk0:0<k
    ·have hy:l[k-1]? = some y:=by rw [←hm hk0]; exact h2 (by simp [tf_iff,hr]; omega)
     have e3:(∀z,0<k→l[k-1]? = some z→z<x)↔y<x:=by
      rw [hy]; exact ⟨fun h=>h y hk0 rfl,fun h z _ hz=>by cases hz; exact h⟩
     rw [e3]
     simp [hr]; omega
    ·have e3:(∀z,0<k→l[k-1]? = some z→z<x)↔True:=⟨fun _=>trivial,fun _ z h=>absurd h hk0⟩
     rw [e3]
     simp [hr]; omega
   ·have:tf (a≤x∧x≤b)=false:=Hr hr
    rw [this]; simp [hr]
  ·simp only [cV]
   rw [if_neg (by simp)]
 simp only [g59,h,Option.bind_some]
 split
 ·rename_i e; split at e
  ·rename_i hh; rw [hh]
  ·cases e
 ·rename_i q e; split at e
  ·cases e
  ·rename_i hh; cases e; rw [Bool.not_eq_true] at hh; rw [hh]
theorem AkM (l:List Af) (f:Af→Option Bool) (p:Af→Bool) (hf:∀x∈l,f x=some (p x)) (hl:l.length≤1048576):∃n:Int,IF l f=some n∧(0≤n↔∃x∈l,p x=true):=by
 have hh:=dI (step:=Sh l f) (fun k=>(k:Int)) l.length (fun k=>∀h:k<l.length,p l[k]=false) (fun k=>.inr (k:Int)) (.inl ()) (fun k hk _ ho=>by
  simp only [Sh]
  rw [if_pos (decide_eq_true (by omega)),Bx hk]
  simp only [Option.bind_some,hf _ (List.getElem_mem hk),ho hk,wr (n:=(k:Int)+1) ⟨by omega,by omega⟩]
  rfl) (fun k hk _ ho=>by
  have:p l[k]=true:=Classical.byContradiction fun h=>ho fun _=>by simpa using h
  simp only [Sh]
  rw [if_pos (decide_eq_true (by omega)),Bx hk]
  simp only [Option.bind_some,hf _ (List.getElem_mem hk),this]
  rfl) (fun _=>by
  simp only [Sh]
  rw [if_neg (by simp)])
 by_cases h:∀k,k<l.length→∀h:k<l.length,p l[k]=false
 ·refine ⟨-1,?_,by simp; intro x hx; obtain ⟨k,hk,rfl⟩:=List.getElem_of_mem hx; exact h k hk hk⟩
  simp only [IF]
  rw [show (0:Int)=((0:Nat):Int) from rfl,hh.1 h]
  rfl
 ·obtain ⟨k,hk,hj,ho⟩:=Rd h
  refine ⟨k,?_,⟨fun _=>⟨l[k],List.getElem_mem hk,Classical.byContradiction fun h=>ho fun _=>by simpa using h⟩,fun _=>by omega⟩⟩
  simp only [IF]
  rw [show (0:Int)=((0:Nat):Int) from rfl,hh.2 k hk hj ho]
  rfl
theorem JF (l:List Af) (f:Af→Option Bool) (p:Af→Bool) (hf:∀x∈l,f x=some (p x)) (hl:l.length≤1048576):g61 l f=some (tf (∀x∈l,p x=true)):=by
 obtain ⟨n,h1,h2⟩:=AkM l (fun z=>IE z f) (fun x => !p x) (fun x hx=>by simp [IE,hf x hx]) hl
 simp only [g61,g105,h1,Option.bind_some]
 refine sG ?_
 have:(0≤n)↔∃x∈l,(!p x)=true:=h2
 simp
 rw [←Int.not_le,this]
 simp
theorem JG (x:Af) (t:Ak):g62 x t=some (tf ((0≤x.Bn∧x.Bn≤x.cap)∧(x.Cg=false→t.clock<x.Bn))):=by
 simp only [g62,qZ,Option.bind_some,Bs]
 exact sG (by cases x.Cg<;>simp [tf_iff,sY])
theorem IL (t:Ak) (hl:t.Ac.length≤1048576) (hn:I64 t.next):g20 t=some (tf (Gy t)):=by
 simp only [g20,g58_eq,JE t hl]
 obtain ⟨r1,h1,k1⟩:=mU (o:=some (tf (1≤t.next∧t.next≤1000000))) (g:=(decide (t.clock≥0)==true)) (fun _=>⟨_,rfl⟩)
 rw [h1]; simp only [Option.bind_some]
 generalize hg:(bif (bif decide (t.clock≥0) then r1 else false) then decide ((t.Ac.length:Int)≤40) else false)=b
 have hb:b=true↔0≤t.clock∧(1≤t.next∧t.next≤1000000)∧t.Ac.length≤40:=by
  rw [←hg]
  by_cases hc:0≤t.clock
  ·have:=k1 (by simp [hc]); simp only [Option.some.injEq] at this; rw [←this]; simp [hc]; omega
  ·simp [hc]
 obtain ⟨r3,h3,k3⟩:=mU (o:=some (t.Ac.map Af.id)) (g:=b==true) (fun _=>⟨_,rfl⟩)
 rw [h3]; simp only [Option.bind_some]
 obtain ⟨r5,h5,k5⟩:=mU (o:=g59 r3 1 (IntKind.i64.wrap (t.next-1))) (g:=b==true) (fun h=>by
  have:=k3 h; simp only [Option.some.injEq] at this; rw [←this]
  exact ⟨_,jW _ _ _ (by simpa using hl)⟩)
 rw [h5]; simp only [Option.bind_some]
 obtain ⟨r7,h7,k7⟩:=mU (o:=g61 t.Ac (fun z=>g62 z t)) (g:=(bif b then r5 else false)==true) (fun h=>⟨_,JF _ _ _ (fun x _=>JG x t) hl⟩)
 rw [h7]; simp only [Option.bind_some,Bs]
 refine sG ?_
 by_cases hbt:b=true
 ·have hbb:=hb.1 hbt
  have hw:IntKind.i64.wrap (t.next-1)=t.next-1:=wr ⟨by omega,by omega⟩
  have e3:=k3 (by simp [hbt]); simp only [Option.some.injEq] at e3
  have e5:=k5 (by simp [hbt]); rw [←e3,jW _ _ _ (by simpa using hl),hw] at e5; simp only [Option.some.injEq] at e5
  subst hbt
  simp only [cond_true] at k7 ⊢
  by_cases h5t:r5=true
  ·have e7:=k7 (by simp [h5t]); rw [JF _ _ _ (fun x _=>JG x t) hl] at e7; simp only [Option.some.injEq] at e7
   rw [h5t,←e7]
   rw [h5t,tf_iff] at e5
   simp only [cond_true,tf_iff,Gy,hbb,true_and]
   constructor
   ·intro h k x hx
    have h1:=e5 k x.id (by simp [hx])
    have h2:=h x (List.mem_of_getElem? hx)
    exact ⟨h1.1,fun y hk hy=>h1.2 y.id hk (by simp [hy]),h2.1.1,h2.1.2,h2.2⟩
   ·intro h x hx
    obtain ⟨k,hk,rfl⟩:=List.getElem_of_mem hx
    have:=h k _ (List.getElem?_eq_getElem hk)
    exact ⟨⟨this.2.2.1,this.2.2.2.1⟩,this.2.2.2.2⟩
  ·simp only [Bool.not_eq_true] at h5t
   rw [h5t] at e5 ⊢
   rw [tf_false] at e5
   simp only [cond_false,Bool.false_eq_true,false_iff]
   intro h
   refine e5 fun k x hx=>?_
   simp only [List.getElem?_map,Option.map_eq_some_iff] at hx
   obtain ⟨z,hz,rfl⟩:=hx
   have:=h.2.2.2 k z hz
   refine ⟨this.1,fun y hk hy=>?_⟩
   simp only [List.getElem?_map,Option.map_eq_some_iff] at hy
   obtain ⟨u,hu,rfl⟩:=hy
   exact this.2.1 u hk hu
 ·have hbf:b=false:=by simpa using hbt
  subst hbf
  simp only [cond_false,Bool.false_eq_true,false_iff]
  intro h
  exact hbt (hb.2 ⟨h.1,h.2.1,h.2.2.1⟩)
end Go.Ev
end
section
set_option maxHeartbeats 1000000
namespace Go.Ev
theorem Cx.lt {l:List Int} {a b:Int} (h:Cx l a b) {i j:Nat} (hj:j<l.length) (hij:i<j):l[i]<l[j]:=by
 induction j with
 | zero=>omega
 | succ j ih=>
  have h1:=(h (j+1) l[j+1] (List.getElem?_eq_getElem hj)).2 l[j] (by omega) (List.getElem?_eq_getElem (by omega))
  by_cases e:i=j
  ·subst e; exact h1
  ·have:=ih (by omega) (by omega); omega
def Nu (l:List Int) (x:Int) (p:Nat):Prop:=p≤l.length∧(∀k,∀h:k<l.length,k<p→l[k]<x)∧∀k,∀h:k<l.length,p≤k→x≤l[k]
theorem cut_ex {l:List Int} {a b:Int} (h:Cx l a b) (x:Int):∃p,Nu l x p:=by
 by_cases hall:∀k,k<l.length→l[k]?.getD 0<x
 ·refine ⟨l.length,Nat.le_refl _,fun k hk _=>?_,fun k hk hh=>by omega⟩
  have:=hall k hk
  rwa [List.getElem?_eq_getElem hk] at this
 ·obtain ⟨p,hp,h1,h2⟩:=Rd (ok:=fun k=>l[k]?.getD 0<x) hall
  rw [List.getElem?_eq_getElem hp] at h2
  simp only [Option.getD_some] at h2
  refine ⟨p,Nat.le_of_lt hp,fun k hk hkp=>?_,fun k hk hpk=>?_⟩
  ·have:=h1 k hkp
   rwa [List.getElem?_eq_getElem hk] at this
  ·by_cases e:k=p
   ·subst e; omega
   ·have:=h.lt hk (show p<k by omega)
    omega
theorem Nu.one {l:List Int} {x:Int} {p q:Nat} (h1:Nu l x p) (h2:Nu l x q):p=q:=by
 obtain ⟨a1,a2,a3⟩:=h1
 obtain ⟨b1,b2,b3⟩:=h2
 by_cases h:p<q
 ·have:=b2 p (by omega) h; have:=a3 p (by omega) (Nat.le_refl _); omega
 ·by_cases h':q<p
  ·have:=a2 q (by omega) h'; have:=b3 q (by omega) (Nat.le_refl _); omega
  ·omega
theorem mY (a:Int):mO a=some false∧IJ a=some false:=by simp [mO,IJ]
theorem less_eq (a b:Int):AkZ a b=some (decide (a<b)):=by simp [AkZ,(mY a).1,Bs]
theorem halfN (a:Nat) (h:a≤4194304):IntKind.i64.wrap (Kc .u64 (IntKind.u64.wrap (IntKind.i64.wrap (a:Int))) 1)=((a / 2:Nat):Int):=by
 have h1:IntKind.u64.wrap (a:Int)=a:=by
  have e:IntKind.u64.wrap (a:Int)=(a:Int)%18446744073709551616:=by simp [IntKind.wrap,IntKind.bits,IntKind.signed]
  rw [e]; omega
 have h2:(2:Int)^min (1:Int).toNat 64=2:=by decide
 rw [wr (n:=(a:Int)) ⟨by omega,by omega⟩,h1]
 simp only [Kc,h2]
 rw [Int.fdiv_eq_ediv_of_nonneg _ (by omega),wr ⟨by omega,by omega⟩]
 omega
def Je (l:List Int) (x:Int) (p:Nat):Bool:=decide (l[p]? = some x)
theorem AkR {l:List Int} {a b:Int} (h:Cx l a b) (hl:l.length≤1048576) (x:Int) {p:Nat} (hp:Nu l x p):AkQ l x=some ((p:Int),Je l x p):=by
 obtain ⟨r,h1,h2⟩:=Oe (step:=aU l x) (fun s=>∃i j:Nat,s=((i:Int),(j:Int))∧i≤j∧j≤l.length∧(∀k,∀h:k<l.length,k<i→l[k]<x)∧∀k,∀h:k<l.length,j≤k→x≤l[k])
  (fun s=>(s.2-s.1).toNat) (fun r=>∃i:Nat,r=i∧Nu l x i) (0,(l.length:Int))
  ⟨0,l.length,rfl,by omega,by omega,by intros; omega,by intros; omega⟩ (by
   rintro _ ⟨i,j,rfl,hij,hj,ha,hb⟩
   simp only [aU]
   by_cases hlt:i<j
   ·have e:(i:Int)+(j:Int)=((i+j:Nat):Int):=by omega
    rw [if_pos (decide_eq_true (by omega)),e,halfN _ (by omega)]
    have hm:(i+j) / 2<l.length:=by omega
    simp only [Bs,Bx hm,Option.bind_some,less_eq]
    have hw:IntKind.i64.wrap (((i+j) / 2:Nat)+1:Int)=(((i+j) / 2+1:Nat):Int):=wr ⟨by omega,by omega⟩
    rw [hw]
    left
    by_cases hc:l[(i+j) / 2]<x
    ·rw [if_pos (decide_eq_true hc)]
     refine ⟨_,rfl,⟨_,j,rfl,by omega,hj,fun k hk hki=>?_,hb⟩,by simp only; omega⟩
     by_cases e:k=(i+j) / 2
     ·subst e; exact hc
     ·have:=h.lt hm (show k<(i+j) / 2 by omega); omega
    ·rw [if_neg (by simpa using hc)]
     refine ⟨_,rfl,⟨i,_,rfl,by omega,by omega,ha,fun k hk hki=>?_⟩,by simp only; omega⟩
     by_cases e:k=(i+j) / 2
     ·subst e; omega
     ·have:=h.lt hk (show (i+j) / 2<k by omega); omega
   ·rw [if_neg (by simp; omega)]
    exact .inr ⟨_,rfl,i,rfl,by omega,ha,fun k hk hki=>hb k hk (by omega)⟩)
 obtain ⟨i,rfl,hi⟩:=h2
 obtain rfl:=hi.one hp
 simp only [AkQ,h1,Option.bind_some]
 by_cases hlt:i<l.length
 ·have hd:decide ((i:Int)<(l.length:Int))=true:=by simp; omega
  simp only [hd,Bx hlt,Option.bind_some,Bs,Je,List.getElem?_eq_getElem hlt,(mY _).2,beq_self_eq_true,if_true,Bool.true_and,Option.some.injEq,cond_true]
  by_cases hx:l[i]=x
  ·simp [hx]
  ·simp [hx]
 ·have hd:decide ((i:Int)<(l.length:Int))=false:=by simp; omega
  have hd2:(false==true)=false:=rfl
  simp only [hd,hd2,Bool.false_and,Bool.false_eq_true,if_false,Option.bind_some,Bs,cond_false,Je,List.getElem?_eq_none (show l.length≤i by omega),reduceCtorEq,decide_false]
def Lw (l:List Int) (x:Int) (create:Bool) (p:Nat):List Int:=
 if create=true then (if Je l x p=true then l else l.take p++[x]++l.drop p) else if Je l x p=true then l.take p++l.drop (p+1) else l
def Nn (f:Int):Int:=if (f==2)=true then 15 else 0
theorem g89_eq {l:List Int} {a b:Int} (h:Cx l a b) (hl:l.length≤1048575) (x:Int) (c:Bool) (f:Int) {p:Nat} (hp:Nu l x p):
  g89 l x c f=some (if (f==1)=true then (l,13) else (Lw l x c p,Nn f)):=by
 have hc:fH l=some l:=by unfold fH; rw [if_pos (by simp; omega)]
 have j:∀q,Yj f q=some (q,Nn f):=fun q=>by unfold Yj Nn; split<;>rfl
 simp only [g89,hc,Option.bind_some,AkR h (by omega) x hp,j]
 by_cases hf:(f==1)=true
 ·simp [hf]
 ·have hp1:=hp.1
  simp only [hf,if_false]
  cases c with
  | true=>
   simp only [cond_true,Lw,if_true,Bool.not_true,cond_false,Bool.false_eq_true,if_false]
   cases hat:Je l x p with
   | true=>simp
   | false=>
    simp only [Bool.not_false,if_true,Bool.false_eq_true,if_false,g122]
    rw [if_pos ⟨⟨by omega,by omega⟩,by simp,by simp; omega⟩]
    simp
  | false=>
   simp only [cond_false,Lw,Bool.false_eq_true,if_false,Bool.not_false,cond_true]
   cases hat:Je l x p with
   | false=>simp
   | true=>
    have hlt:p<l.length:=by
     simp only [Je,decide_eq_true_eq] at hat
     exact (List.getElem?_eq_some_iff.1 hat).1
    have hw:IntKind.i64.wrap ((p:Int)+1)=((p+1:Nat):Int):=w1 (by omega)
    simp only [if_true,hw,g123]
    rw [if_pos ⟨⟨by omega,by omega,by omega⟩,by omega⟩]
    simp
theorem g86_eq {l:List Int} (hl:l.length≤1048575) (x:Int) (c:Bool) (f:Int) {p:Nat} (hp:Nu l x p):
  g86 l x c f=some (if (f==1)=true then (l,13) else (Lw l x c p,Nn f)):=by
 obtain ⟨hp1,hp2,hp3⟩:=hp
 have hloop:Ce (Yi l x) ([],0)=some (l.take p):=by
  have h:=Cz (step:=Yi l x) (fun k=>(l.take k,(k:Int))) p (l.take p) (fun k hk=>by
   have hkl:k<l.length:=by omega
   simp only [Yi]
   rw [decide_eq_true (show (k:Int)<(l.length:Int) by omega)]
   simp only [beq_self_eq_true,if_true,Bx hkl,Option.bind_some,Bs,cond_true]
   rw [if_pos (decide_eq_true (hp2 k hkl hk)),if_pos (by simp; omega),w1 (by omega),List.take_succ_eq_append_getElem hkl]) (by
   simp only [Yi]
   by_cases hlt:p<l.length
   ·rw [decide_eq_true (show (p:Int)<(l.length:Int) by omega)]
    simp only [beq_self_eq_true,if_true,Bx hlt,Option.bind_some,Bs,cond_true]
    rw [if_neg (by have:=hp3 p hlt (Nat.le_refl _); simp; omega)]
   ·rw [decide_eq_false (show ¬(p:Int)<(l.length:Int) by omega)]
    simp [Bs])
  simpa using h
 have hlen:((l.take p).length:Int)=(p:Int):=by simp; omega
 have hj1:∀(o:List Int) (k:Nat),k≤l.length→o.length≤l.length+1→cZ l f o (k:Int)=some (o++l.drop k,Nn f):=fun o k hk ho=>by
  simp only [cZ]
  rw [Tz l k l.length hk (Nat.le_refl _),List.take_length]
  simp only [Option.bind_some]
  rw [if_pos (by simp; omega)]
  unfold Nn; split<;>rfl
 have hj0:∀o:List Int,o.length≤l.length+1→cY l x f (l.take p) o=some (o++l.drop (if Je l x p=true then p+1 else p),Nn f):=fun o ho=>by
  simp only [cY,hlen]
  by_cases hlt:p<l.length
  ·rw [decide_eq_true (show (p:Int)<(l.length:Int) by omega)]
   simp only [beq_self_eq_true,if_true,Bx hlt,Option.bind_some,Bs,cond_true,Je,List.getElem?_eq_getElem hlt,Option.some.injEq]
   by_cases hx:l[p]=x
   ·simp only [hx,beq_self_eq_true,if_true,decide_true]
    rw [w1 (by omega),hj1 o (p+1) (by omega) ho]
   ·have:(l[p]==x)=false:=by simpa using hx
    simp only [this,hx,decide_false,Bool.false_eq_true,if_false]
    rw [hj1 o p (by omega) ho]
  ·rw [decide_eq_false (show ¬(p:Int)<(l.length:Int) by omega)]
   have:Je l x p=false:=by simp [Je,List.getElem?_eq_none (show l.length≤p by omega)]
   simp only [this,Bs,cond_false,Bool.false_eq_true,if_false,Bool.false_beq,Option.bind_some]
   simp [hj1 o p (by omega) ho]
 by_cases hf:(f==1)=true
 ·simp [g86,hf]
 ·simp only [g86,hf,Bool.false_eq_true,if_false,hloop,Option.bind_some]
  have hsplit:Je l x p=true→l.take p++[x]++l.drop (p+1)=l:=fun hat=>by
   simp only [Je,decide_eq_true_eq] at hat
   obtain ⟨hlt,hx⟩:=List.getElem?_eq_some_iff.1 hat
   rw [←hx,←List.take_succ_eq_append_getElem hlt,List.take_append_drop]
  cases c with
  | true=>
   simp only [if_true]
   rw [if_pos (by simp; omega),hj0 _ (by simp; omega)]
   simp only [Lw,if_true]
   cases hat:Je l x p with
   | true=>simp only [if_true,hsplit hat]
   | false=>simp
  | false=>
   simp only [Bool.false_eq_true,if_false]
   rw [hj0 _ (by simp; omega)]
   simp only [Lw,Bool.false_eq_true,if_false]
   cases hat:Je l x p with
   | true=>simp
   | false=>simp
end Go.Ev
end
section
namespace Go.Ev
theorem tN (a b:Int):wS a b=some (if a<b then -1 else if b<a then 1 else 0):=by
 simp only [wS,mO,Option.bind_some]
 simp
 split
 ·rfl
 ·split<;>rfl
theorem IG (a b:Int):AkN [a,b]=some (if a=0 then b else a):=by
 have s0:Wc [a,b] 0=if (a != 0)=true then some (.inr (.inr a)) else some (.inl 1):=rfl
 have s1:Wc [a,b] 1=if (b != 0)=true then some (.inr (.inr b)) else some (.inl 2):=rfl
 have s2:Wc [a,b] 2=some (.inr (.inl ())):=rfl
 simp only [AkN]
 by_cases ha:a=0
 ·by_cases hb:b=0
  ·rw [Dw (s':=1) (by rw [s0,if_neg (by simp [ha])]),Dw (s':=2) (by rw [s1,if_neg (by simp [hb])]),Ea (r:=.inl ()) s2]
   simp [ha,hb]
  ·rw [Dw (s':=1) (by rw [s0,if_neg (by simp [ha])]),Ea (r:=.inr b) (by rw [s1,if_pos (by simp [hb])])]
   simp [ha]
 ·rw [Ea (r:=.inr a) (by rw [s0,if_pos (by simp [ha])])]
  simp [ha]
def fQ (x y:Af):Int:=if x.Bn<y.Bn then -1 else if y.Bn<x.Bn then 1 else if x.id<y.id then -1 else if y.id<x.id then 1 else 0
theorem JJ (x y:Af):g69 x y=some (fQ x y):=by
 simp only [g69,tN,Option.bind_some,IG]
 unfold fQ
 split
 ·simp
 ·split
  ·simp
  ·simp
theorem bJ {x y:Af}:fQ x y<0↔x.Bn<y.Bn∨(x.Bn=y.Bn∧x.id<y.id):=by
 unfold fQ; split
 ·simp; omega
 ·split
  ·simp; omega
  ·split
   ·simp; omega
   ·split
    ·simp; omega
    ·simp; omega
theorem Gy.lt {t:Ak} (h:Gy t) {i j:Nat} (hj:j<t.Ac.length) (hij:i<j):(t.Ac[i]'(by omega)).id<t.Ac[j].id:=by
 induction j with
 | zero=>omega
 | succ j ih=>
  have h1:=(h.2.2.2 (j+1) _ (List.getElem?_eq_getElem hj)).2.1 t.Ac[j] (by omega) (by simp [List.getElem?_eq_getElem (show j<t.Ac.length by omega)])
  by_cases e:i=j
  ·subst e; exact h1
  ·have:=ih (by omega) (by omega); omega
theorem JI (l:List Af) (h:l.length≤1048576):g66 l=some l:=by
 unfold g66; rw [if_pos (by simp; omega)]
theorem Ld (t:Ak) (hl:t.Ac.length≤1048576):mN t=some t:=by
 unfold mN; rw [if_pos (by simp; omega)]; rfl
theorem Si (t:Ak) (hl:t.Ac.length≤1048576):jM t=some t:=by
 simp [jM,JI _ hl]
end Go.Ev
end
section
set_option maxHeartbeats 1000000
namespace Go.Ev
open Go.Sort
theorem sdv {i:Nat} (k:Nat) (h:i≤2305843009213693952):IntKind.i64.wrap ((i:Int).tdiv (k:Int))=((i / k:Nat):Int):=by
 have:i / k≤i:=Nat.div_le_self _ _
 have e:(i:Int).tdiv (k:Int)=((i / k:Nat):Int):=by simp
 rw [e]
 generalize i / k=q at *
 rw [wr ⟨by omega,by omega⟩]
theorem oK:SWO (fun x y:Af=>decide (fQ x y<0)) where
 irrefl x:=by simp only [decide_eq_false_iff_not,bJ]; omega
 trans x y z:=by simp only [decide_eq_true_eq,bJ]; omega
 ntrans x y z:=by simp only [decide_eq_false_iff_not,bJ]; omega
abbrev leL (x y:Af):Prop:=¬fQ y x<0
theorem uP:(fun x y:Af=>decide ((g69 x y).getD 0<0))=fun x y=>decide (fQ x y<0):=by
 funext x y
 rw [JJ]
 rfl
theorem yH (l:List Af) (hl:l.length≤1048576):∃s,AkO l (fun a b=>g69 a b)=some s∧s.Perm l∧s.Pairwise leL:=by
 refine ⟨(pdq (fun x y:Af=>decide (fQ x y<0)) l.toArray 0 l.length (Lib.bitLen l.length) true true).toList,?_,?_⟩
 ·simp only [AkO,vI]
  rw [if_pos ⟨fun x y=>⟨_,JJ x y⟩,by rw [uP]; exact oK,hl⟩,uP]
 ·have h:=pdq_sorts (fun x y:Af=>decide (fQ x y<0)) oK l.toArray 0 l.length (Lib.bitLen l.length) true true (Nat.zero_le _) (by simp) (Or.inl rfl)
  obtain ⟨⟨h1,h2,h3⟩,h4⟩:=h
  generalize pdq (fun x y:Af=>decide (fQ x y<0)) l.toArray 0 l.length (Lib.bitLen l.length) true true=d at *
  have h1':d.size=l.length:=by simpa using h1
  refine ⟨?_,?_⟩
  ·rw [←h1'] at h3
   have e1:d.extract 0 d.size=d:=by simp
   have e2:l.toArray.extract 0 d.size=l.toArray:=by rw [h1']; simp
   rw [e1,e2] at h3
   exact h3
  ·rw [List.pairwise_iff_getElem]
   intro i j hi hj hij
   have hi':i<d.size:=by simpa using hi
   have hj':j<d.size:=by simpa using hj
   have:=h4 i j (by omega) hij (by omega)
   simp only [decide_eq_false_iff_not] at this
   rw [getElem!_pos d i hi',getElem!_pos d j hj'] at this
   simpa [leL] using this
end Go.Ev
end
section
set_option maxHeartbeats 1000000
namespace Go.Ev
def Ub (N:Int) (y:Af):Bool := !y.Cg&&decide (y.Bn≤N)
abbrev mkQ (y:Af):Af:=Af.mk y.id y.Bn y.cap true
def Ih (N:Int) (y:Af):Af:=if Ub N y=true then mkQ y else y
theorem sZ (N:Int) (y:Af):(bif (!y.Cg) then (decide (y.Bn≤N)) else false)=Ub N y:=by
 unfold Ub; cases y.Cg<;>rfl
abbrev Do (t:Ak) (a:Int):Int:=if a>t.clock then a else t.clock
theorem uN {f:Af→Af} {l:List Af} {k:Nat} (hk:k<l.length):((l.take k).map f++l.drop k)[k]? = some l[k]:=by
 rw [List.getElem?_append_right (by simp; omega)]
 simp [Nat.min_eq_left (Nat.le_of_lt hk),hk]
theorem row_set {f:Af→Af} {l:List Af} {k:Nat} (hk:k<l.length):((l.take k).map f++l.drop k).set k (f l[k])=(l.take (k+1)).map f++l.drop (k+1):=by
 have e:k-((l.take k).map f).length=0:=by rw [List.length_map,List.length_take]; omega
 rw [List.set_append,if_neg (by rw [List.length_map,List.length_take]; omega),e,List.drop_eq_getElem_cons hk,List.set_cons_zero,List.take_succ_eq_append_getElem hk,List.map_append,List.append_assoc]
 rfl
theorem LW {f:Af→Af} {l:List Af} {k:Nat} (hk:k<l.length) (he:f l[k]=l[k]):(l.take k).map f++l.drop k=(l.take (k+1)).map f++l.drop (k+1):=by
 rw [List.take_succ_eq_append_getElem hk,List.map_append,List.append_assoc,List.map_cons,he,List.drop_eq_getElem_cons hk]
 rfl
theorem JK (t:Ak) (a:Int) (l:List Af) (hl:l.length≤1048576):
  Ce (Uz t a (Ak.mk t.clock t.next l)) ([],l,0)=some (l.filter (Ub (Do t a)),l.map (Ih (Do t a))):=by
 have h:=Cz (step:=Uz t a (Ak.mk t.clock t.next l)) (fun k=>((l.take k).filter (Ub (Do t a)),(l.take k).map (Ih (Do t a))++l.drop k,(k:Int))) l.length (l.filter (Ub (Do t a)),l.map (Ih (Do t a))) (fun k hk=>by
  simp only [Uz]
  rw [if_pos (decide_eq_true (by omega))]
  rw [kE,uN hk]
  simp only [Option.bind_some,Int.toNat_natCast,uN hk,sZ,Bs]
  by_cases hd:Ub (Do t a) l[k]=true
  ·rw [if_pos hd]
   have hfl:((l.take k).filter (Ub (Do t a))).length≤k:=by
    have:=List.length_filter_le (Ub (Do t a)) (l.take k)
    simp at this; omega
   rw [if_pos (by simp; omega)]
   simp only [cX,w1 (show k<4611686018427387904 by omega)]
   have e:Af.mk l[k].id l[k].Bn l[k].cap true=Ih (Do t a) l[k]:=by unfold Ih; rw [if_pos hd]
   rw [e,row_set hk,List.take_succ_eq_append_getElem hk,List.filter_append,List.filter_cons_of_pos hd,List.filter_nil]
  ·rw [if_neg hd]
   simp only [cX,w1 (show k<4611686018427387904 by omega)]
   rw [LW hk (by unfold Ih; rw [if_neg hd]),List.take_succ_eq_append_getElem hk,List.filter_append,List.filter_cons_of_neg hd,List.filter_nil,List.append_nil]) (by
  simp only [Uz]
  rw [if_neg (by simp)]
  simp)
 simp only [List.take_zero,List.filter_nil,List.map_nil,List.nil_append,List.drop_zero] at h
 exact h
theorem Amq (c n:Int) (l:List Af) (hl:l.length≤1048576):g60 (Ak.mk c n l)=some (l.map (·.id)):=by
 have h:=Cz (step:=Oz (Ak.mk c n l)) (fun k=>((l.take k).map (·.id),(k:Int))) l.length (l.map (·.id)) (fun k hk=>by
  simp only [Oz]
  rw [if_pos (decide_eq_true (by omega)),Bx hk]
  simp only [Option.bind_some]
  rw [if_pos (by simp; omega),w1 (show k<4611686018427387904 by omega),List.take_succ_eq_append_getElem hk,List.map_append]
  rfl) (by
  simp only [Oz]
  rw [if_neg (by simp)]
  simp)
 simp only [List.take_zero,List.map_nil] at h
 simp only [g60]
 have h':Ce (Oz (Ak.mk c n l)) ([],0)=some (l.map (·.id)):=h
 rw [h']
 rfl
theorem g82_eq (t:Ak) (a:Int) (hl:t.Ac.length≤1048576):∃s:List Af,g82 t a=some (Ak.mk (Do t a) t.next (t.Ac.map (Ih (Do t a))),s.map (·.id))∧s.Perm (t.Ac.filter (Ub (Do t a)))∧s.Pairwise leL:=by
 have hfl:(t.Ac.filter (Ub (Do t a))).length≤1048576:=Nat.le_trans (List.length_filter_le _ _) hl
 obtain ⟨s,s1,s2,s3⟩:=yH _ hfl
 refine ⟨s,?_,s2,s3⟩
 have h:=JK t a t.Ac hl
 have h':Ce (Uz t a t) ([],t.Ac,0)=some (t.Ac.filter (Ub (Do t a)),t.Ac.map (Ih (Do t a))):=h
 have hsl:s.length=(t.Ac.filter (Ub (Do t a))).length:=s2.length_eq
 simp only [g82,Si t hl,Option.bind_some,h',s1]
 rw [if_pos hsl,Amq 0 0 s (by omega)]
 rfl
def pA (N:Int) (L:List Af) (n:Nat) (r:Int):Prop:=
 (r = -1∧∀j,∀h:j<L.length,j<n→Ub N L[j]=false) ∨
 ∃k,∃hk:k<L.length,k<n∧r=(k:Int)∧Ub N L[k]=true∧∀j,∀h:j<L.length,j<n→Ub N L[j]=true→L[k].Bn<L[j].Bn∨(L[k].Bn=L[j].Bn∧k≤j)
theorem xC (t:Ak) (a:Int) (L:List Af) (hl:L.length≤1048576):∃r,Ce (cW t a L) (-1,0)=some r∧pA (Do t a) L L.length r:=by
 obtain ⟨r,r1,r2⟩:=Oe (step:=cW t a L) (fun s=>∃n:Nat,s.2=(n:Int)∧n≤L.length∧pA (Do t a) L n s.1) (fun s=>(L.length-s.2).toNat) (fun r=>pA (Do t a) L L.length r) (-1,0) ⟨0,rfl,by omega,.inl ⟨rfl,fun j _ h=>absurd h (by omega)⟩⟩ (by
  rintro ⟨r,_⟩ ⟨n,rfl,hn,hb⟩
  simp only at hb
  simp only [cW]
  by_cases hlt:n<L.length
  ·rw [if_pos (decide_eq_true (by omega)),Bx hlt]
   simp only [Option.bind_some,Int.toNat_natCast]
   rw [List.getElem?_eq_getElem hlt]
   simp only [Option.bind_some,sZ,Bs]
   have w:IntKind.i64.wrap ((n:Int)+1)=((n+1:Nat):Int):=w1 (by omega)
   left
   by_cases hd:Ub (Do t a) L[n]=true
   ·rw [hd]
    rcases hb with ⟨rfl,hb⟩ | ⟨k,hk,hkn,rfl,hdk,hb⟩
    ·rw [show decide ((-1:Int)<0)=true by decide]
     simp only [beq_self_eq_true,Bool.true_and,show (true==false)=false from rfl,Bool.false_eq_true,if_false,Option.bind_some,cond_true,if_true,Yh,w]
     refine ⟨_,rfl,⟨n+1,rfl,by omega,.inr ⟨n,hlt,by omega,rfl,hd,fun j h hj hdj=>?_⟩⟩,by simp only; omega⟩
     by_cases e:j=n
     ·subst e; exact .inr ⟨rfl,Nat.le_refl _⟩
     ·rw [hb j h (by omega)] at hdj; cases hdj
    ·rw [show decide ((k:Int)<0)=false from decide_eq_false (by omega)]
     simp only [beq_self_eq_true,Bool.true_and,if_true,Bx hk,Int.toNat_natCast,List.getElem?_eq_getElem hk,Option.bind_some,cond_true,cond_false,Yh,w]
     by_cases hc:L[n].Bn<L[k].Bn
     ·rw [if_pos (decide_eq_true hc)]
      refine ⟨_,rfl,⟨n+1,rfl,by omega,.inr ⟨n,hlt,by omega,rfl,hd,fun j h hj hdj=>?_⟩⟩,by simp only; omega⟩
      by_cases e:j=n
      ·subst e; exact .inr ⟨rfl,Nat.le_refl _⟩
      ·have:=hb j h (by omega) hdj
       left; omega
     ·rw [if_neg (by simpa using hc)]
      refine ⟨_,rfl,⟨n+1,rfl,by omega,.inr ⟨k,hk,by omega,rfl,hdk,fun j h hj hdj=>?_⟩⟩,by simp only; omega⟩
      by_cases e:j=n
      ·subst e; omega
      ·exact hb j h (by omega) hdj
   ·have hd:Ub (Do t a) L[n]=false:=by simpa using hd
    rw [hd]
    simp only [show (false==true)=false from rfl,Bool.false_and,Bool.false_eq_true,if_false,Option.bind_some,cond_false,Yh,w]
    refine ⟨_,rfl,⟨n+1,rfl,by omega,?_⟩,by simp only; omega⟩
    rcases hb with ⟨rfl,hb⟩ | ⟨k,hk,hkn,rfl,hdk,hb⟩
    ·refine .inl ⟨rfl,fun j h hj=>?_⟩
     by_cases e:j=n
     ·subst e; exact hd
     ·exact hb j h (by omega)
    ·refine .inr ⟨k,hk,by omega,rfl,hdk,fun j h hj hdj=>?_⟩
     by_cases e:j=n
     ·subst e; rw [hd] at hdj; cases hdj
     ·exact hb j h (by omega) hdj
  ·rw [if_neg (by simpa using hlt)]
   have:n=L.length:=by omega
   subst this
   exact .inr ⟨_,rfl,hb⟩)
 exact ⟨r,r1,r2⟩
theorem qI {p:Af→Bool} {L:List Af} {k:Nat} {v:Af} (hk:k<L.length) (h1:p L[k]=true) (h2:p v=false):(L.filter p).Perm (L[k]::(L.set k v).filter p):=by
 have e1:L=L.take k++L[k]::L.drop (k+1):=by rw [←List.drop_eq_getElem_cons hk,List.take_append_drop]
 have e2:L.set k v=L.take k++v::L.drop (k+1):=by rw [List.set_eq_take_append_cons_drop,if_pos hk]
 rw [e2,List.filter_append,List.filter_cons_of_neg (by simp [h2])]
 conv=>lhs; rw [e1]
 rw [List.filter_append,List.filter_cons_of_pos h1]
 exact List.perm_middle
theorem g81_eq (t:Ak) (a:Int) (h:Gy t) (hl:t.Ac.length≤1048576):∃s:List Af,g81 t a=some (Ak.mk (Do t a) t.next (t.Ac.map (Ih (Do t a))),s.map (·.id))∧s.Perm (t.Ac.filter (Ub (Do t a)))∧s.Pairwise leL:=by
 obtain ⟨r,r1,r2⟩:=Oe (step:=jY t a t) (fun s=>∃sel:List Af,s.1=sel.map (·.id)∧(sel++s.2.filter (Ub (Do t a))).Perm (t.Ac.filter (Ub (Do t a)))∧sel.Pairwise leL∧(∀x∈sel,∀y∈s.2.filter (Ub (Do t a)),leL x y) ∧
   ∃hlen:s.2.length=t.Ac.length,∀i,∀hi:i<t.Ac.length,s.2[i]=t.Ac[i]∨(Ub (Do t a) t.Ac[i]=true∧s.2[i]=mkQ t.Ac[i]))
  (fun s=>(s.2.filter (Ub (Do t a))).length) (fun r=>∃s:List Af,r=(Ak.mk (Do t a) t.next (t.Ac.map (Ih (Do t a))),s.map (·.id))∧s.Perm (t.Ac.filter (Ub (Do t a)))∧s.Pairwise leL) ([],t.Ac)
  ⟨[],rfl,by simp,.nil,by simp,rfl,fun i hi=>.inl rfl⟩ (by
  rintro ⟨_,L⟩ ⟨sel,rfl,p1,p2,p3,hlen,p4⟩
  simp only at p1 p3 hlen p4
  obtain ⟨b,b1,b2⟩:=xC t a L (by omega)
  simp only [jY,b1,Option.bind_some]
  rcases b2 with ⟨rfl,b2⟩ | ⟨k,hk,_,rfl,hdk,b2⟩
  ·right
   rw [if_pos (by decide)]
   have hnil:L.filter (Ub (Do t a))=[]:=by
    rw [List.filter_eq_nil_iff]
    intro x hx
    obtain ⟨j,hj,rfl⟩:=List.getElem_of_mem hx
    simp [b2 j hj hj]
   rw [hnil,List.append_nil] at p1
   refine ⟨_,rfl,sel,?_,p1,p2⟩
   have hL:L=t.Ac.map (Ih (Do t a)):=by
    refine List.ext_getElem (by simpa using hlen) fun i h1 h2=>?_
    have hi:i<t.Ac.length:=by omega
    simp only [List.getElem_map,Ih]
    rcases p4 i hi with e | ⟨e1,e⟩
    ·have:=b2 i h1 h1
     rw [e] at this
     rw [if_neg (by simp [this])]; exact e
    ·rw [if_pos e1]; exact e
   rw [hL]
  ·left
   rw [if_neg (by simp)]
   have hmk:Ub (Do t a) (mkQ L[k])=false:=by simp [Ub]
   have hlen2:(L.set k (mkQ L[k])).length=L.length:=by simp
   have hk2:k<(L.set k (mkQ L[k])).length:=by simpa using hk
   simp only [Bx hk,Int.toNat_natCast,List.getElem?_eq_getElem hk,Option.bind_some,Bx hk2,List.getElem?_eq_getElem hk2,List.getElem_set_self]
   have hf:=qI (p:=Ub (Do t a)) hk hdk hmk
   have hlp:=p1.length_eq
   have hlf:=List.length_filter_le (Ub (Do t a)) t.Ac
   rw [List.length_append] at hlp
   rw [if_pos (by simp; omega)]
   refine ⟨_,rfl,⟨sel++[L[k]],by simp,?_,?_,?_,by simpa using hlen,?_⟩,?_⟩
   ·simp only [List.append_assoc,List.singleton_append]
    exact (List.Perm.append_left sel hf.symm).trans p1
   ·rw [List.pairwise_append]
    refine ⟨p2,by simp,fun x hx y hy=>?_⟩
    simp only [List.mem_singleton] at hy
    subst hy
    exact p3 x hx _ (List.mem_filter.2 ⟨List.getElem_mem hk,hdk⟩)
   ·intro x hx y hy
    have hy2:y∈L.filter (Ub (Do t a)):=hf.mem_iff.2 (List.mem_cons_of_mem _ hy)
    rcases List.mem_append.1 hx with hx | hx
    ·exact p3 x hx y hy2
    ·simp only [List.mem_singleton] at hx
     subst hx
     obtain ⟨hyL,hdy⟩:=List.mem_filter.1 hy2
     obtain ⟨j,hj,rfl⟩:=List.getElem_of_mem hyL
     have:=b2 j hj hj hdy
     simp only [leL,bJ]
     have ids:∀i,∀hi:i<L.length,L[i].id=(t.Ac[i]'(by omega)).id:=fun i hi=>by
      rcases p4 i (by omega) with e | ⟨_,e⟩<;>rw [e]
     rw [ids j hj,ids k hk]
     by_cases e:k=j
     ·subst e; omega
     ·rcases this with h1 | ⟨h1,h2⟩
      ·omega
      ·have:=h.lt (i:=k) (j:=j) (by omega) (by omega)
       omega
   ·intro i hi
    simp only [List.getElem_set]
    split
    ·rename_i e; subst e
     right
     rcases p4 k hi with e | ⟨e1,e⟩
     ·rw [e] at hdk; exact ⟨hdk,by rw [e]⟩
     ·exact ⟨e1,by rw [e]⟩
    ·exact p4 i hi
   ·have:=hf.length_eq
    simp only [List.length_cons,mkQ] at this ⊢
    omega)
 obtain ⟨s,rfl,s2,s3⟩:=r2
 refine ⟨s,?_,s2,s3⟩
 simp only [g81,Ld t hl,Option.bind_some,r1]
end Go.Ev
end
section
namespace Go.Ev
theorem JZ {σ ρ:Type} {step:σ→Option (σ⊕ρ)} (I:σ→Prop) (μ:σ→Nat) (R:ρ→Prop)
  (h:∀s,I s→(∃s',step s=some (.inl s')∧I s'∧μ s'<μ s)∨(∃r,step s=some (.inr r)∧R r)):∀(n:Nat) (s0:σ),μ s0<n→I s0→∃r,Ce step s0=some r∧R r:=by
 intro n
 induction n with
 | zero=>intro s0 hn; omega
 | succ n ih=>
  intro s0 hn hI
  rcases h s0 hI with ⟨s',h1,h2,h3⟩ | ⟨r,h1,h2⟩
  ·obtain ⟨r,h4,h5⟩:=ih s' (by omega) h2
   exact ⟨r,by rw [Dw h1,h4],h5⟩
  ·exact ⟨r,Ea h1,h2⟩
theorem iter_inv' {σ ρ:Type} {step:σ→Option (σ⊕ρ)} (I:σ→Prop) (μ:σ→Nat) (R:ρ→Prop) (s0:σ) (h0:I s0)
  (h:∀s,I s→(∃s',step s=some (.inl s')∧I s'∧μ s'<μ s)∨(∃r,step s=some (.inr r)∧R r)):∃r,Ce step s0=some r∧R r:=
 JZ I μ R h (μ s0+1) s0 (by omega) h0
theorem MB {α:Type} (l:List α) (a b:Nat) (h:a≤b) (h2:b≤l.length):Lp l (a:Int) (b:Int)=some ((l.take b).drop a):=by
 unfold Lp
 rw [if_pos ⟨by omega,by omega,by omega⟩]
 simp
def aJ (l:List Af) (x n:Int):Prop:=(n = -1∧∀y∈l,y.id≠x)∨∃k,∃h:k<l.length,n=(k:Int)∧l[k].id=x
theorem Yk (t:Ak) (x:Int) (hl:t.Ac.length≤1048576):∃n,g92 t x=some n∧aJ t.Ac x n:=by
 obtain ⟨r,h1,h2⟩:=iter_inv' (step:=jZ t x) (fun s=>∃k:Nat,s=(k:Int)∧k≤t.Ac.length∧∀j,∀h:j<t.Ac.length,j<k→t.Ac[j].id≠x) (fun s=>(t.Ac.length-s).toNat)
  (fun r=>(r = .inl ()∧∀y∈t.Ac,y.id≠x)∨∃n,r = .inr n∧aJ t.Ac x n) 0 ⟨0,rfl,by omega,by intros; omega⟩ (by
   rintro _ ⟨k,rfl,hk,hj⟩
   simp only [jZ]
   by_cases hlt:k<t.Ac.length
   ·rw [if_pos (decide_eq_true (by omega)),Bx hlt]
    simp only [Option.bind_some,wr (n:=(k:Int)+1) ⟨by omega,by omega⟩]
    by_cases hp:t.Ac[k].id=x
    ·rw [if_pos (by simp [hp])]
     exact .inr ⟨_,rfl,.inr ⟨_,rfl,.inr ⟨k,hlt,rfl,hp⟩⟩⟩
    ·rw [if_neg (by simp [hp])]
     refine .inl ⟨_,rfl,⟨k+1,rfl,by omega,fun j h hj2=>?_⟩,by omega⟩
     by_cases e:j=k
     ·subst e; exact hp
     ·exact hj j h (by omega)
   ·rw [if_neg (by simp; omega)]
    refine .inr ⟨_,rfl,.inl ⟨rfl,fun y hy=>?_⟩⟩
    obtain ⟨j,hj1,rfl⟩:=List.getElem_of_mem hy
    exact hj j hj1 (by omega))
 simp only [g92,h1,Option.bind_some]
 rcases h2 with ⟨rfl,h2⟩ | ⟨n,rfl,h2⟩
 ·exact ⟨-1,rfl,.inl ⟨rfl,h2⟩⟩
 ·exact ⟨n,rfl,h2⟩
theorem half (a:Nat) (h:a≤4194304):IntKind.i64.wrap (Kc .u64 (IntKind.u64.wrap (IntKind.i64.wrap (a:Int))) 1)=((a / 2:Nat):Int):=by
 have h1:IntKind.u64.wrap (a:Int)=a:=by
  have e:IntKind.u64.wrap (a:Int)=(a:Int)%18446744073709551616:=by simp [IntKind.wrap,IntKind.bits,IntKind.signed]
  rw [e]; omega
 have h2:(2:Int)^min (1:Int).toNat 64=2:=by decide
 rw [wr (n:=(a:Int)) ⟨by omega,by omega⟩,h1]
 simp only [Kc,h2]
 rw [Int.fdiv_eq_ediv_of_nonneg _ (by omega),wr ⟨by omega,by omega⟩]
 omega
theorem tO (x:Af) (a:Int):wT x a=some (if x.id<a then -1 else if a<x.id then 1 else 0):=by simp [wT,tN]
theorem jX (t:Ak) (h:Gy t) (x n:Int) (hn:aJ t.Ac x n):∃i b,NG t x=some (i,b)∧(b=true→i=n∧0≤n)∧(b=false→n = -1):=by
 have hl:=h.2.2.1
 obtain ⟨r,h1,h2⟩:=iter_inv' (step:=aT t.Ac x (fun a b=>wT a b)) (fun s=>∃i j:Nat,s=((i:Int),(j:Int))∧i≤j∧j≤t.Ac.length∧(∀k,∀h:k<t.Ac.length,k<i→t.Ac[k].id<x)∧∀k,∀h:k<t.Ac.length,j≤k→x≤t.Ac[k].id)
  (fun s=>(s.2-s.1).toNat) (fun r=>∃i:Nat,r=i∧i≤t.Ac.length∧(∀k,∀h:k<t.Ac.length,k<i→t.Ac[k].id<x)∧∀k,∀h:k<t.Ac.length,i≤k→x≤t.Ac[k].id) (0,(t.Ac.length:Int))
  ⟨0,t.Ac.length,rfl,by omega,by omega,by intros; omega,by intros; omega⟩ (by
   rintro _ ⟨i,j,rfl,hij,hj,ha,hb⟩
   simp only [aT]
   by_cases hlt:i<j
   ·have e:(i:Int)+(j:Int)=((i+j:Nat):Int):=by omega
    rw [if_pos (decide_eq_true (by omega)),e,half _ (by omega)]
    have hm:(i+j) / 2<t.Ac.length:=by omega
    simp only [Bs,Bx hm,Option.bind_some,tO]
    have hw:IntKind.i64.wrap (((i+j) / 2:Nat)+1:Int)=(((i+j) / 2+1:Nat):Int):=wr ⟨by omega,by omega⟩
    rw [hw]
    left
    by_cases hc:t.Ac[(i+j) / 2].id<x
    ·rw [if_pos hc,if_pos (by decide)]
     refine ⟨_,rfl,⟨_,j,rfl,by omega,hj,fun k hk hki=>?_,hb⟩,by simp only; omega⟩
     by_cases e:k=(i+j) / 2
     ·subst e; exact hc
     ·have:=h.lt hm (show k<(i+j) / 2 by omega); omega
    ·have:¬(if t.Ac[(i+j) / 2].id<x then (-1:Int) else if x<t.Ac[(i+j) / 2].id then 1 else 0)<0:=by
      rw [if_neg hc]; split<;>omega
     rw [if_neg (by simpa using this)]
     refine ⟨_,rfl,⟨i,_,rfl,by omega,by omega,ha,fun k hk hki=>?_⟩,by simp only; omega⟩
     by_cases e:k=(i+j) / 2
     ·subst e; omega
     ·have:=h.lt hk (show (i+j) / 2<k by omega); omega
   ·rw [if_neg (by simp; omega)]
    exact .inr ⟨_,rfl,i,rfl,by omega,ha,fun k hk hki=>hb k hk (by omega)⟩)
 obtain ⟨i,rfl,hi,ha,hb⟩:=h2
 simp only [NG,g113,h1,Option.bind_some]
 by_cases hlt:i<t.Ac.length
 ·have hd:(decide ((i:Int)<(t.Ac.length:Int))==true)=true:=by simp; omega
  simp only [hd,if_true,Bx hlt,Option.bind_some,tO]
  refine ⟨_,_,rfl,?_,?_⟩
  ·intro hh
   have hx:t.Ac[i].id=x:=by
    have:=hb i hlt (by omega)
    rw [decide_eq_true (by omega)] at hh
    simp at hh
    split at hh
    ·omega
    ·split at hh<;>omega
   rcases hn with ⟨rfl,hn⟩ | ⟨k,hk,rfl,hkx⟩
   ·exact absurd hx (hn _ (List.getElem_mem _))
   ·by_cases e:k=i
    ·subst e; exact ⟨rfl,by omega⟩
    ·by_cases e2:k<i
     ·have:=ha k hk e2; omega
     ·have:=h.lt hk (show i<k by omega); omega
  ·intro hh
   rcases hn with ⟨rfl,hn⟩ | ⟨k,hk,rfl,hkx⟩
   ·rfl
   ·exfalso
    have hne:t.Ac[i].id≠x:=fun e=>by
     rw [decide_eq_true (by omega),e] at hh
     simp at hh
    have:=hb i hlt (by omega)
    by_cases e:k=i
    ·subst e; exact hne hkx
    ·by_cases e2:k<i
     ·have:=ha k hk e2; omega
     ·have:=h.lt hk (show i<k by omega); omega
 ·have hd:¬(decide ((i:Int)<(t.Ac.length:Int))==true)=true:=by simp; omega
  simp only [hd,if_false,Option.bind_some]
  refine ⟨_,_,rfl,?_,?_⟩
  ·rw [decide_eq_false (by omega)]; intro hh; cases hh
  ·intro _
   rcases hn with ⟨rfl,hn⟩ | ⟨k,hk,rfl,hkx⟩
   ·rfl
   ·have:=ha k hk (by omega); omega
theorem qY (a b:Int):∃r,g53 a b=some r∧g54 a b=some r:=by
 unfold g53 g54
 split
 ·exact ⟨_,rfl,rfl⟩
 ·exact ⟨_,rfl,rfl⟩
end Go.Ev
end
section
set_option maxHeartbeats 1000000
namespace Go.Ev
abbrev Gr (t:Ak):Prop:=Gy t∧t.clock≤9223372036854775807∧∀x∈t.Ac,x.cap≤9223372036854775807
theorem Gy.at {t:Ak} (h:Gy t) {k:Nat} (hk:k<t.Ac.length):bU t k t.Ac[k]:=h.2.2.2 k _ (List.getElem?_eq_getElem hk)
theorem oL {t:Ak} (h:Gy t) (c:Int) (hc:t.clock≤c) (L:List Af) (hl:L.length=t.Ac.length)
  (hk:∀k,∀h1:k<L.length,∀h2:k<t.Ac.length,L[k].id=t.Ac[k].id∧0≤L[k].Bn∧L[k].Bn≤L[k].cap∧(L[k].Cg=false→c<L[k].Bn)):Gy (Ak.mk c t.next L):=by
 have h0:=h.1
 refine ⟨by simp only; omega,h.2.1,by simp only [hl]; exact h.2.2.1,fun k x hx=>?_⟩
 obtain ⟨h1,rfl⟩:=List.getElem?_eq_some_iff.1 hx
 simp only at h1
 have hkt:k<t.Ac.length:=by omega
 obtain ⟨e1,e2,e3,e4⟩:=hk k h1 hkt
 obtain ⟨a1,a2,a3,a4,a5⟩:=h.at hkt
 refine ⟨by simp only [e1]; exact a1,fun y hpos hy=>?_,e2,e3,e4⟩
 obtain ⟨h3,rfl⟩:=List.getElem?_eq_some_iff.1 hy
 simp only at h3 ⊢
 rw [e1,(hk (k-1) h3 (by omega)).1]
 exact h.lt (by omega) (by omega)
theorem KQ (t:Ak) (a:Int):t.clock≤Do t a:=by unfold Do; split<;>omega
theorem Xn {t:Ak} (h:Gr t) (a:Int) (ha:a≤9223372036854775807):Gr (Ak.mk (Do t a) t.next (t.Ac.map (Ih (Do t a)))):=by
 refine ⟨oL h.1 _ (KQ t a) _ (by simp) fun k h1 h2=>?_,?_⟩
 ·simp only [List.getElem_map,Ih]
  obtain ⟨a1,a2,a3,a4,a5⟩:=h.1.at h2
  split
  ·exact ⟨rfl,a3,a4,fun hq=>by cases hq⟩
  ·rename_i hd
   refine ⟨rfl,a3,a4,fun hq=>?_⟩
   simp [Ub,hq] at hd
   exact hd
 ·refine ⟨by have:=h.2.1; simp only [Do]; split<;>omega,fun x hx=>?_⟩
  obtain ⟨y,hy,rfl⟩:=List.mem_map.1 hx
  have:=h.2.2 y hy
  unfold Ih
  split<;>exact this
theorem vH {t:Ak} (h:Gr t) {k:Nat} (hk:k<t.Ac.length) (v:Af) (h1:v.id=t.Ac[k].id) (h2:0≤v.Bn) (h3:v.Bn≤v.cap) (h4:v.Cg=false→t.clock<v.Bn) (h5:v.cap=t.Ac[k].cap):
  Gr (Ak.mk t.clock t.next (t.Ac.set k v)):=by
 refine ⟨oL h.1 _ (Int.le_refl _) _ (by simp) fun j j1 j2=>?_,h.2.1,fun x hx=>by
  rcases List.mem_or_eq_of_mem_set hx with hx | rfl
  ·exact h.2.2 x hx
  ·rw [h5]; exact h.2.2 _ (List.getElem_mem hk)⟩
 simp only [List.getElem_set]
 split
 ·rename_i e; subst e
  exact ⟨h1,h2,h3,h4⟩
 ·obtain ⟨a1,a2,a3,a4,a5⟩:=h.1.at j2
  exact ⟨rfl,a3,a4,a5⟩
theorem dK (c a:Int) (hc:0≤c∧c≤9223372036854775807) (ha:1≤a∧a≤9223372036854775807):g53 c a=some (if c+a≤9223372036854775807 then c+a else 9223372036854775807):=by
 have e:IntKind.i64.wrap (9223372036854775807-a)=9223372036854775807-a:=wr ⟨by omega,by omega⟩
 simp only [g53]
 rw [e]
 by_cases h:c+a≤9223372036854775807
 ·rw [if_neg (by simp; omega),if_pos h,wr ⟨by omega,by omega⟩]
 ·rw [if_pos (decide_eq_true (by omega)),if_neg h]
theorem rV {t:Ak} (h:Gr t) (a:Int):∃r,g74 t a=some r∧Gr r.1:=by
 have hl:=h.1.2.2.1
 obtain ⟨n,h1,h2⟩:=Yk t a (by omega)
 simp only [g74,h1,Option.bind_some]
 rcases h2 with ⟨rfl,h2⟩ | ⟨k,hk,rfl,h2⟩
 ·exact ⟨_,rfl,h⟩
 ·rw [if_neg (by simp),Ld t (by omega)]
  simp only [Option.bind_some,Bx hk,Int.toNat_natCast,List.getElem?_eq_getElem hk]
  obtain ⟨a1,a2,a3,a4,a5⟩:=h.1.at hk
  exact ⟨_,rfl,vH h hk _ rfl a3 a4 (fun hq=>by cases hq) rfl⟩
theorem xZ {t:Ak} (h:Gr t) {k:Nat} (hk:k<t.Ac.length) (hq:t.Ac[k].Cg=false) (u:Int) (hu:t.clock<u):
  Gr (Ak.mk t.clock t.next (t.Ac.set k (Af.mk t.Ac[k].id (if u<t.Ac[k].cap then u else t.Ac[k].cap) t.Ac[k].cap t.Ac[k].Cg))):=by
 obtain ⟨a1,a2,a3,a4,a5⟩:=h.1.at hk
 have:=a5 hq
 have h0:=h.1.1
 exact vH h hk _ rfl (by simp only; split<;>omega) (by simp only; split<;>omega) (fun _=>by simp only; split<;>omega) rfl
theorem KA (c a:Int) (hc:0≤c∧c<9223372036854775807) (ha:1≤a):c<(if c+a≤9223372036854775807 then c+a else 9223372036854775807):=by split<;>omega
theorem rT {t:Ak} (h:Gr t) (a b:Int) (hb:1≤b∧b≤9223372036854775807):∃r,g79 t a b=some r∧Gr r.1:=by
 have hl:=h.1.2.2.1
 obtain ⟨n,h1,h2⟩:=Yk t a (by omega)
 simp only [g79,h1,Option.bind_some]
 rw [if_neg (by simp; omega)]
 rcases h2 with ⟨rfl,h2⟩ | ⟨k,hk,rfl,h2⟩
 ·exact ⟨_,rfl,h⟩
 ·rw [if_neg (by simp),Bx hk]
  simp only [Option.bind_some]
  by_cases hq:t.Ac[k].Cg=true
  ·rw [if_pos hq]; exact ⟨_,rfl,h⟩
  ·rw [if_neg hq,Ld t (by omega)]
   have hq:t.Ac[k].Cg=false:=by simpa using hq
   obtain ⟨a1,a2,a3,a4,a5⟩:=h.1.at hk
   have h0:=h.1.1
   have hc:=h.2.1
   simp only [Option.bind_some,Bx hk,Int.toNat_natCast,List.getElem?_eq_getElem hk,dK _ _ ⟨h0,hc⟩ hb]
   have hcm:t.clock<9223372036854775807:=by
    have:=a5 hq
    have:=h.2.2 _ (List.getElem_mem hk)
    omega
   exact ⟨_,rfl,xZ h hk hq _ (KA _ _ ⟨h0,hcm⟩ hb.1)⟩
theorem xD {t:Ak} (h:Gr t) (a b:Int) (ha:1≤a∧a≤b∧b≤9223372036854775807):∃r,g70 t a b=some r∧Gr r.1:=by
 have hl:=h.1.2.2.1
 have h0:=h.1.1
 have hc:=h.2.1
 have hn:=h.1.2.1
 simp only [g70]
 have e1:decide (a<1)=false:=decide_eq_false (by omega)
 have e2:decide (b<a)=false:=decide_eq_false (by omega)
 rw [e1,e2]
 simp only [cond_false,Bool.false_eq_true,if_false]
 by_cases hm:t.clock=9223372036854775807
 ·rw [if_pos (by simpa using hm)]; exact ⟨_,rfl,h⟩
 ·rw [if_neg (by simpa using hm)]
  simp only [Bs]
  by_cases hf:t.Ac.length=40∨t.next=1000000
  ·rw [if_pos (by rcases hf with hf | hf<;>simp [hf])]; exact ⟨_,rfl,h⟩
  ·have hf1:t.Ac.length≠40:=fun e=>hf (.inl e)
   have hf2:t.next≠1000000:=fun e=>hf (.inr e)
   have e3:((t.Ac.length:Int)==40)=false:=by simp; omega
   have e4:(t.next==1000000)=false:=by simp; exact hf2
   rw [e3,e4]
   simp only [cond_false,Bool.false_eq_true,if_false,Ld t (by omega),Option.bind_some,dK _ _ ⟨h0,hc⟩ ⟨ha.1,by omega⟩,dK _ _ ⟨h0,hc⟩ ⟨by omega,ha.2.2⟩]
   rw [if_pos (by simp; omega)]
   refine ⟨_,rfl,⟨by simp only; exact h0,by simp only; rw [wr ⟨by omega,by omega⟩]; omega,by simp; omega,fun k x hx=>?_⟩,hc,fun x hx=>by
    rcases List.mem_append.1 hx with hx | hx
    ·exact h.2.2 x hx
    ·simp only [List.mem_singleton] at hx; subst hx; simp only; split<;>omega⟩
   simp only at hx
   have hw:IntKind.i64.wrap (t.next+1)=t.next+1:=wr ⟨by omega,by omega⟩
   by_cases hk:k<t.Ac.length
   ·rw [List.getElem?_append_left hk] at hx
    obtain ⟨a1,a2,a3,a4,a5⟩:=h.1.2.2.2 k x hx
    refine ⟨by simp only [hw]; omega,fun y hp hy=>?_,a3,a4,a5⟩
    simp only at hy
    rw [List.getElem?_append_left (by omega)] at hy
    exact a2 y hp hy
   ·have hk2:k=t.Ac.length:=by
     have:=(List.getElem?_eq_some_iff.1 hx).1
     simp at this; omega
    subst hk2
    simp only [List.getElem?_append_right (Nat.le_refl _),Nat.sub_self,List.getElem?_cons_zero,Option.some.injEq] at hx
    subst hx
    refine ⟨by simp only [hw]; omega,fun y hp hy=>?_,by simp only; split<;>omega,by simp only; split<;>split<;>omega,fun _=>by simp only; split<;>omega⟩
    simp only at hy
    rw [List.getElem?_append_left (by omega)] at hy
    obtain ⟨a1,a2,a3,a4,a5⟩:=h.1.2.2.2 _ y hy
    simp only; omega
end Go.Ev
end
section
set_option maxHeartbeats 1000000
namespace Go.Ev
end Go.Ev
end
section
set_option maxHeartbeats 1000000
namespace Go.Ev
theorem Cx.mono {l:List Int} {a b b':Int} (h:Cx l a b) (hb:b≤b'):Cx l a b':=fun k x hx=>⟨⟨(h k x hx).1.1,by have:=(h k x hx).1.2; omega⟩,(h k x hx).2⟩
theorem Cx.of {l:List Int} {a b:Int} (h1:∀x∈l,a≤x∧x≤b) (h2:∀i j,∀hj:j<l.length,∀hij:i<j,l[i]'(by omega)<l[j]):Cx l a b:=fun k x hx=>by
 obtain ⟨hk,rfl⟩:=List.getElem?_eq_some_iff.1 hx
 refine ⟨h1 _ (List.getElem_mem hk),fun y hp hy=>?_⟩
 obtain ⟨hk',rfl⟩:=List.getElem?_eq_some_iff.1 hy
 exact h2 (k-1) k hk (by omega)
theorem Cx.mem {l:List Int} {a b:Int} (h:Cx l a b) {x:Int} (hx:x∈l):a≤x∧x≤b:=by
 obtain ⟨k,hk,rfl⟩:=List.getElem_of_mem hx
 exact (h k _ (List.getElem?_eq_getElem hk)).1
theorem Cx.ge {l:List Int} {b:Int} (h:Cx l 1 b):∀k,∀hk:k<l.length,(k:Int)+1≤l[k]:=by
 intro k
 induction k with
 | zero=>intro hk; have:=h.mem (List.getElem_mem hk); simp; omega
 | succ k ih=>
  intro hk
  have h1:=ih (by omega)
  have h2:=h.lt hk (show k<k+1 by omega)
  omega
theorem Cx.len {l:List Int} {b:Int} (h:Cx l 1 b) (hb:0≤b):(l.length:Int)≤b:=by
 by_cases h0:l.length=0
 ·omega
 ·have h1:=h.ge (l.length-1) (by omega)
  have h2:=h.mem (List.getElem_mem (show l.length-1<l.length by omega))
  omega
theorem zL {l:List Int} {a b:Int} (h:Cx l a b) {x:Int} {p:Nat} (hp:Nu l x p):Je l x p=true↔x∈l:=by
 unfold Je
 rw [decide_eq_true_eq]
 constructor
 ·intro hx; exact List.mem_of_getElem? hx
 ·intro hx
  obtain ⟨j,hj,rfl⟩:=List.getElem_of_mem hx
  obtain ⟨h1,h2,h3⟩:=hp
  by_cases e:j=p
  ·subst e; exact List.getElem?_eq_getElem hj
  ·by_cases e2:j<p
   ·have:=h2 j hj e2; omega
   ·have:=h.lt hj (show p<j by omega)
    have:=h3 p (by omega) (Nat.le_refl _)
    omega
theorem Xf {l:List Int} {a b:Int} (h:Cx l a b):l.Pairwise (· < ·):=by
 rw [List.pairwise_iff_getElem]
 intro i j hi hj hij
 exact h.lt hj hij
theorem bK {l:List Int} {a b:Int} (h1:∀x∈l,a≤x∧x≤b) (h2:l.Pairwise (· < ·)):Cx l a b:=by
 refine Cx.of h1 fun i j hj hij=>?_
 exact List.pairwise_iff_getElem.1 h2 i j (by omega) hj hij
theorem cH {l:List Int} {x:Int} {p:Nat} (hp:Nu l x p) {y:Int} (hy:y∈l.take p):y<x:=by
 obtain ⟨j,hj,rfl⟩:=List.getElem_of_mem hy
 simp only [List.length_take] at hj
 rw [List.getElem_take]
 exact hp.2.1 j (by omega) (by omega)
theorem cG {l:List Int} {x:Int} {p:Nat} (hp:Nu l x p) {y:Int} (hy:y∈l.drop p):x≤y:=by
 obtain ⟨j,hj,rfl⟩:=List.getElem_of_mem hy
 simp only [List.length_drop] at hj
 rw [List.getElem_drop]
 exact hp.2.2 _ (by omega) (by omega)
theorem fG {l:List Int} {M:Int} (h:Cx l 1 M) {x:Int} (c:Bool) (hx:c=true→1≤x∧x≤M) {p:Nat} (hp:Nu l x p):Cx (Lw l x c p) 1 M:=by
 have hpw:=Xf h
 unfold Lw
 split
 ·split
  ·exact h
  ·rename_i hat
   have hn:x∉l:=fun hm=>hat ((zL h hp).2 hm)
   refine bK (fun y hy=>?_) ?_
   ·rcases List.mem_append.1 hy with hy | hy
    ·rcases List.mem_append.1 hy with hy | hy
     ·exact h.mem (List.mem_of_mem_take hy)
     ·simp only [List.mem_singleton] at hy; subst hy; exact hx (by assumption)
    ·exact h.mem (List.mem_of_mem_drop hy)
   ·rw [List.append_assoc,List.pairwise_append]
    refine ⟨hpw.sublist (List.take_sublist _ _),?_,fun y hy z hz=>?_⟩
    ·rw [List.singleton_append,List.pairwise_cons]
     refine ⟨fun z hz=>?_,hpw.sublist (List.drop_sublist _ _)⟩
     have h1:=cG hp hz
     have h2:z≠x:=fun e=>hn (e ▸ List.mem_of_mem_drop hz)
     omega
    ·have h1:=cH hp hy
     rcases List.mem_append.1 hz with hz | hz
     ·simp only [List.mem_singleton] at hz; subst hz; exact h1
     ·have:=cG hp hz; omega
 ·split
  ·refine bK (fun y hy=>?_) ?_
   ·rcases List.mem_append.1 hy with hy | hy
    ·exact h.mem (List.mem_of_mem_take hy)
    ·exact h.mem (List.mem_of_mem_drop hy)
   ·rw [List.pairwise_append]
    refine ⟨hpw.sublist (List.take_sublist _ _),hpw.sublist (List.drop_sublist _ _),fun y hy z hz=>?_⟩
    have h1:=cH hp hy
    have h2:=cG hp (y:=z) (by
     rw [←List.drop_drop] at hz
     exact (List.drop_sublist 1 _).mem hz)
    omega
  ·exact h
theorem rem_tab {t:Ak} (h:Gr t) {k:Nat} (hk:k<t.Ac.length):Gr (Ak.mk t.clock t.next (t.Ac.take k++t.Ac.drop (k+1))):=by
 have hget:∀j,(t.Ac.take k++t.Ac.drop (k+1))[j]? = if j<k then t.Ac[j]? else t.Ac[j+1]? := fun j=>by
  rw [List.getElem?_append]
  simp only [List.length_take,Nat.min_eq_left (Nat.le_of_lt hk)]
  split
  ·rw [List.getElem?_take]; simp [*]
  ·rw [List.getElem?_drop]; congr 1; omega
 refine ⟨⟨h.1.1,h.1.2.1,by have:=h.1.2.2.1; simp; omega,fun j x hx=>?_⟩,h.2.1,fun x hx=>?_⟩
 ·simp only [hget] at hx
  have key:∀i,t.Ac[i]? = some x→j≤i→(∀y,0<j→(if j-1<k then t.Ac[j-1]? else t.Ac[j-1+1]?)=some y→y.id<x.id)→bU (Ak.mk t.clock t.next (t.Ac.take k++t.Ac.drop (k+1))) j x:=fun i hi hji hy=>by
   obtain ⟨a1,a2,a3,a4,a5⟩:=h.1.2.2.2 i x hi
   refine ⟨a1,fun y hp hy'=>?_,a3,a4,a5⟩
   simp only [hget] at hy'
   exact hy y hp hy'
  split at hx
  ·rename_i hjk
   refine key j hx (Nat.le_refl _) fun y hp hy=>?_
   rw [if_pos (by omega)] at hy
   exact (h.1.2.2.2 j x hx).2.1 y hp hy
  ·rename_i hjk
   refine key (j+1) hx (by omega) fun y hp hy=>?_
   obtain ⟨hlt,rfl⟩:=List.getElem?_eq_some_iff.1 hx
   split at hy
   ·obtain ⟨hlt2,rfl⟩:=List.getElem?_eq_some_iff.1 hy
    exact h.1.lt hlt (by omega)
   ·obtain ⟨hlt2,rfl⟩:=List.getElem?_eq_some_iff.1 hy
    exact h.1.lt hlt (by omega)
 ·simp only at hx
  rcases List.mem_append.1 hx with hx | hx
  ·exact h.2.2 x (List.mem_of_mem_take hx)
  ·exact h.2.2 x (List.mem_of_mem_drop hx)
theorem KN {t:Ak} (h:Gr t) (hn:t.next+1≤1000000):Gr (Ak.mk t.clock (t.next+1) t.Ac):=by
 have hn1:=h.1.2.1
 refine ⟨⟨h.1.1,by simp only; omega,h.1.2.2.1,fun k x hx=>?_⟩,h.2⟩
 obtain ⟨a1,a2,a3,a4,a5⟩:=h.1.2.2.2 k x hx
 exact ⟨by simp only; omega,a2,a3,a4,a5⟩
end Go.Ev
end
section
set_option maxHeartbeats 1000000
namespace Go.Ev
def bO (a:Aj):Prop:=(a.kind=1→1≤a.ttl∧a.ttl≤a.Fd∧a.Fd≤9223372036854775807)∧(a.kind=2→1≤a.ttl∧a.ttl≤9223372036854775807)∧(a.kind=4→a.clock≤9223372036854775807)∧a.Cp.length≤1048576
end Go.Ev
end
section
namespace Go.Ev
theorem tP (l:List Int) (f:Int→Option Bool) (p:Int→Bool) (hf:∀x∈l,f x=some (p x)) (hl:l.length≤4611686018427387903):AkT l f=some (Gj l p):=Md l f p hf hl (fun _=>rfl)
theorem AkV (l:List Int) (f:Int→Option Bool) (p:Int→Bool) (hf:∀x∈l,f x=some (p x)) (hl:l.length≤4611686018427387903):AkU l f=some (l.any p):=by
 unfold AkU; rw [tP l f p hf hl]; simp only [Option.bind_some,Oy]
theorem JM (l:List Int) (f:Int→Option Bool) (p:Int→Bool) (hf:∀x∈l,f x=some (p x)) (hl:l.length≤4611686018427387903):g97 l f=some (l.all p):=by
 unfold g97; rw [AkV l _ (fun x => !p x) (fun x hx=>by simp [AkW,hf x hx]) hl]; simp only [Option.bind_some,aM]
end Go.Ev
end
section
set_option maxHeartbeats 1000000
namespace Go.Ev
abbrev bP (t:Ak) (x:Int):Prop:=∀y∈t.Ac,y.id≠x
abbrev NotOf (l:List Ad) (x:Int):Prop:=∀y∈l,y.Bb≠x
theorem wR {l:List Af} {x n:Int} (h:aJ l x n):n<0↔∀y∈l,y.id≠x:=by
 rcases h with ⟨rfl,h⟩ | ⟨k,hk,rfl,h⟩
 ·exact ⟨fun _=>h,fun _=>by omega⟩
 ·exact ⟨fun hh=>by omega,fun hh=>absurd h (hh _ (List.getElem_mem hk))⟩
theorem wO (t:Ak) (h:Gy t) (x:Int):∃i b,NG t x=some (i,b)∧(!b)=tf (bP t x):=by
 obtain ⟨n,_,h2⟩:=Yk t x (by have:=h.2.2.1; omega)
 obtain ⟨i,b,e1,e2,e3⟩:=jX t h x n h2
 have h3:=wR h2
 refine ⟨i,b,e1,?_⟩
 cases b with
 | true=>
  have:=(e2 rfl).2
  exact (Hr fun hh=>by have:=h3.2 hh; omega).symm
 | false=>
  have:=e3 rfl
  exact (Kg (h3.1 (by omega))).symm
theorem gX (l:List Ad) (hl:l.length≤1048576):g95 l=some (l.map Ad.Bb):=by
 have h:=Cz (step:=dA l) (fun k=>((l.take k).map Ad.Bb,(k:Int))) l.length (l.map Ad.Bb) (fun k hk=>by
  simp only [dA]
  rw [if_pos (decide_eq_true (by omega)),Bx hk]
  simp only [Option.bind_some,w1 (show k<4611686018427387904 by omega)]
  rw [if_pos (by simp; omega),List.take_succ_eq_append_getElem hk,List.map_append]
  rfl) (by
  simp only [dA]
  rw [if_neg (by simp),List.take_length])
 simp only [g95]
 rw [show (([]:List Int),(0:Int))=((l.take 0).map Ad.Bb,((0:Nat):Int)) from rfl,h]
 rfl
theorem pZ (a b:List Int) (ha:a.length≤1048576) (hb:b.length≤1048576):AkS [a,b]=some (a++b):=by
 have wa:IntKind.i64.wrap (0+(a.length:Int))=(a.length:Int):=by rw [wr ⟨by omega,by omega⟩]; omega
 have wb:IntKind.i64.wrap ((a.length:Int)+(b.length:Int))=(a.length:Int)+(b.length:Int):=wr ⟨by omega,by omega⟩
 have k1:IntKind.i64.wrap ((0:Int)+1)=1:=by decide
 have k2:IntKind.i64.wrap ((1:Int)+1)=2:=by decide
 have s0:Mz [a,b] (0,0)=some (.inl ((a.length:Int),1)):=by
  simp only [Mz,aV]
  rw [if_pos (by simp),show El [a,b] (0:Int)=some a from rfl]
  simp only [Option.bind_some,wa,k1]
  rw [if_neg (by simp)]
 have s1:Mz [a,b] ((a.length:Int),1)=some (.inl ((a.length:Int)+(b.length:Int),2)):=by
  simp only [Mz,aV]
  rw [if_pos (by simp),show El [a,b] (1:Int)=some b from rfl]
  simp only [Option.bind_some,wb,k2]
  rw [if_neg (by simp; omega)]
 have s2:Mz [a,b] ((a.length:Int)+(b.length:Int),2)=some (.inr ((a.length:Int)+(b.length:Int))):=by
  simp only [Mz]
  rw [if_neg (by simp)]
 have u0:Na [a,b] ([],0)=some (.inl (a,1)):=by
  simp only [Na]
  rw [if_pos (by simp),show El [a,b] (0:Int)=some a from rfl]
  simp only [Option.bind_some,k1,List.nil_append]
  rw [if_pos (by simp; omega)]
 have u1:Na [a,b] (a,1)=some (.inl (a++b,2)):=by
  simp only [Na]
  rw [if_pos (by simp),show El [a,b] (1:Int)=some b from rfl]
  simp only [Option.bind_some,k2]
  rw [if_pos (by omega)]
 have u2:Na [a,b] (a++b,2)=some (.inr (a++b)):=by
  simp only [Na]
  rw [if_neg (by simp)]
 have hg:Ala ([]:List Int) ((a.length:Int)+(b.length:Int))=some []:=by
  unfold Ala
  rw [if_pos ⟨by omega,by simp; omega⟩]
 simp only [AkS,Dw s0,Dw s1,Ea s2,Option.bind_some,hg,Dw u0,Dw u1,Ea u2]
def Vn:List Int→List (Int×Bool)→List (Int×Bool)
 | [],l=>l
 | x::r,l=>Vn r (Uc l x true)
theorem gW (x n:Int) (b:Bool):∀l:List (Int×Bool),Of (Uc l n b) x=if n=x then b else Of l x
 | []=>by simp [Uc,Of]
 | (k,c)::r=>by
  simp only [Uc]
  by_cases h:k=n
  ·subst h
   simp only [if_true,Of]
   split<;>rfl
  ·simp only [h,if_false,Of,gW x n b r]
   by_cases h2:k=x
   ·subst h2
    simp [Ne.symm h]
   ·simp [h2]
theorem gV (x:Int):∀(r:List Int) (l:List (Int×Bool)),Of (Vn r l) x=(decide (x∈r) || Of l x)
 | [],l=>by simp [Vn]
 | y::r,l=>by
  rw [Vn,gV x r,gW]
  by_cases h:y=x
  ·subst h; simp
  ·by_cases h2:x∈r
   ·simp [h2]
   ·simp [h,h2,Ne.symm h]
theorem LN (r:List Int) (hl:r.length≤4194304):∃m,Ce (Yl r) (0,[])=some m∧∀x,Of m x=decide (x∈r):=by
 have h:=Cz (step:=Yl r) (fun k=>((k:Int),Vn (r.take k) [])) r.length (Vn r []) (fun k hk=>by
  simp only [Yl]
  rw [if_pos (decide_eq_true (by omega)),Bx hk]
  simp only [Option.bind_some,Int.toNat_natCast]
  rw [List.getElem?_eq_getElem hk]
  simp only [Option.bind_some,w1 (show k<4611686018427387904 by omega)]
  congr 3
  rw [List.take_succ_eq_append_getElem hk]
  generalize r.take k=q
  generalize ([]:List (Int×Bool))=l
  induction q generalizing l with
  | nil=>rfl
  | cons y q ih=>exact ih _) (by
  simp only [Yl]
  rw [if_neg (by simp),List.take_length])
 refine ⟨Vn r [],h,fun x=>?_⟩
 rw [gV]
 simp [Of]
def lP (v:Ag) (x:Int):Prop:=¬bP v.Ab x∨¬NotOf v.Aa x
theorem iC (v:Ag) (x:Int):x∈v.Ab.Ac.map Af.id++v.Aa.map Ad.Bb↔lP v x:=by
 simp [lP]
theorem jL {α:Type} (l:List α) (p:α→Bool):(Gj l p = -1∧∀x∈l,p x=false)∨∃k,∃h:k<l.length,Gj l p=(k:Int)∧p l[k]=true:=by
 unfold Gj
 cases hf:l.findIdx? p with
 | none=>exact .inl ⟨rfl,fun x hx=>List.findIdx?_eq_none_iff.1 hf x hx⟩
 | some k=>
  obtain ⟨h,h1,_⟩:=List.findIdx?_eq_some_iff_getElem.1 hf
  exact .inr ⟨k,h,rfl,h1⟩
theorem oD (v:Ag) (h1:v.Ab.Ac.length≤1048576) (h2:v.Aa.length≤1048576) (h3:v.Ae.length≤1048576):∃q,g96 v=some q∧(!q.2)=tf (∀a∈v.Ae,lP v a):=by
 obtain ⟨m,m1,m2⟩:=LN (v.Ab.Ac.map Af.id++v.Aa.map Ad.Bb) (by simp; omega)
 have hp:∀x∈v.Ae,(fun z=>II z m) x=some (!decide (x∈v.Ab.Ac.map Af.id++v.Aa.map Ad.Bb)):=fun x _=>by simp only [II,m2]
 have hf:=tP v.Ae _ (fun x => !decide (x∈v.Ab.Ac.map Af.id++v.Aa.map Ad.Bb)) hp (by omega)
 simp only [g96,JE v.Ab h1,gX v.Aa h2,Option.bind_some,pZ _ _ (show (v.Ab.Ac.map Af.id).length≤1048576 by simpa using h1) (show (v.Aa.map Ad.Bb).length≤1048576 by simpa using h2),m1,hf]
 rcases jL v.Ae (fun x => !decide (x∈v.Ab.Ac.map Af.id++v.Aa.map Ad.Bb)) with ⟨e1,e2⟩ | ⟨k,hk,e1,e2⟩
 ·rw [e1,if_pos (by decide)]
  refine ⟨_,rfl,(Kg fun a ha=>?_).symm⟩
  have:=e2 a ha
  simp only [Bool.not_eq_false',decide_eq_true_eq] at this
  exact (iC v a).1 this
 ·rw [e1,if_neg (by simp),Bx hk]
  refine ⟨_,rfl,(Hr fun hh=>?_).symm⟩
  simp only [Bool.not_eq_true',decide_eq_false_iff_not] at e2
  exact e2 ((iC v _).2 (hh _ (List.getElem_mem hk)))
def Ui (v:Ag):Prop:=Gy v.Ab∧v.Aa.length≤40∧v.Ae.length≤80∧Cx v.Ae 1 (v.Ab.next-1)∧Cx (v.Aa.map Ad.Bb) 1 (v.Ab.next-1)∧(∀x∈v.Aa.map Ad.Bb,bP v.Ab x)∧∀a∈v.Ae,lP v a
theorem dE (v:Ag) (h1:v.Ab.Ac.length≤1048576) (h2:v.Aa.length≤1048576) (h3:v.Ae.length≤1048576) (hn:I64 v.Ab.next):g48 v=some (tf (Ui v)):=by
 simp only [g48,IL v.Ab h1 hn,Option.bind_some]
 by_cases p1:Gy v.Ab
 ·have hn1:=p1.2.1
  have hw4:IntKind.i64.wrap (v.Ab.next-1)=v.Ab.next-1:=wr ⟨by omega,by omega⟩
  simp only [Kg p1,Bool.not_true,cond_false,hw4]
  by_cases p2:v.Aa.length≤40
  ·rw [decide_eq_false (show ¬(v.Aa.length:Int)>40 by omega)]
   simp only [cond_false,beq_self_eq_true,if_true,gX v.Aa h2,Option.bind_some,jW _ 1 (v.Ab.next-1) (show (v.Aa.map Ad.Bb).length≤1048576 by simpa using h2)]
   by_cases p5:Cx (v.Aa.map Ad.Bb) 1 (v.Ab.next-1)
   ·simp only [Kg p5,Bool.not_true,cond_false]
    by_cases p3:v.Ae.length≤80
    ·rw [decide_eq_false (show ¬(v.Ae.length:Int)>80 by omega)]
     simp only [beq_self_eq_true,if_true,jW v.Ae 1 (v.Ab.next-1) h3,Option.bind_some,Bs,cond_false]
     by_cases p4:Cx v.Ae 1 (v.Ab.next-1)
     ·rw [if_neg (by simp [Kg p4])]
      obtain ⟨q,e1,e2⟩:=oD v h1 h2 h3
      simp only [e1,Option.bind_some,e2]
      have hp:∀x∈v.Aa.map Ad.Bb,(fun z=>g98 z v) x=some (tf (bP v.Ab x)):=fun x _=>by
       obtain ⟨i,b,f1,f2⟩:=wO v.Ab p1 x
       simp only [g98,f1,Option.bind_some,f2]
      have hall:=JM (v.Aa.map Ad.Bb) _ (fun x=>tf (bP v.Ab x)) hp (by simp; omega)
      have e4:(v.Aa.map Ad.Bb).all (fun x=>tf (bP v.Ab x))=tf (∀x∈v.Aa.map Ad.Bb,bP v.Ab x):=by
       rw [Bool.eq_iff_iff,tf_iff,List.all_eq_true]
       exact ⟨fun h x hx=>tf_iff.1 (h x hx),fun h x hx=>tf_iff.2 (h x hx)⟩
      by_cases p7:∀a∈v.Ae,lP v a
      ·simp only [Kg p7,beq_self_eq_true,if_true,Option.bind_some,hall,e4,cond_true]
       exact congrArg some (oN ⟨fun h=>⟨p1,p2,p3,p4,p5,h,p7⟩,fun h=>h.2.2.2.2.2.1⟩)
      ·simp only [Hr p7,show (false==true)=false from rfl,Bool.false_eq_true,if_false,Option.bind_some,cond_false]
       exact congrArg some (Hr fun h=>p7 h.2.2.2.2.2.2).symm
     ·rw [if_pos (by simp [Hr p4])]
      exact congrArg some (Hr fun h=>p4 h.2.2.2.1).symm
    ·rw [decide_eq_true (show (v.Ae.length:Int)>80 by omega)]
     simp only [show (true==false)=false from rfl,Bool.false_eq_true,if_false,Option.bind_some,Bs,cond_true,if_true]
     exact congrArg some (Hr fun h=>p3 h.2.2.1).symm
   ·simp only [Hr p5,Bool.not_false,cond_true,show (true==false)=false from rfl,Bool.false_eq_true,if_false,Option.bind_some,Bs,if_true]
    exact congrArg some (Hr fun h=>p5 h.2.2.2.2.1).symm
  ·rw [decide_eq_true (show (v.Aa.length:Int)>40 by omega)]
   simp only [cond_true,show (true==false)=false from rfl,Bool.false_eq_true,if_false,Option.bind_some,Bs,if_true]
   exact congrArg some (Hr fun h=>p2 h.2.1).symm
 ·simp only [Hr p1,Bool.not_false,cond_true,show (true==false)=false from rfl,Bool.false_eq_true,if_false,Option.bind_some,Bs,if_true]
  exact congrArg some (Hr fun h=>p1 h.1).symm
end Go.Ev
end
section
set_option maxHeartbeats 1000000
namespace Go.Ev
abbrev Tv:List UInt8:=[48,49,50,51,52,53,54,55,56,57,97,98,99,100,101,102]
theorem nib_ok (x:Int):∃j:Nat,Ym .i64 x 15=(j:Int)∧j<16:=by
 unfold Ym
 have h:(BitVec.ofInt IntKind.i64.bits x &&& BitVec.ofInt IntKind.i64.bits 15).toNat≤15:=by
  rw [BitVec.toNat_and]
  exact Nat.le_trans Nat.and_le_right (by decide)
 refine ⟨(BitVec.ofInt IntKind.i64.bits x &&& BitVec.ofInt IntKind.i64.bits 15).toNat,?_,by omega⟩
 exact wr ⟨by omega,by omega⟩
noncomputable def hx (x:Int):UInt8:=(Tv[(Ym .i64 x 15).toNat]?).getD 0
theorem hx_ok (x:Int):El Tv (Ym .i64 x 15)=some (hx x)∧(hx x).toNat<128:=by
 obtain ⟨j,h1,h2⟩:=nib_ok x
 have hj:j<Tv.length:=h2
 unfold hx
 rw [h1,Bx hj,Int.toNat_natCast,List.getElem?_eq_getElem hj]
 refine ⟨rfl,?_⟩
 simp only [Option.getD_some]
 have:∀y∈Tv,y.toNat<128:=by decide
 exact this _ (List.getElem_mem hj)
noncomputable def Cl (n:Int):List UInt8:=(List.range 16).map fun i:Nat=>hx (Kc .i64 n (60-4*(i:Int)))
theorem Rt {α:Type} (f:Nat→α) (k:Nat):(List.range (k+1)).map f=(List.range k).map f++[f k]:=by
 rw [List.range_succ,List.map_append]; rfl
theorem dD (n:Int):jS n=some (Cl n):=by
 have h:=Cz (step:=Sz n) (fun k=>((List.range k).map fun i:Nat=>hx (Kc .i64 n (60-4*(i:Int))),15-(k:Int))) 16 (Cl n) (fun k hk=>by
  have hw:IntKind.i64.wrap (4*(15-(k:Int)))=60-4*(k:Int):=by rw [wr ⟨by omega,by omega⟩]; omega
  have hw2:IntKind.i64.wrap (15-(k:Int)-1)=15-((k+1:Nat):Int):=by rw [wr ⟨by omega,by omega⟩]; omega
  simp only [Sz]
  rw [if_pos (decide_eq_true (by omega)),hw,hw2,if_pos (by omega),(hx_ok _).1]
  simp only [Option.bind_some]
  rw [if_pos (by simp; omega),Rt]) (by
  simp only [Sz]
  rw [if_neg (by simp)]
  rfl)
 have h':Ce (Sz n) ([],15)=some (Cl n):=h
 simp only [jS,h',Option.bind_some]
theorem Dt (n:Int):(Cl n).length=16:=by simp [Cl]
abbrev Pq:List UInt8:=[105,110,116,101,110,116,47]
abbrev Zg:List UInt8:=[108,101,97,115,101,47]
abbrev sK:List UInt8:=[118,97,117,108,116]
abbrev wUndo:List UInt8:=[117,110,100,111]
abbrev MM:List UInt8:=[98,101,103,117,110]
abbrev Xp:List UInt8:=[113,117,101,117,101,100]
abbrev oT:List UInt8:=[108,105,118,101]
abbrev Xq:List UInt8:=[115,101,97,108,101,100]
abbrev oU:List UInt8:=[111,112,101,110]
noncomputable def Me (x:Ad):Bd:=Bd.mk (Pq++Cl x.Bb) (if x.Ij=true then wUndo else MM)
noncomputable def Nf (x:Af):Bd:=Bd.mk (Zg++Cl x.id) ((Cl x.Bn++Cl x.cap)++(if x.Cg=true then Xp else oT))
noncomputable def Uh (v:Ag):Bd:=Bd.mk sK ((Cl v.Ab.clock++Cl v.Ab.next)++(if v.Ai=true then Xq else oU))
noncomputable def Cc (v:Ag):List Bd:=v.Aa.map Me++v.Ab.Ac.map Nf++[Uh v]
theorem iI {α β:Type} (p:List α) (l:List β) (F:β→α) {step:List α×Int→Option ((List α×Int)⊕List α)}
  (hs:∀k (hk:k<l.length) (q:List α),q.length=p.length+k→step (q,(k:Int))=some (.inl (q++[F l[k]],((k+1:Nat):Int)))) (he:∀q:List α,q.length=p.length+l.length→step (q,(l.length:Int))=some (.inr q)):
  Ce step (p,0)=some (p++l.map F):=by
 have h:=Cz (step:=step) (fun k=>(p++(l.take k).map F,(k:Int))) l.length (p++l.map F) (fun k hk=>by
  rw [hs k hk _ (by simp; omega),List.take_succ_eq_append_getElem hk,List.map_append,List.append_assoc]
  rfl) (by
  rw [he _ (by simp)]
  simp)
 simpa using h
theorem Ye (b:Bool) (x y:List UInt8):wY b x y=some (if b=true then x else y):=by
 unfold wY; cases b<;>rfl
theorem Rw (b:Bool) {x y:List UInt8} (hx:x.length≤8) (hy:y.length≤8):(if b=true then x else y).length≤8:=by split<;>assumption
theorem rO (v:Ag) (h1:v.Ab.Ac.length≤1048576) (h2:v.Aa.length≤1048576):Alw v=some (Cc v):=by
 have l0:=iI [] v.Aa Me (step:=Wi v) (fun k hk q hq=>by
  simp only [Wi]
  rw [if_pos (decide_eq_true (by omega)),Bx hk]
  simp only [Option.bind_some,dD,Ye,w1 (show k<4611686018427387904 by omega),Bs]
  rw [if_pos (by simp only [List.length_cons,List.length_nil,Dt]; omega),if_pos (by simp only [List.length_singleton]; simp at hq; omega)]
  rfl) (fun q hq=>by
  simp only [Wi]
  rw [if_neg (by simp)])
 rw [List.nil_append] at l0
 have l1:=iI (v.Aa.map Me) v.Ab.Ac Nf (step:=Wj v) (fun k hk q hq=>by
  rw [List.length_map] at hq
  have hwl:(if v.Ab.Ac[k].Cg=true then ([113,117,101,117,101,100]:List UInt8) else [108,105,118,101]).length≤8:=Rw _ (by decide) (by decide)
  simp only [Wj]
  rw [if_pos (decide_eq_true (by omega)),Bx hk]
  simp only [Option.bind_some,dD,Ye,w1 (show k<4611686018427387904 by omega),Bs]
  rw [if_pos (by simp only [List.length_cons,List.length_nil,Dt]; omega),if_pos (by simp only [Dt]; omega),if_pos (by simp only [List.length_append,Dt]; omega),if_pos (by simp only [List.length_singleton]; omega)]
  rfl) (fun q hq=>by
  simp only [Wj]
  rw [if_neg (by simp)])
 have hwl:(if v.Ai=true then ([115,101,97,108,101,100]:List UInt8) else [111,112,101,110]).length≤8:=Rw _ (by decide) (by decide)
 simp only [Alw,l0,l1,Option.bind_some,dD,Ye,Bs]
 rw [if_pos (by simp only [Dt]; omega),if_pos (by simp only [List.length_append,Dt]; omega),if_pos (by simp only [List.length_append,List.length_map,List.length_singleton]; omega)]
 rfl
theorem iG (v:Ag) (h:Ui v):(Cc v).length≤81:=by
 have h1:=h.1.2.2.1
 have h2:=h.2.1
 simp [Cc]; omega
end Go.Ev
end
section
set_option maxHeartbeats 1000000
namespace Go.Ev
def dv (y:UInt8):Int:=if 48≤y.toNat∧y.toNat≤57 then (y.toNat:Int)-48 else if 97≤y.toNat∧y.toNat≤102 then (y.toNat:Int)-87 else -1
theorem tL (y:UInt8) : -1≤dv y∧dv y<16:=by
 unfold dv; split
 ·omega
 ·split<;>omega
set_option maxRecDepth 100000 in
theorem Ux (y:UInt8):AlB Tv y=some (dv y):=by
 simp only [AlB,g370,Option.bind_some]
 refine congrArg some ?_
 refine Uo (P:=fun y=>bX Tv ((y.toNat:Nat):Int)=dv y) ?_ y
 decide
set_option maxRecDepth 100000 in
theorem qE:∀n:Fin 256,∀k:Fin 16,(Tv[k.val]'k.isLt==UInt8.ofNat n.val)=decide (dv (UInt8.ofNat n.val)=(k.val:Int)):=by decide
theorem HT (y:UInt8) (k:Nat) (hk:k<16):(Tv[k]'hk==y)=decide (dv y=(k:Int)):=by
 refine Uo (P:=fun y=>(Tv[k]'hk==y)=decide (dv y=(k:Int))) (fun n=>?_) y
 exact qE n ⟨k,hk⟩
def fC (s:List UInt8):Prop:=s.length=16∧(∀k,∀h:k<s.length,0≤dv s[k])∧∀h:0<s.length,dv s[0]≤7
def Ju (l:List UInt8):Nat:=l.foldl (fun n y=>n*16+(dv y).toNat) 0
theorem Ze (l:List UInt8) (y:UInt8):Ju (l++[y])=Ju l*16+(dv y).toNat:=by simp [Ju]
theorem ML {s:List UInt8} (h:fC s):∀k,k≤16→Ju (s.take k)<8*16^(k-1)∨k=0:=by
 intro k
 induction k with
 | zero=>intro _; exact .inr rfl
 | succ k ih=>
  intro hk
  left
  have hlt:k<s.length:=by rw [h.1]; omega
  rw [List.take_succ_eq_append_getElem hlt,Ze]
  have h1:=tL s[k]
  have h2:=h.2.1 k hlt
  rcases ih (by omega) with h3 | rfl
  ·cases k with
   | zero=>
    have:=h.2.2 (by omega)
    simp [Ju] at *; omega
   | succ k=>
    simp only [Nat.add_sub_cancel] at h3 ⊢
    rw [Nat.pow_succ]
    omega
  ·have:=h.2.2 (by omega)
   simp [Ju]; omega
theorem sB {s:List UInt8} (h:fC s) {k:Nat} (hk:k<16):Ju (s.take k)<576460752303423488:=by
 rcases ML h k (by omega) with h1 | rfl
 ·have h2:16^(k-1)≤16^14:=Nat.pow_le_pow_right (by omega) (by omega)
  have h3:16^14=72057594037927936:=by decide
  omega
 ·simp [Ju]
theorem shl4 (n:Nat) (d:Int) (hn:n<576460752303423488) (hd:0≤d∧d<16):ior .i64 (fP .i64 (n:Int) 4) d=((n*16+d.toNat:Nat):Int):=by
 obtain ⟨e,rfl⟩:=Int.eq_ofNat_of_zero_le hd.1
 have he:e<16:=by omega
 have h1:fP .i64 (n:Int) 4=((n*16:Nat):Int):=by
  unfold fP
  have:(2:Int)^min (4:Int).toNat IntKind.i64.bits=16:=by decide
  rw [this,wr ⟨by omega,by omega⟩]; omega
 rw [h1]
 unfold ior
 have b1:(BitVec.ofInt IntKind.i64.bits ((n*16:Nat):Int)).toNat=n*16:=by
  have:IntKind.i64.bits=64:=rfl
  rw [this,BitVec.ofInt_natCast,BitVec.toNat_ofNat]
  exact Nat.mod_eq_of_lt (by omega)
 have b2:(BitVec.ofInt IntKind.i64.bits ((e:Nat):Int)).toNat=e:=by
  have:IntKind.i64.bits=64:=rfl
  rw [this,BitVec.ofInt_natCast,BitVec.toNat_ofNat]
  exact Nat.mod_eq_of_lt (by omega)
 rw [BitVec.toNat_or,b1,b2]
 have h2:n*16 ||| e=n*16+e:=by
  have:=Nat.two_pow_add_eq_or_of_lt (i:=4) (b:=e) (by omega) n
  rw [show (2:Nat)^4=16 by decide,Nat.mul_comm 16 n] at this
  exact this.symm
 rw [h2,Int.toNat_natCast,wr ⟨by omega,by omega⟩]
theorem xY (s:List UInt8) (hs:s.length=16):(fC s→Ce (Jj s) (0,0)=some (.inl (Ju s:Int)))∧((∃k,∃h:k<s.length,dv s[k]<0)→(∀h:0<s.length,s[0].toNat≤55)→Ce (Jj s) (0,0)=some (.inr (0,[],false))):=by
 constructor
 ·intro h
  have hh:=Cz (step:=Jj s) (fun k=>((Ju (s.take k):Int),(k:Int))) 16 (.inl (Ju s:Int)) (fun k hk=>by
   have hlt:k<s.length:=by omega
   have h0:=h.2.1 k hlt
   have h1:=tL s[k]
   simp only [Jj]
   rw [if_pos (decide_eq_true (by omega)),Bx hlt]
   simp only [Option.bind_some,Ux s[k],w1 (show k<4611686018427387904 by omega)]
   rw [if_neg (by simp; omega),shl4 _ _ (sB h hk) ⟨h0,h1.2⟩,List.take_succ_eq_append_getElem hlt,Ze]) (by
   simp only [Jj]
   rw [if_neg (by simp; omega),List.take_of_length_le (by omega)])
  exact hh
 ·rintro ⟨k0,hk0,hd0⟩ hfirst
  have hex:¬ ∀k,k<s.length→0≤(s[k]?.map dv).getD 0:=fun hall=>by
   have:=hall k0 hk0
   rw [List.getElem?_eq_getElem hk0] at this
   simp at this; omega
  obtain ⟨k,hk,hj,hn⟩:=Rd (ok:=fun k=>0≤(s[k]?.map dv).getD 0) hex
  rw [List.getElem?_eq_getElem hk] at hn
  simp only [Option.map_some,Option.getD_some] at hn
  have hp:∃st:Nat→Int,st 0=0∧∀j,j<k→Jj s (st j,(j:Int))=some (.inl (st (j+1),((j+1:Nat):Int))):=by
   refine ⟨fun j=>Nat.rec 0 (fun i a=>ior .i64 (fP .i64 a 4) ((s[i]?.map dv).getD 0)) j,rfl,fun j hjk=>?_⟩
   have hlt:j<s.length:=by omega
   have h0:=hj j hjk
   rw [List.getElem?_eq_getElem hlt] at h0
   simp only [Option.map_some,Option.getD_some] at h0
   simp only [Jj]
   rw [if_pos (decide_eq_true (by omega)),Bx hlt]
   simp only [Option.bind_some,Ux s[j],w1 (show j<4611686018427387904 by omega)]
   rw [if_neg (by simp; omega),List.getElem?_eq_getElem hlt]
   rfl
  obtain ⟨st,st0,hst⟩:=hp
  have:=Mf (step:=Jj s) (fun j=>(st j,(j:Int))) k hst
  rw [st0] at this
  refine this.trans (Ea ?_)
  simp only [Jj]
  rw [if_pos (decide_eq_true (by omega)),Bx hk]
  simp only [Option.bind_some,Ux s[k]]
  rw [if_pos (by simp; omega)]
set_option maxRecDepth 100000 in
theorem mK:∀n:Fin 256,(0≤dv (UInt8.ofNat n.val)∧dv (UInt8.ofNat n.val)≤7)↔(0≤dv (UInt8.ofNat n.val)∧(UInt8.ofNat n.val).toNat≤55):=by decide
theorem mL (y:UInt8):(0≤dv y∧dv y≤7)↔(0≤dv y∧y.toNat≤55):=Uo (P:=fun y=>(0≤dv y∧dv y≤7)↔(0≤dv y∧y.toNat≤55)) mK y
theorem Yz (t:List UInt8) (ht:t.length≤4194304):(fC (t.take 16)→fL t=some ((Ju (t.take 16):Int),t.drop 16,true))∧(¬fC (t.take 16)→fL t=some (0,[],false)):=by
 by_cases hl:t.length<16
 ·refine ⟨fun h=>?_,fun _=>?_⟩
  ·have:=h.1; simp at this; omega
  ·simp only [fL]
   rw [decide_eq_true (show (t.length:Int)<16 by omega)]
   simp [Bs]
 ·have h16:(t.take 16).length=16:=by simp; omega
  have h0:0<t.length:=by omega
  have e0:(t.take 16)[0]'(by omega)=t[0]:=by simp
  have hs:=Tz t 0 16 (by omega) (by omega)
  have hs2:=Tz t 16 t.length (by omega) (Nat.le_refl _)
  rw [show ((0:Nat):Int)=0 from rfl,show ((16:Nat):Int)=16 from rfl,List.drop_zero] at hs
  rw [show ((16:Nat):Int)=16 from rfl,List.take_length] at hs2
  obtain ⟨r1,r2⟩:=xY (t.take 16) h16
  simp only [fL]
  rw [decide_eq_false (show ¬(t.length:Int)<16 by omega)]
  simp only [beq_self_eq_true,if_true,show El t 0=some t[0] from Bx (k:=0) h0,Option.bind_some,Bs,cond_false]
  refine ⟨fun h=>?_,fun h=>?_⟩
  ·have h3:=(mL t[0]).1 ⟨by rw [←e0]; exact h.2.1 0 (by omega),by rw [←e0]; exact h.2.2 (by omega)⟩
   rw [if_neg (by simp; omega),hs]
   simp only [Option.bind_some,r1 h,hs2]
  ·by_cases hf:t[0].toNat≤55
   ·rw [if_neg (by simp; omega),hs]
    have hbad:∃k,∃h:k<(t.take 16).length,dv (t.take 16)[k]<0:=by
     refine Classical.byContradiction fun hne=>h ⟨h16,fun k hk=>?_,fun h1=>?_⟩
     ·exact Classical.byContradiction fun hh=>hne ⟨k,hk,by omega⟩
     ·have h4:0≤dv (t.take 16)[0]:=Classical.byContradiction fun hh=>hne ⟨0,h1,by omega⟩
      rw [e0] at h4 ⊢
      exact ((mL t[0]).2 ⟨h4,hf⟩).2
    simp only [Option.bind_some,r2 hbad (fun _=>by rw [e0]; exact hf)]
   ·rw [if_pos (by simp; omega)]
end Go.Ev
end
section
set_option maxHeartbeats 1000000
namespace Go.Ev
theorem tt:(true==true)=true:=rfl
theorem nf:(!false)=true:=rfl
theorem slcT (l:List UInt8) (b:Nat) (h:b≤l.length):Lp l 0 (b:Int)=some (l.take b):=Tz l 0 b (by omega) h
theorem slcE (l:List UInt8) (a:Nat) (h:a≤l.length):Lp l (a:Int) (l.length:Int)=some (l.drop a):=by
 rw [Tz l a l.length h (Nat.le_refl _),List.take_length]
theorem JR (s w:List UInt8):AlG s w=some (s.take w.length==w):=by
 unfold AlG
 by_cases h:w.length≤s.length
 ·rw [decide_eq_true (show (s.length:Int)≥(w.length:Int) by omega),if_pos tt,slcT s w.length h]
  rfl
 ·rw [decide_eq_false (show ¬(s.length:Int)≥(w.length:Int) by omega),if_neg (by simp)]
  have:(s.take w.length==w)=false:=by
   rw [beq_eq_false_iff_ne]
   intro he
   have:=congrArg List.length he
   simp at this
   omega
  rw [this]
  rfl
theorem tI {s w:List UInt8} (h:s.take w.length=w):aI s w=some (s.drop w.length,true):=by
 have hl:w.length≤s.length:=by
  have:=congrArg List.length h
  simp at this
  omega
 unfold aI AlF
 rw [JR,h,Option.bind_some,beq_self_eq_true,if_neg (by simp),slcE s w.length hl]
 rfl
theorem qD {s w:List UInt8} (h:¬s.take w.length=w):aI s w=some (s,false):=by
 unfold aI AlF
 rw [JR,Option.bind_some,beq_eq_false_iff_ne.2 h,if_pos nf]
 rfl
def Two (a:List UInt8):Prop:=fC (a.take 16)∧fC ((a.drop 16).take 16)
theorem two_yes {a:List UInt8} (x y:List UInt8) (ha:a.length≤4194304) (h:Two a):
  mQ a x y=some ((Ju (a.take 16):Int),(Ju ((a.drop 16).take 16):Int),(a.drop 32==x),bif (a.drop 32==x) then true else (a.drop 32==y)):=by
 unfold mQ
 rw [(Yz a ha).1 h.1,Option.bind_some]
 dsimp only
 rw [(Yz (a.drop 16) (by simp; omega)).1 h.2,Option.bind_some]
 simp only [Bs,List.drop_drop,cond_true]
end Go.Ev
end
section
set_option maxHeartbeats 1000000
namespace Go.Ev
def Mx (x:Bd):Bool:=decide (1≤x.key.length∧x.key.length≤60)&&decide (x.value.length≤400)
def Ko (l:List Bd) (k:Nat):Bool:=Mx (l[k]?.getD default)&&(decide (k=0) || Op.bytesLess (l[k-1]?.getD default).key (l[k]?.getD default).key)
theorem AlC (x:List UInt8):qQ x=some (decide (1≤x.length∧x.length≤60)):=by
 simp only [qQ,bI,Option.bind_some]
 rw [show decide ((1:Int)≤(x.length:Int))=decide (1≤x.length) by congr 1; apply propext; omega,
  show decide ((x.length:Int)≤60)=decide (x.length≤60) by congr 1; apply propext; omega]
 by_cases h1:1≤x.length<;>by_cases h2:x.length≤60<;>simp [h1,h2]
theorem wr1:IntKind.i64.wrap 1=1:=wr ⟨by decide,by decide⟩
theorem w0 {k:Nat} (h:k<4611686018427387904) (h0:0<k):IntKind.i64.wrap ((k:Int)-1)=((k-1:Nat):Int):=by rw [wr ⟨by omega,by omega⟩]; omega
theorem sC (l:List Bd) (hl:l.length≤1048576):
  (Ce (Ss l) 0).bind (fun r=>match r with | .inl ()=>some true | .inr q=>some q)=some ((List.range l.length).all (Ko l)):=by
 refine zF (Ko l) (fun k hk _=>?_) ?_
 ·simp only [Ss]
  rw [if_pos (decide_eq_true (by omega)),Bx hk]
  simp only [Option.bind_some,AlC]
  have eg:l[k]?.getD default=l[k]:=by rw [List.getElem?_eq_getElem hk]; rfl
  have ev:(bif (!(decide (1≤l[k].key.length∧l[k].key.length≤60))) then true else (decide ((l[k].value.length:Int)>400))) = !Mx l[k]:=by
   rw [show decide ((l[k].value.length:Int)>400) = !decide (l[k].value.length≤400) by
    rw [←decide_not]; congr 1; apply propext; omega]
   unfold Mx
   cases decide (1≤l[k].key.length∧l[k].key.length≤60)<;>cases decide (l[k].value.length≤400)<;>rfl
  rw [ev]
  by_cases he:Mx l[k]=true
  ·by_cases h0:k=0
   ·subst h0
    have:Ko l 0=true:=by simp only [Ko,eg,he]; rfl
    rw [this,he]
    simp [Bs,wr1]
   ·have hk0:0<k:=by omega
    have e1:decide ((k:Int)>0)=true:=decide_eq_true (by omega)
    have eg1:l[k-1]?.getD default=l[k-1]:=by rw [List.getElem?_eq_getElem (by omega)]; rfl
    have:Ko l k=Op.bytesLess l[k-1].key l[k].key:=by simp only [Ko,eg,he,eg1,decide_eq_false h0]; simp
    rw [this,he,e1,w0 (by omega) hk0,Bx (k:=k-1) (by omega)]
    simp only [Bs,Option.bind_some,w1 (show k<4611686018427387904 by omega)]
    cases hb:Op.bytesLess l[k-1].key l[k].key<;>simp [hb]
  ·have he':Mx l[k]=false:=by simpa using he
   have:Ko l k=false:=by simp only [Ko,eg,he']; rfl
   rw [this,he']
   simp [Bs]
 ·simp only [Ss]
  rw [if_neg (by simp)]
end Go.Ev
end
