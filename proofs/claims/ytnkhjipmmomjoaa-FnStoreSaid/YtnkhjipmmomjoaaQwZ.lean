/- The plain part of the proof: what the functions compute answers as the law says. -/
import Derived.Test.YtnkhjipmmomjoaaQvL
import Derived.Test.YtnkhjipmmomjoaaQvM
import Derived.Test.YtnkhjipmmomjoaaQgD
set_option linter.all false
section
namespace Go.Ev
noncomputable def tf (P:Prop):Bool:=@decide P (Classical.propDecidable P)
@[simp] theorem tf_iff {P:Prop}:tf P=true↔P:=by unfold tf; exact @decide_eq_true_iff P (Classical.propDecidable P)
@[simp] theorem tf_false {P:Prop}:tf P=false↔¬P:=by rw [←Bool.not_eq_true,tf_iff]
abbrev I64 (n:Int):Prop := -9223372036854775808≤n∧n≤9223372036854775807
theorem wr {n:Int} (h:I64 n):IntKind.i64.wrap n=n:=by
 obtain ⟨h1,h2⟩:=h
 have e:IntKind.i64.wrap n=if n%18446744073709551616≥9223372036854775808 then n%18446744073709551616-18446744073709551616 else n%18446744073709551616:=by
  simp [IntKind.wrap,IntKind.bits,IntKind.signed]
 rw [e]
 split<;>omega
theorem NX {α:Type} {l:List α} {k:Nat}:Ew l (k:Int)=l[k]? := by
 unfold Ew
 rw [if_pos (by omega)]
 simp
theorem Fc {α:Type} {l:List α} {k:Nat} (h:k<l.length):Ew l (k:Int)=some l[k]:=by
 rw [NX,List.getElem?_eq_getElem h]
section
variable {σ ρ:Type} {step:σ→Option (σ⊕ρ)}
theorem Mi (st:Nat→σ):∀n,(∀k,k<n→step (st k)=some (.inl (st (k+1))))→Ch step (st 0)=Ch step (st n)
 | 0,_=>rfl
 | n+1,h=>by
  rw [Mi st n fun k hk=>h k (by omega),Nh (h n (by omega))]
theorem Df (st:Nat→σ) (n:Nat) (r:ρ) (h:∀k,k<n→step (st k)=some (.inl (st (k+1)))) (he:step (st n)=some (.inr r)):Ch step (st 0)=some r:=by
 rw [Mi st n h,Ip he]
theorem Zu {n:Nat} {ok:Nat→Prop} (h:¬ ∀k,k<n→ok k):∃k,k<n∧(∀j,j<k→ok j)∧¬ok k:=by
 obtain ⟨k,hk⟩:=Classical.not_forall.1 h
 rw [Classical.not_imp] at hk
 obtain ⟨h1,h2⟩:=hk
 induction k using Nat.strongRecOn with
 | _ k ih=>
  by_cases hex:∃j,j<k∧¬ok j
  ·obtain ⟨j,hj,hn⟩:=hex
   exact ih j hj (by omega) hn
  ·exact ⟨k,h1,fun j hj=>Classical.byContradiction fun hn=>hex ⟨j,hj,hn⟩,h2⟩
end
end Go.Ev
end
section
namespace Go.Ev
theorem Hq {σ ρ:Type} {step:σ→Option (σ⊕ρ)} (I:σ→Prop) (μ:σ→Nat) (R:ρ→Prop) (s0:σ) (h0:I s0)
  (h:∀s,I s→(∃s',step s=some (.inl s')∧I s'∧μ s'<μ s)∨(∃r,step s=some (.inr r)∧R r)):∃r,Ch step s0=some r∧R r:=by
 have key:∀(n:Nat) (s0:σ),μ s0<n→I s0→∃r,Ch step s0=some r∧R r:=by
  intro n
  induction n with
  | zero=>intro s0 hn; omega
  | succ n ih=>
   intro s0 hn hI
   rcases h s0 hI with ⟨s',h1,h2,h3⟩ | ⟨r,h1,h2⟩
   ·obtain ⟨r,h4,h5⟩:=ih s' (by omega) h2
    exact ⟨r,by rw [Nh h1,h4],h5⟩
   ·exact ⟨r,Ip h1,h2⟩
 exact key (μ s0+1) s0 (by omega) h0
theorem w1 {k:Nat} (h:k<4611686018427387904):IntKind.i64.wrap ((k:Int)+1)=((k+1:Nat):Int):=wr ⟨by omega,by omega⟩
theorem Qj {α:Type} (l:List α) (a b:Nat) (h:a≤b) (h2:b≤l.length):Hx l (a:Int) (b:Int)=some ((l.take b).drop a):=by
 unfold Hx
 rw [if_pos ⟨by omega,by omega,by omega⟩]
 simp
theorem ovlK {α:Type} (l:List α) (n:Nat) (y:List α) (h:n+y.length=l.length):ovl l n y=l.take n++y:=by
 apply List.ext_getElem
 ·simp [ovl]; omega
 ·intro k h1 h2
  simp only [ovl,List.length_mapIdx] at h1
  simp only [ovl,List.getElem_mapIdx,List.getElem_append]
  by_cases hn:n≤k
  ·rw [if_pos hn,dif_neg (by simp; omega),List.getElem?_eq_getElem (by omega:k-n<y.length)]
   simp only [Option.getD_some,List.length_take]
   congr 1; omega
  ·rw [if_neg hn,dif_pos (by simp; omega),List.getElem_take]
def Gq {α:Type} (l:List α) (p:α→Bool):Int:=match l.findIdx? p with
 | some k=>(k:Int)
 | none => -1
theorem Oo {α:Type} (l:List α) (f:α→Option Bool) (p:α→Bool) (hf:∀x∈l,f x=some (p x)) (hl:l.length≤4611686018427387903) {step:Int→Option (Int⊕(Unit⊕Int))}
  (hs:∀s,step s=if decide (s<(l.length:Int))=true then (Ew l s).bind fun y=>(f y).bind fun r=>if r=true then some (.inr (.inr s)) else some (.inl (IntKind.i64.wrap (s+1))) else some (.inr (.inl ()))):
  (Ch step 0).bind (fun r=>match r with | .inl ()=>some (-1) | .inr q=>some q)=some (Gq l p):=by
 have go:∀k (hk:k<l.length),p l[k]=false→step (k:Int)=some (.inl ((k+1:Nat):Int)):=fun k hk hp=>by
  rw [hs,if_pos (decide_eq_true (by omega)),Fc hk]
  simp [hf _ (List.getElem_mem hk),hp,w1 (show k<4611686018427387904 by omega)]
 unfold Gq
 cases hfi:l.findIdx? p with
 | none=>
  have hall:∀x∈l,p x=false:=by simpa using List.findIdx?_eq_none_iff.1 hfi
  have:=Df (step:=step) (fun k=>(k:Int)) l.length (.inl ()) (fun k hk=>go k hk (hall _ (List.getElem_mem hk))) (by rw [hs,if_neg (by simp)])
  rw [show (0:Int)=((0:Nat):Int) from rfl,this]
  rfl
 | some k=>
  obtain ⟨hk,hp,hj⟩:=List.findIdx?_eq_some_iff_getElem.1 hfi
  have:=Mi (step:=step) (fun k=>(k:Int)) k (fun j hj'=>go j (by omega) (by simpa using hj j hj'))
  rw [show (0:Int)=((0:Nat):Int) from rfl,this,Ip (r:=.inr (k:Int)) (by
   rw [hs,if_pos (decide_eq_true (by omega)),Fc hk]
   simp [hf _ (List.getElem_mem hk),hp])]
  rfl
theorem Tx {α:Type} (l:List α) (p:α→Bool):decide (Gq l p≥0)=l.any p:=by
 unfold Gq
 cases hfi:l.findIdx? p with
 | none=>
  have hall:∀x∈l,p x=false:=by simpa using List.findIdx?_eq_none_iff.1 hfi
  rw [show l.any p=false from List.any_eq_false.2 fun x hx=>by simp [hall x hx]]
  rfl
 | some k=>
  obtain ⟨hk,hp,hj⟩:=List.findIdx?_eq_some_iff_getElem.1 hfi
  rw [show l.any p=true from List.any_eq_true.2 ⟨_,List.getElem_mem hk,hp⟩]
  simp
theorem cS {α:Type} (l:List α) (p:α→Bool):(!l.any fun x => !p x)=l.all p:=by
 induction l with
 | nil=>rfl
 | cons x r ih=>simp only [List.any_cons,List.all_cons,Bool.not_or,Bool.not_not,ih]
theorem Ze {α:Type} (l:List α) (f:α→Option Bool) (p:α→Bool) (hf:∀x∈l,f x=some (p x)) (hl:l.length≤4611686018427387903) (z:α) {step:List α×Int×Int→Option ((List α×Int×Int)⊕(List α×Int))}
  (hs:∀row i j,step (row,i,j)=if decide (j<(row.length:Int))=true then (Ew row j).bind fun _=>(row[j.toNat]?).bind fun y=>(f y).bind fun r=>
   if (!r)=true then (Ew row i).bind fun _=>(row[i.toNat]?).bind fun _=>some (.inl (row.set i.toNat y,IntKind.i64.wrap (i+1),IntKind.i64.wrap (j+1))) else some (.inl (row,i,IntKind.i64.wrap (j+1)))
   else some (.inr (row,i))):
  (if (Gq l p==(-1))=true then some l else (Ch step (l,Gq l p,IntKind.i64.wrap (Gq l p+1))).bind fun r=>
   (match r with
   | (a,b)=>(Hx a b (a.length:Int)).bind fun s=>(Hx (ovl a b.toNat (List.replicate s.length z)) 0 b).bind fun s2=>some s2))=some (l.filter fun x => !p x):=by
 unfold Gq
 cases hfi:l.findIdx? p with
 | none=>
  have hall:∀x∈l,p x=false:=by simpa using List.findIdx?_eq_none_iff.1 hfi
  rw [if_pos (by rfl)]
  congr 1
  exact (List.filter_eq_self.2 fun x hx=>by simp [hall x hx]).symm
 | some k=>
  obtain ⟨hk,hp,hj⟩:=List.findIdx?_eq_some_iff_getElem.1 hfi
  simp only
  rw [if_neg (by simp)]
  have hk0:l.take k=(l.take (k+1)).filter fun x => !p x:=by
   rw [List.take_succ_eq_append_getElem hk,List.filter_append]
   have e1:(l.take k).filter (fun x => !p x)=l.take k:=List.filter_eq_self.2 fun x hx=>by
    obtain ⟨j,hj1,rfl⟩:=List.getElem_of_mem hx
    simp only [List.length_take] at hj1
    have:=hj j (by omega)
    simpa using this
   rw [e1]; simp [hp]
  obtain ⟨r,h3,h4⟩:=Hq (step:=step) (fun s=>∃i j:Nat,s.2.1=i∧s.2.2=j∧i≤j∧j≤l.length∧s.1.length=l.length∧s.1.take i=(l.take j).filter (fun x => !p x)∧s.1.drop j=l.drop j)
   (fun s=>(l.length-s.2.2).toNat) (fun r=>∃i:Nat,r.2=i∧i≤r.1.length∧r.1.length=l.length∧r.1.take i=l.filter fun x => !p x) (l,(k:Int),IntKind.i64.wrap ((k:Int)+1))
   ⟨k,k+1,rfl,w1 (by omega),by omega,by omega,rfl,hk0,rfl⟩ (by
    rintro ⟨row,_,_⟩ ⟨i,j,rfl,rfl,hij,hjl,hlen,ht,hd⟩
    simp only at hlen ht hd
    rw [hs]
    by_cases hlt:j<l.length
    ·have hrj:row[j]'(by omega)=l[j]:=by
      have e1:=congrArg (fun z=>z[0]?) hd
      simp only [List.getElem?_drop,Nat.add_zero] at e1
      rw [List.getElem?_eq_getElem (by omega),List.getElem?_eq_getElem hlt] at e1
      exact Option.some.inj e1
     have hwi:=w1 (show i<4611686018427387904 by omega)
     have hwj:=w1 (show j<4611686018427387904 by omega)
     have hd':row.drop (j+1)=l.drop (j+1):=by
      have:=congrArg (List.drop 1) hd
      simpa [List.drop_drop,Nat.add_comm] using this
     rw [if_pos (decide_eq_true (by omega)),Fc (by omega)]
     simp only [Option.bind_some,Int.toNat_natCast]
     rw [List.getElem?_eq_getElem (by omega)]
     simp only [Option.bind_some,hrj,hf _ (List.getElem_mem hlt)]
     left
     cases hpj:p l[j] with
     | false=>
      rw [if_pos (by rfl),Fc (by omega)]
      simp only [Option.bind_some]
      rw [List.getElem?_eq_getElem (by omega)]
      simp only [Option.bind_some,hwi,hwj]
      refine ⟨_,rfl,⟨i+1,j+1,rfl,rfl,by omega,by omega,by simp [hlen],?_,?_⟩,by simp only; omega⟩
      ·simp only
       rw [List.take_succ_eq_append_getElem (by simp; omega),List.take_succ_eq_append_getElem hlt,List.filter_append,←ht]
       simp [hpj,List.take_set_of_le]
      ·simp only
       rw [List.drop_set_of_lt (by omega),hd']
     | true=>
      rw [if_neg (by simp)]
      simp only [hwj]
      refine ⟨_,rfl,⟨i,j+1,rfl,rfl,by omega,by omega,hlen,?_,hd'⟩,by simp only; omega⟩
      simp only
      rw [List.take_succ_eq_append_getElem hlt,List.filter_append,←ht]
      simp [hpj]
    ·rw [if_neg (by simp; omega)]
     right
     refine ⟨_,rfl,i,rfl,by simp only; omega,hlen,?_⟩
     simp only
     rw [ht,List.take_of_length_le (by omega)])
  obtain ⟨row,i'⟩:=r
  obtain ⟨i,hi,hil,hlen,ht⟩:=h4
  simp only at hi hil hlen ht
  subst hi
  rw [h3]
  simp only [Option.bind_some]
  rw [Qj _ _ _ hil (Nat.le_refl _)]
  simp only [Option.bind_some,Int.toNat_natCast,List.take_length]
  rw [ovlK _ _ _ (by simp; omega)]
  have e:=Qj (row.take i++List.replicate (row.drop i).length z) 0 i (by omega) (by simp; omega)
  rw [show ((0:Nat):Int)=0 from rfl] at e
  rw [e]
  simp only [Option.bind_some,List.drop_zero]
  rw [List.take_append_of_le_length (by simp; omega),List.take_take,Nat.min_self,ht]
theorem gN {α:Type} (l:List α) {step:Int→Option (Int⊕(Unit⊕Bool))}
  (hs:∀k,k<l.length→step (k:Int)=some (.inl ((k+1:Nat):Int))) (he:step (l.length:Int)=some (.inr (.inl ()))):Ch step 0=some (.inl ()):=
 Df (step:=step) (fun k=>(k:Int)) l.length (.inl ()) hs he
def nX {α:Type} (mk:Int→α→α) (w:Nat) (l:List α) (a:Int):List α:=l.mapIdx fun i x=>mk (a+(w:Int)*(i:Int)) x
@[simp] theorem marked_len {α:Type} (mk:Int→α→α) (w:Nat) (l:List α) (a:Int):(nX mk w l a).length=l.length:=by simp [nX]
theorem Yz {n:Nat} (ok:Nat→Bool) {step:Int→Option (Int⊕(Unit⊕Bool))}
  (hs:∀k,k<n→(∀j,j<k→ok j=true)→step (k:Int)=if (!ok k)=true then some (.inr (.inr false)) else some (.inl ((k+1:Nat):Int))) (he:step (n:Int)=some (.inr (.inl ()))):
  (Ch step 0).bind (fun r=>match r with | .inl ()=>some true | .inr q=>some q)=some ((List.range n).all ok):=by
 by_cases h:∀k,k<n→ok k=true
 ·have:=Df (step:=step) (fun k=>(k:Int)) n (.inl ()) (fun k hk=>by rw [hs k hk (fun j hj=>h j (by omega)),h k hk]; rfl) he
  rw [show (0:Int)=((0:Nat):Int) from rfl,this]
  rw [show (List.range n).all ok=true from List.all_eq_true.2 fun x hx=>h x (List.mem_range.1 hx)]
  rfl
 ·obtain ⟨k,hk,hj,hn⟩:=Zu h
  have hf:ok k=false:=by simpa using hn
  have:=Mi (step:=step) (fun k=>(k:Int)) k (fun j hj'=>by rw [hs j (by omega) (fun i hi=>hj i (by omega)),hj j hj']; rfl)
  rw [show (0:Int)=((0:Nat):Int) from rfl,this,Ip (r:=.inr false) (by rw [hs k hk hj,hf]; rfl)]
  rw [show (List.range n).all ok=false from List.all_eq_false.2 ⟨k,List.mem_range.2 hk,by simp [hf]⟩]
  rfl
end Go.Ev
end
section
namespace Go.Ev
theorem MF (l:List As) (f:As→Option Bool) (p:As→Bool) (hf:∀x∈l,f x=some (p x)) (hl:l.length≤4611686018427387903):SZ l f=some (Gq l p):=Oo l f p hf hl (fun _=>rfl)
theorem LU (l:List As) (f:As→Option Bool) (p:As→Bool) (hf:∀x∈l,f x=some (p x)) (hl:l.length≤4611686018427387903):LT l f=some (l.any p):=by
 unfold LT; rw [MF l f p hf hl]; simp only [Option.bind_some,Tx]
theorem KY (l:List As) (f:As→Option Bool) (p:As→Bool) (hf:∀x∈l,f x=some (p x)) (hl:l.length≤4611686018427387903):KX l f=some (l.all p):=by
 unfold KX; rw [LU l _ (fun x => !p x) (fun x hx=>by simp [LV,hf x hx]) hl]; simp only [Option.bind_some,cS]
theorem Pk (l:List UInt8) (hl:l.length≤1048576):Zl l=some l:=by
 unfold Zl; rw [if_pos (by simp; omega)]
end Go.Ev
end
section
namespace Go.Ev
def Vv (s:As):Prop:=(0≤s.at_∧s.at_≤127)∧s.data.length=32
def Lj (d:Av):Prop:=d.held.length%32=0∧d.held.length≤4096∧d.Aq.length≤4096∧∀s∈d.Aq,Vv s
def Fe (b:List UInt8) (n:Nat):List UInt8:=b++List.replicate (n-b.length) 0
@[simp] theorem padB_len (b:List UInt8) (n:Nat):(Fe b n).length=max b.length n:=by simp [Fe]; omega
def Iv (b:List UInt8) (k:Nat) (d:List UInt8):List UInt8:=(Fe b (32*(k+1))).take (32*k)++d++(Fe b (32*(k+1))).drop (32*k+32)
theorem aE (b:List UInt8) (k:Nat) (d:List UInt8) (h:d.length=32):(Iv b k d).length=max b.length (32*(k+1)):=by
 simp [Iv,h]; omega
def gt (l:List UInt8) (i:Nat):UInt8:=l[i]?.getD 0
theorem bT (b:List UInt8) (n i:Nat):gt (Fe b n) i=gt b i:=by
 unfold gt Fe
 by_cases h:i<b.length
 ·rw [List.getElem?_append_left h]
 ·rw [List.getElem?_append_right (by omega),List.getElem?_eq_none (by omega:b.length≤i)]
  by_cases h2:i-b.length<n-b.length
  ·rw [List.getElem?_replicate,if_pos h2]; rfl
  ·rw [List.getElem?_replicate,if_neg h2]
theorem TK (b:List UInt8) (k i:Nat) (d:List UInt8) (h:d.length=32):gt (Iv b k d) i=if 32*k≤i∧i<32*k+32 then gt d (i-32*k) else gt b i:=by
 have hp:∀j,gt (Fe b (32*(k+1))) j=gt b j:=bT b _
 unfold gt at hp ⊢
 unfold Iv
 have hlen:((Fe b (32*(k+1))).take (32*k)).length=32*k:=by simp; omega
 by_cases h1:i<32*k
 ·rw [if_neg (by omega),List.append_assoc,List.getElem?_append_left (by omega),List.getElem?_take_of_lt h1,hp]
 ·by_cases h2:i<32*k+32
  ·rw [if_pos ⟨by omega,h2⟩,List.append_assoc,List.getElem?_append_right (by omega),hlen,List.getElem?_append_left (by omega)]
  ·rw [if_neg (by omega),List.getElem?_append_right (by simp; omega),List.getElem?_drop]
   rw [←hp]
   congr 2
   simp; omega
def Cp (d:Av):List UInt8:=d.Aq.foldl (fun b s=>Iv b s.at_.toNat s.data) d.held
theorem Zj (l:List As) (b:List UInt8) (hl:∀s∈l,Vv s) (h1:b.length%32=0) (h2:b.length≤4096):
  (l.foldl (fun b s=>Iv b s.at_.toNat s.data) b).length%32=0∧(l.foldl (fun b s=>Iv b s.at_.toNat s.data) b).length≤4096∧b.length≤(l.foldl (fun b s=>Iv b s.at_.toNat s.data) b).length:=by
 induction l generalizing b with
 | nil=>exact ⟨h1,h2,Nat.le_refl _⟩
 | cons s r ih=>
  have hs:=hl s (by simp)
  have hlen:=aE b s.at_.toNat s.data hs.2
  have:=hs.1
  obtain ⟨i1,i2,i3⟩:=ih (Iv b s.at_.toNat s.data) (fun x hx=>hl x (by simp [hx])) (by rw [hlen]; omega) (by rw [hlen]; omega)
  exact ⟨i1,i2,by have:=i3; simp only [List.foldl_cons]; omega⟩
theorem Wt (d:Av) (h:Lj d):(Cp d).length%32=0∧(Cp d).length≤4096∧d.held.length≤(Cp d).length:=Zj d.Aq d.held h.2.2.2 h.1 h.2.1
theorem pK {k:Nat} (h:k≤1099511627776):IntKind.i64.wrap (32*(k:Int))=((32*k:Nat):Int):=by rw [wr ⟨by omega,by omega⟩]; omega
theorem wr32' {k:Nat} (h:k≤1099511627776):IntKind.i64.wrap ((k:Int)*32)=((32*k:Nat):Int):=by rw [wr ⟨by omega,by omega⟩]; omega
theorem Uu (b:List UInt8) (k:Nat) (d:List UInt8) (h:d.length=32) (hb:32*(k+1)≤b.length):
  ((Hx b ((32*k:Nat):Int) (b.length:Int)).bind fun s=>Bn (ovl b (((32*k:Nat):Int)).toNat (d.take s.length)) fun v=>some v)=some (Iv b k d):=by
 rw [Qj _ _ _ (by omega) (Nat.le_refl _)]
 simp only [Option.bind_some,Bn,Int.toNat_natCast,List.take_length,List.length_drop]
 rw [List.take_of_length_le (by omega)]
 congr 1
 have hp:Fe b (32*(k+1))=b:=by simp [Fe,show 32*(k+1)-b.length=0 by omega]
 unfold Iv
 rw [hp]
 apply List.ext_getElem
 ·simp [ovl]; omega
 ·intro i h1 h2
  simp only [ovl,List.length_mapIdx] at h1
  simp only [ovl,List.getElem_mapIdx,List.getElem_append,List.length_take,List.length_append]
  by_cases c1:32*k≤i
  ·rw [if_pos c1]
   by_cases c2:i<32*k+32
   ·rw [dif_pos (by omega),dif_neg (by omega),List.getElem?_eq_getElem (by omega)]
    simp only [Option.getD_some]
    congr 1; omega
   ·rw [dif_neg (by omega),List.getElem?_eq_none (by omega)]
    simp only [Option.getD_none,List.getElem_drop]
    congr 1; omega
  ·rw [if_neg c1,dif_pos (by omega),dif_pos (by omega),List.getElem_take]
theorem LN (b:List UInt8) (s:As) (hs:Vv s) (hb:b.length≤1048576):LL b s=some (Iv b s.at_.toNat s.data):=by
 obtain ⟨k,hk⟩:∃k:Nat,s.at_=k:=⟨s.at_.toNat,by have:=hs.1; omega⟩
 have hk1:k≤127:=by have:=hs.1; omega
 have e1:IntKind.i64.wrap (s.at_+1)=((k+1:Nat):Int):=by rw [hk]; exact w1 (by omega)
 have e2:=pK (show k+1≤1099511627776 by omega)
 have e3:IntKind.i64.wrap (32*s.at_)=((32*k:Nat):Int):=by rw [hk]; exact pK (by omega)
 simp only [LL,Bn,e1,e2]
 have e4:s.at_.toNat=k:=by omega
 rw [e4]
 by_cases hlt:b.length<32*(k+1)
 ·have e5:IntKind.i64.wrap (((32*(k+1):Nat):Int)-(b.length:Int))=((32*(k+1)-b.length:Nat):Int):=by rw [wr ⟨by omega,by omega⟩]; omega
  rw [if_pos (decide_eq_true (by omega)),e5,if_pos (by omega),if_pos (by omega)]
  simp only [Pl,e3,Int.toNat_natCast]
  have hlen:(b++List.replicate (32*(k+1)-b.length) (0:UInt8)).length=32*(k+1):=by simp; omega
  have:=Uu (b++List.replicate (32*(k+1)-b.length) 0) k s.data hs.2 (by omega)
  simp only [Int.toNat_natCast] at this
  rw [this]
  congr 1
  have hp:Fe (b++List.replicate (32*(k+1)-b.length) 0) (32*(k+1))=Fe b (32*(k+1)):=by
   conv=>lhs; unfold Fe
   rw [hlen]
   simp [Fe]
  unfold Iv
  rw [hp]
 ·rw [if_neg (by simp; omega)]
  simp only [Pl,e3]
  exact Uu b k s.data hs.2 (by omega)
theorem LZ (b:List UInt8) (s:As) (hs:Vv s) (hb:b.length≤1048576) (h32:b.length%32=0):LY b s=some (Iv b s.at_.toNat s.data):=by
 obtain ⟨k,hk⟩:∃k:Nat,s.at_=k:=⟨s.at_.toNat,by have:=hs.1; omega⟩
 have hk1:k≤127:=by have:=hs.1; omega
 have e1:IntKind.i64.wrap (s.at_+1)=((k+1:Nat):Int):=by rw [hk]; exact w1 (by omega)
 have e2:=wr32' (show k+1≤1099511627776 by omega)
 have e3:IntKind.i64.wrap (s.at_*32)=((32*k:Nat):Int):=by rw [hk]; exact wr32' (by omega)
 have e4:s.at_.toNat=k:=by omega
 rw [e4]
 obtain ⟨r,h1,h2⟩:=Hq (step:=Po s) (fun t=>(∃n,t=b++List.replicate n 0)∧t.length%32=0∧b.length≤t.length∧t.length≤max b.length (32*(k+1))) (fun t=>1048576+4096-t.length) (fun r=>r=Fe b (32*(k+1))) b ⟨⟨0,by simp⟩,h32,Nat.le_refl _,by omega⟩ (by
  rintro t ⟨⟨n,hn⟩,t1,t2,t3⟩
  simp only [Po,Bn,e1,e2]
  by_cases hlt:t.length<32*(k+1)
  ·rw [if_pos (decide_eq_true (by omega)),if_pos (by omega),if_pos (by omega)]
   refine .inl ⟨_,rfl,⟨⟨n+32,?_⟩,by simp; omega,by simp; omega,by simp; omega⟩,by simp; omega⟩
   rw [hn,List.append_assoc,List.replicate_append_replicate]
   rfl
  ·rw [if_neg (by simp; omega)]
   refine .inr ⟨_,rfl,?_⟩
   subst hn
   simp only [List.length_append,List.length_replicate] at t3 hlt
   unfold Fe
   congr 2
   omega)
 subst h2
 simp only [LY,List.nil_append]
 rw [if_pos (by simp; omega),h1]
 simp only [Option.bind_some,e3]
 have:=Uu (Fe b (32*(k+1))) k s.data hs.2 (by simp; omega)
 rw [this]
 congr 1
 have hp:Fe (Fe b (32*(k+1))) (32*(k+1))=Fe b (32*(k+1)):=by
  have e0:32*(k+1)-(Fe b (32*(k+1))).length=0:=by simp; omega
  show Fe b (32*(k+1))++List.replicate (32*(k+1)-(Fe b (32*(k+1))).length) 0=_
  rw [e0]
  simp
 unfold Iv
 rw [hp]
theorem Wl (l:List As) (b:List UInt8) (hl:∀s∈l,Vv s) (hn:l.length≤1048576) (h1:b.length%32=0) (h2:b.length≤4096) {step:List UInt8×Int→Option ((List UInt8×Int)⊕List UInt8)}
  (hs:∀k (hk:k<l.length) (p:List UInt8),p.length%32=0→p.length≤4096→step (p,(k:Int))=some (.inl (Iv p l[k].at_.toNat l[k].data,((k+1:Nat):Int)))) (he:∀p,step (p,(l.length:Int))=some (.inr p)):
  Ch step (b,0)=some (l.foldl (fun b s=>Iv b s.at_.toNat s.data) b):=by
 have h:=Df (step:=step) (fun k=>((l.take k).foldl (fun b s=>Iv b s.at_.toNat s.data) b,(k:Int))) l.length (l.foldl (fun b s=>Iv b s.at_.toNat s.data) b) (fun k hk=>by
  have hf:=Zj (l.take k) b (fun s hs'=>hl s (List.mem_of_mem_take hs')) h1 h2
  rw [hs k hk _ hf.1 hf.2.1,List.take_succ_eq_append_getElem hk,List.foldl_append]
  rfl) (by
  rw [he,List.take_length])
 exact h
theorem Sp (d:Av) (h:Lj d):bK d=some (Cp d):=by
 have hh:=h.2.1; have hw:=h.2.2.1
 have hl:=Wl d.Aq d.held h.2.2.2 (by omega) h.1 h.2.1 (step:=Pg d) (fun k hk p p1 p2=>by
  simp only [Pg]
  rw [if_pos (decide_eq_true (by omega)),Fc hk]
  simp only [Option.bind_some,LN p _ (h.2.2.2 _ (List.getElem_mem hk)) (by omega),w1 (show k<4611686018427387904 by omega)]) (fun p=>by
  simp only [Pg]
  rw [if_neg (by simp)])
 simp only [bK,Pk d.held (by omega),Option.bind_some,hl]
 rfl
theorem LI (d:Av) (h:Lj d):LH d=some (Cp d):=by
 have hh:=h.2.1; have hw:=h.2.2.1
 have hl:=Wl d.Aq d.held h.2.2.2 (by omega) h.1 h.2.1 (step:=Pj d) (fun k hk p p1 p2=>by
  simp only [Pj]
  rw [if_pos (decide_eq_true (by omega)),Fc hk]
  simp only [Option.bind_some,LZ p _ (h.2.2.2 _ (List.getElem_mem hk)) (by omega) p1,w1 (show k<4611686018427387904 by omega)]) (fun p=>by
  simp only [Pj]
  rw [if_neg (by simp)])
 simp only [LH,List.nil_append]
 rw [if_pos (by simp; omega),hl]
 rfl
def iE (all:List UInt8) (k:Nat) (data:List UInt8):List UInt8:=ovl (Fe all (32*((k+data.length-1) / 32+1))) k data
theorem TJ (l:List UInt8) (k:Nat) (y:List UInt8) (h:k+y.length≤l.length) (i:Nat):gt (ovl l k y) i=if k≤i∧i<k+y.length then gt y (i-k) else gt l i:=by
 unfold gt
 by_cases hi:i<l.length
 ·have h1:i<(ovl l k y).length:=by rw [No]; exact hi
  rw [List.getElem?_eq_getElem h1]
  simp only [ovl,List.getElem_mapIdx,Option.getD_some]
  by_cases c1:k≤i
  ·rw [if_pos c1]
   by_cases c2:i<k+y.length
   ·rw [if_pos ⟨c1,c2⟩,List.getElem?_eq_getElem (by omega)]; rfl
   ·rw [if_neg (by omega),List.getElem?_eq_none (by omega),List.getElem?_eq_getElem hi]; rfl
  ·rw [if_neg c1,if_neg (by omega),List.getElem?_eq_getElem hi]; rfl
 ·rw [if_neg (by omega),List.getElem?_eq_none (by rw [No]; omega),List.getElem?_eq_none (by omega)]
def Xh (all:List UInt8) (k:Nat):List UInt8:=(all.drop (32*k)).take 32
def Gz (all:List UInt8) (a n:Nat):List As:=(List.range' a n).map fun (k:Nat)=>As.mk (k:Int) (Xh all k)
def Ey (d:Av) (k:Nat) (data:List UInt8):Av:=
 if data.length=0 then d else Av.mk d.held (d.Aq++Gz (iE (Cp d) k data) (k / 32) ((k+data.length-1) / 32+1-k / 32))
theorem Tt (all:List UInt8) (k:Nat) (h:32*(k+1)≤all.length):(Xh all k).length=32:=by simp [Xh]; omega
theorem OK (all:List UInt8) (k:Nat) (h:32*(k+1)≤all.length):Hx all ((32*k:Nat):Int) ((32*(k+1):Nat):Int)=some (Xh all k):=by
 rw [Qj _ _ _ (by omega) h]
 unfold Xh
 rw [List.drop_take]
 congr 2
 omega
theorem Yq (all:List UInt8) (k:Nat) (data:List UInt8):(iE all k data).length=max all.length (32*((k+data.length-1) / 32+1)):=by
 unfold iE; rw [No,padB_len]
theorem oJ (d:Av) (h:Lj d):ME d=some d:=by
 have hh:=h.2.1; have hw:=h.2.2.1
 have hl:=Df (step:=Nc d) (fun k=>((k:Int),d.Aq.take k)) d.Aq.length d.Aq (fun k hk=>by
  have hd:=(h.2.2.2 _ (List.getElem_mem hk)).2
  simp only [Nc]
  rw [if_pos (decide_eq_true (by omega)),Fc hk]
  simp only [Option.bind_some,Pk d.Aq[k].data (by omega),w1 (show k<4611686018427387904 by omega)]
  rw [if_pos (by simp; omega),List.take_succ_eq_append_getElem hk]) (by
  simp only [Nc]
  rw [if_neg (by simp),List.take_length])
 have hl':Ch (Nc d) (0,([]:List As))=some d.Aq:=hl
 simp only [ME,Pk d.held (by omega),Option.bind_some,hl']
theorem gQ (all:List UInt8) (l0:List As) (a n:Nat) (hall:32*(a+n)≤all.length) (hn:all.length≤1048576) {step:Int×List As→Option ((Int×List As)⊕List As)}
  (hs:∀k (p:List As),a≤k→k<a+n→p.length≤l0.length+n→step ((k:Int),p)=some (.inl (((k+1:Nat):Int),p++[As.mk (k:Int) (Xh all k)]))) (he:∀p,step (((a+n:Nat):Int),p)=some (.inr p)):
  Ch step ((a:Int),l0)=some (l0++Gz all a n):=by
 have h:=Df (step:=step) (fun k=>(((a+k:Nat):Int),l0++Gz all a k)) n (l0++Gz all a n) (fun k hk=>by
  rw [hs (a+k) _ (by omega) (by omega) (by simp [Gz]; omega),List.append_assoc]
  congr 4
  unfold Gz
  rw [←List.range'_append_1 (s:=a) (m:=k) (n:=1),List.map_append]
  rfl) (he _)
 simpa [Gz] using h
theorem LS (d:Av) (h:Lj d) (k:Nat) (data:List UInt8) (hk:k+data.length≤4096):LQ d (k:Int) data=some (Ey d k data):=by
 simp only [LQ,oJ d h,Option.bind_some]
 by_cases h0:data.length=0
 ·rw [if_pos (by simp [h0])]
  simp [Ey,h0]
 ·rw [if_neg (by simpa using h0),Sp d h]
  obtain ⟨r1,r2,r3⟩:=Wt d h
  have e0:IntKind.i64.wrap ((k:Int)+(data.length:Int))=((k+data.length:Nat):Int):=by rw [wr ⟨by omega,by omega⟩]; omega
  have e1:IntKind.i64.wrap (((k+data.length:Nat):Int)-1)=((k+data.length-1:Nat):Int):=by rw [wr ⟨by omega,by omega⟩]; omega
  have e2:(((k+data.length-1:Nat):Int)).tdiv 32=(((k+data.length-1) / 32:Nat):Int):=by rw [Int.tdiv_eq_ediv_of_nonneg (by omega)]; omega
  generalize hq:(k+data.length-1) / 32=q at e2
  have hq1:q≤128:=by omega
  have e3:IntKind.i64.wrap ((q:Nat):Int)=(q:Int):=wr ⟨by omega,by omega⟩
  have e4:=w1 (show q<4611686018427387904 by omega)
  have e5:=pK (show q+1≤1099511627776 by omega)
  have e6:IntKind.i64.wrap (((k:Int)).tdiv 32)=((k / 32:Nat):Int):=by
   rw [Int.tdiv_eq_ediv_of_nonneg (by omega),wr ⟨by omega,by omega⟩]; omega
  simp only [Option.bind_some,e0,e1,e2,e3,e4,e5,Bn]
  have key:∀p:List UInt8,p=Fe (Cp d) (32*(q+1))→Pm (k:Int) data d (q:Int) p=some (Ey d k data):=by
   rintro p rfl
   have hpl:(Fe (Cp d) (32*(q+1))).length=max (Cp d).length (32*(q+1)):=padB_len _ _
   simp only [Pm]
   rw [Qj _ _ _ (by omega) (Nat.le_refl _)]
   simp only [Option.bind_some,e6]
   have hd:(data.take ((Fe (Cp d) (32*(q+1))).take (Fe (Cp d) (32*(q+1))).length |>.drop k).length)=data:=List.take_of_length_le (by simp; omega)
   have hw0:ovl (Fe (Cp d) (32*(q+1))) k data=iE (Cp d) k data:=by unfold iE; rw [hq]
   have hwl:(iE (Cp d) k data).length=max (Cp d).length (32*(q+1)):=by rw [Yq,hq]
   have hle:k / 32≤q:=by omega
   have hw:=h.2.2.1
   have hl:=gQ (iE (Cp d) k data) d.Aq (k / 32) (q+1-k / 32) (by omega) (by omega) (step:=Pn (k:Int) data (q:Int) (Fe (Cp d) (32*(q+1))) ((Fe (Cp d) (32*(q+1))).take (Fe (Cp d) (32*(q+1))).length |>.drop k)) (fun j p j1 j2 j3=>by
    simp only [Pn]
    rw [if_pos (decide_eq_true (by omega)),hd,w1 (show j<4611686018427387904 by omega),pK (show j≤1099511627776 by omega),pK (show j+1≤1099511627776 by omega)]
    simp only [Int.toNat_natCast,hw0]
    rw [OK _ _ (by omega)]
    simp only [Option.bind_some]
    rw [Pk _ (by rw [Tt _ _ (by omega)]; omega)]
    simp only [Option.bind_some]
    rw [if_pos (by simp; omega)]) (fun p=>by
    simp only [Pn]
    rw [if_neg (by simp; omega)])
   rw [hl]
   simp only [Option.bind_some,Ey]
   rw [if_neg h0,hq]
  by_cases hlt:(Cp d).length<32*(q+1)
  ·have e7:IntKind.i64.wrap (((32*(q+1):Nat):Int)-((Cp d).length:Int))=((32*(q+1)-(Cp d).length:Nat):Int):=by rw [wr ⟨by omega,by omega⟩]; omega
   rw [if_pos (decide_eq_true (by omega)),e7,if_pos (by omega),if_pos (by omega)]
   refine key _ ?_
   unfold Fe
   rw [Int.toNat_natCast]
  ·rw [if_neg (by simp; omega)]
   refine key _ ?_
   unfold Fe
   rw [show 32*(q+1)-(Cp d).length=0 by omega]
   simp
end Go.Ev
end
section
namespace Go.Ev
def Gy (s:Bp) (B:Int):Prop:=s.code_.length≤1048576∧(0≤s.at_∧s.at_≤B)∧0≤s.Fp∧s.Fp<2147483648
theorem Gy.mono {s:Bp} {B B':Int} (h:Gy s B) (hb:B≤B'):Gy s B':=⟨h.1,⟨h.2.1.1,by have:=h.2.1.2; omega⟩,h.2.2⟩
theorem TG (code:List UInt8) (h:code.length≤1048576):∃s,g83 code=some s∧Gy s 0:=by
 refine ⟨_,rfl,h,⟨by simp,by simp⟩,?_⟩
 have e:((code.length:Int)).tmod 1000=(code.length:Int)%1000:=Int.tmod_eq_emod_of_nonneg (by omega)
 simp only [e]
 omega
theorem Sn {s:Bp} {B:Int} (h:Gy s B) (hB:B≤4611686018427387904):∃v s',bJ s=some (v,s')∧(0≤v∧v≤255)∧Gy s' (B+1):=by
 obtain ⟨h1,⟨h2,h3⟩,h4,h5⟩:=h
 have hw:IntKind.i64.wrap (s.at_+1)=s.at_+1:=wr ⟨by omega,by omega⟩
 have hw2:IntKind.i64.wrap (s.at_+1-1)=s.at_:=by rw [wr ⟨by omega,by omega⟩]; omega
 simp only [bJ,hw,hw2]
 by_cases hc:s.at_+1≤(s.code_.length:Int)
 ·rw [if_pos (decide_eq_true hc)]
  obtain ⟨k,hk⟩:∃k:Nat,s.at_=k:=⟨s.at_.toNat,by omega⟩
  have hlt:k<s.code_.length:=by omega
  rw [hk,Fc hlt]
  generalize s.code_[k]=y
  have hy:(y.toNat:Int)<256:=by have:=y.toNat_lt; omega
  have e1:IntKind.i64.wrap (y.toNat:Int)=(y.toNat:Int):=wr ⟨by omega,by omega⟩
  have e2:IntKind.i64.wrap (s.Fp*31)=s.Fp*31:=wr ⟨by omega,by omega⟩
  have e3:IntKind.i64.wrap (s.Fp*31+(y.toNat:Int))=s.Fp*31+(y.toNat:Int):=wr ⟨by omega,by omega⟩
  have e4:IntKind.i64.wrap (s.Fp*31+(y.toNat:Int)+7)=s.Fp*31+(y.toNat:Int)+7:=wr ⟨by omega,by omega⟩
  have e5:(s.Fp*31+(y.toNat:Int)+7).tmod 2147483648=(s.Fp*31+(y.toNat:Int)+7)%2147483648:=Int.tmod_eq_emod_of_nonneg (by omega)
  simp only [Option.bind_some,Bn,e1,e2,e3,e4,e5]
  exact ⟨_,_,rfl,⟨by omega,by omega⟩,h1,⟨by simp only; omega,by simp only; omega⟩,by simp only; omega,by simp only; omega⟩
 ·rw [if_neg (by simpa using hc)]
  by_cases h3':s.at_+1>3000
  ·rw [if_pos (decide_eq_true h3')]
   exact ⟨_,_,rfl,⟨by omega,by omega⟩,h1,⟨by simp only; omega,by simp only; omega⟩,h4,h5⟩
  ·rw [if_neg (by simpa using h3')]
   have e2:IntKind.i64.wrap (s.Fp*1103515245)=s.Fp*1103515245:=wr ⟨by omega,by omega⟩
   have e3:IntKind.i64.wrap (s.Fp*1103515245+12345)=s.Fp*1103515245+12345:=wr ⟨by omega,by omega⟩
   have e4:(s.Fp*1103515245+12345).tmod 2147483648=(s.Fp*1103515245+12345)%2147483648:=Int.tmod_eq_emod_of_nonneg (by omega)
   have hr:0≤(s.Fp*1103515245+12345)%2147483648∧(s.Fp*1103515245+12345)%2147483648<2147483648:=by omega
   generalize hv:(s.Fp*1103515245+12345)%2147483648=v at e4 hr
   have e5:v.tdiv 65536=v / 65536:=Int.tdiv_eq_ediv_of_nonneg hr.1
   have e6:IntKind.i64.wrap (v / 65536)=v / 65536:=wr ⟨by omega,by omega⟩
   have e7:(v / 65536).tmod 256=v / 65536%256:=Int.tmod_eq_emod_of_nonneg (by omega)
   simp only [Bn,e2,e3,e4,e5,e6,e7]
   exact ⟨_,_,rfl,⟨by omega,by omega⟩,h1,⟨by simp only; omega,by simp only; omega⟩,hr.1,hr.2⟩
theorem Sm {s:Bp} {B n:Int} (h:Gy s B) (hB:B≤4611686018427380000) (hn:n≤1152921504606846976):∃v s',bI s n=some (v,s')∧(0≤v∧(n≤1→v=0)∧(1<n→v<n))∧Gy s' (B+3):=by
 simp only [bI]
 by_cases h1:n≤1
 ·rw [if_pos (decide_eq_true h1)]
  exact ⟨_,_,rfl,⟨by omega,by omega,by omega⟩,h.mono (by omega)⟩
 ·rw [if_neg (by simpa using h1)]
  by_cases h2:n≤256
  ·rw [if_pos (decide_eq_true h2)]
   obtain ⟨v,s',e1,e2,e3⟩:=Sn h (by omega)
   rw [e1]
   simp only [Option.bind_some]
   rw [if_pos (by omega)]
   have e4:v.tmod n=v%n:=Int.tmod_eq_emod_of_nonneg e2.1
   refine ⟨_,_,rfl,⟨?_,by omega,fun _=>?_⟩,e3.mono (by omega)⟩
   ·rw [e4]; exact Int.emod_nonneg _ (by omega)
   ·rw [e4]; exact Int.emod_lt_of_pos _ (by omega)
  ·rw [if_neg (by simpa using h2)]
   obtain ⟨a,s1,a1,a2,a3⟩:=Sn h (by omega)
   obtain ⟨b,s2,b1,b2,b3⟩:=Sn a3 (by omega)
   obtain ⟨c,s3,c1,c2,c3⟩:=Sn b3 (by omega)
   rw [a1]
   simp only [Option.bind_some,b1,c1]
   rw [if_pos (by omega)]
   have e1:IntKind.i64.wrap (a*65536)=a*65536:=wr ⟨by omega,by omega⟩
   have e2:IntKind.i64.wrap (b*256)=b*256:=wr ⟨by omega,by omega⟩
   have e3:IntKind.i64.wrap (a*65536+b*256)=a*65536+b*256:=wr ⟨by omega,by omega⟩
   have e4:IntKind.i64.wrap (a*65536+b*256+c)=a*65536+b*256+c:=wr ⟨by omega,by omega⟩
   have e5:(a*65536+b*256+c).tmod n=(a*65536+b*256+c)%n:=Int.tmod_eq_emod_of_nonneg (by omega)
   simp only [Bn,e1,e2,e3,e4,e5]
   refine ⟨_,_,rfl,⟨Int.emod_nonneg _ (by omega),by omega,fun _=>Int.emod_lt_of_pos _ (by omega)⟩,c3.mono (by omega)⟩
end Go.Ev
end
section
namespace Go.Ev
end Go.Ev
end
section
namespace Go.Ev
theorem PG (a b c:Int) (h:b≤a∧a≤c):iC a b c=some true:=by simp [iC,h.1,h.2]
theorem KZ (s:As) (h:Vv s):fP s=some true:=by
 have h2:=h.2
 simp only [fP,PG _ _ _ (show (0:Int)≤s.at_∧s.at_≤127 from h.1),Option.bind_some,cond_true]
 simp [h2]
theorem dC (d:Av) (h:Lj d):mW d=some true:=by
 obtain ⟨h1,h2,h3,h4⟩:=h
 have e1:(((d.held.length:Int)).tmod 32==0)=true:=by rw [Int.tmod_eq_emod_of_nonneg (by omega)]; simp; omega
 have e2:decide ((d.held.length:Int)≤4096)=true:=decide_eq_true (by omega)
 have e3:decide ((d.Aq.length:Int)≤4096)=true:=decide_eq_true (by omega)
 have e4:d.Aq.all (fun _=>true)=true:=by simp
 simp [mW,e1,e2,SY,e3,KY d.Aq (fun z=>fP z) (fun _=>true) (fun x hx=>KZ x (h4 x hx)) (by omega),e4,Bn]
theorem Wu (all:List UInt8) (a n:Nat):(Gz all a n).length=n:=by simp [Gz]
theorem Wv (d:Av) (h:Lj d) (k:Nat) (data:List UInt8) (hk:k+data.length≤4096) (hw:(Ey d k data).Aq.length≤4096):Lj (Ey d k data):=by
 unfold Ey at hw ⊢
 split
 ·exact h
 ·rename_i h0
  rw [if_neg h0] at hw
  refine ⟨h.1,h.2.1,hw,fun s hs=>?_⟩
  rcases List.mem_append.1 hs with hs | hs
  ·exact h.2.2.2 s hs
  ·simp only [Gz,List.mem_map,List.mem_range'_1] at hs
   obtain ⟨j,⟨hj1,hj2⟩,rfl⟩:=hs
   exact ⟨⟨by simp only; omega,by simp only; omega⟩,Tt _ _ (by rw [Yq]; omega)⟩
theorem TI (all:List UInt8) (j t:Nat) (ht:t<32):gt (Xh all j) t=gt all (32*j+t):=by
 unfold gt Xh
 rw [List.getElem?_take_of_lt ht,List.getElem?_drop]
theorem fO (all:List UInt8) (a:Nat) (b:List UInt8):∀n,32*(a+n)≤all.length →
  ((Gz all a n).foldl (fun b s=>Iv b s.at_.toNat s.data) b).length=max b.length (if n=0 then 0 else 32*(a+n)) ∧
  ∀i,gt ((Gz all a n).foldl (fun b s=>Iv b s.at_.toNat s.data) b) i=if 32*a≤i∧i<32*(a+n) then gt all i else gt b i:=by
 intro n
 induction n with
 | zero=>intro _; exact ⟨by simp [Gz],fun i=>by rw [if_neg (by omega)]; rfl⟩
 | succ n ih=>
  intro hall
  obtain ⟨i1,i2⟩:=ih (by omega)
  have e:Gz all a (n+1)=Gz all a n++[As.mk ((a+n:Nat):Int) (Xh all (a+n))]:=by
   unfold Gz
   rw [←List.range'_append_1 (s:=a) (m:=n) (n:=1),List.map_append]
   rfl
  have hc:=Tt all (a+n) (by omega)
  rw [e,List.foldl_append]
  simp only [List.foldl_cons,List.foldl_nil,Int.toNat_natCast]
  refine ⟨?_,fun i=>?_⟩
  ·rw [aE _ _ _ hc,i1]
   by_cases h0:n=0
   ·simp [h0]
   ·simp only [h0,if_false]; rw [if_neg (by omega)]; omega
  ·rw [TK _ _ _ _ hc,i2]
   by_cases c1:32*(a+n)≤i∧i<32*(a+n)+32
   ·rw [if_pos c1,if_pos (by omega),TI _ _ _ (by omega)]
    congr 1; omega
   ·rw [if_neg c1]
    by_cases c2:32*a≤i∧i<32*(a+n)
    ·rw [if_pos c2,if_pos (by omega)]
    ·rw [if_neg c2,if_neg (by omega)]
theorem bY (d:Av) (h:Lj d) (k:Nat) (data:List UInt8) (hk:k+data.length≤4096):
  (Cp d).length≤(Cp (Ey d k data)).length∧(data.length≠0→k+data.length≤(Cp (Ey d k data)).length)∧∀i,gt (Cp (Ey d k data)) i=if k≤i∧i<k+data.length then gt data (i-k) else gt (Cp d) i:=by
 unfold Ey
 by_cases h0:data.length=0
 ·rw [if_pos h0]
  exact ⟨Nat.le_refl _,fun hh=>absurd h0 hh,fun i=>by rw [if_neg (by omega)]⟩
 ·rw [if_neg h0]
  have e:Cp (Av.mk d.held (d.Aq++Gz (iE (Cp d) k data) (k / 32) ((k+data.length-1) / 32+1-k / 32))) =
    (Gz (iE (Cp d) k data) (k / 32) ((k+data.length-1) / 32+1-k / 32)).foldl (fun b s=>Iv b s.at_.toNat s.data) (Cp d):=by
   unfold Cp; rw [List.foldl_append]
  have hle:k / 32≤(k+data.length-1) / 32:=by omega
  obtain ⟨f1,f2⟩:=fO (iE (Cp d) k data) (k / 32) (Cp d) ((k+data.length-1) / 32+1-k / 32) (by rw [Yq]; omega)
  rw [e]
  rw [if_neg (by omega)] at f1
  refine ⟨by omega,fun _=>by omega,fun i=>?_⟩
  rw [f2]
  have hg:gt (iE (Cp d) k data) i=if k≤i∧i<k+data.length then gt data (i-k) else gt (Cp d) i:=by
   unfold iE
   rw [TJ _ _ _ (by rw [padB_len]; omega),bT]
  by_cases c:32*(k / 32)≤i∧i<32*(k / 32+((k+data.length-1) / 32+1-k / 32))
  ·rw [if_pos c,hg]
  ·rw [if_neg c,if_neg (by omega)]
end Go.Ev
end
section
namespace Go.Ev
theorem nN (k:IntKind) (a b:Nat) (ha:a<2^k.bits) (hb:b<2^k.bits):Zq k (a:Int) (b:Int)=k.wrap ((a &&& b:Nat):Int):=by
 unfold Zq
 rw [BitVec.ofInt_natCast,BitVec.ofInt_natCast,BitVec.toNat_and,BitVec.toNat_ofNat,BitVec.toNat_ofNat,Nat.mod_eq_of_lt ha,Nat.mod_eq_of_lt hb]
theorem NZ (k:IntKind) (a b:Nat) (ha:a<2^k.bits) (hb:b<2^k.bits):YD k (a:Int) (b:Int)=k.wrap ((a ||| b:Nat):Int):=by
 unfold YD
 rw [BitVec.ofInt_natCast,BitVec.ofInt_natCast,BitVec.toNat_or,BitVec.toNat_ofNat,BitVec.toNat_ofNat,Nat.mod_eq_of_lt ha,Nat.mod_eq_of_lt hb]
theorem Ka (k:IntKind) (a b:Nat) (ha:a<2^k.bits) (hb:b<2^k.bits):Ks k (a:Int) (b:Int)=k.wrap ((a ^^^ b:Nat):Int):=by
 unfold Ks
 rw [BitVec.ofInt_natCast,BitVec.ofInt_natCast,BitVec.toNat_xor,BitVec.toNat_ofNat,BitVec.toNat_ofNat,Nat.mod_eq_of_lt ha,Nat.mod_eq_of_lt hb]
theorem pN {n:Nat} (h:n<4294967296):IntKind.u32.wrap (n:Int)=(n:Int):=by
 have e:IntKind.u32.wrap (n:Int)=(n:Int)%4294967296:=by simp [IntKind.wrap,IntKind.bits,IntKind.signed]
 rw [e]; omega
theorem Ql {n:Nat} (h:n<9223372036854775808):IntKind.i64.wrap (n:Int)=(n:Int):=wr ⟨by omega,by omega⟩
theorem Ls (n:Nat):(b8 (n:Int)).toNat=n%256:=by
 have:=eK (n:Int)
 unfold b8
 rw [pL] at this
 have e:((u8 (IntKind.u8.wrap (n:Int))).toNat:Int)=(n:Int)%256:=by rw [pL]; exact this
 omega
def Kl (c:Nat):Nat:=if c%2=1 then (c / 2) ^^^ 3988292384 else c / 2
def Bz:Nat→Nat→Nat
 | 0,c=>c
 | n+1,c=>Kl (Bz n c)
def Fi (c:Nat) (y:UInt8):Nat:=Bz 8 (c ^^^ y.toNat)
def Km (b:List UInt8):Nat:=(b.foldl Fi 4294967295) ^^^ 4294967295
theorem Ob {a b:Nat} (ha:a<4294967296) (hb:b<4294967296):a ^^^ b<4294967296:=Nat.xor_lt_two_pow (n:=32) ha hb
theorem bG {c:Nat} (h:c<4294967296):Kl c<4294967296:=by
 unfold Kl
 split
 ·exact Ob (by omega) (by omega)
 ·omega
theorem Jb {c:Nat} (h:c<4294967296):∀n,Bz n c<4294967296
 | 0=>h
 | n+1=>bG (Jb h n)
theorem bF {c:Nat} (y:UInt8) (h:c<4294967296):Fi c y<4294967296:=Jb (Ob h (by have:=y.toNat_lt; omega)) 8
theorem Ih (b:List UInt8):∀ {c:Nat},c<4294967296→b.foldl Fi c<4294967296:=by
 induction b with
 | nil=>exact fun h=>h
 | cons y r ih=>exact fun h=>ih (bF y h)
theorem Si (b:List UInt8):Km b<4294967296:=Ob (Ih b (by omega)) (by omega)
theorem two1:(2:Int)^min (1:Int).toNat 64=2:=by decide
theorem shr1 {c:Nat}:Lh .u32 (c:Int) 1=((c / 2:Nat):Int):=by
 unfold Lh
 rw [two1,Int.fdiv_eq_ediv_of_nonneg _ (by omega)]
 omega
theorem bL {c:Nat} (h:c<4294967296):Ch My ((c:Int),0)=some ((Bz 8 c:Nat):Int):=by
 refine Df (step:=My) (fun k=>((Bz k c:Nat),(k:Int))) 8 _ (fun k hk=>?_) ?_
 ·have hc:=Jb h k
  have e1:Zq .u32 ((Bz k c:Nat):Int) 1=((Bz k c%2:Nat):Int):=by
   have:=nN .u32 (Bz k c) 1 (by simpa [IntKind.bits] using hc) (by decide)
   rw [Nat.and_one_is_mod,pN (by omega)] at this
   exact this
  simp only [My,Sq]
  rw [if_pos (decide_eq_true (by omega)),e1,w1 (by omega),shr1]
  have es:Bz (k+1) c=Kl (Bz k c):=rfl
  rw [es]
  unfold Kl
  by_cases h2:Bz k c%2=1
  ·rw [if_pos (by simp [h2]),if_pos h2]
   have:=Ka .u32 (Bz k c / 2) 3988292384 (by simp [IntKind.bits]; omega) (by decide)
   rw [pN (Ob (by omega) (by omega))] at this
   rw [show Ks .u32 ((Bz k c / 2:Nat):Int) 3988292384=_ from this]
  ·rw [if_neg (by simp; omega),if_neg h2]
 ·simp only [My]
  rw [if_neg (by decide)]
theorem dE (b:List UInt8) (hb:b.length≤1048576):nB b=some ((Km b:Nat):Int):=by
 have h:=Df (step:=Mx b) (fun k=>((((b.take k).foldl Fi 4294967295:Nat):Int),(k:Int))) b.length ((b.foldl Fi 4294967295:Nat):Int) (fun k hk=>by
  have hc:=Ih (b.take k) (c:=4294967295) (by omega)
  have hy:(b[k].toNat)<256:=b[k].toNat_lt
  simp only [Mx]
  rw [if_pos (decide_eq_true (by omega)),Fc hk]
  simp only [Option.bind_some]
  rw [pN (show b[k].toNat<4294967296 by omega),Ka .u32 _ _ (by simpa [IntKind.bits] using hc) (by simp [IntKind.bits]; omega),pN (Ob hc (by omega)),bL (Ob hc (by omega))]
  simp only [Option.bind_some,w1 (show k<4611686018427387904 by omega)]
  rw [List.take_succ_eq_append_getElem hk,List.foldl_append]
  rfl) (by
  simp only [Mx]
  rw [if_neg (by simp),List.take_length])
 have hc:=Ih b (c:=4294967295) (by omega)
 have h':Ch (Mx b) (4294967295,0)=some ((b.foldl Fi 4294967295:Nat):Int):=h
 simp only [nB,h',Option.bind_some]
 have e:TL .u32 ((b.foldl Fi 4294967295:Nat):Int)=((Km b:Nat):Int):=by
  have:=Ka .u32 4294967295 (b.foldl Fi 4294967295) (by decide) (by simpa [IntKind.bits] using hc)
  rw [pN (Ob (by omega) hc),Nat.xor_comm] at this
  exact this
 rw [e,Ql (by have:=Si b; omega)]
def Bl (n i:Nat):UInt8:=b8 ((n / 2^(8*i):Nat):Int)
def Dw (n m:Nat):List UInt8:=(List.range m).map fun j=>Bl n (m-1-j)
@[simp] theorem bigB_len (n m:Nat):(Dw n m).length=m:=by simp [Dw]
theorem shrN {n i:Nat} (hi:i≤7):Lh .i64 (n:Int) ((8*i:Nat):Int)=((n / 2^(8*i):Nat):Int):=by
 unfold Lh
 have e:min (((8*i:Nat):Int)).toNat 64=8*i:=by omega
 rw [e,Int.fdiv_eq_ediv_of_nonneg _ (by exact Int.pow_nonneg (by omega))]
 simp
theorem Xl (n m:Nat) (hm:m≤8):Xk (n:Int) (m:Int)=some (Dw n m):=by
 have h:=Df (step:=Mw (n:Int) (m:Int)) (fun k=>((List.range m).map (fun j=>if m-k≤j then Bl n (m-1-j) else 0),(k:Int))) m (Dw n m) (fun k hk=>by
  have e1:IntKind.i64.wrap (8*(k:Int))=((8*k:Nat):Int):=by rw [wr ⟨by omega,by omega⟩]; omega
  have e2:IntKind.i64.wrap ((m:Int)-1)=((m-1:Nat):Int):=by rw [wr ⟨by omega,by omega⟩]; omega
  have e3:IntKind.i64.wrap (((m-1:Nat):Int)-(k:Int))=((m-1-k:Nat):Int):=by rw [wr ⟨by omega,by omega⟩]; omega
  simp only [Mw,e1,e2,e3,Int.toNat_natCast,List.length_replicate]
  rw [if_pos (decide_eq_true (by omega)),if_pos (by omega),Fc (by simp; omega)]
  simp only [Option.bind_some]
  rw [List.getElem?_eq_getElem (by simp; omega)]
  simp only [Option.bind_some,shrN (show k≤7 by omega),w1 (show k<4611686018427387904 by omega)]
  congr 3
  apply List.ext_getElem
  ·simp
  ·intro j j1 j2
   simp only [List.length_set,List.length_map,List.length_range] at j1
   simp only [List.getElem_set,List.getElem_map,List.getElem_range]
   by_cases c:m-1-k=j
   ·rw [if_pos c,if_pos (by omega)]
    unfold Bl
    congr 4; omega
   ·rw [if_neg c]
    by_cases c2:m-k≤j
    ·rw [if_pos c2,if_pos (by omega)]
    ·rw [if_neg c2,if_neg (by omega)]) (by
  simp only [Mw,Int.toNat_natCast,List.length_replicate]
  rw [if_neg (by simp)]
  congr 2
  unfold Dw
  apply List.map_congr_left
  intro j hj
  rw [if_pos (by omega)])
 have h0:(List.range m).map (fun j=>if m-0≤j then Bl n (m-1-j) else (0:UInt8))=List.replicate m 0:=by
  apply List.ext_getElem
  ·simp
  ·intro j j1 j2
   simp only [List.length_map,List.length_range] at j1
   simp only [List.getElem_map,List.getElem_range,List.getElem_replicate]
   rw [if_neg (by omega)]
 have h':Ch (Mw (n:Int) (m:Int)) (List.replicate m 0,0)=some (Dw n m):=by rw [←h0]; exact h
 simp only [Xk,Int.toNat_natCast]
 rw [if_pos (by omega),if_pos (by omega),h']
 rfl
def Gw (l:List UInt8):Nat:=l.foldl (fun n y=>n*256+y.toNat) 0
theorem cU (l:List UInt8):∀(c k:Nat),c<256^k→l.foldl (fun n y=>n*256+y.toNat) c<256^(k+l.length):=by
 induction l with
 | nil=>exact fun c k h=>h
 | cons y r ih=>
  intro c k h
  have hy:=y.toNat_lt
  have:=ih (c*256+y.toNat) (k+1) (by rw [Nat.pow_succ]; omega)
  rw [List.length_cons,show k+(r.length+1)=k+1+r.length by omega]
  exact this
theorem Xm (l:List UInt8) (hl:l.length≤7):bM l=some ((Gw l:Nat):Int):=by
 have h:=Df (step:=Mz l) (fun k=>((((l.take k).foldl (fun n y=>n*256+y.toNat) 0:Nat):Int),(k:Int))) l.length ((Gw l:Nat):Int) (fun k hk=>by
  have hb:=cU (l.take k) 0 0 (by simp)
  rw [Nat.zero_add] at hb
  have hpw:256^(l.take k).length≤256^6:=Nat.pow_le_pow_right (by omega) (by simp; omega)
  have h6:(256:Nat)^6=281474976710656:=by decide
  generalize hc:(l.take k).foldl (fun n y=>n*256+y.toNat) 0=c at hb
  have hy:l[k].toNat<256:=l[k].toNat_lt
  have e1:nS .i64 (c:Int) 8=((c*256:Nat):Int):=by
   unfold nS
   have:(2:Int)^min (8:Int).toNat IntKind.i64.bits=256:=by decide
   rw [this,wr ⟨by omega,by omega⟩]; omega
  have e2:c*256 ||| l[k].toNat=c*256+l[k].toNat:=by
   have:=Nat.shiftLeft_add_eq_or_of_lt (a:=c) (b:=l[k].toNat) (i:=8) (by omega)
   rw [Nat.shiftLeft_eq] at this
   exact this.symm
  simp only [Mz]
  rw [if_pos (decide_eq_true (by omega)),Fc hk]
  simp only [Option.bind_some]
  rw [Ql (show l[k].toNat<9223372036854775808 by omega),e1,NZ .i64 _ _ (by simp [IntKind.bits]; omega) (by simp [IntKind.bits]; omega),e2,Ql (by omega),w1 (show k<4611686018427387904 by omega)]
  rw [List.take_succ_eq_append_getElem hk,List.foldl_append,hc]
  rfl) (by
  simp only [Mz]
  rw [if_neg (by simp),List.take_length]
  rfl)
 have h':Ch (Mz l) (0,0)=some ((Gw l:Nat):Int):=h
 simp only [bM,h',Option.bind_some]
theorem Vz (n:Nat) (h:n<65536):Gw (Dw n 2)=n:=by
 have e:Dw n 2=[Bl n 1,Bl n 0]:=rfl
 rw [e]
 simp only [Gw,List.foldl_cons,List.foldl_nil,Bl,Ls]
 omega
theorem Wa (n:Nat) (h:n<4294967296):Gw (Dw n 4)=n:=by
 have e:Dw n 4=[Bl n 3,Bl n 2,Bl n 1,Bl n 0]:=rfl
 rw [e]
 simp only [Gw,List.foldl_cons,List.foldl_nil,Bl,Ls]
 omega
end Go.Ev
end
section
namespace Go.Ev
def Fa (p:List UInt8):List UInt8:=Dw (p.length+1) 2++p
def Bv (p:List UInt8):List UInt8:=Fa p++Dw (Km (Fa p)) 4
theorem Eu (p:List UInt8):(Fa p).length=p.length+2:=by simp [Fa]; omega
@[simp] theorem frameB_len (p:List UInt8):(Bv p).length=p.length+6:=by simp [Bv,Eu]
theorem LD (p:List UInt8) (hp:p.length≤65536):LC p=some (Bv p):=by
 have e1:IntKind.i64.wrap ((p.length:Int)+1)=((p.length+1:Nat):Int):=w1 (by omega)
 have e2:Xk ((p.length+1:Nat):Int) 2=some (Dw (p.length+1) 2):=Xl (p.length+1) 2 (by omega)
 have e4:Xk ((Km (Fa p):Nat):Int) 4=some (Dw (Km (Fa p)) 4):=Xl (Km (Fa p)) 4 (by omega)
 simp only [LC,e1,e2,Option.bind_some]
 rw [if_pos (by simp; omega),show Dw (p.length+1) 2++p=Fa p from rfl,dE _ (by rw [Eu]; omega)]
 simp only [Option.bind_some,e4]
 rw [if_pos (by rw [Eu]; simp; omega)]
 rfl
def Oz (b:List UInt8) (k:Nat):Option (List UInt8):=
 if k+2≤b.length then
  if (1≤Gw ((b.drop k).take 2)∧Gw ((b.drop k).take 2)≤2001)∧k+Gw ((b.drop k).take 2)+5≤b.length then
   if Km ((b.drop k).take (Gw ((b.drop k).take 2)+1))=Gw ((b.drop (k+Gw ((b.drop k).take 2)+1)).take 4) then some ((b.drop (k+2)).take (Gw ((b.drop k).take 2)-1)) else none
  else none
 else none
theorem Va {α:Type} (b:List α) (k n:Nat) (h:k+n≤b.length):Hx b (k:Int) ((k+n:Nat):Int)=some ((b.drop k).take n):=by
 rw [Qj _ _ _ (by omega) h,List.drop_take]
 congr 2; omega
theorem Nq (b:List UInt8) (hb:b.length≤1048576) (l:List (List UInt8)) (k:Nat) (hl:l.length≤1048576) (hk:k≤1048576):
  Hy b (l,(k:Int))=match Oz b k with
   | none=>some (.inr (l,(k:Int)))
   | some p=>some (.inl (l++[p],((k+p.length+6:Nat):Int))):=by
 have e1:IntKind.i64.wrap ((k:Int)+2)=((k+2:Nat):Int):=by rw [wr ⟨by omega,by omega⟩]; omega
 simp only [Hy,e1]
 by_cases c1:k+2≤b.length
 ·rw [if_pos (decide_eq_true (by omega)),Va b k 2 c1]
  simp only [Option.bind_some]
  have hn2:((b.drop k).take 2).length=2:=by simp; omega
  rw [Xm _ (by omega)]
  have hnl:=cU ((b.drop k).take 2) 0 0 (by simp)
  rw [hn2] at hnl
  have hnl':Gw ((b.drop k).take 2)<65536:=by simpa [Gw] using hnl
  generalize hnv:Gw ((b.drop k).take 2)=n at hnl'
  have e2:IntKind.i64.wrap ((n:Int)-1)=(n:Int)-1:=wr ⟨by omega,by omega⟩
  have e3:IntKind.i64.wrap (((k+2:Nat):Int)+((n:Int)-1))=((k+n+1:Nat):Int):=by rw [wr ⟨by omega,by omega⟩]; omega
  have e4:IntKind.i64.wrap (((k+n+1:Nat):Int)+4)=((k+n+5:Nat):Int):=by rw [wr ⟨by omega,by omega⟩]; omega
  simp only [Option.bind_some,Bn,e2,e3,e4]
  by_cases c2:1≤n∧n≤2001
  ·rw [PG _ _ _ (by omega)]
   simp only [Option.bind_some,Bool.not_true,cond_false]
   by_cases c3:k+n+5≤b.length
   ·have e5:decide (((k+n+5:Nat):Int)>(b.length:Int))=false:=decide_eq_false (by omega)
    have s1:Hx b (k:Int) ((k+n+1:Nat):Int)=some ((b.drop k).take (n+1)):=Va b k (n+1) (by omega)
    have s2:Hx b ((k+n+1:Nat):Int) ((k+n+5:Nat):Int)=some ((b.drop (k+n+1)).take 4):=Va b (k+n+1) 4 (by omega)
    have s3:Hx b ((k+2:Nat):Int) ((k+n+1:Nat):Int)=some ((b.drop (k+2)).take (n-1)):=by
     have:=Va b (k+2) (n-1) (by omega)
     rwa [show k+2+(n-1)=k+n+1 by omega] at this
    rw [e5]
    simp only [beq_self_eq_true,if_true,s1,s2,Option.bind_some]
    rw [dE _ (by simp; omega),Xm _ (by simp; omega)]
    simp only [Option.bind_some,cond_false]
    by_cases c4:Km ((b.drop k).take (n+1))=Gw ((b.drop (k+n+1)).take 4)
    ·have hx:Oz b k=some ((b.drop (k+2)).take (n-1)):=by
      unfold Oz; rw [hnv,if_pos c1,if_pos ⟨c2,c3⟩,if_pos c4]
     have hpl:((b.drop (k+2)).take (n-1)).length=n-1:=by simp; omega
     rw [hx,if_neg (by simp [c4]),s3]
     simp only [Option.bind_some]
     rw [Pk _ (by omega)]
     simp only [Option.bind_some]
     rw [if_pos (by simp; omega),hpl]
     congr 4; omega
    ·have hx:Oz b k=none:=by
      unfold Oz; rw [hnv,if_pos c1,if_pos ⟨c2,c3⟩,if_neg c4]
     rw [hx,if_pos (by rw [bne_iff_ne]; intro hh; exact c4 (by omega))]
   ·have e5:decide (((k+n+5:Nat):Int)>(b.length:Int))=true:=decide_eq_true (by omega)
    have hx:Oz b k=none:=by
     unfold Oz; rw [hnv,if_pos c1,if_neg (fun h=>c3 h.2)]
    rw [hx,e5]
    rfl
  ·have e6:iC ((n:Int)-1) 0 2000=some false:=by
    unfold iC
    by_cases h1:1≤n
    ·rw [decide_eq_false (show ¬(n:Int)-1≤2000 by omega)]; cases decide ((0:Int)≤(n:Int)-1)<;>rfl
    ·rw [decide_eq_false (show ¬(0:Int)≤(n:Int)-1 by omega)]; rfl
   have hx:Oz b k=none:=by
    unfold Oz; rw [hnv,if_pos c1,if_neg (fun h=>c2 h.1)]
   rw [hx,e6]
   rfl
 ·have hx:Oz b k=none:=by
   unfold Oz; rw [if_neg c1]
  rw [hx,if_neg (by simp; omega)]
def Br (L:List (List UInt8)):List UInt8:=(L.map Bv).flatten
theorem Dq (A B:List (List UInt8)):Br (A++B)=Br A++Br B:=by simp [Br]
theorem Hp (p:List UInt8):Br [p]=Bv p:=by simp [Br]
theorem gK (A C p:List UInt8) (hp:p.length≤2000):Oz (A++(Bv p++C)) A.length=some p:=by
 have d0:(A++(Bv p++C)).drop A.length=Bv p++C:=by simp
 have dk:∀j,(A++(Bv p++C)).drop (A.length+j)=(Bv p++C).drop j:=fun j=>by rw [←List.drop_drop,d0]
 have t2:(Bv p++C).take 2=Dw (p.length+1) 2:=by
  unfold Bv Fa
  rw [List.append_assoc,List.append_assoc,List.take_append_of_le_length (by simp),List.take_of_length_le (by simp)]
 have th:(Bv p++C).take (p.length+2)=Fa p:=by
  unfold Bv
  rw [List.append_assoc,List.take_append_of_le_length (by rw [Eu]; omega),List.take_of_length_le (by rw [Eu]; omega)]
 have tc:((Bv p++C).drop (p.length+2)).take 4=Dw (Km (Fa p)) 4:=by
  unfold Bv
  rw [List.append_assoc,←Eu p,List.drop_left,List.take_append_of_le_length (by simp),List.take_of_length_le (by simp)]
 have tp:((Bv p++C).drop 2).take p.length=p:=by
  unfold Bv Fa
  rw [List.append_assoc,List.append_assoc]
  have hd:∀R:List UInt8,(Dw (p.length+1) 2++R).drop 2=R:=fun R=>by
   have:=List.drop_left (l₁:=Dw (p.length+1) 2) (l₂:=R)
   rwa [bigB_len] at this
  rw [hd]
  simp
 unfold Oz
 rw [d0,t2,Vz _ (by omega)]
 have hlen:(A++(Bv p++C)).length=A.length+(p.length+6+C.length):=by simp
 rw [if_pos (by omega),if_pos ⟨⟨by omega,by omega⟩,by omega⟩]
 rw [show p.length+1+1=p.length+2 by omega,th,show A.length+(p.length+1)+1=A.length+(p.length+2) by omega,dk,tc,Wa _ (Si _),if_pos rfl,dk,show p.length+1-1=p.length by omega,tp]
theorem oE (A:List UInt8) (m:Nat):Oz (A++List.replicate m 0) A.length=none:=by
 unfold Oz
 have d0:(A++List.replicate m (0:UInt8)).drop A.length=List.replicate m 0:=by simp
 rw [d0]
 by_cases h:A.length+2≤(A++List.replicate m (0:UInt8)).length
 ·rw [if_pos h]
  simp only [List.length_append,List.length_replicate] at h
  have e:(List.replicate m (0:UInt8)).take 2=[0,0]:=by
   rw [List.take_replicate,show min 2 m=2 by omega]; rfl
  rw [e]
  have:Gw [0,0]=0:=by decide
  rw [this,if_neg (by omega)]
 ·rw [if_neg h]
theorem aJ (L:List (List UInt8)) (m:Nat) (hL:∀p∈L,p.length≤2000) (hb:(Br L).length+m≤1048576):
  Zk (Br L++List.replicate m 0)=some (L,(((Br L).length:Nat):Int)):=by
 have hcount:∀M:List (List UInt8),6*M.length≤(Br M).length:=by
  intro M
  induction M with
  | nil=>simp [Br]
  | cons p r ih=>rw [show p::r=[p]++r from rfl,Dq,Hp]; simp; omega
 have hlen:∀k,(Br (L.take k)).length≤(Br L).length:=fun k=>by
  conv=>rhs; rw [←List.take_append_drop k L,Dq]
  simp
 have h:=Df (step:=Hy (Br L++List.replicate m 0)) (fun k=>(L.take k,(((Br (L.take k)).length:Nat):Int))) L.length (L,(((Br L).length:Nat):Int)) (fun k hk=>by
  have h1:=hlen k
  have h2:=hcount (L.take k)
  rw [Nq _ (by simp; omega) _ _ (by omega) (by omega)]
  have eb:Br L++List.replicate m 0=Br (L.take k)++(Bv L[k]++(Br (L.drop (k+1))++List.replicate m 0)):=by
   conv=>lhs; rw [←List.take_append_drop k L,Dq,List.drop_eq_getElem_cons hk,show L[k]::L.drop (k+1)=[L[k]]++L.drop (k+1) from rfl,Dq,Hp]
   simp only [List.append_assoc]
  rw [eb,gK _ _ _ (hL _ (List.getElem_mem hk)),List.take_succ_eq_append_getElem hk,Dq,Hp]
  simp only [List.length_append,frameB_len]
  congr 4) (by
  rw [List.take_length]
  have h2:=hcount L
  rw [Nq _ (by simp; omega) _ _ (by omega) (by omega),oE])
 have h':Ch (Hy (Br L++List.replicate m 0)) ([],0)=some (L,(((Br L).length:Nat):Int)):=h
 simp only [Zk,h',Option.bind_some]
theorem aS (b F:List UInt8) (h:F.length≤b.length) (hg:∀i,gt b i=gt F i):b=F++List.replicate (b.length-F.length) 0:=by
 apply List.ext_getElem
 ·simp; omega
 ·intro i i1 i2
  have:=hg i
  unfold gt at this
  rw [List.getElem?_eq_getElem i1] at this
  simp only [Option.getD_some] at this
  rw [this]
  by_cases c:i<F.length
  ·rw [List.getElem_append_left c,List.getElem?_eq_getElem c]; rfl
  ·rw [List.getElem_append_right (by omega),List.getElem_replicate,List.getElem?_eq_none (by omega)]; rfl
theorem nM (F:List UInt8) (m i:Nat):gt (F++List.replicate m 0) i=gt F i:=by
 have:=bT F (F.length+m) i
 unfold Fe at this
 rwa [show F.length+m-F.length=m by omega] at this
theorem fZ (A B:List UInt8) (i:Nat):gt (A++B) i=if i<A.length then gt A i else gt B (i-A.length):=by
 unfold gt
 by_cases c:i<A.length
 ·rw [if_pos c,List.getElem?_append_left c]
 ·rw [if_neg c,List.getElem?_append_right (by omega)]
theorem dQ (A:List UInt8) (i:Nat) (h:A.length≤i):gt A i=0:=by unfold gt; rw [List.getElem?_eq_none h]; rfl
end Go.Ev
end
section
namespace Go.Ev
theorem KT {s:Bp} {B n:Int} (h:Gy s B) (hn:1≤n∧n≤1000):∃v,KS s n=some v∧1≤v∧v≤n:=by
 obtain ⟨h1,_⟩:=h
 have e0:((s.code_.length:Int)).tdiv 12=(s.code_.length:Int) / 12:=Int.tdiv_eq_ediv_of_nonneg (by omega)
 have e1:IntKind.i64.wrap ((s.code_.length:Int) / 12)=(s.code_.length:Int) / 12:=wr ⟨by omega,by omega⟩
 have e2:IntKind.i64.wrap (1+(s.code_.length:Int) / 12)=1+(s.code_.length:Int) / 12:=wr ⟨by omega,by omega⟩
 simp only [KS,Bn,e0,e1,e2]
 refine ⟨_,rfl,?_,?_⟩<;>split<;>omega
theorem KW (p:List UInt8) (h:p.length≤65536):KV p=some true:=by simp only [KV,decide_eq_true (show ((p.length:Nat):Int)≤65536 by omega)]
def Lg (L:List (List UInt8)) (d:Av):Prop:=d.Aq=[]∧d.held.length%32=0∧d.held.length≤4096∧∃m,d.held=Br L++List.replicate m 0
theorem Lg.ok {L:List (List UInt8)} {d:Av} (h:Lg L d):Lj d:=⟨h.2.1,h.2.2.1,by rw [h.1]; simp,by rw [h.1]; simp⟩
theorem Lg.read {L:List (List UInt8)} {d:Av} (h:Lg L d):Cp d=d.held:=by unfold Cp; rw [h.1]; rfl
theorem Lg.len {L:List (List UInt8)} {d:Av} (h:Lg L d):(Br L).length≤4096:=by
 obtain ⟨_,_,h3,m,h4⟩:=h
 rw [h4] at h3; simp at h3; omega
theorem Lg.scan {L:List (List UInt8)} {d:Av} (h:Lg L d) (hL:∀p∈L,p.length≤2000):Zk d.held=some (L,(((Br L).length:Nat):Int)):=by
 obtain ⟨_,_,h3,m,h4⟩:=h
 rw [h4] at h3 ⊢
 simp only [List.length_append,List.length_replicate] at h3
 exact aJ L m hL (by omega)
theorem LP (k n:Nat) (hk:k≤1048576) (hn:n≤1048576):LO (k:Int) (n:Int)=some (decide (k+n≤4096)):=by
 have e0:IntKind.i64.wrap ((k:Int)+(n:Int))=((k+n:Nat):Int):=by rw [wr ⟨by omega,by omega⟩]; omega
 simp only [LO,iC,Option.bind_some,Bn,e0]
 rw [decide_eq_true (show (0:Int)≤(k:Int) by omega)]
 by_cases c:k+n≤4096
 ·rw [decide_eq_true (show (k:Int)≤4096 by omega),decide_eq_true (show ((k+n:Nat):Int)≤4096 by omega),decide_eq_true c]; rfl
 ·rw [decide_eq_false (show ¬((k+n:Nat):Int)≤4096 by omega),decide_eq_false c]; cases decide ((k:Int)≤4096)<;>rfl
theorem gE {L:List (List UInt8)} {d:Av} (h:Lg L d) (p:List UInt8) (hk:(Br L).length+(Bv p).length≤4096):
  Lg (L++[p]) (Av.mk (Cp (Ey d (Br L).length (Bv p))) []):=by
 have hwl:(Ey d (Br L).length (Bv p)).Aq.length≤4096:=by
  unfold Ey
  split
  ·rw [h.1]; simp
  ·simp only [List.length_append,Wu,h.1,List.length_nil]; omega
 have hok:=Wv d h.ok _ (Bv p) hk hwl
 obtain ⟨w1,w2,w3⟩:=bY d h.ok _ (Bv p) hk
 have hl:=Wt _ hok
 refine ⟨rfl,hl.1,hl.2.1,?_⟩
 have w2:=w2 (by simp)
 have:=aS (Cp (Ey d (Br L).length (Bv p))) (Br (L++[p])) (by rw [Dq,Hp]; simp at w2 ⊢; omega) (fun i=>by
  rw [w3,Dq,Hp,fZ,h.read]
  obtain ⟨_,_,_,m,h4⟩:=h
  rw [h4,nM]
  by_cases c:(Br L).length≤i∧i<(Br L).length+(Bv p).length
  ·rw [if_pos c,if_neg (by omega)]
  ·rw [if_neg c]
   by_cases c2:i<(Br L).length
   ·rw [if_pos c2]
   ·rw [if_neg c2,dQ _ _ (by omega),dQ _ _ (by omega)])
 exact ⟨_,this⟩
theorem mY {L:List (List UInt8)} {d:Av} (h:Lg L d) (hL:∀p∈L,p.length≤2000) (p:List UInt8) (hp:p.length≤2000):
  LA d p=if (Br L).length+(Bv p).length≤4096 then some (Av.mk (Cp (Ey d (Br L).length (Bv p))) [],0) else some (Av.mk [] [],9):=by
 have hl:=h.len
 simp only [LA]
 rw [if_neg (by simp; omega),Sp d h.ok,h.read]
 simp only [Option.bind_some,h.scan hL,LD p (by omega)]
 rw [LP _ _ (by omega) (by simp; omega)]
 simp only [Option.bind_some]
 by_cases c:(Br L).length+(Bv p).length≤4096
 ·rw [if_pos c,decide_eq_true c,if_neg (by simp),LS d h.ok _ _ c]
  have hwl:(Ey d (Br L).length (Bv p)).Aq.length≤4096:=by
   unfold Ey
   split
   ·rw [h.1]; simp
   ·simp only [List.length_append,Wu,h.1,List.length_nil]; omega
  have hok:=Wv d h.ok _ (Bv p) c hwl
  simp [SX,Sp _ hok]
 ·rw [if_neg c,decide_eq_false c]; rfl
end Go.Ev
end
section
namespace Go.Ev
end Go.Ev
end
section
namespace Go.Ev
theorem bN {c:Nat} (h:c<4294967296):Ch Nb ((c:Int),0)=some ((Bz 8 c:Nat):Int):=by
 refine Df (step:=Nb) (fun k=>((Bz k c:Nat),(k:Int))) 8 _ (fun k hk=>?_) ?_
 ·have hc:=Jb h k
  have e1:(((Bz k c:Nat):Int)).tmod 2=((Bz k c%2:Nat):Int):=by rw [Int.tmod_eq_emod_of_nonneg (by omega)]; omega
  have e2:(((Bz k c:Nat):Int)).tdiv 2=((Bz k c / 2:Nat):Int):=by rw [Int.tdiv_eq_ediv_of_nonneg (by omega)]; omega
  have e3:IntKind.i64.wrap ((Bz k c / 2:Nat):Int)=((Bz k c / 2:Nat):Int):=Ql (by omega)
  simp only [Nb,Sr]
  rw [if_pos (decide_eq_true (by omega)),e1,w1 (by omega),e2,e3]
  have es:Bz (k+1) c=Kl (Bz k c):=rfl
  rw [es]
  unfold Kl
  by_cases h2:Bz k c%2=1
  ·rw [if_pos (by simp [h2]),if_pos h2]
   have:=Ka .i64 (Bz k c / 2) 3988292384 (by simp [IntKind.bits]; omega) (by decide)
   rw [Ql (by have:=Ob (a:=Bz k c / 2) (b:=3988292384) (by omega) (by omega); omega)] at this
   rw [show Ks .i64 ((Bz k c / 2:Nat):Int) 3988292384=_ from this]
  ·rw [if_neg (by simp; omega),if_neg h2]
 ·simp only [Nb]
  rw [if_neg (by decide)]
theorem MB (b:List UInt8) (hb:b.length≤1048576):MA b=some ((Km b:Nat):Int):=by
 have h:=Df (step:=Na b) (fun k=>((((b.take k).foldl Fi 4294967295:Nat):Int),(k:Int))) b.length ((b.foldl Fi 4294967295:Nat):Int) (fun k hk=>by
  have hc:=Ih (b.take k) (c:=4294967295) (by omega)
  have hy:(b[k].toNat)<256:=b[k].toNat_lt
  have hx:=Ob hc (show b[k].toNat<4294967296 by omega)
  simp only [Na]
  rw [if_pos (decide_eq_true (by omega)),Fc hk]
  simp only [Option.bind_some]
  rw [Ql (show b[k].toNat<9223372036854775808 by omega),Ka .i64 _ _ (by simp [IntKind.bits]; omega) (by simp [IntKind.bits]; omega),Ql (by omega),bN hx]
  simp only [Option.bind_some,w1 (show k<4611686018427387904 by omega)]
  rw [List.take_succ_eq_append_getElem hk,List.foldl_append]
  rfl) (by
  simp only [Na]
  rw [if_neg (by simp),List.take_length])
 have hc:=Ih b (c:=4294967295) (by omega)
 have h':Ch (Na b) (4294967295,0)=some ((b.foldl Fi 4294967295:Nat):Int):=h
 simp only [MA,h',Option.bind_some]
 have:=Ka .i64 (b.foldl Fi 4294967295) 4294967295 (by simp [IntKind.bits]; omega) (by decide)
 rw [Ql (by have:=Ob hc (show 4294967295<4294967296 by omega); omega)] at this
 rw [show Ks .i64 ((b.foldl Fi 4294967295:Nat):Int) 4294967295=_ from this]
 rfl
theorem Qs {a b:Nat} (h:a%256=b%256):b8 (a:Int)=b8 (b:Int):=by
 apply UInt8.toNat_inj.1
 rw [Ls,Ls,h]
theorem LK (p:List UInt8) (hp:p.length≤65534):LJ p=some (Bv p):=by
 have e1:IntKind.i64.wrap ((p.length:Int)+1)=((p.length+1:Nat):Int):=w1 (by omega)
 have e2:(((p.length+1:Nat):Int)).tdiv 256=(((p.length+1) / 256:Nat):Int):=by rw [Int.tdiv_eq_ediv_of_nonneg (by omega)]; omega
 have e3:(((p.length+1:Nat):Int)).tmod 256=(((p.length+1)%256:Nat):Int):=by rw [Int.tmod_eq_emod_of_nonneg (by omega)]; omega
 have e4:IntKind.i64.wrap ((((p.length+1) / 256:Nat):Int))=(((p.length+1) / 256:Nat):Int):=Ql (by omega)
 have hh:([b8 (((p.length+1) / 256:Nat):Int),b8 (((p.length+1)%256:Nat):Int)]:List UInt8)++p=Fa p:=by
  unfold Fa
  have:Dw (p.length+1) 2=[Bl (p.length+1) 1,Bl (p.length+1) 0]:=rfl
  rw [this]
  unfold Bl
  have x1:b8 (((p.length+1) / 256:Nat):Int)=b8 (((p.length+1) / 2^(8*1):Nat):Int):=Qs (by omega)
  have x2:b8 (((p.length+1)%256:Nat):Int)=b8 (((p.length+1) / 2^(8*0):Nat):Int):=Qs (by omega)
  rw [x1,x2]
 simp only [LJ,e1,e2,e3,e4,hh,Bn]
 rw [if_pos (by simp; omega),MB _ (by rw [Eu]; omega)]
 have hc:=Si (Fa p)
 generalize hcv:Km (Fa p)=c at hc
 have d1:((c:Int)).tdiv 16777216=((c / 16777216:Nat):Int):=by rw [Int.tdiv_eq_ediv_of_nonneg (by omega)]; omega
 have d2:((c:Int)).tdiv 65536=((c / 65536:Nat):Int):=by rw [Int.tdiv_eq_ediv_of_nonneg (by omega)]; omega
 have d3:((c:Int)).tdiv 256=((c / 256:Nat):Int):=by rw [Int.tdiv_eq_ediv_of_nonneg (by omega)]; omega
 have d4:((c:Int)).tmod 256=((c%256:Nat):Int):=by rw [Int.tmod_eq_emod_of_nonneg (by omega)]; omega
 have d5:((c / 65536:Nat):Int).tmod 256=((c / 65536%256:Nat):Int):=by rw [Int.tmod_eq_emod_of_nonneg (by omega)]; omega
 have d6:((c / 256:Nat):Int).tmod 256=((c / 256%256:Nat):Int):=by rw [Int.tmod_eq_emod_of_nonneg (by omega)]; omega
 simp only [Option.bind_some,d1,d2,d3,d4,Ql (show c / 16777216<9223372036854775808 by omega),Ql (show c / 65536<9223372036854775808 by omega),Ql (show c / 256<9223372036854775808 by omega),d5,d6]
 rw [if_pos (by rw [Eu]; simp; omega)]
 unfold Bv
 rw [hcv]
 have:Dw c 4=[Bl c 3,Bl c 2,Bl c 1,Bl c 0]:=rfl
 rw [this]
 unfold Bl
 have x1:b8 ((c / 16777216:Nat):Int)=b8 ((c / 2^(8*3):Nat):Int):=Qs (by omega)
 have x2:b8 ((c / 65536%256:Nat):Int)=b8 ((c / 2^(8*2):Nat):Int):=Qs (by omega)
 have x3:b8 ((c / 256%256:Nat):Int)=b8 ((c / 2^(8*1):Nat):Int):=Qs (by omega)
 have x4:b8 ((c%256:Nat):Int)=b8 ((c / 2^(8*0):Nat):Int):=Qs (by omega)
 rw [x1,x2,x3,x4]
theorem Ia {n i:Nat} {y:UInt8} (h:n / 2^(8*i)%256=y.toNat):Bl n i=y:=by
 apply UInt8.toNat_inj.1
 unfold Bl
 rw [Ls,h]
theorem fA {l:List UInt8} (h:l.length=2):Dw (Gw l) 2=l:=by
 match l,h with
 | [a,b],_=>
  have ha:=a.toNat_lt; have hb:=b.toNat_lt
  show [Bl _ 1,Bl _ 0]=_
  simp only [Gw,List.foldl_cons,List.foldl_nil]
  rw [Ia (y:=a) (by omega),Ia (y:=b) (by omega)]
theorem fB {l:List UInt8} (h:l.length=4):Dw (Gw l) 4=l:=by
 match l,h with
 | [a,b,c,d],_=>
  have ha:=a.toNat_lt; have hb:=b.toNat_lt; have hc:=c.toNat_lt; have hd:=d.toNat_lt
  show [Bl _ 3,Bl _ 2,Bl _ 1,Bl _ 0]=_
  simp only [Gw,List.foldl_cons,List.foldl_nil]
  rw [Ia (y:=a) (by omega),Ia (y:=b) (by omega),Ia (y:=c) (by omega),Ia (y:=d) (by omega)]
theorem LX (b:List UInt8) (hb:b.length≤1048576) (k:Nat) (hk:k≤1048576):LW b (k:Int)=some (match Oz b k with
   | none=>([],false)
   | some p=>(p,true)):=by
 have e1:IntKind.i64.wrap ((k:Int)+2)=((k+2:Nat):Int):=by rw [wr ⟨by omega,by omega⟩]; omega
 simp only [LW,e1]
 by_cases c1:k+2≤b.length
 ·rw [if_neg (by simp; omega),Fc (by omega),w1 (by omega),Fc (by omega)]
  have hn2:(b.drop k).take 2=[b[k],b[k+1]]:=by
   rw [List.drop_eq_getElem_cons (by omega),List.drop_eq_getElem_cons (by omega)]; rfl
  have hv:Gw ((b.drop k).take 2)=b[k].toNat*256+b[k+1].toNat:=by rw [hn2]; simp [Gw]
  have hl2:((b.drop k).take 2).length=2:=by rw [hn2]; rfl
  have hx:=b[k].toNat_lt; have hy:=b[k+1].toNat_lt
  have w4:IntKind.i64.wrap (((b[k].toNat:Int))*256)=((b[k].toNat*256:Nat):Int):=by rw [wr ⟨by omega,by omega⟩]; omega
  have w5:IntKind.i64.wrap (((b[k].toNat*256:Nat):Int)+(b[k+1].toNat:Int))=((b[k].toNat*256+b[k+1].toNat:Nat):Int):=by rw [wr ⟨by omega,by omega⟩]; omega
  simp only [Option.bind_some,Ql (show b[k].toNat<9223372036854775808 by omega),Ql (show b[k+1].toNat<9223372036854775808 by omega),w4,w5,←hv]
  have hn:Gw ((b.drop k).take 2)<65536:=by omega
  have hbb:=fA hl2
  generalize hnv:Gw ((b.drop k).take 2)=n at hn hbb
  have e2:IntKind.i64.wrap ((n:Int)-1)=(n:Int)-1:=wr ⟨by omega,by omega⟩
  have e3:IntKind.i64.wrap ((k:Int)+((n:Int)-1))=(k:Int)+((n:Int)-1):=wr ⟨by omega,by omega⟩
  have e4:IntKind.i64.wrap ((k:Int)+((n:Int)-1)+6)=((k+n+5:Nat):Int):=by rw [wr ⟨by omega,by omega⟩]; omega
  simp only [Bn,e2,e3,e4]
  by_cases c2:(1≤n∧n≤2001)∧k+n+5≤b.length
  ·obtain ⟨⟨c2a,c2b⟩,c3⟩:=c2
   rw [decide_eq_false (show ¬(n:Int)-1<0 by omega),decide_eq_false (show ¬(n:Int)-1>2000 by omega),decide_eq_false (show ¬((k+n+5:Nat):Int)>(b.length:Int) by omega)]
   have e5:IntKind.i64.wrap (((k+2:Nat):Int)+((n:Int)-1))=((k+2+(n-1):Nat):Int):=by rw [wr ⟨by omega,by omega⟩]; omega
   rw [if_neg (by decide),e5,Va b (k+2) (n-1) (by omega)]
   have hpl:((b.drop (k+2)).take (n-1)).length=n-1:=by simp; omega
   generalize hp:(b.drop (k+2)).take (n-1)=p at hpl
   simp only [Option.bind_some,List.nil_append]
   rw [if_pos (by simp; omega),LK p (by omega)]
   simp only [Option.bind_some]
   have hhead:(b.drop k).take (n+1)=Fa p:=by
    unfold Fa
    rw [hpl,show n-1+1=n by omega,hbb,←hp,←List.drop_drop (i:=2) (j:=k)]
    have:=List.take_append_drop 2 ((b.drop k).take (n+1))
    rw [←this,List.take_take,List.drop_take,show min 2 (n+1)=2 by omega,show n+1-2=n-1 by omega]
   have htail:((b.drop (k+n+1)).take 4).length=4:=by simp; omega
   have hfl:(Bv p).length=n+5:=by rw [frameB_len,hpl]; omega
   have hfi:∀i (hi:i<4),(Bv p)[n+1+i]'(by omega)=(Dw (Km (Fa p)) 4)[i]'(by simp; omega):=fun i hi=>by
    unfold Bv
    rw [List.getElem_append_right (by rw [Eu]; omega)]
    congr 1
    rw [Eu]; omega
   have hbi:∀i (hi:i<4),b[k+n+1+i]'(by omega)=((b.drop (k+n+1)).take 4)[i]'(by omega):=fun i hi=>by
    rw [List.getElem_take,List.getElem_drop]
   have hstep:∀i:Nat,i<4→Jd b (k:Int) ((n:Int)-1) (Bv p) (i:Int)=if (!decide (((b.drop (k+n+1)).take 4)[i]? = (Dw (Km (Fa p)) 4)[i]?))=true then some (.inr (.inr ([],false))) else some (.inl ((i+1:Nat):Int)):=fun i hi=>by
    simp only [Jd,e1,e5]
    have e6:IntKind.i64.wrap (((k+2+(n-1):Nat):Int)+(i:Int))=((k+n+1+i:Nat):Int):=by rw [wr ⟨by omega,by omega⟩]; omega
    have e7:IntKind.i64.wrap (2+((n:Int)-1))=((n+1:Nat):Int):=by rw [wr ⟨by omega,by omega⟩]; omega
    have e8:IntKind.i64.wrap (((n+1:Nat):Int)+(i:Int))=((n+1+i:Nat):Int):=by rw [wr ⟨by omega,by omega⟩]; omega
    rw [if_pos (decide_eq_true (by omega)),e6,e7,e8,Fc (by omega),Fc (by omega)]
    simp only [Option.bind_some,Int.toNat_natCast]
    rw [List.getElem?_eq_getElem (by omega),hfi i hi,hbi i hi,w1 (by omega)]
    simp only [Option.bind_some]
    rw [List.getElem?_eq_getElem (by omega),List.getElem?_eq_getElem (by simp; omega)]
    by_cases c:((b.drop (k+n+1)).take 4)[i]'(by omega)=(Dw (Km (Fa p)) 4)[i]'(by simp; omega)
    ·rw [if_neg (by simp [c]),if_neg (by simp [c])]
    ·rw [if_pos (by
      rw [bne_iff_ne]; intro hh
      exact c (UInt8.toNat_inj.1 (by omega))),if_pos (by simpa using c)]
   have hend:Jd b (k:Int) ((n:Int)-1) (Bv p) ((4:Nat):Int)=some (.inr (.inl ())):=by
    simp only [Jd]
    rw [if_neg (by decide)]
   by_cases c4:Km ((b.drop k).take (n+1))=Gw ((b.drop (k+n+1)).take 4)
   ·have hx:Oz b k=some p:=by
     unfold Oz; rw [hnv,if_pos c1,if_pos ⟨⟨c2a,c2b⟩,c3⟩,if_pos c4,hp]
    have hb4:Dw (Km (Fa p)) 4=(b.drop (k+n+1)).take 4:=by rw [←hhead,c4,fB htail]
    have:=Df (step:=Jd b (k:Int) ((n:Int)-1) (Bv p)) (fun i=>(i:Int)) 4 (.inl ()) (fun i hi=>by rw [hstep i hi,hb4,if_neg (by simp)]) hend
    rw [hx,show (0:Int)=((0:Nat):Int) from rfl,this]
    rfl
   ·have hx:Oz b k=none:=by
     unfold Oz; rw [hnv,if_pos c1,if_pos ⟨⟨c2a,c2b⟩,c3⟩,if_neg c4]
    obtain ⟨i,hi,hj,hno⟩:=Zu (n:=4) (ok:=fun i=>((b.drop (k+n+1)).take 4)[i]? = (Dw (Km (Fa p)) 4)[i]?) (fun hall=>c4 (by
     have:(b.drop (k+n+1)).take 4=Dw (Km (Fa p)) 4:=by
      apply List.ext_getElem?
      intro i
      by_cases hi:i<4
      ·exact hall i hi
      ·rw [List.getElem?_eq_none (by omega),List.getElem?_eq_none (by simp; omega)]
     rw [this,Wa _ (Si _),hhead]))
    have:=Mi (step:=Jd b (k:Int) ((n:Int)-1) (Bv p)) (fun i=>(i:Int)) i (fun j hj'=>by rw [hstep j (by omega),if_neg (by simp [hj j hj'])])
    rw [hx,show (0:Int)=((0:Nat):Int) from rfl,this,Ip (r:=.inr ([],false)) (by rw [hstep i hi,if_pos (by simp [hno])])]
    rfl
  ·have hx:Oz b k=none:=by
    unfold Oz; rw [hnv,if_pos c1,if_neg c2]
   rw [hx,if_pos (by
    by_cases h1:1≤n∧n≤2001
    ·rw [decide_eq_true (show ((k+n+5:Nat):Int)>(b.length:Int) by omega)]
     cases decide ((n:Int)-1<0)<;>cases decide ((n:Int)-1>2000)<;>rfl
    ·by_cases h2:1≤n
     ·rw [decide_eq_true (show (n:Int)-1>2000 by omega)]
      cases decide ((n:Int)-1<0)<;>rfl
     ·rw [decide_eq_true (show (n:Int)-1<0 by omega)]; rfl)]
 ·have hx:Oz b k=none:=by
   unfold Oz; rw [if_neg c1]
  rw [hx,if_pos (decide_eq_true (by omega))]
end Go.Ev
end
section
namespace Go.Ev
theorem gB {σ ρ:Type} {step step':σ→Option (σ⊕ρ)} (I:σ→Prop) (μ:σ→Nat) (hs:∀s,I s→step s=step' s)
  (h:∀s,I s→(∃s',step s=some (.inl s')∧I s'∧μ s'<μ s)∨(∃r,step s=some (.inr r))) (s0:σ) (h0:I s0):Ch step s0=Ch step' s0:=by
 have key:∀(n:Nat) (s0:σ),μ s0<n→I s0→Ch step s0=Ch step' s0:=by
  intro n
  induction n with
  | zero=>intro s0 hn; omega
  | succ n ih=>
   intro s0 hn hI
   rcases h s0 hI with ⟨s',h1,h2,h3⟩ | ⟨r,h1⟩
   ·rw [Nh h1,Nh (step:=step') (by rw [←hs s0 hI]; exact h1),ih s' (by omega) h2]
   ·rw [Ip h1,Ip (step:=step') (by rw [←hs s0 hI]; exact h1)]
 exact key (μ s0+1) s0 (by omega) h0
theorem dZ {b p:List UInt8} {k:Nat} (h:Oz b k=some p):k+p.length+6≤b.length:=by
 unfold Oz at h
 split at h
 ·split at h
  ·rename_i c1 c2
   split at h
   ·obtain rfl:=Option.some.inj h
    simp; omega
   ·cases h
  ·cases h
 ·cases h
theorem scan_step' (b:List UInt8) (hb:b.length≤1048576) (l:List (List UInt8)) (k:Nat) (hl:l.length≤1048576) (hk:k≤1048576):
  Pi b (l,(k:Int))=match Oz b k with
   | none=>some (.inr (l,(k:Int)))
   | some p=>some (.inl (l++[p],((k+p.length+6:Nat):Int))):=by
 simp only [Pi,LX b hb k hk,Option.bind_some]
 cases hx:Oz b k with
 | none=>rfl
 | some p=>
  have hp:=dZ hx
  have e1:IntKind.i64.wrap ((p.length:Int)+6)=((p.length+6:Nat):Int):=by rw [wr ⟨by omega,by omega⟩]; omega
  have e2:IntKind.i64.wrap ((k:Int)+((p.length+6:Nat):Int))=((k+p.length+6:Nat):Int):=by rw [wr ⟨by omega,by omega⟩]; omega
  simp only [e1,e2]
  rw [if_neg (by decide),if_pos (by simp; omega)]
def iK (b:List UInt8) (s:List (List UInt8)×Int):Prop:=∃k:Nat,s.2=(k:Int)∧k≤b.length∧6*s.1.length≤k
theorem gO (b:List UInt8) (hb:b.length≤1048576) (s:List (List UInt8)×Int) (h:iK b s):
  (∃s',Hy b s=some (.inl s')∧(iK b s'∧∃p,s'.1=s.1++[p])∧((b.length:Int)-s'.2).toNat<((b.length:Int)-s.2).toNat)∨Hy b s=some (.inr s):=by
 obtain ⟨l,_⟩:=s
 obtain ⟨k,rfl,hk,hl⟩:=h
 simp only at hl
 rw [Nq b hb l k (by omega) (by omega)]
 cases hx:Oz b k with
 | none=>exact .inr rfl
 | some p=>
  have hp:=dZ hx
  exact .inl ⟨_,rfl,⟨⟨k+p.length+6,rfl,by omega,by simp; omega⟩,p,rfl⟩,by simp only; omega⟩
theorem gP (b:List UInt8) (hb:b.length≤1048576):LG b=Zk b:=by
 have:=gB (step:=Hy b) (step':=Pi b) (iK b) (fun s=>((b.length:Int)-s.2).toNat) (fun s hs=>by
  obtain ⟨l,_⟩:=s
  obtain ⟨k,rfl,hk,hl⟩:=hs
  simp only at hl
  rw [Nq b hb l k (by omega) (by omega),scan_step' b hb l k (by omega) (by omega)]
  first | done | (cases Oz b k<;>rfl)) (fun s hs=>by
  rcases gO b hb s hs with ⟨s',h1,h2,h3⟩ | h
  ·exact .inl ⟨s',h1,h2.1,h3⟩
  ·exact .inr ⟨_,h⟩) ([],0) ⟨0,rfl,by omega,by simp⟩
 simp only [Zk,LG,this]
theorem LF (d:Av) (h:Lj d):LE d=some true:=by
 obtain ⟨h1,h2,h3,h4⟩:=h
 have e1:(((d.held.length:Int)).tmod 32 != 0)=false:=by rw [Int.tmod_eq_emod_of_nonneg (by omega)]; simp; omega
 have e2:decide ((d.held.length:Int)>4096)=false:=decide_eq_false (by omega)
 have e3:decide ((d.Aq.length:Int)>4096)=false:=decide_eq_false (by omega)
 have hl:=gN d.Aq (step:=Ph d) (fun k hk=>by
  have hs:=h4 _ (List.getElem_mem hk)
  have hs1:=hs.1
  have hs2:=hs.2
  have e4:YP d.Aq[k].at_ 0 127=some true:=by simp [YP,hs1.1,hs1.2]
  simp only [Ph]
  rw [if_pos (decide_eq_true (by omega)),Fc hk]
  simp only [Option.bind_some,e4,Bool.not_true,beq_self_eq_true,if_true,cond_false]
  rw [if_neg (by simp [hs2]),w1 (show k<4611686018427387904 by omega)]) (by
  simp only [Ph]
  rw [if_neg (by simp)])
 simp [LE,e1,e2,e3,hl,Bn]
end Go.Ev
end
section
namespace Go.Ev
def nU:List (List UInt8):=[[97],[98],[108,101,97,115,101,47,49],[108,101,97,115,101,47,50],[114,111,108,101,47,120],[122]]
def eO:List (List UInt8):=[[],[49],[116,119,111],[116,104,114,101,101]]
def Yu (c:Ae):Prop:=c.key∈nU∧c.value∈eO∧(c.Dm=true→c.value=[])
theorem dN {s:Bp} {B:Int} (h:Gy s B) (hB:B≤4611686018427000000) (l:List (List UInt8)) (h0:0<l.length) (hl:l.length≤1000):∃y s',bR s l=some (y,s')∧y∈l∧Gy s' (B+3):=by
 obtain ⟨v,s',v1,v2,v3⟩:=Sm (n:=(l.length:Int)) h (by omega) (by omega)
 have hv:0≤v∧v<l.length:=⟨v2.1,by
  by_cases h1:(l.length:Int)≤1
  ·rw [v2.2.1 h1]; omega
  ·exact v2.2.2 (by omega)⟩
 have hi:Ew l v=some (l[v.toNat]'(by omega)):=by
  unfold Ew
  rw [if_pos hv.1,List.getElem?_eq_getElem (by omega)]
 refine ⟨l[v.toNat]'(by omega),s',?_,List.getElem_mem _,v3⟩
 simp only [bR]
 rw [if_neg (by intro h; have:=eq_of_beq h; omega),v1]
 simp only [Option.bind_some,hi]
theorem NH {s:Bp} {B:Int} (h:Gy s B) (hB:B≤4611686018426000000):∃c s',NG s=some (c,s')∧Yu c∧Gy s' (B+9):=by
 obtain ⟨k,s1,k1,k2,k3⟩:=dN h (by omega) nU (by decide) (by decide)
 obtain ⟨w,s2,w1,w2,w3⟩:=dN k3 (by omega) eO (by decide) (by decide)
 obtain ⟨v,s3,v1,v2,v3⟩:=Sm (n:=4) w3 (by omega) (by omega)
 have e4:KU s2 4=some ((v==IntKind.i64.wrap (4-1)),s3):=by simp only [KU,v1,Option.bind_some]
 have hk:bR s ([([97]:List UInt8),([98]:List UInt8),([108,101,97,115,101,47,49]:List UInt8),([108,101,97,115,101,47,50]:List UInt8),([114,111,108,101,47,120]:List UInt8),([122]:List UInt8)]:List (List UInt8))=some (k,s1):=k1
 have hw:bR s1 ([([]:List UInt8),([49]:List UInt8),([116,119,111]:List UInt8),([116,104,114,101,101]:List UInt8)]:List (List UInt8))=some (w,s2):=w1
 simp only [NG,hk,hw,e4,Option.bind_some]
 split
 ·exact ⟨_,_,rfl,⟨k2,by simp [eO],fun _=>rfl⟩,v3.mono (by omega)⟩
 ·exact ⟨_,_,rfl,⟨k2,w2,fun h=>by simp at h⟩,v3.mono (by omega)⟩
def Lk (l:List Ae):Prop:=l.length≤4∧∀c∈l,Yu c
theorem MT {s:Bp} {B:Int} (h:Gy s B) (hB:B≤4611686018425000000):∃l s',MS s=some (l,s')∧Lk l∧Gy s' (B+100):=by
 obtain ⟨u,t,u1,u2,u3⟩:=Sm (n:=5) h (by omega) (by omega)
 have hu:=u2.2.2 (by omega)
 simp only [MS,u1,Option.bind_some]
 obtain ⟨r,r1,r2⟩:=Hq (step:=Sv) (fun x=>(0≤x.2.1∧x.2.1≤4)∧((x.1.length:Int)≤4-x.2.1)∧(∀c∈x.1,Yu c)∧Gy (Bp.mk x.2.2.1 x.2.2.2.1 x.2.2.2.2) (B+3+10*(4-x.2.1))) (fun x=>x.2.1.toNat)
  (fun r=>Lk r.1∧Gy (Bp.mk r.2.1 r.2.2.1 r.2.2.2) (B+100)) (([]:List Ae),u,t.code_,t.at_,t.Fp) ⟨⟨u2.1,by simp only; omega⟩,by simp; omega,by simp,u3.mono (by simp only; omega)⟩ (by
   rintro ⟨l,i,c,a,se⟩ ⟨i1,i2,i3,i4⟩
   simp only at i1 i2 i3 i4
   simp only [Sv]
   by_cases h0:i>0
   ·rw [if_pos (decide_eq_true h0)]
    obtain ⟨p,t3,p1,p2,p3⟩:=NH i4 (by omega)
    have hw2:IntKind.i64.wrap (i-1)=i-1:=wr ⟨by omega,by omega⟩
    simp only [p1,Option.bind_some,hw2]
    rw [if_pos (by simp only [List.length_singleton]; omega)]
    refine .inl ⟨_,rfl,⟨⟨by simp only; omega,by simp only; omega⟩,by simp only [List.length_append,List.length_singleton]; omega,fun q hq=>?_,p3.mono (by simp only; omega)⟩,by simp only; omega⟩
    rcases List.mem_append.1 hq with hq | hq
    ·exact i3 q hq
    ·simp only [List.mem_singleton] at hq; subst hq; exact p2
   ·rw [if_neg (by simpa using h0)]
    exact .inr ⟨_,rfl,⟨by first | omega | (simp only; omega),i3⟩,i4.mono (by first | omega | (simp only; omega))⟩)
 rw [r1]
 exact ⟨_,_,rfl,r2.1,r2.2⟩
theorem MI (code:List UInt8) (hc:code.length≤1048576):∃L,MH code=some L∧L.length≤8∧∀b∈L,Lk b:=by
 obtain ⟨s,s1,s2⟩:=TG code hc
 obtain ⟨v,v1,v2,v3⟩:=KT (n:=5) s2 (by omega)
 have e1:IntKind.i64.wrap (v+2)=v+2:=wr ⟨by omega,by omega⟩
 obtain ⟨u,t2,u1,u2,u3⟩:=Sm (n:=v+2) s2 (by omega) (by omega)
 have hu:=u2.2.2 (by omega)
 simp only [MH,s1,v1,Option.bind_some,e1,u1]
 obtain ⟨r,r1,r2⟩:=Hq (step:=Su) (fun x=>(0≤x.2.1∧x.2.1≤7)∧((x.1.length:Int)≤7-x.2.1)∧(∀b∈x.1,Lk b)∧Gy (Bp.mk x.2.2.1 x.2.2.2.1 x.2.2.2.2) (3+1000*(7-x.2.1))) (fun x=>x.2.1.toNat)
  (fun r=>r.length≤8∧∀b∈r,Lk b) (([]:List (List Ae)),u,t2.code_,t2.at_,t2.Fp) ⟨⟨u2.1,by simp only; omega⟩,by simp; omega,by simp,u3.mono (by simp only; omega)⟩ (by
   rintro ⟨l,i,c,a,se⟩ ⟨i1,i2,i3,i4⟩
   simp only at i1 i2 i3 i4
   simp only [Su]
   by_cases h0:i>0
   ·rw [if_pos (decide_eq_true h0)]
    obtain ⟨p,t3,p1,p2,p3⟩:=MT i4 (by omega)
    have hw2:IntKind.i64.wrap (i-1)=i-1:=wr ⟨by omega,by omega⟩
    simp only [p1,Option.bind_some,hw2]
    rw [if_pos (by simp only [List.length_singleton]; omega)]
    refine .inl ⟨_,rfl,⟨⟨by simp only; omega,by simp only; omega⟩,by simp only [List.length_append,List.length_singleton]; omega,fun q hq=>?_,p3.mono (by simp only; omega)⟩,by simp only; omega⟩
    rcases List.mem_append.1 hq with hq | hq
    ·exact i3 q hq
    ·simp only [List.mem_singleton] at hq; subst hq; exact p2
   ·rw [if_neg (by simpa using h0)]
    exact .inr ⟨_,rfl,by omega,i3⟩)
 rw [r1]
 exact ⟨_,rfl,r2⟩
end Go.Ev
end
section
namespace Go.Ev
def Jk (c:Ae):List UInt8:=(([b8 (c.key.length:Int)]++c.key)++Dw (if c.Dm=true then 0 else c.value.length+1) 2)++c.value
def Ck (l:List Ae):List UInt8:=(l.map Jk).flatten
def Ht (c:Ae):Prop:=(1≤c.key.length∧c.key.length≤60)∧c.value.length≤400∧(c.Dm=true→c.value=[])
def Kh (l:List Ae):Prop:=l.length≤30∧∀c∈l,Ht c
theorem Yu.right {c:Ae} (h:Yu c):Ht c:=by
 obtain ⟨h1,h2,h3⟩:=h
 refine ⟨?_,?_,h3⟩
 ·simp only [nU,List.mem_cons,List.not_mem_nil,or_false] at h1
  rcases h1 with h | h | h | h | h | h<;>rw [h]<;>decide
 ·simp only [eO,List.mem_cons,List.not_mem_nil,or_false] at h2
  rcases h2 with h | h | h | h<;>rw [h]<;>decide
theorem Lk.right {l:List Ae} (h:Lk l):Kh l:=⟨by have:=h.1; omega,fun c hc=>(h.2 c hc).right⟩
theorem Ik (c:Ae):(Jk c).length=c.key.length+c.value.length+3:=by simp [Jk,bigB_len]; omega
theorem Ra (c:Ae) (l:List Ae):Ck (c::l)=Jk c++Ck l:=by simp [Ck]
theorem Lw (a b:List Ae):Ck (a++b)=Ck a++Ck b:=by simp [Ck]
theorem Zg (c:Ae):Ck [c]=Jk c:=by simp [Ck]
theorem Jw (l:List Ae) (h:∀c∈l,Ht c):(Ck l).length≤463*l.length:=by
 induction l with
 | nil=>simp [Ck]
 | cons c r ih=>
  have h1:=h c (by simp)
  have h2:=ih fun x hx=>h x (by simp [hx])
  rw [Ra,List.length_append,Ik,List.length_cons]
  have:=h1.1.2; have:=h1.2.1
  omega
theorem Mg {α:Type} (l:List α) (j:Nat) (h:j<l.length):Ew l (j:Int)=some l[j]:=by
 unfold Ew
 rw [if_pos (by omega),Int.toNat_natCast,List.getElem?_eq_getElem h]
theorem Jf {α:Type} (l:List α) (j:Nat) (h:j<l.length):l.take (j+1)=l.take j++[l[j]]:=(List.take_append_getElem h).symm
theorem Ua (out:List UInt8) (k:Nat) (c:Ae) (hc:Ht c) (n:Nat) (hn:n≤401) (ho:out.length≤20000) (hk:k≤1000):
  Pr out (k:Int) c (n:Int)=some (.inl ((((out++([b8 (c.key.length:Int)]:List UInt8))++c.key)++Dw n 2)++c.value,((k+1:Nat):Int))):=by
 have h1:=hc.1.2; have h2:=hc.2.1
 have e:Xk (n:Int) 2=some (Dw n 2):=Xl n 2 (by omega)
 simp only [Pr,e,Option.bind_some]
 rw [if_pos (by simp [bigB_len]; omega),if_pos (by simp [bigB_len]; omega),w1 (by omega)]
 rfl
theorem dG (l:List Ae) (h:Kh l):nI l=some (Ck l):=by
 obtain ⟨hl,hc⟩:=h
 obtain ⟨r,r1,r2⟩:=Hq (step:=Sw l) (fun x=>∃j:Nat,x.2=(j:Int)∧j≤l.length∧x.1=Ck (l.take j)) (fun x=>(l.length-x.2).toNat) (fun r=>r=Ck l) ([],0) ⟨0,rfl,by omega,by simp [Ck]⟩ (by
  rintro ⟨out,k⟩ ⟨j,rfl,h1,rfl⟩
  simp only [Sw]
  by_cases h0:j<l.length
  ·rw [if_pos (decide_eq_true (by omega)),Mg l j h0]
   have hr:=hc l[j] (List.getElem_mem h0)
   have hlen:=Jw (l.take j) fun x hx=>hc x (List.mem_of_mem_take hx)
   have hj:(l.take j).length=j:=by simp; omega
   rw [hj] at hlen
   have:=hr.1.2; have:=hr.2.1
   simp only [Option.bind_some]
   rw [if_pos (by simp; omega),if_pos (by simp; omega)]
   refine .inl ⟨(Ck (l.take (j+1)),((j+1:Nat):Int)),?_,⟨j+1,rfl,by omega,rfl⟩,by simp only; omega⟩
   rw [Jf l j h0,Lw,Zg]
   split
   ·rename_i hg
    have:=Ua (Ck (l.take j)) j l[j] hr 0 (by omega) (by omega) (by omega)
    simp only [Jk,hg,if_true]
    simpa [List.append_assoc] using this
   ·rename_i hg
    have e1:IntKind.i64.wrap ((l[j].value.length:Int)+1)=((l[j].value.length+1:Nat):Int):=w1 (by omega)
    have:=Ua (Ck (l.take j)) j l[j] hr (l[j].value.length+1) (by omega) (by omega) (by omega)
    rw [e1]
    simp only [Jk,hg,if_false]
    simpa [List.append_assoc] using this
  ·rw [if_neg (by simp; omega)]
   have:j=l.length:=by omega
   subst this
   exact .inr ⟨_,rfl,by rw [List.take_length]⟩)
 simp only [nI,r1,Option.bind_some,r2]
end Go.Ev
end
section
namespace Go.Ev
theorem NW (l:List Ae) (f:Ae→Option Bool) (p:Ae→Bool) (hf:∀x∈l,f x=some (p x)) (hl:l.length≤4611686018427387903):TF l f=some (Gq l p):=Oo l f p hf hl (fun _=>rfl)
theorem NU (l:List Ae) (f:Ae→Option Bool) (p:Ae→Bool) (hf:∀x∈l,f x=some (p x)) (hl:l.length≤4611686018427387903):NT l f=some (l.any p):=by
 unfold NT; rw [NW l f p hf hl]; simp only [Option.bind_some,Tx]
theorem NJ (l:List Ae) (f:Ae→Option Bool) (p:Ae→Bool) (hf:∀x∈l,f x=some (p x)) (hl:l.length≤4611686018427387903):NI l f=some (l.all p):=by
 unfold NI; rw [NU l _ (fun x => !p x) (fun x hx=>by simp [NV,hf x hx]) hl]; simp only [Option.bind_some,cS]
theorem dJ (l:List Al) (hl:l.length≤1048576):fV l=some l:=by
 unfold fV; rw [if_pos (by simp; omega)]
theorem NS (l:List Al) (f:Al→Option Bool) (p:Al→Bool) (hf:∀x∈l,f x=some (p x)) (hl:l.length≤4611686018427387903):TD l f=some (Gq l p):=Oo l f p hf hl (fun _=>rfl)
theorem MZ (l:List Al) (f:Al→Option Bool) (p:Al→Bool) (hf:∀x∈l,f x=some (p x)) (hl:l.length≤4611686018427387903):MY l f=some (l.filter fun x => !p x):=by
 unfold MY; rw [NS l f p hf hl]; exact Ze l f p hf hl _ (fun _ _ _=>rfl)
end Go.Ev
end
section
namespace Go.Ev
theorem dK {c:Ae} (h:Ht c):bP c=some true:=by
 obtain ⟨h1,h2,h3⟩:=h
 have e:bO c.key=some true:=by simp [bO,iC,decide_eq_true (show (1:Int)≤(c.key.length:Int) by omega),decide_eq_true (show ((c.key.length:Nat):Int)≤60 by omega)]
 simp only [bP,e,Option.bind_some,Bn,decide_eq_true (show ((c.value.length:Nat):Int)≤400 by omega),cond_true]
 by_cases hg:c.Dm=true
 ·rw [hg,h3 hg]; rfl
 ·simp only [Bool.not_eq_true] at hg; rw [hg]; rfl
theorem Xo {l:List Ae} (h:Kh l):fR l=some true:=by
 have e:=NJ l (fun z=>bP z) (fun _=>true) (fun x hx=>dK (h.2 x hx)) (by have:=h.1; omega)
 have h1:=h.1
 simp only [fR,decide_eq_true (show ((l.length:Nat):Int)≤30 by omega),e,Option.bind_some,beq_self_eq_true,if_true,cond_true]
 simp
theorem Xn {l:List Ae} (h:Kh l):fQ l=some true:=by
 have h1:=h.1
 simp only [fQ,decide_eq_true (show ((l.length:Nat):Int)≤4096 by omega)]
theorem MJ {l:List Ae} (h:Kh l):nD l=some (Ck l,0):=by
 simp only [nD,Xn h,Xo h,dG l h,Option.bind_some]
 rfl
theorem Ub (A R:List UInt8):bS (A++R) (A.length:Int)=some (A,R,true):=by
 have e1:Hx (A++R) 0 (A.length:Int)=some A:=by
  have:=Qj (A++R) 0 A.length (by omega) (by simp)
  simpa using this
 have e2:Hx (A++R) (A.length:Int) ((A++R).length:Int)=some R:=by
  rw [Qj (A++R) A.length (A++R).length (by simp) (by omega),List.take_length,List.drop_left]
 simp only [bS]
 rw [if_neg (by simp; omega),e1,e2]
 rfl
theorem iO {c:Ae} (h:Ht c):(b8 (c.key.length:Int)).toNat=c.key.length:=by
 have:=h.1.2
 rw [Ls]; omega
theorem Yr {n:Nat} (h:n<4611686018427387904):IntKind.i64.wrap (n:Int)=(n:Int):=wr ⟨by omega,by omega⟩
theorem nL {c:Ae} (h:Ht c) (R:List UInt8) (hR:R.length≤1048576):NK (Jk c++R)=some (c,R,true):=by
 obtain ⟨⟨h1,h1'⟩,h2,h3⟩:=h
 have hr:Ht c:=⟨⟨h1,h1'⟩,h2,h3⟩
 let n:=if c.Dm=true then 0 else c.value.length+1
 have hn:n≤401:=by show (if c.Dm=true then 0 else c.value.length+1)≤401; split<;>omega
 have e0:Jk c++R=b8 (c.key.length:Int)::(c.key++(Dw n 2++(c.value++R))):=by simp [Jk,n,List.append_assoc]
 have e1:Hx (Jk c++R) 1 ((Jk c++R).length:Int)=some (c.key++(Dw n 2++(c.value++R))):=by
  rw [e0]
  have:=Qj (b8 (c.key.length:Int)::(c.key++(Dw n 2++(c.value++R)))) 1 (b8 (c.key.length:Int)::(c.key++(Dw n 2++(c.value++R)))).length (by simp) (by omega)
  rw [List.take_length] at this
  exact this
 have e2:Ew (Jk c++R) 0=some (b8 (c.key.length:Int)):=by rw [e0]; rfl
 have e3:IntKind.i64.wrap (((b8 (c.key.length:Int)).toNat:Nat):Int)=(c.key.length:Int):=by rw [iO hr]; exact Yr (by omega)
 have e4:=Ub c.key (Dw n 2++(c.value++R))
 have e5:bS (Dw n 2++(c.value++R)) 2=some (Dw n 2,c.value++R,true):=by
  have:=Ub (Dw n 2) (c.value++R)
  rwa [bigB_len] at this
 have e6:bM (Dw n 2)=some (n:Int):=by rw [Xm _ (by rw [bigB_len]; omega),Vz n (by omega)]
 have e7:(if 0>IntKind.i64.wrap ((n:Int)-1) then 0 else IntKind.i64.wrap ((n:Int)-1))=(c.value.length:Int):=by
  have hw:IntKind.i64.wrap ((n:Int)-1)=(n:Int)-1:=wr ⟨by omega,by omega⟩
  rw [hw]
  by_cases hg:c.Dm=true
  ·have:n=0:=by show (if c.Dm=true then 0 else c.value.length+1)=0; rw [if_pos hg]
   rw [this,h3 hg]; rfl
  ·have:n=c.value.length+1:=by show (if c.Dm=true then 0 else c.value.length+1)=_; rw [if_neg hg]
   rw [this,if_neg (by omega)]; omega
 have e8:=Ub c.value R
 have e9:((n:Int)==0)=c.Dm:=by
  by_cases hg:c.Dm=true
  ·have:n=0:=by show (if c.Dm=true then 0 else c.value.length+1)=0; rw [if_pos hg]
   rw [this,hg]; rfl
  ·have:n=c.value.length+1:=by show (if c.Dm=true then 0 else c.value.length+1)=_; rw [if_neg hg]
   simp only [Bool.not_eq_true] at hg
   rw [this,hg]; simp; omega
 simp only [NK,e1,e2,Option.bind_some,e3,e4,e5,e6,e7,e8,e9]
 rfl
theorem PF {α:Type} (l:List α) (j:Nat) (h:j<l.length):l.drop j=l[j]::l.drop (j+1):=List.drop_eq_getElem_cons h
theorem dH (l:List Ae) (h:Kh l):nJ (Ck l)=some (l,true):=by
 obtain ⟨hl,hc⟩:=h
 obtain ⟨r,r1,r2⟩:=Hq (step:=Sx) (fun x=>∃j:Nat,j≤l.length∧x.1=Ck (l.drop j)∧x.2=l.take j) (fun x=>x.1.length) (fun r=>r = .inl l) (Ck l,[]) ⟨0,by omega,by simp,by simp⟩ (by
  rintro ⟨b,out⟩ ⟨j,h1,rfl,rfl⟩
  simp only [Sx]
  by_cases h0:j<l.length
  ·have hr:=hc l[j] (List.getElem_mem h0)
   have hd:Ck (l.drop j)=Jk l[j]++Ck (l.drop (j+1)):=by rw [PF l j h0,Ra]
   have hlen:=Jw (l.drop (j+1)) fun x hx=>hc x (List.mem_of_mem_drop hx)
   have hdl:(l.drop (j+1)).length≤30:=by simp; omega
   have hj:(l.take j).length=j:=by simp; omega
   rw [if_pos (decide_eq_true (by rw [hd,List.length_append,Ik]; omega)),hd,nL hr _ (by omega)]
   simp only [Option.bind_some,Bool.not_true,cond_false,hj]
   rw [show ((j:Int)==30)=false from by simp; omega]
   simp only [show (false==false)=true from rfl,if_true,dK hr,Option.bind_some,Bn,Bool.not_true,cond_false,Bool.false_eq_true,if_false]
   rw [if_pos (by simp; omega)]
   exact .inl ⟨_,rfl,⟨j+1,by omega,rfl,(Jf l j h0).symm⟩,by simp only [List.length_append,Ik]; omega⟩
  ·have:j=l.length:=by omega
   subst this
   rw [if_neg (by simp [Ck])]
   exact .inr ⟨_,rfl,by rw [List.take_length]⟩)
 simp only [nJ,r1,Option.bind_some,r2]
theorem ML {l:List Ae} (h:Kh l):MK (Ck l)=some (l,0):=by
 have hlen:=Jw l h.2
 have:=h.1
 simp only [MK,KW (Ck l) (by omega),dH l h,Option.bind_some]
 rfl
end Go.Ev
end
section
namespace Go.Ev
theorem MD {c:Ae} (h:Ht c):MC c=some true:=by
 obtain ⟨h1,h2,h3⟩:=h
 simp only [MC,Bn,decide_eq_true (show ((c.key.length:Nat):Int)>0 by omega),decide_eq_true (show ((c.key.length:Nat):Int)≤60 by omega),decide_eq_true (show ((c.value.length:Nat):Int)≤400 by omega),cond_true]
 by_cases hg:c.Dm=true
 ·rw [hg,h3 hg]; rfl
 ·simp only [Bool.not_eq_true] at hg; rw [hg]; rfl
theorem ND {l:List Ae} (h:Kh l):NC l=some true:=by
 have h1:=h.1
 have e:=Yz (n:=l.length) (fun _=>true) (step:=Pt l) (fun k hk _=>by
  simp only [Pt]
  rw [if_pos (decide_eq_true (by omega)),Mg l k hk]
  simp only [Option.bind_some,MD (h.2 _ (List.getElem_mem hk)),Bool.not_true,Bool.false_eq_true,if_false,w1 (show k<4611686018427387904 by omega)]) (by
  simp only [Pt]
  rw [if_neg (by simp)])
 simp only [NC]
 rw [if_neg (by simp; omega)]
 exact e.trans (by simp)
theorem Xu (A B:List UInt8) (y:UInt8):Ew (A++y::B) (A.length:Int)=some y:=by
 rw [Mg _ A.length (by simp)]
 simp
theorem eI (A X B:List UInt8):Hx (A++(X++B)) (A.length:Int) ((A.length+X.length:Nat):Int)=some X:=by
 rw [Qj _ _ _ (by omega) (by simp),←List.append_assoc]
 have:(A++X).length=A.length+X.length:=by simp
 rw [←this,List.take_left,List.drop_left]
theorem NQ (l:List Ae) (h:Kh l):NP (Ck l)=some (l,true):=by
 obtain ⟨hl,hc⟩:=h
 have hlen:=Jw l hc
 obtain ⟨r,r1,r2⟩:=Hq (step:=Td (Ck l)) (fun x=>∃j:Nat,j≤l.length∧x.1=l.take j∧x.2=((Ck (l.take j)).length:Int)) (fun x=>((Ck l).length-x.2).toNat) (fun r=>r = .inl l) (([]:List Ae),0) ⟨0,by omega,by simp,by simp [Ck]⟩ (by
  rintro ⟨out,k⟩ ⟨j,h1,rfl,rfl⟩
  simp only [Td]
  have hsp:Ck l=Ck (l.take j)++Ck (l.drop j):=by rw [←Lw,List.take_append_drop]
  generalize hA:Ck (l.take j)=A at *
  by_cases h0:j<l.length
  ·obtain ⟨⟨k1,k2⟩,k3,k4⟩:=hc l[j] (List.getElem_mem h0)
   have hr:Ht l[j]:=⟨⟨k1,k2⟩,k3,k4⟩
   have hd:Ck (l.drop j)=Jk l[j]++Ck (l.drop (j+1)):=by rw [PF l j h0,Ra]
   generalize hR:Ck (l.drop (j+1))=R at *
   have hn2:Ck (l.take (j+1))=A++Jk l[j]:=by rw [Jf l j h0,Lw,Zg,hA]
   generalize hcc:l[j]=c at *
   let n:=if c.Dm=true then 0 else c.value.length+1
   have hn:n≤401:=by show (if c.Dm=true then 0 else c.value.length+1)≤401; split<;>omega
   have hb:Dw n 2=[Bl n 1,Bl n 0]:=rfl
   have e0:Ck l=A++(b8 (c.key.length:Int)::(c.key++(Bl n 1::Bl n 0::(c.value++R)))):=by
    rw [hsp,hd]; simp only [Jk,List.append_assoc,List.cons_append,List.nil_append]
    rw [show Dw (if c.Dm=true then 0 else c.value.length+1) 2=[Bl n 1,Bl n 0] from rfl]
    simp
   have hE:(Ck l).length=A.length+(c.key.length+c.value.length+R.length+3):=by rw [e0]; simp; omega
   have a1:Ew (Ck l) (A.length:Int)=some (b8 (c.key.length:Int)):=by rw [e0]; exact Xu A _ _
   have a2:IntKind.i64.wrap (((b8 (c.key.length:Int)).toNat:Nat):Int)=(c.key.length:Int):=by rw [iO hr]; exact Yr (by omega)
   have a3:IntKind.i64.wrap ((A.length:Int)+1)=((A.length+1:Nat):Int):=w1 (by omega)
   have a4:IntKind.i64.wrap (((A.length+1:Nat):Int)+(c.key.length:Int))=((A.length+1+c.key.length:Nat):Int):=by rw [wr ⟨by omega,by omega⟩]; omega
   have a5:IntKind.i64.wrap (((A.length+1+c.key.length:Nat):Int)+2)=((A.length+1+c.key.length+2:Nat):Int):=by rw [wr ⟨by omega,by omega⟩]; omega
   have a6:Hx (Ck l) ((A.length+1:Nat):Int) ((A.length+1+c.key.length:Nat):Int)=some c.key:=by
    have:=eI (A++[b8 (c.key.length:Int)]) c.key (Bl n 1::Bl n 0::(c.value++R))
    simp only [List.length_append,List.length_singleton] at this
    rw [e0]; simpa [List.append_assoc] using this
   have a7:IntKind.i64.wrap (1+(c.key.length:Int))=((1+c.key.length:Nat):Int):=by rw [wr ⟨by omega,by omega⟩]; omega
   have a8:IntKind.i64.wrap ((A.length:Int)+((1+c.key.length:Nat):Int))=((A.length+1+c.key.length:Nat):Int):=by rw [wr ⟨by omega,by omega⟩]; omega
   have a9:Ew (Ck l) ((A.length+1+c.key.length:Nat):Int)=some (Bl n 1):=by
    have:=Xu (A++(b8 (c.key.length:Int)::c.key)) (Bl n 0::(c.value++R)) (Bl n 1)
    have hL:(A++(b8 (c.key.length:Int)::c.key)).length=A.length+1+c.key.length:=by simp; omega
    rw [hL] at this
    rw [e0]; simpa [List.append_assoc] using this
   have b0:IntKind.i64.wrap (((A.length+1+c.key.length:Nat):Int)+1)=((A.length+1+c.key.length+1:Nat):Int):=w1 (by omega)
   have b1:Ew (Ck l) ((A.length+1+c.key.length+1:Nat):Int)=some (Bl n 0):=by
    have:=Xu (A++(b8 (c.key.length:Int)::(c.key++[Bl n 1]))) (c.value++R) (Bl n 0)
    have hL:(A++(b8 (c.key.length:Int)::(c.key++[Bl n 1]))).length=A.length+1+c.key.length+1:=by simp; omega
    rw [hL] at this
    rw [e0]; simpa [List.append_assoc] using this
   have y1:(Bl n 1).toNat=n / 256:=by simp only [Bl,Ls]; omega
   have y0:(Bl n 0).toNat=n%256:=by simp only [Bl,Ls]; omega
   have b2:IntKind.i64.wrap (IntKind.i64.wrap (IntKind.i64.wrap (IntKind.i64.wrap (((Bl n 1).toNat:Nat):Int)*256)+IntKind.i64.wrap (((Bl n 0).toNat:Nat):Int))-1)=(n:Int)-1:=by
    rw [y1,y0,Yr (n:=n / 256) (by omega),Yr (n:=n%256) (by omega)]
    rw [show IntKind.i64.wrap (((n / 256:Nat):Int)*256)=((n / 256:Nat):Int)*256 from wr ⟨by omega,by omega⟩]
    rw [show IntKind.i64.wrap (((n / 256:Nat):Int)*256+((n%256:Nat):Int))=(n:Int) from by rw [wr ⟨by omega,by omega⟩]; omega]
    exact wr ⟨by omega,by omega⟩
   have jj:∀(p:Nat) (g:Bool),p=c.value.length→g=c.Dm→Pw (Ck l) (l.take j) c.key ((A.length+1+c.key.length:Nat):Int) (p:Int) g=some (.inl (l.take j++[c],(((A++Jk c).length:Nat):Int))):=by
    rintro p g rfl rfl
    have c1:IntKind.i64.wrap (((A.length+1+c.key.length+2:Nat):Int)+(c.value.length:Int))=(((A++Jk c).length:Nat):Int):=by
     rw [wr ⟨by omega,by omega⟩,List.length_append,Ik]; omega
    have c2:(A++Jk c).length=(A.length+1+c.key.length+2)+c.value.length:=by rw [List.length_append,Ik]; omega
    have c3:Hx (Ck l) ((A.length+1+c.key.length+2:Nat):Int) (((A++Jk c).length:Nat):Int)=some c.value:=by
     have:=eI (A++(b8 (c.key.length:Int)::(c.key++[Bl n 1,Bl n 0]))) c.value R
     have hL:(A++(b8 (c.key.length:Int)::(c.key++[Bl n 1,Bl n 0]))).length=A.length+1+c.key.length+2:=by simp; omega
     rw [hL,←c2] at this
     rw [e0]; simpa [List.append_assoc] using this
    simp only [Pw,Bn,a5,c1]
    rw [if_neg (by simp only [decide_eq_true_eq]; rw [hE,List.length_append,Ik]; omega),c3]
    simp only [Option.bind_some]
    rw [if_pos (by simp; omega)]
   rw [if_pos (decide_eq_true (by rw [hE]; omega)),a1]
   simp only [Option.bind_some,a2,a3,a4,a5,Bn]
   rw [if_neg (by simp only [decide_eq_true_eq]; rw [hE]; omega),a6]
   simp only [Option.bind_some,a7,a8,a9,b0,b1,b2]
   refine .inl ⟨(l.take (j+1),((Ck (l.take (j+1))).length:Int)),?_,⟨j+1,by omega,rfl,rfl⟩,?_⟩
   ·rw [hn2,Jf l j h0,hcc]
    by_cases hg:c.Dm=true
    ·have:n=0:=by show (if c.Dm=true then 0 else c.value.length+1)=0; rw [if_pos hg]
     rw [this,if_pos (by decide)]
     exact jj 0 true (by rw [k4 hg]; rfl) hg.symm
    ·have:n=c.value.length+1:=by show (if c.Dm=true then 0 else c.value.length+1)=_; rw [if_neg hg]
     rw [this,if_neg (by simp)]
     have:=jj c.value.length false rfl (by simpa using hg)
     rw [show ((c.value.length+1:Nat):Int)-1=(c.value.length:Int) from by omega]
     exact this
   ·rw [hn2,List.length_append,Ik]; simp only; rw [hE]; omega
  ·have:j=l.length:=by omega
   subst this
   rw [List.take_length] at hA
   rw [←hA,if_neg (by simp)]
   exact .inr ⟨_,rfl,by rw [List.take_length]⟩)
 simp only [NP,r1,Option.bind_some,r2,ND ⟨hl,hc⟩]
end Go.Ev
end
section
namespace Go.Ev
theorem SP (l:List UInt8) (i:Nat):(ByteArray.mk l.toArray)[i]! = l.getD i 0:=by
 rw [getElem!_def]
 by_cases h:i<l.length
 ·rw [getElem?_pos (ByteArray.mk l.toArray) i (by simpa [ByteArray.size] using h)]
  simp [List.getD,h]
  rfl
 ·rw [getElem?_neg (ByteArray.mk l.toArray) i (by simpa [ByteArray.size] using h)]
  simp [List.getD,h]
  rfl
def Rz (x y:List UInt8):Int:=match (List.range (min x.length y.length)).find? fun i=>x.getD i 0 != y.getD i 0 with
 | some i=>if x.getD i 0<y.getD i 0 then -1 else 1
 | none=>if x.length<y.length then -1 else if x.length>y.length then 1 else 0
theorem mK (x y:List UInt8):Vj x y=Rz x y:=by
 unfold Vj Rz Extern.BytealgCompare.cmp
 simp only [SP]
 rfl
theorem fJ (a b:UInt8) (x y:List UInt8):Rz (a::x) (b::y)=if a=b then Rz x y else if a<b then -1 else 1:=by
 have e:min (a::x).length (b::y).length=min x.length y.length+1:=by simp
 unfold Rz
 rw [e,List.range_succ_eq_map,List.find?_cons]
 by_cases h:a=b
 ·subst h
  simp only [List.getD_cons_zero,bne_self_eq_false,if_true]
  rw [List.find?_map]
  have e2:((fun i=>(a::x).getD i 0 != (a::y).getD i 0)∘Nat.succ)=fun i=>x.getD i 0 != y.getD i 0:=by
   funext i; simp
  rw [e2]
  cases (List.range (min x.length y.length)).find? (fun i=>x.getD i 0 != y.getD i 0) with
  | none=>simp
  | some i=>simp
 ·have:((a::x).getD 0 0 != (b::y).getD 0 0)=true:=by simpa using h
  simp only [this,if_neg h]
  simp
theorem mJ:Rz [] []=0:=rfl
theorem fK (b:UInt8) (y:List UInt8):Rz [] (b::y) = -1:=by simp [Rz]
theorem fI (a:UInt8) (x:List UInt8):Rz (a::x) []=1:=by simp [Rz]
theorem Qy:∀x y:List UInt8,(Rz x y<0↔Op.bytesLess x y=true)∧(Rz x y=0↔x=y)
 | [],[]=>by simp [mJ,Op.bytesLess]
 | [],b::y=>by simp [fK,Op.bytesLess]
 | a::x,[]=>by simp [fI,Op.bytesLess]
 | a::x,b::y=>by
  obtain ⟨h1,h2⟩:=Qy x y
  rw [fJ]
  by_cases h:a=b
  ·subst h
   rw [if_pos rfl]
   refine ⟨by rw [h1]; simp [Op.bytesLess],by rw [h2]; simp⟩
  ·rw [if_neg h]
   by_cases hl:a<b
   ·rw [if_pos hl]; exact ⟨by simp [Op.bytesLess,hl],by simp [h]⟩
   ·rw [if_neg hl]; exact ⟨by simp [Op.bytesLess,hl,h],by simp [h]⟩
theorem KM (x y:List UInt8):decide (Vj x y<0)=Op.bytesLess x y:=by
 rw [mK,Bool.eq_iff_iff,decide_eq_true_eq]; exact (Qy x y).1
theorem KL (x y:List UInt8):(Vj x y==0)=(x==y):=by
 rw [mK,Bool.eq_iff_iff,beq_iff_eq,beq_iff_eq]; exact (Qy x y).2
theorem dL (p:Al) (k:List UInt8):bQ p k=some (Vj p.key k):=by simp [bQ,TC,TE]
abbrev Wo (x y:List UInt8):Bool:=Op.bytesLess x y
theorem Nk:∀ {x y z:List UInt8},Wo x y=true→Wo y z=true→Wo x z=true
 | _,_,[],_,h=>by simp [Wo,Op.bytesLess] at h
 | _,[],_::_,h,_=>by simp [Wo,Op.bytesLess] at h
 | [],_::_,_::_,_,_=>rfl
 | a::x,b::y,c::z,h1,h2=>by
  simp only [Wo,Op.bytesLess,Bool.or_eq_true,Bool.and_eq_true,decide_eq_true_eq,beq_iff_eq] at h1 h2 ⊢
  rcases h1 with h1 | ⟨rfl,h1⟩
  ·rcases h2 with h2 | ⟨rfl,h2⟩
   ·exact .inl (UInt8.lt_trans h1 h2)
   ·exact .inl h1
  ·rcases h2 with h2 | ⟨rfl,h2⟩
   ·exact .inl h2
   ·exact .inr ⟨rfl,Nk h1 h2⟩
theorem dV:∀x y:List UInt8,Wo x y=true∨x=y∨Wo y x=true
 | [],[]=>.inr (.inl rfl)
 | [],_::_=>.inl rfl
 | _::_,[]=>.inr (.inr rfl)
 | a::x,b::y=>by
  simp only [Wo,Op.bytesLess,Bool.or_eq_true,Bool.and_eq_true,decide_eq_true_eq,beq_iff_eq]
  by_cases h:a=b
  ·subst h
   rcases dV x y with h | h | h
   ·exact .inl (.inr ⟨rfl,h⟩)
   ·exact .inr (.inl (by rw [h]))
   ·exact .inr (.inr (.inr ⟨rfl,h⟩))
  ·by_cases hl:a<b
   ·exact .inl (.inl hl)
   ·exact .inr (.inr (.inl (by
     have h1:a.toNat≠b.toNat:=fun e=>h (UInt8.toNat_inj.1 e)
     have h2:¬a.toNat<b.toNat:=fun e=>hl (UInt8.lt_iff_toNat_lt.2 e)
     exact UInt8.lt_iff_toNat_lt.2 (by omega))))
end Go.Ev
end
section
namespace Go.Ev
def Dx (l:List Al):Prop:=l.Pairwise fun a b=>Wo a.key b.key=true
def En (l:List Al) (k:List UInt8):Nat:=(l.takeWhile fun p=>Wo p.key k).length
theorem Tu (l:List Al) (k:List UInt8):En l k≤l.length:=by
 induction l with
 | nil=>simp [En]
 | cons p r ih=>
  unfold En at ih ⊢
  rw [List.takeWhile_cons]
  split<;>simp<;>omega
theorem Sk {l:List Al} (hs:Dx l) (k:List UInt8):∀(j:Nat) (h:j<l.length),Wo l[j].key k=true↔j<En l k:=by
 induction l with
 | nil=>intro j h; simp at h
 | cons p r ih=>
  obtain ⟨h1,h2⟩:=List.pairwise_cons.1 hs
  intro j h
  unfold En
  rw [List.takeWhile_cons]
  by_cases hp:Wo p.key k=true
  ·rw [if_pos hp]
   cases j with
   | zero=>simp [hp]
   | succ j=>simpa [En] using ih h2 j (by simpa using h)
  ·rw [if_neg hp]
   simp only [List.length_nil,Nat.not_lt_zero,iff_false]
   cases j with
   | zero=>exact hp
   | succ j=>
    intro hh
    have hm:r[j]'(by simpa using h)∈r:=List.getElem_mem _
    exact hp (Nk (h1 _ hm) hh)
theorem YA (a:Nat) (h:a≤4194304):IntKind.i64.wrap (Lh .u64 (IntKind.u64.wrap (IntKind.i64.wrap (a:Int))) 1)=((a / 2:Nat):Int):=by
 have h1:IntKind.u64.wrap (a:Int)=a:=by
  have e:IntKind.u64.wrap (a:Int)=(a:Int)%18446744073709551616:=by simp [IntKind.wrap,IntKind.bits,IntKind.signed]
  rw [e]; omega
 have h2:(2:Int)^min (1:Int).toNat 64=2:=by decide
 rw [wr (n:=(a:Int)) ⟨by omega,by omega⟩,h1]
 simp only [Lh,h2]
 rw [Int.fdiv_eq_ediv_of_nonneg _ (by omega),wr ⟨by omega,by omega⟩]
 omega
def Jm (l:List Al) (k:List UInt8):Bool:=match l.drop (En l k) with
 | p::_=>p.key==k
 | []=>false
theorem NM {l:List Al} (hs:Dx l) (hl:l.length≤1048576) (k:List UInt8):NL l k (fun a b=>bQ a b)=some ((En l k:Int),Jm l k):=by
 have hc:=Tu l k
 obtain ⟨r,r1,r2⟩:=Hq (step:=Tc l k (fun a b=>bQ a b)) (fun s=>∃a b:Nat,s=((a:Int),(b:Int))∧a≤En l k∧En l k≤b∧b≤l.length) (fun s=>(s.2-s.1).toNat) (fun r=>r=(En l k:Int)) (0,(l.length:Int)) ⟨0,l.length,rfl,by omega,hc,by omega⟩ (by
  rintro _ ⟨a,b,rfl,h1,h2,h3⟩
  simp only [Tc]
  by_cases h0:a<b
  ·rw [if_pos (decide_eq_true (by omega))]
   have e1:IntKind.i64.wrap (Lh .u64 (IntKind.u64.wrap (IntKind.i64.wrap ((a:Int)+(b:Int)))) 1)=(((a+b) / 2:Nat):Int):=by
    rw [show ((a:Int)+(b:Int))=((a+b:Nat):Int) from by omega]; exact YA _ (by omega)
   have hm:(a+b) / 2<l.length:=by omega
   simp only [e1,Bn,Mg l _ hm,Option.bind_some,dL,KM]
   have hi:=Sk hs k _ hm
   by_cases hp:Wo l[(a+b) / 2].key k=true
   ·have:=hi.1 hp
    rw [if_pos hp,w1 (by omega)]
    exact .inl ⟨_,rfl,⟨(a+b) / 2+1,b,rfl,by omega,by omega,by omega⟩,by simp only; omega⟩
   ·have:¬(a+b) / 2<En l k:=fun h=>hp (hi.2 h)
    rw [if_neg hp]
    exact .inl ⟨_,rfl,⟨a,(a+b) / 2,rfl,by omega,by omega,by omega⟩,by simp only; omega⟩
  ·rw [if_neg (by simp; omega)]
   exact .inr ⟨_,rfl,by omega⟩)
 simp only [NL,r1,r2,Option.bind_some]
 by_cases h0:En l k<l.length
 ·simp only [decide_eq_true (show ((En l k:Nat):Int)<(l.length:Int) by omega),beq_self_eq_true,if_true,Mg l _ h0,Option.bind_some,dL,KL,cond_true]
  unfold Jm
  rw [List.drop_eq_getElem_cons h0]
 ·rw [decide_eq_false (show ¬((En l k:Nat):Int)<(l.length:Int) by omega)]
  simp only [show (false==true)=false from rfl,Bool.false_eq_true,if_false,Option.bind_some,cond_false]
  unfold Jm
  rw [List.drop_of_length_le (by omega)]
def Ju (l:List Al) (c:Ae):List Al:=
 (l.take (En l c.key)++(if c.Dm=true then [] else [Al.mk c.key c.value]))++l.drop (En l c.key+if Jm l c.key=true then 1 else 0)
def Hb (l:List Al) (cs:List Ae):List Al:=cs.foldl Ju l
theorem Xt {l:List Al} {k:List UInt8} (h:Jm l k=true):En l k<l.length:=by
 unfold Jm at h
 by_cases h0:En l k<l.length
 ·exact h0
 ·rw [List.drop_of_length_le (by omega)] at h; cases h
theorem iL (l:List Al) (c:Ae):(Ju l c).length≤l.length+1:=by
 have:=Tu l c.key
 unfold Ju
 simp only [List.length_append,List.length_take,List.length_drop]
 split<;>split<;>simp<;>omega
end Go.Ev
end
section
namespace Go.Ev
theorem nW {l:List Al} (hs:Dx l) (k:List UInt8) {a:Al} (h:a∈l.take (En l k)):Wo a.key k=true:=by
 obtain ⟨j,hj,rfl⟩:=List.getElem_of_mem h
 have hj':j<En l k∧j<l.length:=by rw [List.length_take] at hj; omega
 rw [List.getElem_take]
 exact (Sk hs k j hj'.2).2 hj'.1
theorem dP {l:List Al} (hs:Dx l) (k:List UInt8) {b:Al} (h:b∈l.drop (En l k+if Jm l k=true then 1 else 0)):Wo k b.key=true:=by
 obtain ⟨j,hj,rfl⟩:=List.getElem_of_mem h
 rw [List.getElem_drop]
 rw [List.length_drop] at hj
 have hge:∀(i:Nat) (hi:i<l.length),En l k≤i→¬Wo l[i].key k=true:=fun i hi h1 h2=>by
  have:=(Sk hs k i hi).1 h2; omega
 have hlt:∀(i m:Nat) (hi:i<l.length) (hm:m<l.length),i<m→Wo l[i].key l[m].key=true:=fun i m hi hm him=>List.pairwise_iff_getElem.1 hs i m hi hm him
 by_cases hh:Jm l k=true
 ·have hcl:=Xt hh
  rw [if_pos hh] at hj
  have hk:l[En l k].key=k:=by
   unfold Jm at hh
   rw [List.drop_eq_getElem_cons hcl] at hh
   exact beq_iff_eq.1 hh
  have hidx:En l k+(if Jm l k=true then 1 else 0)+j=En l k+1+j:=by rw [if_pos hh]
  have:=hlt (En l k) (En l k+1+j) hcl (by omega) (by omega)
  rw [hk] at this
  simpa only [hidx] using this
 ·rw [if_neg hh] at hj
  have hidx:En l k+(if Jm l k=true then 1 else 0)+j=En l k+j:=by rw [if_neg hh]; omega
  simp only [hidx]
  have hcl:En l k<l.length:=by omega
  have hk:l[En l k].key≠k:=by
   intro e
   apply hh
   unfold Jm
   rw [List.drop_eq_getElem_cons hcl]
   exact beq_iff_eq.2 e
  have h0:Wo k l[En l k].key=true:=by
   rcases dV l[En l k].key k with h | h | h
   ·exact absurd h (hge _ hcl (by omega))
   ·exact absurd h hk
   ·exact h
  cases j with
  | zero=>exact h0
  | succ j=>exact Nk h0 (hlt (En l k) (En l k+(j+1)) hcl (by omega) (by omega))
theorem Rh {l:List Al} (hs:Dx l) (c:Ae):Dx (Ju l c):=by
 unfold Ju Dx
 rw [List.pairwise_append,List.pairwise_append]
 refine ⟨⟨hs.sublist (List.take_sublist _ _),?_,?_⟩,hs.sublist (List.drop_sublist _ _),?_⟩
 ·split<;>simp
 ·intro a ha b hb
  split at hb
  ·cases hb
  ·simp only [List.mem_singleton] at hb; subst hb
   exact nW hs c.key ha
 ·intro a ha b hb
  rw [List.mem_append] at ha
  rcases ha with ha | ha
  ·exact Nk (nW hs c.key ha) (dP hs c.key hb)
  ·split at ha
   ·cases ha
   ·simp only [List.mem_singleton] at ha; subst ha
    exact dP hs c.key hb
theorem Rg (cs:List Ae):∀ {l:List Al},Dx l→Dx (Hb l cs):=by
 induction cs with
 | nil=>intro l h; exact h
 | cons c r ih=>intro l h; exact ih (Rh h c)
theorem Ig (cs:List Ae):∀l:List Al,(Hb l cs).length≤l.length+cs.length:=by
 induction cs with
 | nil=>intro l; simp [Hb]
 | cons c r ih=>
  intro l
  have h1:=ih (Ju l c); have h2:=iL l c
  show (Hb (Ju l c) r).length≤_
  simp only [List.length_cons]; omega
theorem Vy (l:List Al) (cs:List Ae) (c:Ae):Hb l (cs++[c])=Ju (Hb l cs) c:=by simp [Hb]
theorem fU {l:List Al} (hs:Dx l) (hl:l.length≤1000000) (c:Ae) (j:Nat) (hj:j≤1000) (cs:List Ae) (hc:cs[j]? = some c):
  Nf cs (l,(j:Int))=some (.inl (Ju l c,((j+1:Nat):Int))):=by
 obtain ⟨hjl,rfl⟩:=List.getElem?_eq_some_iff.1 hc
 have hcut:=Tu l cs[j].key
 have core:∀(q:List Al) (b:Bool),q.take (En l cs[j].key)=l.take (En l cs[j].key)→q.drop (En l cs[j].key)=l.drop (En l cs[j].key+if Jm l cs[j].key=true then 1 else 0)→q.length≤1000000→En l cs[j].key≤q.length →
   Ps (j:Int) cs[j] ((En l cs[j].key:Int),b) q=some (.inl (Ju l cs[j],((j+1:Nat):Int))):=by
  intro q b h1 h2 h3 h4
  simp only [Ps,Sy]
  by_cases hg:cs[j].Dm=true
  ·rw [if_neg (by simp [hg]),w1 (by omega)]
   have:q=Ju l cs[j]:=by
    unfold Ju
    rw [if_pos hg,List.append_nil,←h1,←h2,List.take_append_drop]
   rw [this]
  ·rw [if_pos (by simpa using hg)]
   have e:NO q (En l cs[j].key:Int) [Al.mk cs[j].key cs[j].value]=some (Ju l cs[j],[Al.mk cs[j].key cs[j].value]):=by
    unfold NO Ju
    rw [if_pos ⟨⟨by omega,by omega⟩,by simp,by simp; omega⟩,Int.toNat_natCast,h1,h2,if_neg hg]
   rw [e]
   simp only [Option.bind_some]
   rw [if_pos trivial,w1 (by omega)]
 simp only [Nf]
 rw [if_pos (decide_eq_true (by omega)),Mg cs j hjl]
 simp only [Option.bind_some]
 rw [NM hs (by omega)]
 simp only [Option.bind_some]
 by_cases hh:Jm l cs[j].key=true
 ·have hcl:=Xt hh
  rw [if_pos hh,w1 (by omega)]
  have e:NN l (En l cs[j].key:Int) ((En l cs[j].key+1:Nat):Int)=some (l.take (En l cs[j].key)++l.drop (En l cs[j].key+1)):=by
   unfold NN
   rw [if_pos ⟨⟨by omega,by omega,by omega⟩,by omega⟩,Int.toNat_natCast,Int.toNat_natCast]
  rw [e]
  simp only [Option.bind_some]
  have ht:(l.take (En l cs[j].key)).length=En l cs[j].key:=by rw [List.length_take]; omega
  refine core _ _ ?_ ?_ (by simp; omega) (by simp; omega)
  ·rw [List.take_append_of_le_length (by omega),List.take_take,Nat.min_self]
  ·rw [if_pos hh,List.drop_append_of_le_length (by omega),List.drop_of_length_le (by omega),List.nil_append]
 ·rw [if_neg hh]
  exact core l _ rfl (by rw [if_neg hh]; rfl) hl (by omega)
theorem Xp {l:List Al} (hs:Dx l) (hl:l.length≤900000) (cs:List Ae) (hcs:cs.length≤1000):fS l cs=some (Hb l cs,decide (((Hb l cs).length:Int)≤100)):=by
 obtain ⟨r,r1,r2⟩:=Hq (step:=Nf cs) (fun s=>∃j:Nat,j≤cs.length∧s=(Hb l (cs.take j),(j:Int))) (fun s=>(cs.length-s.2).toNat) (fun r=>r=Hb l cs) (l,0) ⟨0,by omega,by simp [Hb]⟩ (by
  rintro _ ⟨j,h1,rfl⟩
  by_cases h0:j<cs.length
  ·have hlen:=Ig (cs.take j) l
   rw [List.length_take] at hlen
   rw [fU (Rg _ hs) (by omega) cs[j] j (by omega) cs (List.getElem?_eq_getElem h0)]
   refine .inl ⟨_,rfl,⟨j+1,by omega,?_⟩,by simp only; omega⟩
   rw [Jf cs j h0,Vy]
  ·have:j=cs.length:=by omega
   subst this
   simp only [Nf]
   rw [if_neg (by simp)]
   exact .inr ⟨_,rfl,by rw [List.take_length]⟩)
 simp only [fS,dJ l (by omega),r1,r2,Option.bind_some]
end Go.Ev
end
section
namespace Go.Ev
theorem fX {l:List Al} (hs:Dx l) (hl:l.length≤1000000) (c:Ae):Ch (Pv l c) 0=some (En l c.key:Int):=by
 have hc:=Tu l c.key
 obtain ⟨r,r1,r2⟩:=Hq (step:=Pv l c) (fun s=>∃j:Nat,s=(j:Int)∧j≤En l c.key) (fun s=>(En l c.key-s).toNat) (fun r=>r=(En l c.key:Int)) 0 ⟨0,rfl,by omega⟩ (by
  rintro _ ⟨j,rfl,h1⟩
  simp only [Pv]
  by_cases h0:j<l.length
  ·have hg:l[((j:Int)).toNat]? = some l[j]:=by rw [Int.toNat_natCast]; exact List.getElem?_eq_getElem h0
   simp only [decide_eq_true (show ((j:Nat):Int)<(l.length:Int) by omega),beq_self_eq_true,if_true,Mg l j h0,hg,Option.bind_some,Bn,cond_true]
   have hi:=Sk hs c.key j h0
   by_cases hp:Op.bytesLess l[j].key c.key=true
   ·have:=hi.1 hp
    rw [if_pos hp,w1 (by omega)]
    exact .inl ⟨_,rfl,⟨j+1,rfl,by omega⟩,by omega⟩
   ·have:¬j<En l c.key:=fun h=>hp (hi.2 h)
    rw [if_neg hp]
    exact .inr ⟨_,rfl,by omega⟩
  ·simp only [decide_eq_false (show ¬((j:Nat):Int)<(l.length:Int) by omega),show (false==true)=false from rfl,Bool.false_eq_true,if_false,Option.bind_some,Bn,cond_false]
   exact .inr ⟨_,rfl,by omega⟩)
 rw [r1,r2]
theorem fY {l:List Al} (hs:Dx l) (hl:l.length≤1000000) (j:Nat) (hj:j≤1000) (cs:List Ae) (hjl:j<cs.length):
  Ng cs (l,(j:Int))=some (.inl (Ju l cs[j],((j+1:Nat):Int))):=by
 have hc:=Tu l cs[j].key
 have core:∀q:List Al,q=l.drop (En l cs[j].key+if Jm l cs[j].key=true then 1 else 0)→Pu l (j:Int) cs[j] (En l cs[j].key:Int) q=some (.inl (Ju l cs[j],((j+1:Nat):Int))):=by
  rintro q rfl
  have e:Hx l 0 (En l cs[j].key:Int)=some (l.take (En l cs[j].key)):=by
   have:=Qj l 0 (En l cs[j].key) (by omega) hc
   simpa using this
  have hd:(l.drop (En l cs[j].key+if Jm l cs[j].key=true then 1 else 0)).length≤l.length:=by rw [List.length_drop]; omega
  have ht:(l.take (En l cs[j].key)).length≤l.length:=by rw [List.length_take]; omega
  simp only [Pu,e,Option.bind_some,Tb]
  by_cases hg:cs[j].Dm=true
  ·rw [if_neg (by simp [hg]),if_pos (by omega),w1 (by omega)]
   unfold Ju
   rw [if_pos hg,List.append_nil]
  ·rw [if_pos (by simpa using hg),if_pos (by simp only [List.length_singleton]; omega),if_pos (by simp only [List.length_append,List.length_singleton]; omega),w1 (by omega)]
   unfold Ju
   rw [if_neg hg]
 simp only [Ng]
 rw [if_pos (decide_eq_true (by omega)),Mg cs j hjl]
 simp only [Option.bind_some,fX hs hl,List.nil_append]
 have e1:Hx l (En l cs[j].key:Int) (l.length:Int)=some (l.drop (En l cs[j].key)):=by
  rw [Qj l _ _ hc (by omega),List.take_length]
 rw [e1]
 have hd:(l.drop (En l cs[j].key)).length=l.length-En l cs[j].key:=List.length_drop
 simp only [Option.bind_some]
 rw [if_pos (by simp only [List.length_nil]; omega)]
 by_cases h0:En l cs[j].key<l.length
 ·have hcons:=List.drop_eq_getElem_cons h0
  have hi:Ew (l.drop (En l cs[j].key)) 0=some l[En l cs[j].key]:=by rw [hcons]; rfl
  have hg:(l.drop (En l cs[j].key))[(0:Int).toNat]? = some l[En l cs[j].key]:=by rw [hcons]; rfl
  have hh:Jm l cs[j].key=(l[En l cs[j].key].key==cs[j].key):=by unfold Jm; rw [hcons]
  simp only [decide_eq_true (show (((l.drop (En l cs[j].key)).length:Nat):Int)>0 by omega),beq_self_eq_true,if_true,hi,hg,Option.bind_some,Bn,cond_true]
  rw [←hh]
  by_cases hk:Jm l cs[j].key=true
  ·rw [if_pos hk]
   have e2:Hx (l.drop (En l cs[j].key)) 1 ((l.drop (En l cs[j].key)).length:Int)=some (l.drop (En l cs[j].key+1)):=by
    have:=Qj (l.drop (En l cs[j].key)) 1 (l.drop (En l cs[j].key)).length (by omega) (by omega)
    rw [List.take_length,List.drop_drop] at this
    exact this
   rw [e2]
   exact core _ (by rw [if_pos hk])
  ·rw [if_neg hk]
   exact core _ (by rw [if_neg hk]; rfl)
 ·have hn:Jm l cs[j].key=false:=by
   cases hk:Jm l cs[j].key
   ·rfl
   ·exact absurd (Xt hk) h0
  simp only [decide_eq_false (show ¬(((l.drop (En l cs[j].key)).length:Nat):Int)>0 by omega),show (false==true)=false from rfl,Bool.false_eq_true,if_false,Option.bind_some,Bn,cond_false]
  exact core _ (by rw [hn]; rfl)
theorem NF {l:List Al} (hs:Dx l) (hl:l.length≤900000) (cs:List Ae) (hcs:cs.length≤1000):NE l cs=some (Hb l cs):=by
 obtain ⟨r,r1,r2⟩:=Hq (step:=Ng cs) (fun s=>∃j:Nat,j≤cs.length∧s=(Hb l (cs.take j),(j:Int))) (fun s=>(cs.length-s.2).toNat) (fun r=>r=Hb l cs) (([]:List Al)++l,0) ⟨0,by omega,by simp [Hb]⟩ (by
  rintro _ ⟨j,h1,rfl⟩
  by_cases h0:j<cs.length
  ·have hlen:=Ig (cs.take j) l
   rw [List.length_take] at hlen
   rw [fY (Rg _ hs) (by omega) j (by omega) cs h0]
   refine .inl ⟨_,rfl,⟨j+1,by omega,?_⟩,by simp only; omega⟩
   rw [Jf cs j h0,Vy]
  ·have:j=cs.length:=by omega
   subst this
   simp only [Ng]
   rw [if_neg (by simp)]
   exact .inr ⟨_,rfl,by rw [List.take_length]⟩)
 simp only [NE]
 rw [if_pos (by simp only [List.length_nil]; omega),r1]
 simp only [Option.bind_some,r2]
end Go.Ev
end
section
namespace Go.Ev
def Ca (bs:List (List Ae)):List Al:=bs.foldl Hb []
theorem La (bs:List (List Ae)) (b:List Ae):Ca (bs++[b])=Hb (Ca bs) b:=by simp [Ca]
def SK (p:Al):Prop:=(1≤p.key.length∧p.key.length≤60)∧p.value.length≤400
def Jh (l:List Al):Prop:=Dx l∧∀p∈l,SK p
theorem aZ {l:List Al} (h:Jh l) {c:Ae} (hc:Ht c):Jh (Ju l c):=by
 refine ⟨Rh h.1 c,fun p hp=>?_⟩
 unfold Ju at hp
 rw [List.mem_append,List.mem_append] at hp
 rcases hp with (hp | hp) | hp
 ·exact h.2 p (List.mem_of_mem_take hp)
 ·split at hp
  ·cases hp
  ·simp only [List.mem_singleton] at hp; subst hp; exact ⟨hc.1,hc.2.1⟩
 ·exact h.2 p (List.mem_of_mem_drop hp)
theorem aY (cs:List Ae) (hc:∀c∈cs,Ht c):∀ {l:List Al},Jh l→Jh (Hb l cs):=by
 induction cs with
 | nil=>intro l h; exact h
 | cons c r ih=>intro l h; exact ih (fun x hx=>hc x (by simp [hx])) (aZ h (hc c (by simp)))
def Fy (bs:List (List Ae)):Prop:=bs.length≤8∧∀b∈bs,Lk b
theorem cC (bs:List (List Ae)) (h:∀b∈bs,Lk b):∀l,Jh l→Jh (bs.foldl Hb l)∧(bs.foldl Hb l).length≤l.length+4*bs.length:=by
 induction bs with
 | nil=>intro l hl; exact ⟨hl,by simp⟩
 | cons b r ih=>
  intro l hl
  have hb:=h b (by simp)
  obtain ⟨h1,h2⟩:=ih (fun x hx=>h x (by simp [hx])) (Hb l b) (aY b (fun c hc=>(hb.2 c hc).right) hl)
  have h3:=Ig b l
  have:=hb.1
  exact ⟨h1,by simp only [List.foldl_cons,List.length_cons]; omega⟩
theorem SW:Jh []:=⟨List.Pairwise.nil,fun p hp=>by cases hp⟩
theorem Fw {bs:List (List Ae)} (h:Fy bs):Jh (Ca bs)∧(Ca bs).length≤32:=by
 obtain ⟨h1,h2⟩:=cC bs h.2 [] SW
 exact ⟨h1,by have:=h.1; simp only [List.length_nil] at h2; show (bs.foldl Hb []).length≤32; omega⟩
theorem Fy.take {bs:List (List Ae)} (h:Fy bs) (j:Nat):Fy (bs.take j):=⟨by rw [List.length_take]; have:=h.1; omega,fun b hb=>h.2 b (List.mem_of_mem_take hb)⟩
theorem Zm {bs:List (List Ae)} (h:Fy bs) {d:Av} (hd:Lg (bs.map Ck) d) (hL:∀p∈bs.map Ck,p.length≤2000):nK d=some (Ca bs):=by
 have hb8:=h.1
 simp only [nK,Sp d hd.ok,hd.read,Option.bind_some,hd.scan hL]
 obtain ⟨r,r1,r2⟩:=Hq (step:=Sz (bs.map Ck,(((Br (bs.map Ck)).length:Nat):Int))) (fun s=>∃j:Nat,j≤bs.length∧s=(Ca (bs.take j),(j:Int))) (fun s=>(bs.length-s.2).toNat) (fun r=>r=Ca bs) ([],0) ⟨0,by omega,by simp [Ca]⟩ (by
  rintro _ ⟨j,h1,rfl⟩
  simp only [Sz]
  by_cases h0:j<bs.length
  ·have hm:j<(bs.map Ck).length:=by simpa using h0
   have hg:(bs.map Ck)[((j:Nat):Int).toNat]? = some (Ck bs[j]):=by rw [Int.toNat_natCast,List.getElem?_map,List.getElem?_eq_getElem h0]; rfl
   have hb:=h.2 bs[j] (List.getElem_mem h0)
   obtain ⟨s1,s2⟩:=Fw (h.take j)
   have hbl:=hb.1
   have hl:=Ig bs[j] (Ca (bs.take j))
   rw [if_pos (decide_eq_true (by omega)),Mg _ j hm]
   simp only [Option.bind_some,hg,dH bs[j] hb.right,Bool.not_true,Bool.false_eq_true,if_false]
   rw [Xp s1.1 (by omega) bs[j] (by omega)]
   simp only [Option.bind_some,decide_eq_true (show (((Hb (Ca (bs.take j)) bs[j]).length:Nat):Int)≤100 by omega),Bool.not_true,Bool.false_eq_true,if_false]
   refine .inl ⟨_,rfl,⟨j+1,by omega,?_⟩,by simp only; rw [w1 (by omega)]; omega⟩
   rw [Jf bs j h0,La,w1 (by omega)]
  ·have:j=bs.length:=by omega
   subst this
   rw [if_neg (by simp)]
   exact .inr ⟨_,rfl,by rw [List.take_length]⟩)
 rw [r1,r2]
 rfl
theorem MW {bs:List (List Ae)} (h:Fy bs):MV (bs.map Ck)=some (Ca bs):=by
 have hb8:=h.1
 obtain ⟨r,r1,r2⟩:=Hq (step:=Ta (bs.map Ck)) (fun s=>∃j:Nat,j≤bs.length∧s=(Ca (bs.take j),(j:Int))) (fun s=>(bs.length-s.2).toNat) (fun r=>r=Ca bs) (([]:List Al),0) ⟨0,by omega,by simp [Ca]⟩ (by
  rintro _ ⟨j,h1,rfl⟩
  simp only [Ta]
  by_cases h0:j<bs.length
  ·have hm:j<(bs.map Ck).length:=by simpa using h0
   have hb:=h.2 bs[j] (List.getElem_mem h0)
   obtain ⟨s1,s2⟩:=Fw (h.take j)
   have hbl:=hb.1
   have hl:=Ig bs[j] (Ca (bs.take j))
   rw [if_pos (decide_eq_true (by omega)),Mg _ j hm]
   simp only [Option.bind_some,List.getElem_map,NQ bs[j] hb.right,Bool.not_true,Bool.false_eq_true,if_false]
   rw [NF s1.1 (by omega) bs[j] (by omega)]
   simp only [Option.bind_some,decide_eq_false (show ¬(((Hb (Ca (bs.take j)) bs[j]).length:Nat):Int)>100 by omega),Bool.false_eq_true,if_false]
   refine .inl ⟨_,rfl,⟨j+1,by omega,?_⟩,by simp only; rw [w1 (by omega)]; omega⟩
   rw [Jf bs j h0,La,w1 (by omega)]
  ·have:j=bs.length:=by omega
   subst this
   rw [if_neg (by simp)]
   exact .inr ⟨_,rfl,by rw [List.take_length]⟩)
 simp only [MV,r1,Option.bind_some,r2]
theorem Kn {bs:List (List Ae)} (h:Fy bs):∀p∈bs.map Ck,p.length≤2000:=by
 intro p hp
 obtain ⟨b,hb,rfl⟩:=List.mem_map.1 hp
 have:=Jw b (h.2 b hb).right.2
 have:=(h.2 b hb).1
 omega
theorem nG {bs:List (List Ae)} (h:Fy bs) {d:Av} (hd:Lg (bs.map Ck) d):MO d=some (Ca bs,0):=by
 simp only [MO,dC d hd.ok,Option.bind_some,Zm h hd (Kn h)]
 rfl
theorem nH {bs:List (List Ae)} (h:Fy bs) {d:Av} (hd:Lg (bs.map Ck) d):MP d=some (Ca bs,0):=by
 have h3:=hd.2.2.1
 have e:MU d=some (bs.map Ck,0):=by
  simp only [MU,LF d hd.ok,LI d hd.ok,hd.read,Option.bind_some,gP d.held (by omega),hd.scan (Kn h)]
  rfl
 simp only [MP,e,Option.bind_some,MW h]
 rfl
theorem nF {bs:List (List Ae)} {b:List Ae} (h:Fy (bs++[b])) {d:Av} (hd:Lg (bs.map Ck) d):
  (∃d',nE d b=some (d',0)∧Lg ((bs++[b]).map Ck) d')∨∃d',nE d b=some (d',9):=by
 have hbs:Fy bs:=⟨by have:=h.1; simp at this; omega,fun x hx=>h.2 x (by simp [hx])⟩
 have hb:Lk b:=h.2 b (by simp)
 obtain ⟨s1,s2⟩:=Fw hbs
 have hbl:=hb.1
 have hl:=Ig b (Ca bs)
 have hlen:=Jw b hb.right.2
 have e:=mY hd (Kn hbs) (Ck b) (by omega)
 simp only [nE,Xn hb.right,dC d hd.ok,Xo hb.right,Option.bind_some,Bool.not_true,show (false==false)=true from rfl,if_true,cond_false,Bool.false_eq_true,if_false,Zm hbs hd (Kn hbs)]
 rw [Xp s1.1 (by omega) b (by omega)]
 simp only [Option.bind_some,decide_eq_true (show (((Hb (Ca bs) b).length:Nat):Int)≤100 by omega),Bool.not_true,Bool.false_eq_true,if_false,dG b hb.right,e]
 by_cases c:(Br (bs.map Ck)).length+(Bv (Ck b)).length≤4096
 ·rw [if_pos c]
  refine .inl ⟨_,rfl,?_⟩
  rw [List.map_append,List.map_singleton]
  exact gE hd (Ck b) c
 ·rw [if_neg c]
  exact .inr ⟨_,rfl⟩
theorem dD {l:List Al} (h:Jh l) (hl:l.length≤100):nA l=some true:=by
 have e:=Yz (n:=l.length) (fun _=>true) (step:=Mv l) (fun k hk _=>by
  have hp:=h.2 _ (List.getElem_mem hk)
  have h1:=hp.1.1; have h2:=hp.1.2; have h3:=hp.2
  have e1:bO l[k].key=some true:=by simp [bO,iC,decide_eq_true (show (1:Int)≤(l[k].key.length:Int) by omega),decide_eq_true (show ((l[k].key.length:Nat):Int)≤60 by omega)]
  simp only [Mv]
  rw [if_pos (decide_eq_true (by omega)),Mg l k hk]
  simp only [Option.bind_some,e1,Bool.not_true,cond_false,decide_eq_false (show ¬((l[k].value.length:Nat):Int)>400 by omega),show (false==false)=true from rfl,Bool.true_and]
  by_cases h0:k=0
  ·subst h0
   simp [Bn]; decide
  ·have hk1:IntKind.i64.wrap ((k:Int)-1)=((k-1:Nat):Int):=by rw [wr ⟨by omega,by omega⟩]; omega
   have hlt:Wo l[k-1].key l[k].key=true:=List.pairwise_iff_getElem.1 h.1 (k-1) k (by omega) hk (by omega)
   simp only [decide_eq_true (show ((k:Nat):Int)>0 by omega),beq_self_eq_true,if_true,hk1,Mg l (k-1) (by omega),Option.bind_some,Bn,cond_true]
   rw [show Op.bytesLess l[k-1].key l[k].key=true from hlt]
   simp only [Bool.not_true,Bool.false_eq_true,if_false]
   rw [w1 (by omega)]) (by
  simp only [Mv]
  rw [if_neg (by simp)])
 simp only [nA]
 have:=e
 rw [show (List.range l.length).all (fun _=>true)=true from List.all_eq_true.2 fun _ _=>rfl] at this
 cases hi:Ch (Mv l) 0 with
 | none=>rw [hi] at this; cases this
 | some r=>
  rw [hi] at this
  simp only [Option.bind_some] at this ⊢
  cases r with
  | inl u=>simp only [decide_eq_true (show ((l.length:Nat):Int)≤100 by omega)]
  | inr q=>simpa using this
theorem MN {bs:List (List Ae)} {b:List Ae} (h:Fy (bs++[b])):MM (Ca bs) b=some (Ca (bs++[b]),0):=by
 have hbs:Fy bs:=⟨by have:=h.1; simp at this; omega,fun x hx=>h.2 x (by simp [hx])⟩
 have hb:Lk b:=h.2 b (by simp)
 obtain ⟨s1,s2⟩:=Fw hbs
 have hbl:=hb.1
 have hl:=Ig b (Ca bs)
 simp only [MM,mZ,decide_eq_true (show (((Ca bs).length:Nat):Int)≤4096 by omega),Option.bind_some,Bool.not_true,show (false==false)=true from rfl,if_true,Xn hb.right,cond_false,Bool.false_eq_true,if_false,dD s1 (by omega),Xo hb.right]
 rw [Xp s1.1 (by omega) b (by omega)]
 simp only [Option.bind_some,decide_eq_true (show (((Hb (Ca bs) b).length:Nat):Int)≤100 by omega),Bool.not_true,Bool.false_eq_true,if_false,La]
end Go.Ev
end
section
namespace Go.Ev
theorem oX (l:List Al) (hl:l.length≤1048576):mX l l=some true:=by
 obtain ⟨r,r1,r2⟩:=Hq (step:=So l l) (fun s=>∃j:Nat,s=(j:Int)∧j≤l.length) (fun s=>(l.length-s).toNat) (fun r=>r = .inl ()) 0 ⟨0,rfl,by omega⟩ (by
  rintro _ ⟨j,rfl,h1⟩
  simp only [So]
  by_cases h0:j<l.length
  ·rw [if_pos (decide_eq_true (by omega)),Mg l j h0]
   simp only [Option.bind_some,beq_self_eq_true,Bool.and_self,Bool.not_true,Bool.false_eq_true,if_false,w1 (show j<4611686018427387904 by omega)]
   exact .inl ⟨_,rfl,⟨j+1,rfl,by omega⟩,by omega⟩
  ·rw [if_neg (by simp; omega)]
   exact .inr ⟨_,rfl,rfl⟩)
 simp only [mX]
 rw [if_neg (by simp),r1,r2]
 rfl
abbrev pre6:List UInt8:=[108,101,97,115,101,47]
def hp (k:List UInt8):Bool:=decide (6≤k.length)&&(k.take 6==pre6)
theorem YL (k:List UInt8) (h:6≤k.length):Hx k 0 6=some (k.take 6):=by
 have:=Qj k 0 6 (by omega) h
 exact this
theorem NA (x:Al):fW x pre6=some (!hp x.key):=by
 have e:MG x.key pre6=some (hp x.key):=by
  simp only [MG,show ((pre6.length:Nat):Int)=6 from rfl]
  by_cases h:6≤x.key.length
  ·simp only [decide_eq_true (show ((x.key.length:Nat):Int)≥6 by omega),beq_self_eq_true,if_true,YL _ h,Option.bind_some,Bn,cond_true,hp,decide_eq_true h,Bool.true_and]
  ·simp only [decide_eq_false (show ¬((x.key.length:Nat):Int)≥6 by omega),show (false==true)=false from rfl,Bool.false_eq_true,if_false,Option.bind_some,Bn,cond_false,hp,decide_eq_false h,Bool.false_and]
 simp only [fW,TB,e,Option.bind_some]
theorem MR {l:List Al} (h:Jh l) (hl:l.length≤100):MQ l pre6=some (l.filter fun x=>hp x.key,0):=by
 have e1:MX pre6=some true:=by simp only [MX]; rfl
 have e2:=MZ l (fun z=>fW z pre6) (fun x => !hp x.key) (fun x _=>NA x) (by omega)
 have e3:fV l=some l:=dJ l (by omega)
 simp only [MQ,mZ,decide_eq_true (show ((l.length:Nat):Int)≤4096 by omega),Option.bind_some,Bool.not_true,show (false==false)=true from rfl,if_true,e1,cond_false,Bool.false_eq_true,if_false,dD h hl,e3,e2,Bool.not_not]
theorem YE (l:List Al) (n:Int) (h:Dx l) (hl:l.length≤100):Ch (Pp (l,n)) 1=some (.inl ()):=by
 obtain ⟨r,r1,r2⟩:=Hq (step:=Pp (l,n)) (fun s=>∃j:Nat,s=(j:Int)∧1≤j) (fun s=>(l.length-s).toNat) (fun r=>r = .inl ()) 1 ⟨1,rfl,by omega⟩ (by
  rintro _ ⟨j,rfl,h1⟩
  simp only [Pp]
  by_cases h0:j<l.length
  ·have hk1:IntKind.i64.wrap ((j:Int)-1)=((j-1:Nat):Int):=by rw [wr ⟨by omega,by omega⟩]; omega
   have hlt:Op.bytesLess l[j-1].key l[j].key=true:=List.pairwise_iff_getElem.1 h (j-1) j (by omega) h0 (by omega)
   have hg:l[((j-1:Nat):Int).toNat]? = some l[j-1]:=by rw [Int.toNat_natCast]; exact List.getElem?_eq_getElem (by omega)
   have hg2:l[((j:Nat):Int).toNat]? = some l[j]:=by rw [Int.toNat_natCast]; exact List.getElem?_eq_getElem h0
   rw [if_pos (decide_eq_true (by omega)),hk1,Mg l (j-1) (by omega)]
   simp only [Option.bind_some,hg,Mg l j h0,hg2,hlt,Bool.not_true,Bool.false_eq_true,if_false,w1 (show j<4611686018427387904 by omega)]
   exact .inl ⟨_,rfl,⟨j+1,rfl,by omega⟩,by omega⟩
  ·rw [if_neg (by simp; omega)]
   exact .inr ⟨_,rfl,rfl⟩)
 rw [r1,r2]
theorem YF (l:List Al) (n:Int) (hl:l.length≤100):Ch (Pq (l,n)) (0,0)=some (((l.filter fun x=>hp x.key).length:Nat):Int):=by
 obtain ⟨r,r1,r2⟩:=Hq (step:=Pq (l,n)) (fun s=>∃j:Nat,s=((((l.take j).filter fun x=>hp x.key).length:Int),(j:Int))∧j≤l.length) (fun s=>(l.length-s.2).toNat) (fun r=>r=(((l.filter fun x=>hp x.key).length:Nat):Int)) (0,0) ⟨0,by simp,by omega⟩ (by
  rintro _ ⟨j,rfl,h1⟩
  simp only [Pq]
  by_cases h0:j<l.length
  ·have hg:l[((j:Nat):Int).toNat]? = some l[j]:=by rw [Int.toNat_natCast]; exact List.getElem?_eq_getElem h0
   have hlen:((l.take j).filter fun x=>hp x.key).length≤j:=by
    have:=List.length_filter_le (fun x:Al=>hp x.key) (l.take j)
    rw [List.length_take] at this; omega
   rw [if_pos (decide_eq_true (by omega)),Mg l j h0]
   simp only [Option.bind_some,hg]
   by_cases h6:6≤l[j].key.length
   ·simp only [decide_eq_true (show ((l[j].key.length:Nat):Int)>5 by omega),beq_self_eq_true,if_true,Option.bind_some,YL _ h6,Bn,cond_true]
    have hh:hp l[j].key=(l[j].key.take 6==pre6):=by simp [hp,h6]
    rw [←hh]
    by_cases hb:hp l[j].key=true
    ·rw [if_pos hb]
     simp only [Nd,w1 (show ((l.take j).filter fun x=>hp x.key).length<4611686018427387904 by omega),w1 (show j<4611686018427387904 by omega)]
     refine .inl ⟨_,rfl,⟨j+1,?_,by omega⟩,by simp only; omega⟩
     rw [Jf l j h0,List.filter_append]
     simp [hb]
    ·rw [if_neg hb]
     simp only [Nd,w1 (show j<4611686018427387904 by omega)]
     refine .inl ⟨_,rfl,⟨j+1,?_,by omega⟩,by simp only; omega⟩
     rw [Jf l j h0,List.filter_append]
     simp [hb]
   ·have hb:hp l[j].key=false:=by simp [hp,h6]
    simp only [decide_eq_false (show ¬((l[j].key.length:Nat):Int)>5 by omega),show (false==true)=false from rfl,Bool.false_eq_true,if_false,Option.bind_some,Bn,cond_false]
    simp only [Nd,w1 (show j<4611686018427387904 by omega)]
    refine .inl ⟨_,rfl,⟨j+1,?_,by omega⟩,by simp only; omega⟩
    rw [Jf l j h0,List.filter_append]
    simp [hb]
  ·have:j=l.length:=by omega
   subst this
   rw [if_neg (by simp)]
   exact .inr ⟨_,rfl,by rw [List.take_length]⟩)
 rw [r1,r2]
theorem nC (code:List UInt8) (_:UH Up code):TA code=some true:=by
 simp only [TA]
 by_cases h:code.length>1048576
 ·rw [if_pos (decide_eq_true (by omega))]
 ·rw [if_neg (by simp; omega)]
  obtain ⟨L,l1,l2,l3⟩:=MI code (by omega)
  have hL:Fy L:=⟨l2,l3⟩
  simp only [l1,Option.bind_some]
  obtain ⟨r,r1,r2⟩:=Hq (step:=Ss L) (fun s=>∃k:Nat,s.2.1=(k:Int)∧k≤L.length∧s.1=Ca (L.take k)∧Lg ((L.take k).map Ck) (Av.mk s.2.2.1 s.2.2.2)) (fun s=>(L.length-s.2.1).toNat)
   (fun r=>r = .inr true∨∃a b c,r = .inl (a,b,c)∧a=Ca L∧Lg (L.map Ck) (Av.mk b c)) (([]:List Al),0,([]:List UInt8),([]:List As)) ⟨0,rfl,by omega,rfl,rfl,by simp,by simp,0,rfl⟩ (by
    rintro ⟨sto,_,he,wa⟩ ⟨k,rfl,hk,hst,hd⟩
    simp only at hst hd
    subst hst
    simp only [Ss]
    by_cases hlt:k<L.length
    ·have hb:=l3 _ (List.getElem_mem hlt)
     have hg:L[((k:Nat):Int).toNat]? = some L[k]:=by rw [Int.toNat_natCast]; exact List.getElem?_eq_getElem hlt
     have hn:Fy (L.take k++[L[k]]):=by rw [←Jf L k hlt]; exact hL.take (k+1)
     rw [if_pos (decide_eq_true (by omega)),Mg L k hlt]
     simp only [Option.bind_some,hg,MJ hb.right,ML hb.right,show ((0:Int) != 0)=false from rfl,cond_false,beq_self_eq_true,Bool.not_true,show (false==false)=true from rfl,if_true,bne_self_eq_false,Bn,Bool.false_eq_true,if_false]
     rcases nF hn hd with ⟨d',e1,e2⟩ | ⟨d',e1⟩
     ·rw [e1]
      simp only [Option.bind_some,show ((0:Int)==9)=false from rfl,Bool.false_eq_true,if_false,MN hn,show ((0:Int) != 0)=false from rfl,cond_false,w1 (show k<4611686018427387904 by omega)]
      refine .inl ⟨_,rfl,⟨k+1,rfl,by omega,?_,?_⟩,by simp only; omega⟩
      ·rw [Jf L k hlt]
      ·rw [Jf L k hlt]; exact e2
     ·rw [e1]
      simp only [Option.bind_some]
      rw [if_pos (by decide)]
      exact .inr ⟨_,rfl,.inl rfl⟩
    ·rw [if_neg (by simp; omega)]
     have hkl:k=L.length:=by omega
     subst hkl
     rw [List.take_length] at hd ⊢
     exact .inr ⟨_,rfl,.inr ⟨_,_,_,rfl,rfl,hd⟩⟩)
  rw [r1]
  rcases r2 with rfl | ⟨a,b,c,rfl,rfl,hd⟩
  ·rfl
  ·obtain ⟨s1,s2⟩:=Fw hL
   have e386:=MR s1 (by omega)
   simp only [Option.bind_some,nG hL hd,nH hL hd,show ((0:Int) != 0)=false from rfl,show (false==false)=true from rfl,if_true,oX (Ca L) (by omega),cond_false,Bool.not_true,Bn,Bool.false_eq_true,if_false,e386,YE (Ca L) 0 s1.1 (by omega),YF (Ca L) 0 (by omega),beq_self_eq_true,cond_true]
end Go.Ev
end
