/- Regions whose order is drawn: the plan is sound. -/
import Derived.Test.YtjkemmodemomdaaGreatDoorQvD2
set_option linter.all false
namespace Go.Ev
open Go.RowKit
variable {φ:Bz} {m m' m0 m1 m2:M} {w w' w0:World} {A:Fr} {nt:Nat} {S S' S1:St} {a:Act} {P:Program}
variable {o:Oper} {K:St→Prop} {Q:Exit→Act→World→Prop} {C:Bb} {ops:Array Oper} {I:List Bi}
theorem Pt:∀ {l:List Oper} {s:List (List Nat)} {j:Nat} {x:Bi},(Jo P φ nt ops l s)[j]? = some x→∃o,l[j]? = some o∧x.o=o∧x.ins=Ot P φ nt ops o∧x.dep=Lr o
 | o::r,a::s,0,x,h=>by
  simp only [Jo,List.getElem?_cons_zero,Option.some.injEq] at h
  subst h
  exact ⟨o,rfl,rfl,rfl,rfl⟩
 | o::r,a::s,j+1,x,h=>by
  simp only [Jo,List.getElem?_cons_succ] at h
  obtain ⟨o',h1,h2⟩:=Pt h
  exact ⟨o',by simpa using h1,h2⟩
 | [],_,_,_,h=>by simp [Jo] at h
 | _::_,[],_,_,h=>by simp [Jo] at h
theorem Rc {j:Nat} {x:Bi}:∀ {l:List Bi} {k:Nat},Yu ops j x k l=true→∀(i:Nat) (y:Bi),l[i]? = some y→k+i≠j→∃d,x.o.dst=some d∧y.o.dst≠some d ∧
  ((d∈y.o.looksAt ops∨d∈Dr y.ins)→j∈y.anc)
 | y::r,k,h,i,z,hz,hne=>by
  simp only [Yu,Bool.and_eq_true,Bool.or_eq_true,decide_eq_true_eq] at h
  obtain ⟨h1,h2⟩:=h
  cases i with
  | succ i=>
   exact Rc h2 i z (by simpa using hz) (by omega)
  | zero=>
   simp at hz
   subst hz
   rcases h1 with h1 | ⟨h1,h3⟩
   ·exact absurd h1 (by simpa using hne)
   ·cases hd:x.o.dst with
    | none=>rw [hd] at h3; simp at h3
    | some d=>
     rw [hd] at h1 h3
     refine ⟨d,rfl,by simpa using h1,fun hl=>?_⟩
     simp only [Bool.or_eq_true,Bool.not_eq_true',Bool.or_eq_false_iff,List.contains_eq_mem,decide_eq_false_iff_not,decide_eq_true_eq] at h3
     rcases h3 with ⟨h4,h5⟩ | h3
     ·exact hl.elim (fun hh=>absurd hh h4) (fun hh=>absurd hh h5)
     ·exact h3
 | [],_,_,_,_,hz,_=>by simp at hz
structure Tk (ops:Array Oper) (I:List Bi) (j:Nat) (x:Bi) (d:Nat):Prop where
 calm:Fc x.ins=true
 dst:x.o.dst=some d
 idst:x.ins.dst=some d
 own:d∉x.o.looksAt ops
 own2:d∉Dr x.ins
 oth:∀(i:Nat) (y:Bi),I[i]? = some y→i≠j→y.o.dst≠some d∧((d∈y.o.looksAt ops∨d∈Dr y.ins)→j∈y.anc)
theorem Ta {j:Nat} {x:Bi} (h:Pa ops I j x=true):∃d,Tk ops I j x d:=by
 simp only [Pa,Bool.and_eq_true] at h
 obtain ⟨⟨h1,h2⟩,h3⟩:=h
 cases hd:x.o.dst with
 | none=>rw [hd] at h2; simp at h2
 | some d=>
  rw [hd] at h2
  simp only [Bool.and_eq_true,Bool.not_eq_true',Bool.or_eq_false_iff,List.contains_eq_mem,decide_eq_false_iff_not,beq_iff_eq] at h2
  refine ⟨d,h1,hd,h2.1,h2.2.1,h2.2.2,fun i y hy hne=>?_⟩
  obtain ⟨d',h4,h5,h6⟩:=Rc h3 i y hy (by simpa using hne)
  rw [hd] at h4
  obtain rfl:=Option.some.inj h4
  exact ⟨h5,h6⟩
theorem Lm:∀ {l:List Bi} {k:Nat},Rv I k l=true→∀(i:Nat) (x:Bi),l[i]? = some x→(∀d∈x.dep,d<k+i)∧∀y∈x.anc,y∈x.dep∨∃d∈x.dep,∃z,I[d]? = some z∧y∈z.anc
 | x::r,k,h,i,z,hz=>by
  simp only [Rv,Bool.and_eq_true] at h
  obtain ⟨⟨h1,h2⟩,h3⟩:=h
  cases i with
  | succ i=>
   have:=Lm h3 i z (by simpa using hz)
   rw [show k+1+i=k+(i+1) from by omega] at this
   exact this
  | zero=>
   simp at hz
   subst hz
   refine ⟨fun d hd=>by simpa using List.all_eq_true.1 h1 d hd,fun y hy=>?_⟩
   have:=List.all_eq_true.1 h2 y hy
   simp only [Bool.or_eq_true,List.contains_eq_mem,decide_eq_true_eq,List.any_eq_true] at this
   rcases this with h4 | ⟨d,h4,h5⟩
   ·exact .inl h4
   ·refine .inr ⟨d,h4,?_⟩
    cases hI:I[d]? with
    | none=>rw [hI] at h5; simp at h5
    | some q=>rw [hI] at h5; exact ⟨q,rfl,by simpa using h5⟩
 | [],_,_,_,_,hz=>by simp at hz
theorem Wf (hA:Rv I 0 I=true) {R:Nat→Prop} (cl:∀(j:Nat) (x:Bi),R j→I[j]? = some x→∀d∈x.dep,R d):
  ∀(i:Nat) (x:Bi),I[i]? = some x→(∀d∈x.dep,R d)→∀y∈x.anc,R y:=by
 intro i
 induction i using Nat.strongRecOn with
 | _ i ih=>
  intro x hx hd y hy
  obtain ⟨h1,h2⟩:=Lm hA i x hx
  rcases h2 y hy with h3 | ⟨d,h3,z,h4,h5⟩
  ·exact hd y h3
  ·exact ih d (by simpa using h1 d h3) z h4 (cl d z (hd d h3) h4) y h5
theorem Ep {D:List Nat} {j:Nat} {x:Bi}:∀ {l:List Bi} {k:Nat},(j,x)∈Df D k l↔∃i,j=k+i∧l[i]? = some x∧j∉D∧∀d∈x.dep,d∈D
 | [],k=>by simp [Df]
 | y::r,k=>by
  have hb:∀ {k:Nat} {y:Bi},Wy D k y=true↔k∉D∧∀d∈y.dep,d∈D:=by
   intro k y
   simp [Wy]
  simp only [Df]
  split
  ·rename_i hr
   rw [hb] at hr
   simp only [List.mem_cons,Prod.mk.injEq,Ep (l:=r)]
   constructor
   ·rintro (⟨rfl,rfl⟩ | ⟨i,h1,h2,h3⟩)
    ·exact ⟨0,rfl,rfl,hr⟩
    ·exact ⟨i+1,by omega,by simpa using h2,h3⟩
   ·rintro ⟨i,h1,h2,h3⟩
    cases i with
    | zero=>simp at h1 h2; exact .inl ⟨h1,h2.symm⟩
    | succ i=>exact .inr ⟨i,by omega,by simpa using h2,h3⟩
  ·rename_i hr
   rw [hb] at hr
   rw [Ep (l:=r)]
   constructor
   ·rintro ⟨i,h1,h2,h3⟩
    exact ⟨i+1,by omega,by simpa using h2,h3⟩
   ·rintro ⟨i,h1,h2,h3⟩
    cases i with
    | zero=>simp at h1 h2; subst h1; subst h2; exact absurd h3 hr
    | succ i=>exact ⟨i,by omega,by simpa using h2,h3⟩
theorem Js {f:Nat→Bi→Bool} {j:Nat} {x:Bi}:∀ {l:List (Nat×Bi)},Fo f l=some (j,x)→(j,x)∈l∧f j x=true
 | (i,y)::r,h=>by
  simp only [Fo] at h
  split at h
  ·rename_i hf
   cases h
   exact ⟨by simp,hf⟩
  ·have:=Js h
   exact ⟨List.mem_cons_of_mem _ this.1,this.2⟩
 | [],h=>by simp [Fo] at h
theorem Xp {held:Bi→List Bq} {f:Nat→Bi→DP} {X:List Bq}:∀ {l:List (Nat×Bi)},WD C (We held f l) X K S→∀(j:Nat) (x:Bi),(j,x)∈l →
  Cb C x.ins S (fun S'=>∃S1,Fg S' S1∧∃X',Fp C X' (held x) S1∧Ct C X' S1∧WD C (f j x) X' K S1)
 | (i,y)::r,h,j,x,hm=>by
  obtain ⟨h1,h2⟩:=h
  rcases List.mem_cons.1 hm with e | hm
  ·cases e
   exact h1
  ·exact Xp h2 j x hm
 | [],_,_,_,hm=>by simp at hm
theorem Se {p q:Nat→Bool}:∀ {l:List Nat},(∀x∈l,q x=true→p x=true)→(∃x∈l,p x=true∧q x=false)→(l.filter q).length<(l.filter p).length
 | [],_,h=>by obtain ⟨x,hx,_⟩:=h; simp at hx
 | y::r,h1,h2=>by
  have hle:∀ {l:List Nat},(∀x∈l,q x=true→p x=true)→(l.filter q).length≤(l.filter p).length:=by
   intro l
   induction l with
   | nil=>intro _; simp
   | cons z s ih=>
    intro h
    have ih':=ih fun x hx=>h x (List.mem_cons_of_mem _ hx)
    have hz:=h z (by simp)
    cases hq:q z<;>cases hp:p z<;>simp_all<;>omega
  obtain ⟨x,hx,h3,h4⟩:=h2
  have ht:=hle (l:=r) fun x hx=>h1 x (List.mem_cons_of_mem _ hx)
  have hy:=h1 y (by simp)
  rcases List.mem_cons.1 hx with rfl | hx
  ·simp [h3,h4]
   omega
  ·have ih:=Se (l:=r) (fun x hx=>h1 x (List.mem_cons_of_mem _ hx)) ⟨x,hx,h3,h4⟩
   cases hq:q y<;>cases hp:p y<;>simp_all<;>omega
def left (ops:Array Oper) (listed:Array Bool):Nat:=((List.range ops.size).filter fun j => !listed.getD j true).length
theorem cV {listed:Array Bool} {j:Nat} (hj:j<ops.size) (hu:listed.getD j true=false):left ops (listed.setIfInBounds j true)<left ops listed:=by
 have hjs:j<listed.size:=by
  rcases Nat.lt_or_ge j listed.size with h | h
  ·exact h
  ·rw [Array.getD_eq_getD_getElem?,Array.getElem?_eq_none h] at hu; simp at hu
 refine Se (fun x _ hq=>?_) ⟨j,by simpa using hj,by simp [hu],?_⟩
 ·by_cases e:j=x
  ·subst e
   rw [Array.getD_eq_getD_getElem?,Array.getElem?_setIfInBounds_self_of_lt hjs] at hq
   simp at hq
  ·rwa [getD_set_ne _ e] at hq
 ·rw [Array.getD_eq_getD_getElem?,Array.getElem?_setIfInBounds_self_of_lt hjs]
  rfl
end Go.Ev
