/- Functions: the machine's answer is the model's. -/
import Derived.Test.YtjkemmodemomdaaGreatDoorQvZ2
set_option linter.all false
namespace Go.Ev
open Go.RowKit
variable {φ:Bz} {m m' m0 m1 m2:M} {w w' w0:World} {A:Fr} {nt:Nat} {S S' S1:St} {a:Act} {P:Program}
theorem aE {r:ResultVar} {x:Su} {v:V} (hr:Kx P [r]=some [x]) (h:Aw φ w0 A nt m S a w) (hv:Nu S x=some v):
  ∃val,(match r with | .tmp t=>(pure (a.tmps.getD t undef):Sem Value) | .cell b t=>(do loadVar t (←asAddr (a.tmps.getD b undef)))).run P w = .ok val w∧RT φ m w v val:=by
 cases r with
 | tmp t=>
  simp only [Kx,Option.some.injEq,List.cons.injEq,and_true] at hr
  subst hr
  simp only [Nu] at hv
  split at hv
  ·cases hv
  ·rename_i u hn hl
   cases hv
   have h1:=h.env _ _ hl
   refine ⟨a.tmps.getD t undef,by simp only [Sem.run_pure],?_⟩
   cases v with
   | may b x=>exact (hn b x rfl).elim
   | _=>exact h1
  ·cases hv
 | cell b t=>
  simp only [Kx] at hr
  split at hr
  ·rename_i i ag s hi hag hs
   split at hr
   ·cases hr
   ·rename_i h0
    cases hr
    simp only [Nu] at hv
    split at hv
    ·rename_i T k hl
     split at hv
     ·rename_i cs hcs
      split at hv
      ·rename_i hk
       have hp:RT φ m w (.ptr T k) (a.tmps.getD b undef):=h.env _ _ hl
       obtain ⟨β,hβ,e1⟩:=Nh hp
       obtain ⟨β',hβ',hcell⟩:=(h.rb hcs).cell
       rw [hβ] at hβ'
       obtain rfl:=Option.some.inj hβ'
       obtain ⟨val,k1,k2⟩:=Qh (P:=P) (ad:=⟨β,k,none⟩) hag hi h0 (cs:=cs.drop k) (by simp; omega) (fun j c hj=>by
        rw [List.getElem?_drop] at hj
        obtain ⟨u,g1,g2⟩:=hcell _ c hj
        exact ⟨u,by rw [Ch]; exact g1,g2⟩) hv
       exact ⟨val,by simp [e1,asAddr,k1],k2⟩
      ·cases hv
     ·cases hv
    ·cases hv
  ·cases hr
theorem Zd {r:ResultVar} {rs:List ResultVar} {l:List Su} (h:Kx P (r::rs)=some l):∃x l',l=x::l'∧Kx P [r]=some [x]∧Kx P rs=some l':=by
 cases r with
 | tmp t=>
  simp only [Kx] at h ⊢
  split at h
  ·rename_i s hs
   cases h
   exact ⟨_,s,rfl,rfl,hs⟩
  ·cases h
 | cell b t=>
  simp only [Kx] at h ⊢
  split at h
  ·rename_i i ag s hi hag hs
   split at h
   ·cases h
   ·rename_i h0
    cases h
    refine ⟨_,s,rfl,?_,hs⟩
    simp only [hi,hag]
    rw [if_neg h0]
  ·cases h
theorem Ym {α:Type} {f:α→Sem Value} {g:V→α→Prop} (hf:∀x v,g v x→∃val,(f x).run P w = .ok val w∧RT φ m w v val):∀(l:List α) (vs:List V),
  l.length=vs.length→(∀(i:Nat) (x:α) (v:V),l[i]? = some x→vs[i]? = some v→g v x) →
  ∃vals:List Value,(l.mapM f).run P w = .ok vals w∧vals.length=vs.length∧∀(i:Nat) (v:V) (val:Value),vs[i]? = some v→vals[i]? = some val→RT φ m w v val
 | [],[],_,_=>⟨[],by simp,rfl,by simp⟩
 | x::r,v::vs,hl,hg=>by
  obtain ⟨val,h1,h2⟩:=hf x v (hg 0 x v rfl rfl)
  obtain ⟨vals,h3,h4,h5⟩:=Ym hf r vs (by simpa using hl) fun i x v hx hv=>hg (i+1) x v (by simpa using hx) (by simpa using hv)
  refine ⟨val::vals,?_,by simp [h4],fun i v val hv hval=>?_⟩
  ·simp [h1,h3]
  ·cases i with
   | zero=>simp at hv hval; subst hv; subst hval; exact h2
   | succ i=>exact h5 i v val (by simpa using hv) (by simpa using hval)
 | [],_::_,hl,_=>by simp at hl
 | _::_,[],hl,_=>by simp at hl
theorem Ra {S:St}:∀ {l:List Su} {vs:List V},Qz S l=some vs→l.length=vs.length∧∀(i:Nat) (x:Su) (v:V),l[i]? = some x→vs[i]? = some v→Nu S x=some v
 | [],vs,h=>by
  simp only [Qz,Option.some.injEq] at h
  subst h
  exact ⟨rfl,by simp⟩
 | x::r,vs,h=>by
  simp only [Qz] at h
  split at h
  ·rename_i v us h1 h2
   cases h
   obtain ⟨h3,h4⟩:=Ra h2
   refine ⟨by simp [h3],fun i x' v' g1 g2=>?_⟩
   cases i with
   | zero=>simp at g1 g2; subst g1; subst g2; exact h1
   | succ i=>exact h4 i x' v' (by simpa using g1) (by simpa using g2)
  ·cases h
theorem Ul:∀ {rs:List ResultVar} {l:List Su},Kx P rs=some l→rs.length=l.length∧∀(i:Nat) (r:ResultVar) (x:Su),rs[i]? = some r→l[i]? = some x→Kx P [r]=some [x]
 | [],l,h=>by
  simp only [Kx,Option.some.injEq] at h
  subst h
  exact ⟨rfl,by simp⟩
 | r::rs,l,h=>by
  obtain ⟨x,l',rfl,h1,h2⟩:=Zd h
  obtain ⟨h3,h4⟩:=Ul h2
  refine ⟨by simp [h3],fun i r' x' g1 g2=>?_⟩
  cases i with
  | zero=>simp at g1 g2; subst g1; subst g2; exact h1
  | succ i=>exact h4 i r' x' (by simpa using g1) (by simpa using g2)
theorem Wz {fn:Func} {rs:List Su} {v:V} (hr:Kx P fn.results.toList=some rs) (h:Aw φ w0 A nt m S a w) (hv:dT S rs=some v):
  ∃val,(results fn a.tmps).run P w = .ok val w∧RT φ m w v val:=by
 unfold dT at hv
 split at hv
 ·rename_i vs hvs
  obtain ⟨h1,h2⟩:=Ra hvs
  obtain ⟨h3,h4⟩:=Ul hr
  obtain ⟨vals,g1,g2,g3⟩:=Ym (P:=P) (φ:=φ) (m:=m) (w:=w)
   (f:=fun r:ResultVar=>match r with | .tmp t=>(pure (a.tmps.getD t undef):Sem Value) | .cell b t=>(do loadVar t (←asAddr (a.tmps.getD b undef))))
   (g:=fun v r=>∃x,Kx P [r]=some [x]∧Nu S x=some v) (fun r v ⟨x,k1,k2⟩=>aE k1 h k2) fn.results.toList vs (by omega) (fun i r v k1 k2=>by
    have hi:=(List.getElem?_eq_some_iff.1 k1).1
    have hx:rs[i]? = some rs[i]:=List.getElem?_eq_getElem (by omega)
    exact ⟨_,h4 i r _ k1 hx,h2 i _ v hx k2⟩)
  have gen:∀f:ResultVar→Sem Value,(∀t,f (.tmp t)=pure (a.tmps.getD t undef))→(∀b t,f (.cell b t)=(do loadVar t (←asAddr (a.tmps.getD b undef)))) →
    (do let vs ←fn.results.mapM f; pure (if h:vs.size=1 then vs[0] else .tuple vs)).run P w = .ok (if h:vals.toArray.size=1 then vals.toArray[0] else .tuple vals.toArray) w:=by
   intro f e1 e2
   have hf:f=fun r:ResultVar=>match r with | .tmp t=>(pure (a.tmps.getD t undef):Sem Value) | .cell b t=>(do loadVar t (←asAddr (a.tmps.getD b undef))):=by
    funext r
    cases r with
    | tmp t=>exact e1 t
    | cell b t=>exact e2 b t
   rw [←hf] at g1
   rw [Sem.run_bind,Array.mapM_eq_mapM_toList]
   simp only [Sem.run_map,g1,Result.andThen_ok,Sem.run_pure]
  have hrun:(results fn a.tmps).run P w = .ok (if h:vals.toArray.size=1 then vals.toArray[0] else .tuple vals.toArray) w:=gen _ (fun _=>rfl) (fun _ _=>rfl)
  refine ⟨_,hrun,?_⟩
  unfold qP at hv
  split at hv
  ·rename_i u
   cases hv
   have hl:vals.length=1:=g2
   obtain ⟨x,hx⟩:=List.length_eq_one_iff.1 hl
   subst hx
   simp
   exact g3 0 v x rfl rfl
  ·rename_i hne
   split at hv
   ·rename_i hall
    cases hv
    have hl:vals.length≠1:=by
     rw [g2]
     intro e
     obtain ⟨x,rfl⟩:=List.length_eq_one_iff.1 e
     exact hne x rfl
    rw [dif_neg (by simpa using hl)]
    refine ⟨vals,rfl,g2,fun i u y k1 k2=>?_⟩
    refine Me ?_ (g3 i u y k1 k2)
    rintro us rfl
    have:=List.all_eq_true.1 hall _ (List.mem_of_getElem? k1)
    simp [qE] at this
   ·cases hv
 ·cases hv
end Go.Ev
