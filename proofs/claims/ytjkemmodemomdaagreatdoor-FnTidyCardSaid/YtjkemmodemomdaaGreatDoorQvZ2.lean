/- Regions, code, functions. -/
import Derived.Test.YtjkemmodemomdaaGreatDoorQvD4
set_option linter.all false
namespace Go.Ev
open Go.RowKit
variable {φ:Bz} {m m' m0 m1 m2:M} {w w' w0:World} {A:Fr} {nt:Nat} {S S' S1:St} {a:Act} {P:Program}
variable {o:Oper} {K:St→Prop} {Q:Exit→Act→World→Prop}
theorem aK {next next':Act→World→Prop} {r:Result Next} (hn:∀a w,next a w→next' a w) (h:o.upon P a next Q r):o.upon P a next' Q r:=by
 unfold Oper.upon at *
 split at h
 all_goals first
  | exact hn _ _ h
  | exact h.elim
  | exact h.mono (fun v w hv=>hn _ _ hv)
  | (refine Calls.mono h fun e w' he=>?_; split at he<;>first | exact hn _ _ he | exact he)
  | exact h
theorem Qy {ops:Array Oper}:∀(l:List Nat),(∀i∈l,i<ops.size)→∀ {S:St} {m:M} {a:Act} {w:World},Aw φ w0 A nt m S a w →
  aL (By P φ) (Mg P φ nt ops (l.map fun i=>ops[i]!)) K S→(∀a w,Nx φ w0 A nt K a w→Q .normal a w)→wpOps P ops Q l a w
 | [],_,S,m,a,w,h,hw,hQ=>hQ a w ⟨m,S,hw,h⟩
 | i::r,hi,S,m,a,w,h,hw,hQ=>by
  have hlt:i<ops.size:=hi i (by simp)
  have ho:ops[i]? = some ops[i]:=Array.getElem?_eq_getElem hlt
  have hb:ops[i]! = ops[i]:=getElem!_pos ops i hlt
  simp only [List.map_cons,Mg,aL,hb] at hw
  obtain ⟨S1,hle,hw⟩:=hw
  obtain ⟨m1,h1⟩:=h.fg hle
  have hstep:=cQ (Q:=Q) h1 hw
  have ih:∀a w,Nx φ w0 A nt (aL (By P φ) (Mg P φ nt ops (r.map fun i=>ops[i]!)) K) a w→wpOps P ops Q r a w:=fun a w ⟨m',S',hw',h'⟩=>
   Qy r (fun j hj=>hi j (by simp [hj])) h' hw' hQ
  simp only [wpOps,ho]
  split at hstep
  ·rename_i hwt
   rw [if_pos hwt]
   exact .inl (aK ih hstep)
  ·rename_i hwt
   rw [if_neg hwt]
   exact ih _ _ hstep
def cA:Ex→Exit
 | .normal=>.normal
 | .exit id=>.exit id
 | .ret=>.ret
theorem Sv:∀(c:Code) {Qv:Ex→St→Prop} {Q:Exit→Act→World→Prop} {S:St} {m:M} {a:Act} {w:World},W (By P φ) (Jl P φ nt c) Qv S→Aw φ w0 A nt m S a w →
  (∀e S m a w,Qv e S→Aw φ w0 A nt m S a w→Q (cA e) a w)→c.wp P Q a w
 | .skip,Qv,Q,S,m,a,w,hw,h,hQ=>wp_skip (hQ .normal S m a w hw h)
 | .region id ops false,Qv,Q,S,m,a,w,hw,h,hQ=>by
  refine wp_region (Qy (K:=Qv .normal) (List.range ops.size) (fun i hi=>by simpa using hi) h ?_ (fun a w ⟨m',S',hK,h'⟩=>hQ .normal S' m' a w hK h'))
  have e:(List.range ops.size).map (fun i=>ops[i]!)=ops.toList:=by
   apply List.ext_getElem?
   intro i
   by_cases hi:i<ops.size
   ·rw [List.getElem?_map,List.getElem?_range hi]
    simp [hi]
   ·rw [List.getElem?_eq_none (by simpa using hi),List.getElem?_eq_none (by simpa using hi)]
  rw [e]
  exact hw
 | .region id ops true,Qv,Q,S,m,a,w,hw,h,hQ=>nD hw h (fun S m a w=>hQ .normal S m a w)
 | .seq x y,Qv,Q,S,m,a,w,hw,h,hQ=>by
  refine wp_seq (Sv x hw h fun e S' m' a' w' hq h'=>?_)
  cases e with
  | normal=>
   obtain ⟨S1,hle,hq⟩:=hq
   obtain ⟨m1,h1⟩:=h'.fg hle
   exact Sv y hq h1 hQ
  | exit id=>exact hQ (.exit id) S' m' a' w' hq h'
  | ret=>exact hQ .ret S' m' a' w' hq h'
 | .cond c x y,Qv,Q,S,m,a,w,hw,h,hQ=>by
  cases c with
  | tmp t=>
   obtain ⟨hm,hw⟩:=hw
   split at hw
   ·rename_i cb hcb
    have hv:RT φ m w (.bool cb) (a.tmps.getD t undef):=by rw [←hcb]; exact Jh (h.val t) hm rfl
    exact wp_cond_split (t:=cb) (Dc hv) (fun e=>Sv x (hw.1 e) h hQ) (fun e=>Sv y (hw.2 e) h hQ)
   ·exact hw.elim
  | const v=>
   cases v with
   | bool b=>
    obtain ⟨_,hw⟩:=hw
    exact wp_cond_split (t:=b) rfl (fun e=>Sv x (hw.1 e) h hQ) (fun e=>Sv y (hw.2 e) h hQ)
   | _=>exact hw.elim
  | _=>exact hw.elim
 | .block id x,Qv,Q,S,m,a,w,hw,h,hQ=>by
  refine wp_block (Sv x hw h fun e S' m' a' w' hq h'=>?_)
  cases e with
  | normal=>exact hQ .normal S' m' a' w' hq h'
  | exit id'=>
   simp only [cA,Exit.inBlock]
   dsimp only at hq
   split
   ·rename_i e
    rw [if_pos e] at hq
    exact hQ .normal S' m' a' w' hq h'
   ·rename_i e
    rw [if_neg e] at hq
    exact hQ (.exit id') S' m' a' w' hq h'
  | ret=>exact hQ .ret S' m' a' w' hq h'
 | .loop x,Qv,Q,S,m,a,w,hw,h,hQ=>by
  obtain ⟨I,μ,⟨S0,hle0,hI⟩,hr⟩:=hw
  obtain ⟨m0',h⟩:=h.fg hle0
  let at_:Act→World→Nat→Prop:=fun a w n=>∃m S,I S∧Aw φ w0 A nt m S a w∧μ S=n
  have least:∀a w,(∃n,at_ a w n)→∃n,at_ a w n∧∀k,at_ a w k→n≤k:=by
   intro a w ⟨n,hn⟩
   induction n using Nat.strongRecOn with
   | _ n ih=>
    by_cases hex:∃k,k<n∧at_ a w k
    ·obtain ⟨k,hk,hak⟩:=hex
     exact ih k hk hak
    ·exact ⟨n,hn,fun k hk=>Nat.le_of_not_lt fun hlt=>hex ⟨k,hlt,hk⟩⟩
  let μ':Act→World→Nat:=fun a w=>@dite _ (∃n,at_ a w n) (Classical.propDecidable _) (fun hh=>Classical.choose (least a w hh)) (fun _=>0)
  have hμ:∀a w,(∃n,at_ a w n)→at_ a w (μ' a w)∧∀k,at_ a w k→μ' a w≤k:=by
   intro a w hh
   have e:μ' a w=Classical.choose (least a w hh):=dif_pos hh
   rw [e]
   exact Classical.choose_spec (least a w hh)
  refine wp_loop (fun a w=>∃n,at_ a w n) μ' ⟨μ S0,m0',S0,hI,h,rfl⟩ fun a w hh=>?_
  obtain ⟨⟨m1,S1,hI1,h1,hμ1⟩,_⟩:=hμ a w hh
  refine Sv x (hr S1 hI1) h1 fun e S' m' a' w' hq h'=>?_
  cases e with
  | normal=>
   obtain ⟨S2,hwk,hI2,hlt⟩:=hq
   obtain ⟨m2,h2⟩:=h'.fg hwk
   have hat:at_ a' w' (μ S2):=⟨m2,S2,hI2,h2,rfl⟩
   exact ⟨⟨_,hat⟩,Nat.lt_of_le_of_lt ((hμ a' w' ⟨_,hat⟩).2 _ hat) (by rw [←hμ1]; exact hlt)⟩
  | exit id=>exact hQ (.exit id) S' m' a' w' hq h'
  | ret=>exact hQ .ret S' m' a' w' hq h'
 | .exit id,Qv,Q,S,m,a,w,hw,h,hQ=>wp_exit (hQ (.exit id) S m a w hw h)
 | .ret,Qv,Q,S,m,a,w,hw,h,hQ=>wp_ret (hQ .ret S m a w hw h)
 | .rangeFunc ..,_,_,_,_,_,_,hw,_,_=>hw.elim
 | .scope _,_,_,_,_,_,_,hw,_,_=>hw.elim
 | .label _,_,_,_,_,_,_,hw,_,_=>hw.elim
 | .goto _,_,_,_,_,_,_,hw,_,_=>hw.elim
 | .refuse _,_,_,_,_,_,_,hw,_,_=>hw.elim
end Go.Ev
