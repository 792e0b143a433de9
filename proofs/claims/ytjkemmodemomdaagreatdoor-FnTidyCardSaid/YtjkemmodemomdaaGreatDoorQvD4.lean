/- Regions whose order is drawn: soundness. -/
import Derived.Test.YtjkemmodemomdaaGreatDoorQvD3
set_option linter.all false
namespace Go.Ev
open Go.RowKit
variable {φ:Bz} {m m' m0 m1 m2:M} {w w' w0:World} {A:Fr} {nt:Nat} {S S' S1:St} {a:Act} {P:Program}
variable {o:Oper} {K:St→Prop} {Q:Exit→Act→World→Prop} {ops:Array Oper} {I:List Bi}
structure zA (ops:Array Oper) (I:List Bi) (X:List Bq) (S:St) (D E:List Nat) (listed:Array Bool) (G:List (Nat×Value)):Prop where
 size:listed.size=ops.size
 sub:∀j,listed.getD j false=true→j∈D
 ghost:∀j∈D,listed.getD j false=false→j∈E∧∃x d v,I[j]? = some x∧Tk ops I j x d∧(d,v)∈G∧Ri X S x.ins
 gk:∀p∈G,∃j x,j∈D∧listed.getD j false=false∧I[j]? = some x∧Tk ops I j x p.1
 clM:∀(j:Nat) (x:Bi),listed.getD j false=true→I[j]? = some x→∀d∈x.dep,listed.getD d false=true
 clV:∀(j:Nat) (x:Bi),j∈D→I[j]? = some x→∀d∈x.dep,d∈D
 dlt:∀j∈D,j<ops.size
theorem Rk {listed:Array Bool} {j:Nat} (d:Bool) (h:j<listed.size):(listed.setIfInBounds j true).getD j d=true:=by
 rw [Array.getD_eq_getD_getElem?,Array.getElem?_setIfInBounds_self_of_lt h]
 rfl
theorem Mm {listed:Array Bool} {j:Nat} (h:j<listed.size):listed.getD j true=listed.getD j false:=by
 rw [Array.getD_eq_getD_getElem?,Array.getD_eq_getD_getElem?]
 simp [h]
theorem oZ {d:Nat} {u v:Value}:(a.put (some d) u).put (some d) v=a.put (some d) v:=by
 simp [Act.put]
theorem Kf {d:Nat} {v:Value}:∀ {G:List (Nat×Value)} {a:Act},(Act.puts' a G).put (some d) v=(Act.puts' a (G.filter fun p=>p.1 != d)).put (some d) v
 | [],_=>rfl
 | p::r,a=>by
  have hf:∀q∈r.filter (fun p=>p.1 != d),q.1≠d:=fun q hq=>by
   have:=(List.mem_filter.1 hq).2
   simpa using this
  by_cases e:p.1=d
  ·have e2:(p::r).filter (fun p=>p.1 != d)=r.filter fun p=>p.1 != d:=by simp [e]
   rw [e2]
   simp only [Act.puts']
   rw [Kf (G:=r),e,Kg hf,oZ]
  ·have e2:(p::r).filter (fun p=>p.1 != d)=p::r.filter fun p=>p.1 != d:=by simp [e]
   rw [e2]
   simp only [Act.puts']
   exact Kf
section
variable (hI:∀(j:Nat) (x:Bi),I[j]? = some x→ops[j]? = some x.o∧x.ins=Ot P φ nt ops x.o∧x.dep=Lr x.o) (hlen:I.length=ops.size)
 (hA:Rv I 0 I=true) (hsel:∀(j:Nat) (o:Oper) cs b,ops[j]? = some o→o.op ≠ .select cs b)
include hI hlen hA hsel
set_option linter.unusedSectionVars false
theorem Vl {listed:Array Bool} {j:Nat} (hr:j∈Region.ready .any ops listed):∃x,I[j]? = some x∧listed.getD j true=false∧j<ops.size∧∀d∈x.dep,listed.getD d false=true:=by
 obtain ⟨h1,o,h2,h3⟩:=mem_ready.1 hr
 have hj:j<ops.size:=(Array.getElem?_eq_some_iff.1 h2).1
 have hx:I[j]? = some (I[j]'(by omega)):=List.getElem?_eq_getElem (by omega)
 refine ⟨_,hx,h1,hj,fun d hd=>?_⟩
 obtain ⟨k1,k2,k3⟩:=hI j _ hx
 rw [h2] at k1
 obtain rfl:=Option.some.inj k1
 rw [k3] at hd
 simp only [Lr,List.mem_map,List.mem_filter] at hd
 obtain ⟨e,⟨he,hb⟩,rfl⟩:=hd
 exact h3 e (by simpa using he) hb
theorem Vr {listed:Array Bool} {j:Nat} {x:Bi} (hx:I[j]? = some x) (h1:listed.getD j true=false) (h2:∀d∈x.dep,listed.getD d false=true):j∈Region.ready .any ops listed:=by
 obtain ⟨k1,k2,k3⟩:=hI j x hx
 refine mem_ready.2 ⟨h1,_,k1,fun e he hb=>h2 e.on ?_⟩
 rw [k3]
 simp only [Lr,List.mem_map,List.mem_filter]
 exact ⟨e,⟨by simpa using he,hb⟩,rfl⟩
theorem zA.away {X:List Bq} {D E:List Nat} {listed:Array Bool} {G:List (Nat×Value)} (L:zA ops I X S D E listed G) {i:Nat} {y:Bi} (hy:I[i]? = some y) (hd:∀d∈y.dep,listed.getD d false=true):
  ∀p∈G,(p.1∉y.o.looksAt ops)∧((i∉D∨listed.getD i false=true)→y.o.dst≠some p.1):=by
 intro p hp
 obtain ⟨j,x,h1,h2,h3,h4⟩:=L.gk p hp
 have hanc:=Wf hA (R:=fun j=>listed.getD j false=true) L.clM i y hy hd
 by_cases e:i=j
 ·subst e
  rw [hy] at h3
  obtain rfl:=Option.some.inj h3
  exact ⟨h4.own,fun h5=>h5.elim (fun h=>absurd h1 h) (fun h=>by rw [h] at h2; cases h2)⟩
 ·obtain ⟨h5,h6⟩:=h4.oth i y hy e
  refine ⟨fun hl=>?_,fun _=>h5⟩
  have:=hanc j (h6 (.inl hl))
  rw [h2] at this
  cases this
theorem oX (hQ:∀S m a w,K S→Aw φ w0 A nt m S a w→Q .normal a w):∀(Ls pf:Nat) (D E:List Nat) (X:List Bq) (S:St) (m:M) (listed:Array Bool) (G:List (Nat×Value)) (a:Act) (w:World),
  zA ops I X S D E listed G→WD (By P φ) (Ir ops I pf D E) X K S→Aw φ w0 A nt m S (Act.puts' a G) w→left ops listed≤Ls→wpAny P .any ops Q Ls listed a w:=by
 intro Ls
 induction Ls with
 | zero=>
  intro pf
  induction pf with
  | zero=>intro D E X S m listed G a w L hw; exact hw.elim
  | succ pf ihp=>
   intro D E X S m listed G a w L hw h hfu
   have hall:∀j,j<ops.size→listed.getD j true=true:=by
    intro j hj
    cases hq:listed.getD j true with
    | true=>rfl
    | false=>
     have:0<left ops listed:=List.length_pos_iff.2 fun hh=>by
      have hm:j∈(List.range ops.size).filter fun j => !listed.getD j true:=List.mem_filter.2 ⟨by simpa using hj,by simp [hq]⟩
      rw [hh] at hm; simp at hm
     omega
   have hD:∀j,j<ops.size→j∈D:=fun j hj=>L.sub j (by rw [←Mm (by rw [L.size]; exact hj)]; exact hall j hj)
   have hr0:Df D 0 I=[]:=by
    cases hq:Df D 0 I with
    | nil=>rfl
    | cons p r=>
     obtain ⟨j,x⟩:=p
     have hm:(j,x)∈Df D 0 I:=by rw [hq]; simp
     obtain ⟨i,h1,h2,h3,_⟩:=Ep.1 hm
     have hi:=(List.getElem?_eq_some_iff.1 h2).1
     exact absurd (hD j (by omega)) h3
   have hG:G=[]:=by
    cases hg:G with
    | nil=>rfl
    | cons p r=>
     obtain ⟨j,x,h1,h2,h3,_⟩:=L.gk p (by rw [hg]; simp)
     have hj:=L.dlt j h1
     have:=hall j hj
     rw [Mm (by rw [L.size]; exact hj),h2] at this
     cases this
   subst hG
   simp only [Ir,hr0,Fo] at hw
   refine ⟨?_,hQ S m a w hw h⟩
   cases hq:Region.ready .any ops listed with
   | nil=>rfl
   | cons j r=>
    have hm:j∈Region.ready .any ops listed:=by rw [hq]; simp
    obtain ⟨x,_,h2,h3,_⟩:=Vl hI hlen hA hsel hm
    rw [hall j h3] at h2
    cases h2
 | succ Ls ih=>
  intro pf
  induction pf with
  | zero=>intro D E X S m listed G a w L hw; exact hw.elim
  | succ pf ihp=>
   intro D E X S m listed G a w L hw h hfu
   have hw0:=hw
   simp only [Ir] at hw
   cases hft:Fo (Pa ops I) (Df D 0 I) with
   | some jx=>
    obtain ⟨j,x⟩:=jx
    rw [hft] at hw
    obtain ⟨hmem,hct⟩:=Js hft
    obtain ⟨d,T⟩:=Ta hct
    obtain ⟨i,hji,hx,hnD,hdep⟩:=Ep.1 hmem
    rw [Nat.zero_add] at hji
    subst hji
    have hw2:∃X',(∀j∈X,j∈X')∧(Bu x.ins S∨x.ins∈X')∧Cb (By P φ) x.ins S (fun S'=>Ct (By P φ) X' S'∧WD (By P φ) (Ir ops I pf (j::D) (j::E)) X' K S'):=by
     rcases hw with ⟨hpl,hw⟩ | hw
     ·exact ⟨X,fun _ h=>h,.inl hpl,hw⟩
     ·exact ⟨x.ins::X,fun _ h=>List.mem_cons_of_mem _ h,.inr (by simp),hw⟩
    obtain ⟨X',hXX,hpl,hw⟩:=hw2
    obtain ⟨v,hv,hag,hWD⟩:=(Ux T.calm).1 hw
    rw [T.idst] at hWD hag
    obtain ⟨k1,k2,k3⟩:=hI j x hx
    have hcalm:=T.calm
    have hv0:=hv
    rw [k2] at hcalm hv
    obtain ⟨hnt,_,val,_,hrv,hrc⟩:=Po h hcalm hv
    rw [←k2] at hrc
    have hput:=h.putC (d:=some d) (o:=Oc S x.ins) (fun y e=>hnt y (by rw [T.dst]; exact e)) hrv hrc
    have hne:∀p∈G,p.1≠d:=fun p hp e=>by
     obtain ⟨j',x',h1,h2,h3,h4⟩:=L.gk p hp
     have hjj:j≠j':=fun e=>hnD (e ▸ h1)
     exact (h4.oth j x hx hjj).1 (by rw [T.dst,e])
    have ancD:=Wf hA (R:=fun j=>j∈D) L.clV
    have hjs:j<ops.size:=by rw [←hlen]; exact (List.getElem?_eq_some_iff.1 hx).1
    have hunl:listed.getD j false=false:=by
     cases hq:listed.getD j false with
     | false=>rfl
     | true=>exact absurd (L.sub j hq) hnD
    have hself:Ri X' (S.putC (some d) v (Oc S x.ins)) x.ins:=by
     rcases hpl with hpl | hpl
     ·have hS:=Uy (S:=S) (d:=d) (v:=v) (o:=Oc S x.ins) T.calm hpl T.own2
      exact ⟨.inl hS.2.1,v,d,by rw [hS.1]; exact hv0,T.idst,by simp [Jp,Ef],by rw [Mi,if_pos rfl,hS.2.2]⟩
     ·exact Ri.of_wIns T.calm T.idst ⟨.inr hpl,Ui hag hpl⟩
    refine ihp (j::D) (j::E) X' (S.putC (some d) v (Oc S x.ins)) m listed ((d,val)::G) a w ⟨L.size,fun i hi=>List.mem_cons_of_mem _ (L.sub i hi),fun i hi hui=>?_,fun p hp=>?_,L.clM,fun i y hi hy e he=>?_,fun i hi=>?_⟩ hWD ?_ hfu
    ·rcases List.mem_cons.1 hi with rfl | hi
     ·exact ⟨by simp,x,d,val,hx,T,by simp,hself⟩
     ·obtain ⟨h1,x',d',v',h2,h3,h4,h5⟩:=L.ghost i hi hui
      have hij:i≠j:=fun e=>hnD (e ▸ hi)
      refine ⟨List.mem_cons_of_mem _ h1,x',d',v',h2,h3,List.mem_cons_of_mem _ h4,h5.put h3.calm hXX hag (fun hl=>?_) (fun e=>?_)⟩
      ·have:=(T.oth i x' h2 hij).2 (.inr hl)
       exact hnD (ancD i x' h2 (L.clV i x' hi h2) j this)
      ·rw [h3.idst] at e
       have:=Option.some.inj e
       exact (h3.oth j x hx (Ne.symm hij)).1 (by rw [T.dst,this])
    ·rcases List.mem_cons.1 hp with rfl | hp
     ·exact ⟨j,x,by simp,hunl,hx,T⟩
     ·obtain ⟨j',x',h1,h2⟩:=L.gk p hp
      exact ⟨j',x',List.mem_cons_of_mem _ h1,h2⟩
    ·rcases List.mem_cons.1 hi with rfl | hi
     ·rw [hx] at hy
      obtain rfl:=Option.some.inj hy
      exact List.mem_cons_of_mem _ (hdep e he)
     ·exact List.mem_cons_of_mem _ (L.clV i y hi hy e he)
    ·rcases List.mem_cons.1 hi with rfl | hi
     ·exact hjs
     ·exact L.dlt i hi
    ·show Aw φ w0 A nt m (S.putC (some d) v (Oc S x.ins)) (Act.puts' (a.put (some d) val) G) w
     rw [Kg hne]
     exact hput
   | none=>
    rw [hft] at hw
    dsimp only at hw
    refine ⟨fun hr=>?_,fun i hi=>?_⟩
    ·
     have hU:∀j,j∈D→listed.getD j false=true:=by
      intro j
      induction j using Nat.strongRecOn with
      | _ j ihj=>
       intro hj
       cases hq:listed.getD j false with
       | true=>rfl
       | false=>
        have hjs:=L.dlt j hj
        have hx:I[j]? = some (I[j]'(by omega)):=List.getElem?_eq_getElem (by omega)
        have hdl:=(Lm hA j _ hx).1
        have:j∈Region.ready .any ops listed:=Vr hI hlen hA hsel hx (by rw [Mm (by rw [L.size]; exact hjs)]; exact hq) fun d hd=>ihj d (by simpa using hdl d hd) (L.clV j _ hj hx d hd)
        rw [hr] at this
        simp at this
     have hG:G=[]:=by
      cases hg:G with
      | nil=>rfl
      | cons p r=>
       obtain ⟨j,x,h1,h2,h3,_⟩:=L.gk p (by rw [hg]; simp)
       rw [hU j h1] at h2
       cases h2
     subst hG
     cases hq:Df D 0 I with
     | nil=>
      rw [hq] at hw
      exact hQ S m a w hw h
     | cons p r=>
      obtain ⟨j,x⟩:=p
      have hm:(j,x)∈Df D 0 I:=by rw [hq]; simp
      obtain ⟨i,h1,h2,h3,h4⟩:=Ep.1 hm
      rw [Nat.zero_add] at h1
      subst h1
      have hjs:j<ops.size:=by rw [←hlen]; exact (List.getElem?_eq_some_iff.1 h2).1
      have hun:listed.getD j true=false:=by
       rw [Mm (by rw [L.size]; exact hjs)]
       cases hl:listed.getD j false with
       | false=>rfl
       | true=>exact absurd (L.sub j hl) h3
      have:j∈Region.ready .any ops listed:=Vr hI hlen hA hsel h2 hun fun d hd=>hU d (h4 d hd)
      rw [hr] at this
      simp at this
    ·obtain ⟨y,hy,hun,his,hdep⟩:=Vl hI hlen hA hsel hi
     obtain ⟨k1,k2,k3⟩:=hI i y hy
     have hunf:listed.getD i false=false:=by rw [←Mm (by rw [L.size]; exact his)]; exact hun
     have hfu':left ops (listed.setIfInBounds i true)≤Ls:=by
      have:=cV (ops:=ops) his hun
      omega
     have hsz':(listed.setIfInBounds i true).size=ops.size:=by rw [Array.size_setIfInBounds]; exact L.size
     have hset:∀j,(listed.setIfInBounds i true).getD j false=true↔j=i∨listed.getD j false=true:=by
      intro j
      by_cases e:i=j
      ·subst e
       rw [Rk _ (by rw [L.size]; exact his)]
       simp
      ·rw [getD_set_ne _ e]
       simp [Ne.symm e]
     have haway:=L.away hI hlen hA hsel hy hdep
     have clM':∀(j:Nat) (x:Bi),(listed.setIfInBounds i true).getD j false=true→I[j]? = some x→∀d∈x.dep,(listed.setIfInBounds i true).getD d false=true:=by
      intro j x hj hx d hd
      rw [hset] at hj ⊢
      rcases hj with rfl | hj
      ·rw [hy] at hx
       obtain rfl:=Option.some.inj hx
       exact .inr (hdep d hd)
      ·exact .inr (L.clM j x hj hx d hd)
     unfold wpOp
     rw [k1]
     dsimp only
     by_cases hiD:i∈D
     ·
      obtain ⟨hE,x,d,v0,hx,T,hin,hheld⟩:=L.ghost i hiD hunf
      rw [hy] at hx
      obtain rfl:=Option.some.inj hx
      obtain ⟨hpl,v,d',hv,hdd,hlk,hlc⟩:=hheld
      rw [T.idst] at hdd
      obtain rfl:=Option.some.inj hdd
      have hcalm:=T.calm
      rw [k2] at hcalm
      have hv':=hv
      rw [k2] at hv'
      obtain ⟨hnt,_,val,hgv,hrv,hrc⟩:=Po h hcalm hv'
      have hex:=Hp (ops:=ops) (G:=G) (a:=a) (hsel i _ · · k1) fun p hp=>(haway p hp).1
      rw [←k2] at hrc
      have hput:=h.putC (d:=some d) (o:=Oc S y.ins) (fun z e=>hnt z (by rw [T.dst]; exact e)) hrv hrc
      replace hput:=hput.wk ((Qw.2 ⟨hlk,hlc⟩).le Xu)
      rw [Kf] at hput
      have hnf:∀p∈G.filter (fun p=>p.1 != d),p.1≠d:=fun p hp=>by simpa using (List.mem_filter.1 hp).2
      rw [←Kg hnf] at hput
      have next:wpAny P .any ops Q Ls (listed.setIfInBounds i true) (a.put (some d) val) w:=by
       refine ih (pf+1) D E X S m _ (G.filter fun p=>p.1 != d) _ w ⟨hsz',fun j hj=>?_,fun j hj huj=>?_,fun p hp=>?_,clM',L.clV,L.dlt⟩ hw0 hput hfu'
       ·rcases (hset j).1 hj with rfl | hj
        ·exact hiD
        ·exact L.sub j hj
       ·have hji:j≠i:=fun e=>by rw [(hset j).2 (.inl e)] at huj; cases huj
        have huj':listed.getD j false=false:=by
         cases hq:listed.getD j false with
         | false=>rfl
         | true=>rw [(hset j).2 (.inr hq)] at huj; cases huj
        obtain ⟨h1,x',d',v',h2,h3,h4,h5⟩:=L.ghost j hj huj'
        refine ⟨h1,x',d',v',h2,h3,List.mem_filter.2 ⟨h4,?_⟩,h5⟩
        have:d'≠d:=fun e=>(T.oth j x' h2 hji).1 (by rw [h3.dst,e])
        simpa using this
       ·obtain ⟨hp1,hp2⟩:=List.mem_filter.1 hp
        obtain ⟨j,x',h1,h2,h3,h4⟩:=L.gk p hp1
        have hji:i≠j:=fun e=>by
         subst e
         rw [hy] at h3
         obtain rfl:=Option.some.inj h3
         have:=h4.dst
         rw [T.dst] at this
         simp at hp2
         exact hp2 (Option.some.inj this).symm
        refine ⟨j,x',h1,?_,h3,h4⟩
        rw [getD_set_ne _ hji]; exact h2
      rcases hgv with ⟨g1,g2⟩ | ⟨g1,g2⟩
      ·rw [hex.2] at g1
       rw [g1,if_pos rfl]
       left
       unfold Oper.wp
       rw [←hex.1,g2,Oper.upon_value,T.dst]
       exact next
      ·rw [hex.2] at g1
       rw [g1]
       simp only [Bool.false_eq_true,if_false]
       subst g2
       rw [T.dst]
       exact next
     ·
      have hmem:(i,y)∈Df D 0 I:=Ep.2 ⟨i,by omega,hy,hiD,fun d hd=>L.sub d (hdep d hd)⟩
      have hwi:Cb (By P φ) y.ins S (fun S'=>∃S1,Fg S' S1∧∃X',Fp (By P φ) X' ((Oe y E).map (Sg I)) S1∧Ct (By P φ) X' S1∧WD (By P φ) (Ir ops I pf (i::D) (Oe y E)) X' K S1):=by
       cases hq:Df D 0 I with
       | nil=>rw [hq] at hmem; simp at hmem
       | cons p r=>
        rw [hq] at hw
        exact Xp hw i y (by rw [←hq]; exact hmem)
      rw [k2] at hwi
      have hstep:=cQ (Q:=fun _ _ _=>False) h hwi
      have hex:=Hp (ops:=ops) (G:=G) (a:=a) (hsel i _ · · k1) fun p hp=>(haway p hp).1
      have ancM:=Wf hA (R:=fun j=>listed.getD j false=true) L.clM i y hy hdep
      have next:∀a' w',Nx φ w0 A nt (fun S'=>∃S1,Fg S' S1∧∃X',Fp (By P φ) X' ((Oe y E).map (Sg I)) S1∧Ct (By P φ) X' S1∧WD (By P φ) (Ir ops I pf (i::D) (Oe y E)) X' K S1) (Act.puts' a' G) w' →
        wpAny P .any ops Q Ls (listed.setIfInBounds i true) a' w':=by
       rintro a' w' ⟨m',S0,⟨S',hfg,X',hheld,_,hWD⟩,h'⟩
       obtain ⟨m',h'⟩:=h'.fg hfg
       refine ih pf (i::D) (Oe y E) X' S' m' _ G a' w' ⟨hsz',fun j hj=>?_,fun j hj huj=>?_,fun p hp=>?_,clM',fun j x hj hx d hd=>?_,fun j hj=>?_⟩ hWD h' hfu'
       ·rcases (hset j).1 hj with rfl | hj
        ·simp
        ·exact List.mem_cons_of_mem _ (L.sub j hj)
       ·have hji:j≠i:=fun e=>by rw [(hset j).2 (.inl e)] at huj; cases huj
        have huj':listed.getD j false=false:=by
         cases hq:listed.getD j false with
         | false=>rfl
         | true=>rw [(hset j).2 (.inr hq)] at huj; cases huj
        have hjD:j∈D:=(List.mem_cons.1 hj).resolve_left hji
        obtain ⟨h1,x',d',v',h2,h3,h4,_⟩:=L.ghost j hjD huj'
        have hjE:j∈Oe y E:=by
         refine List.mem_filter.2 ⟨h1,?_⟩
         cases hq:y.anc.contains j with
         | false=>rfl
         | true=>
          have:=ancM j (by simpa using hq)
          rw [huj'] at this
          cases this
        refine ⟨hjE,x',d',v',h2,h3,h4,?_⟩
        have hhj:=Hw hheld (Sg I j) (List.mem_map.2 ⟨j,hjE,rfl⟩)
        have:Sg I j=x'.ins:=by simp [Sg,h2]
        rw [this] at hhj
        exact Ri.of_wIns h3.calm h3.idst hhj
       ·obtain ⟨j,x',h1,h2,h3,h4⟩:=L.gk p hp
        have hji:i≠j:=fun e=>hiD (e ▸ h1)
        exact ⟨j,x',List.mem_cons_of_mem _ h1,by rw [getD_set_ne _ hji]; exact h2,h3,h4⟩
       ·rcases List.mem_cons.1 hj with rfl | hj
        ·rw [hy] at hx
         obtain rfl:=Option.some.inj hx
         exact List.mem_cons_of_mem _ (L.sub d (hdep d hd))
        ·exact List.mem_cons_of_mem _ (L.clV j x hj hx d hd)
       ·rcases List.mem_cons.1 hj with rfl | hj
        ·exact his
        ·exact L.dlt j hj
      have hdstG:∀p∈G,y.o.dst≠some p.1:=fun p hp=>(haway p hp).2 (.inl hiD)
      rw [hex.2] at hstep
      split at hstep
      ·rename_i hwt
       rw [if_pos hwt]
       left
       refine Oper.wp_mono (K:=fun a' w'=>Nx φ w0 A nt _ (Act.puts' a' G) w') (fun a' w' hN=>next a' w' hN) ?_
       exact pQ (hsel i _ · · k1) (fun p hp=>(haway p hp).1) hdstG hstep fun d b w hN=>by
        obtain ⟨m',S',_,h'⟩:=hN
        have:=h'.defers
        simp at this
      ·rename_i hwt
       rw [if_neg hwt]
       refine next _ _ ?_
       rw [puts_put' hdstG]
       exact hstep
end
theorem nD {id:Nat} (hw:WD (By P φ) (bT P φ nt ops) [] K S) (h:Aw φ w0 A nt m S a w) (hQ:∀S m a w,K S→Aw φ w0 A nt m S a w→Q .normal a w):
  (Code.region id ops true).wp P Q a w:=by
 unfold bT at hw
 dsimp only at hw
 split at hw
 ·rename_i hc
  simp only [Bool.and_eq_true,beq_iff_eq] at hc
  obtain ⟨⟨⟨hm,hA⟩,hs⟩,hlen⟩:=hc
  refine wp_region_any hm ?_
  have hI:∀(j:Nat) (x:Bi),(Jo P φ nt ops ops.toList (Wg ops.toList []))[j]? = some x→ops[j]? = some x.o∧x.ins=Ot P φ nt ops x.o∧x.dep=Lr x.o:=by
   intro j x hx
   obtain ⟨o,h1,h2,h3,h4⟩:=Pt hx
   subst h2
   exact ⟨by simpa using h1,h3,h4⟩
  have hf:∀j,(Array.replicate ops.size false).getD j false=false:=by
   intro j
   rw [Array.getD_eq_getD_getElem?,Array.getElem?_replicate]
   split<;>rfl
  refine oX hI hlen hA (fun j o cs b ho=>Region.noSelect_spec hs j o cs b ho) hQ ops.size (ops.size+1) [] [] [] S m (Array.replicate ops.size false) [] a _ ⟨by simp,fun j hj=>(by rw [hf] at hj; cases hj),by simp,by simp,fun j x hj=>(by rw [hf] at hj; cases hj),by simp,by simp⟩ hw h.drew ?_
  have:=List.length_filter_le (fun j => !(Array.replicate ops.size false).getD j true) (List.range ops.size)
  simpa [left] using this
 ·exact hw.elim
end Go.Ev
