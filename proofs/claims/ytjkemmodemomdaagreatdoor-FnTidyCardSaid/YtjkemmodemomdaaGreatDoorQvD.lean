/- Regions whose order is drawn: what an instruction taken ahead yields. -/
import Derived.Test.YtjkemmodemomdaaGreatDoorQvZ
set_option linter.all false
namespace Go.Ev
open Go.RowKit
variable {φ:Bz} {m m' m0 m1 m2:M} {w w' w0:World} {A:Fr} {nt:Nat} {S S' S1:St} {a:Act} {P:Program}
variable {o:Oper} {K:St→Prop} {Q:Exit→Act→World→Prop} {C:Bb}
theorem Aw.fg (h:Aw φ w0 A nt m S a w) (hk:Fg S S'):∃m',Aw φ w0 A nt m' S' a w:=by
 induction hk generalizing m with
 | le hk=>exact ⟨m,h.wk hk⟩
 | fz S ts=>
  obtain ⟨m',h1,_⟩:=h.freezes ts
  exact ⟨m',h1⟩
 | sw S rs hr=>exact h.swaps rs hr
 | trans _ _ ih1 ih2=>
  obtain ⟨m1,h1⟩:=ih1 h
  exact ih2 h1
def Mn (S:St) (i:Bq) (v:V):Prop:=
 match i.g with
 | none=>Cf S i.op v
 | some (gs,want)=>∃g,Jc (S.val (.t gs)) want=some g∧∃u,v = .may g u∧(g=true→Cf S i.op u)
def Oc (S:St) (i:Bq):List (Nat×Int)→Option Int:=
 match i.g,i.op with
 | none,.p o=>Fv (fun x=>Ab (S.val x)) o
 | _,_=>fun _=>none
abbrev oP (S:St) (i:Bq):Option Int:=Oc S i S.cp
theorem Ux {i:Bq} (hc:Fc i=true):Cb C i S K↔∃v,Mn S i v∧K (S.putC i.dst v (Oc S i)):=by
 obtain ⟨dst,op,g⟩:=i
 cases op with
 | p o=>
  cases g with
  | none=>
   simp only [Cb,Nb,Mn,Cf]
   constructor
   ·rintro ⟨h1,h2⟩
    split at h2
    ·rename_i ψ v hp
     exact ⟨v,⟨h1,ψ,hp,h2.1⟩,h2.2⟩
    ·exact h2.elim
   ·rintro ⟨v,⟨h1,ψ,hp,h2⟩,h3⟩
    refine ⟨h1,?_⟩
    rw [hp]
    exact ⟨h2,h3⟩
  | some gw=>
   obtain ⟨gs,want⟩:=gw
   simp only [Cb,Mn]
   cases Jc (S.val (.t gs)) want with
   | none=>exact ⟨fun h=>h.elim,fun ⟨_,⟨_,h,_⟩,_⟩=>by cases h⟩
   | some g=>
    simp only [xG]
    constructor
    ·rintro ⟨u,h1,h2⟩
     exact ⟨_,⟨g,rfl,u,rfl,h1⟩,h2⟩
    ·rintro ⟨v,⟨g',e,u,rfl,h1⟩,h2⟩
     obtain rfl:=Option.some.inj e
     exact ⟨u,h1,h2⟩
 | pick c a b=>
  cases g with
  | none=>
   simp only [Cb,Nb,Mn,Cf]
   constructor
   ·rintro ⟨h1,h2⟩
    split at h2
    ·rename_i cb hcb
     exact ⟨_,⟨h1,cb,hcb,h2.1,h2.2.1,rfl⟩,h2.2.2⟩
    ·exact h2.elim
   ·rintro ⟨v,⟨h1,cb,hcb,h2,h3,rfl⟩,h4⟩
    refine ⟨h1,?_⟩
    rw [hcb]
    exact ⟨h2,h3,h4⟩
  | some gw=>
   obtain ⟨gs,want⟩:=gw
   simp only [Cb,Mn]
   cases Jc (S.val (.t gs)) want with
   | none=>exact ⟨fun h=>h.elim,fun ⟨_,⟨_,h,_⟩,_⟩=>by cases h⟩
   | some g=>
    simp only [xG]
    constructor
    ·rintro ⟨u,h1,h2⟩
     exact ⟨_,⟨g,rfl,u,rfl,h1⟩,h2⟩
    ·rintro ⟨v,⟨g',e,u,rfl,h1⟩,h2⟩
     obtain rfl:=Option.some.inj e
     exact ⟨u,h1,h2⟩
 | _=>simp [Fc] at hc
theorem Ll {α:Type} {p q:α→Prop}:∀ {l:List α},(∀x∈l,p x=q x)→Be p l=Be q l
 | [],_=>rfl
 | x::r,h=>by simp only [Be]; rw [h x (by simp),Ll fun y hy=>h y (List.mem_cons_of_mem _ hy)]
theorem dO {u:PU} {rd rd':Ay→V} (hr:∀x∈u.opds,rd x=rd' x) (hcp:∀x∈u.opds,S.capOf x=S'.capOf x) (hb:S.bx=S'.bx) (hp:∀x n ag,u = .load x n ag→∀t sz j k,rd x ≠ .optr t sz j k):
  pu S rd u=pu S' rd' u:=by
 cases u with
 | load x n ag=>
  have h1:=hr x (by simp [PU.opds])
  have h2:=hp x n ag rfl
  simp only [pu]
  rw [←h1,←hb]
  cases hx:rd x with
  | optr t sz j k=>exact absurd hx (h2 t sz j k)
  | _=>rfl
 | slice x lo hi sz=>
  have h1:rd x=rd' x:=hr x (by simp [PU.opds])
  have h2:lo.map rd=lo.map rd':=by cases lo with | none=>rfl | some y=>simp [hr y (by simp [PU.opds])]
  have h3:hi.map rd=hi.map rd':=by cases hi with | none=>rfl | some y=>simp [hr y (by simp [PU.opds])]
  have h4:S.capOf x=S'.capOf x:=hcp x (by simp [PU.opds])
  simp only [pu,h1,h2,h3,h4]
 | sliceStr x lo hi=>
  have h1:rd x=rd' x:=hr x (by simp [PU.opds])
  have h2:lo.map rd=lo.map rd':=by cases lo with | none=>rfl | some y=>simp [hr y (by simp [PU.opds])]
  have h3:hi.map rd=hi.map rd':=by cases hi with | none=>rfl | some y=>simp [hr y (by simp [PU.opds])]
  simp only [pu,h1,h2,h3]
 | build zero parts=>
  have h1:∀p∈parts,rd p.2.2=rd' p.2.2:=fun p hp=>hr _ (by simp only [PU.opds,List.mem_map]; exact ⟨p,hp,rfl⟩)
  have h2:∀(l:List (Nat×Nat×Ay)) (cs:List V),(∀p∈l,rd p.2.2=rd' p.2.2)→l.foldl (fun cs p=>Bo cs p.1 (rd p.2.2).cells) cs=l.foldl (fun cs p=>Bo cs p.1 (rd' p.2.2).cells) cs:=by
   intro l
   induction l with
   | nil=>intros; rfl
   | cons p r ih=>
    intro cs h
    simp only [List.foldl_cons]
    rw [h p (by simp),ih _ fun q hq=>h q (List.mem_cons_of_mem _ hq)]
  simp only [pu]
  rw [h2 parts zero h1,Ll (p:=fun p:Nat×Nat×Ay=>As (rd p.2.2)=false∧(rd p.2.2).cells.length=p.2.1∧p.1+p.2.1≤zero.length)
   (q:=fun p:Nat×Nat×Ay=>As (rd' p.2.2)=false∧(rd' p.2.2).cells.length=p.2.1∧p.1+p.2.1≤zero.length) fun p hp=>by rw [h1 p hp]]
 | fn f caps=>
  have h1:caps.map rd=caps.map rd':=List.map_congr_left fun x hx=>hr x (by simpa [PU.opds] using hx)
  simp only [pu,h1]
 | _=>simp only [PU.opds,List.mem_cons,List.mem_nil_iff,or_false,forall_eq_or_imp,forall_eq] at hr; simp only [pu,hr]
theorem Tb {u:PU} {rd rd':Ay→V} (hr:∀x∈u.opds,rd x=rd' x) (hcp:∀x∈u.opds,S.capOf x=S'.capOf x):Jm S rd u=Jm S' rd' u:=by
 cases u with
 | mv x=>exact hcp x (by simp [PU.opds])
 | slice x lo hi sz=>
  have h1:rd x=rd' x:=hr x (by simp [PU.opds])
  have h2:lo.map rd=lo.map rd':=by cases lo with | none=>rfl | some y=>simp [hr y (by simp [PU.opds])]
  have h4:S.capOf x=S'.capOf x:=hcp x (by simp [PU.opds])
  simp only [Jm,Fv,h1,h2]
  rw [show Ii S.cp x=Ii S'.cp x from h4]
 | _=>rfl
theorem Vk {i:Bq} (hv:∀x∈i.op.opds,S'.val x=S.val x):Bu i S'=Bu i S:=by
 unfold Bu
 split
 ·rename_i x n ag hx
  have:S'.val x=S.val x:=hv x (by rw [hx]; simp [Sw.opds,PU.opds])
  rw [this]
 ·rfl
theorem Wt {i:Bq} {v:V} (hc:Fc i=true) (hp:Bu i S) (hv:∀x∈i.op.opds,S'.val x=S.val x) (hcp:∀x∈i.op.opds,S'.capOf x=S.capOf x) (hg:∀g want,i.g=some (g,want)→S'.val (.t g)=S.val (.t g)) (hb:S'.bx=S.bx):
  Mn S' i v=Mn S i v:=by
 have hop:∀u,Cf S' i.op u=Cf S i.op u:=by
  intro u
  obtain ⟨dst,op,g⟩:=i
  cases op with
  | p o=>
   have h1:∀x∈o.opds,S'.val x=S.val x:=fun x hx=>hv x hx
   have h2:pu S' (fun x=>Ab (S'.val x)) o=pu S (fun x=>Ab (S.val x)) o:=dO (fun x hx=>by rw [h1 x hx]) (fun x hx=>hcp x hx) hb fun x n ag e t sz j k hh=>by
    subst e
    rw [h1 x (by simp [PU.opds])] at hh
    simp only [Bu,hh] at hp
   have h3:Be (fun x=>Af true (S'.val x)) o.opds=Be (fun x=>Af true (S.val x)) o.opds:=Ll fun x hx=>by rw [h1 x hx]
   simp only [Cf,h2,h3]
  | pick c a b=>
   have h1:S'.val c=S.val c:=hv c (by simp [Sw.opds])
   have h2:S'.val a=S.val a:=hv a (by simp [Sw.opds])
   have h3:S'.val b=S.val b:=hv b (by simp [Sw.opds])
   simp only [Cf,h1,h2,h3]
  | _=>simp [Fc] at hc
 unfold Mn
 cases hig:i.g with
 | none=>simp only [hop]
 | some gw=>
  obtain ⟨gs,want⟩:=gw
  simp only [hop,hg gs want hig]
theorem Jp {d:Nat} {v:V} {o:List (Nat×Int)→Option Int}:(S.putC (some d) v o).env=ins S.env d v:=rfl
theorem Xu {d:Option Nat} {v:V} {o:List (Nat×Int)→Option Int}:(S.putC d v o).bx=S.bx:=by cases d<;>rfl
theorem Mi {d k:Nat} {v:V} {o:List (Nat×Int)→Option Int}:look (S.putC (some d) v o).cp k=if k=d then o S.cp else look S.cp k:=Lx d k o S.cp
theorem Qw {d:Nat} {v:V} {o:List (Nat×Int)→Option Int}:Pj (S.putC (some d) v o) S↔look S.env d=some v∧look S.cp d=o S.cp:=by
 constructor
 ·intro h
  constructor
  ·rw [←h.1 d,Jp,Ef,if_pos rfl]
  ·rw [←h.2 d,Mi,if_pos rfl]
 ·rintro ⟨h1,h2⟩
  constructor
  ·intro t
   rw [Jp,Ef]
   split
   ·rename_i e; subst e; exact h1.symm
   ·rfl
  ·intro k
   rw [Mi]
   split
   ·rename_i e; subst e; exact h2.symm
   ·rfl
theorem Pj.le {S S':St} (h:Pj S' S) (hb:S'.bx=S.bx):Le S' S:=
 ⟨fun t v hv=>by rw [h.1 t]; exact hv,fun t cs hc=>by rw [hb]; exact hc,fun k c hk=>.inl ⟨c,by rw [h.2 k]; exact hk,.inl rfl⟩⟩
theorem Yv {d:Nat} {v:V} {x:Ay} {o:List (Nat×Int)→Option Int} (h:x ≠ .t d):(S.putC (some d) v o).val x=S.val x:=by
 cases x with
 | t n=>
  have:¬d=n:=fun e=>h (by rw [e])
  simp [St.val,Jp,Ef,this]
 | c v=>rfl
theorem nA {d:Nat} {v:V} {x:Ay} {o:List (Nat×Int)→Option Int} (h:x ≠ .t d):(S.putC (some d) v o).capOf x=S.capOf x:=by
 cases x with
 | t n=>
  have:¬n=d:=fun e=>h (by rw [e])
  simp [St.capOf,Ii,Mi,this]
 | c v=>rfl
theorem Mt {i:Bq} {n:Nat}:(Ay.t n∈i.op.opds→n∈Dr i)∧(∀want,i.g=some (n,want)→n∈Dr i):=by
 constructor
 ·intro h
  unfold Dr
  exact List.mem_append_left _ (List.mem_filterMap.2 ⟨.t n,h,rfl⟩)
 ·intro want h
  unfold Dr
  rw [h]
  exact List.mem_append_right _ (by simp)
theorem Uy {i:Bq} {d:Nat} {v:V} {o:List (Nat×Int)→Option Int} (hc:Fc i=true) (hp:Bu i S) (hd:d∉Dr i):
  (∀u,Mn (S.putC (some d) v o) i u=Mn S i u)∧Bu i (S.putC (some d) v o)∧oP (S.putC (some d) v o) i=oP S i:=by
 have hne:∀x∈i.op.opds,x ≠ .t d:=fun x hx e=>hd (Mt.1 (e ▸ hx))
 have hv:∀x∈i.op.opds,(S.putC (some d) v o).val x=S.val x:=fun x hx=>Yv (hne x hx)
 have hcp:∀x∈i.op.opds,(S.putC (some d) v o).capOf x=S.capOf x:=fun x hx=>nA (hne x hx)
 refine ⟨fun u=>Wt hc hp hv hcp (fun g want hg=>Yv fun e=>?_) Xu,by rw [Vk hv]; exact hp,?_⟩
 ·cases e
  exact hd (Mt.2 want hg)
 ·obtain ⟨dst,op,g⟩:=i
  cases g with
  | some _=>rfl
  | none=>
   cases op with
   | p u=>exact Tb (fun x hx=>by rw [hv x hx]) (fun x hx=>hcp x hx)
   | _=>rfl
def Ri (X:List Bq) (S:St) (i:Bq):Prop:=(Bu i S∨i∈X)∧∃v d,Mn S i v∧i.dst=some d∧look S.env d=some v∧look S.cp d=oP S i
theorem Ri.of_wIns {X:List Bq} {i:Bq} {d:Nat} (hc:Fc i=true) (hd:i.dst=some d) (h:(Bu i S∨i∈X)∧Cb C i S (fun S'=>Pj S' S)):Ri X S i:=by
 obtain ⟨h1,h2⟩:=h
 obtain ⟨v,h3,h5⟩:=(Ux hc).1 h2
 rw [hd] at h5
 exact ⟨h1,v,d,h3,hd,(Qw.1 h5).1,(Qw.1 h5).2⟩
theorem Ui {X:List Bq} (h:Ct C X S) {i:Bq} (hi:i∈X):Cb C i S (fun S'=>Pj S' S):=by
 induction X with
 | nil=>simp at hi
 | cons a r ih=>
  rcases List.mem_cons.1 hi with rfl | hi
  ·exact h.1
  ·exact ih h.2 hi
theorem Ri.put {X X':List Bq} {i:Bq} {d:Nat} {v:V} {o:List (Nat×Int)→Option Int} (hc:Fc i=true) (h:Ri X S i) (hX:∀j∈X,j∈X') (ha:Ct C X' (S.putC (some d) v o)) (hd:d∉Dr i) (hd2:i.dst≠some d):Ri X' (S.putC (some d) v o) i:=by
 obtain ⟨h1,u,e,h2,h4,h5,h8⟩:=h
 rcases h1 with h1 | h1
 ·obtain ⟨h6,h7,h9⟩:=Uy (v:=v) (o:=o) hc h1 hd
  have:¬d=e:=fun hh=>hd2 (by rw [h4,hh])
  exact ⟨.inl h7,u,e,by rw [h6]; exact h2,h4,by simp [Jp,Ef,this,h5],by rw [Mi,if_neg (fun hh=>this hh.symm),h9]; exact h8⟩
 ·exact Ri.of_wIns hc h4 ⟨.inr (hX _ h1),Ui ha (hX _ h1)⟩
end Go.Ev
