/- The transformer W, laid out as a list of what is still to be done; a step for each instruction; loops as repeated steps. -/
import Derived.Test.YtnkhjipmmomjoaaGreatQvB
import Derived.KernelRfl
set_option linter.all false
namespace Go.Ev
section
variable {σ ρ:Type}
def Ht (step:σ→Option (σ⊕ρ)):Nat→σ→Option ρ
 | 0,_=>none
 | n+1,s=>match step s with
  | none=>none
  | some (.inl s')=>Ht step n s'
  | some (.inr r)=>some r
noncomputable def Ca (step:σ→Option (σ⊕ρ)) (s:σ):Option ρ:=
 @dite _ (∃r n,Ht step n s=some r) (Classical.propDecidable _) (fun h=>some (Classical.choose h)) (fun _=>none)
theorem Sf {step:σ→Option (σ⊕ρ)} {r:ρ}:∀ {n m:Nat} {s:σ},Ht step n s=some r→n≤m→Ht step m s=some r
 | 0,_,_,h,_=>by simp [Ht] at h
 | n+1,m+1,s,h,hm=>by
  simp only [Ht] at h ⊢
  split at h
  ·cases h
  ·exact Sf h (by omega)
  ·exact h
 | n+1,0,_,_,hm=>by omega
theorem Kd {step:σ→Option (σ⊕ρ)} {s:σ} {r:ρ}:Ca step s=some r↔∃n,Ht step n s=some r:=by
 constructor
 ·intro h
  unfold Ca at h
  split at h
  ·rename_i hh
   cases h
   exact Classical.choose_spec hh
  ·cases h
 ·rintro ⟨n,h⟩
  have hh:∃r n,Ht step n s=some r:=⟨r,n,h⟩
  unfold Ca
  rw [dif_pos hh]
  obtain ⟨k,hk⟩:=Classical.choose_spec hh
  have h1:=Sf h (Nat.le_max_left n k)
  have h2:=Sf hk (Nat.le_max_right n k)
  rw [h1] at h2
  exact h2.symm
theorem Df {step:σ→Option (σ⊕ρ)} {s s':σ} (h:step s=some (.inl s')):Ca step s=Ca step s':=by
 cases hr:Ca step s' with
 | some r=>
  obtain ⟨n,hn⟩:=Kd.1 hr
  exact Kd.2 ⟨n+1,by simp only [Ht,h]; exact hn⟩
 | none=>
  cases hr':Ca step s with
  | none=>rfl
  | some r=>
   obtain ⟨n,hn⟩:=Kd.1 hr'
   cases n with
   | zero=>simp [Ht] at hn
   | succ n=>
    simp only [Ht,h] at hn
    rw [Kd.2 ⟨n,hn⟩] at hr
    cases hr
theorem Dk {step:σ→Option (σ⊕ρ)} {s:σ} {r:ρ} (h:step s=some (.inr r)):Ca step s=some r:=
 Kd.2 ⟨1,by simp only [Ht,h]⟩
end
theorem bnd {α β:Type} {o:Option α} {f:α→Option β} {r:β} (h:o.bind f=some r):∃x,o=some x∧f x=some r:=by
 cases o with
 | none=>cases h
 | some x=>exact ⟨x,rfl,h⟩
def Bx {α β:Type} (e:α) (f:α→β):β:=f e
theorem grd {α:Type} {c:Prop} [Decidable c] {a:Option α} {r:α} (h:(if c then a else none)=some r):c∧a=some r:=by
 split at h
 ·rename_i hc; exact ⟨hc,h⟩
 ·cases h
theorem ip {α:Type} {c:Prop} [Decidable c] {a b:α} {r:α} (hc:c) (h:(if c then a else b)=r):a=r:=by rwa [if_pos hc] at h
theorem aB {α:Type} {b:Bool} {x y:α} {r:α} (hc:b=false) (h:(if b=true then x else y)=r):y=r:=by subst hc; exact h
theorem At {a b:Bool} (h1:a=true) (h2:b=true):(a&&b)=true:=by rw [h1,h2]; rfl
theorem Ta {b:Bool} (h:b=true):(b==true)=true:=by cases b<;>first | rfl | cases h
theorem Uw {b:Bool} (h:(!b)=true):(b==false)=true:=by cases b<;>first | rfl | cases h
def Co {α:Type} (l:List α) (n:Int):Option α:=if 0≤n then l[n.toNat]? else none
theorem Ph {α:Type} {l:List α} {n:Int} {y:α} (h:Co l n=some y):0≤n∧n<l.length∧l[n.toNat]? = some y:=by
 unfold Co at h
 split at h
 ·rename_i h0
  have:=(List.getElem?_eq_some_iff.1 h).1
  exact ⟨h0,by omega,h⟩
 ·cases h
def u8 (n:Int):UInt8:=UInt8.ofNat (n%256).toNat
theorem u8_eq {n:Int} (h0:0≤n) (h1:n<256):((u8 n).toNat:Int)=n:=by
 unfold u8
 have h2:(n%256).toNat=n.toNat:=by rw [Int.emod_eq_of_lt h0 h1]
 rw [h2,UInt8.toNat_ofNat']
 omega
theorem FT (x:Int):IntKind.u8.wrap x=x%256:=by
 simp [IntKind.wrap,IntKind.bits,IntKind.signed]
theorem pV (x:Int):((u8 (IntKind.u8.wrap x)).toNat:Int)=IntKind.u8.wrap x:=by
 rw [FT]
 exact u8_eq (Int.emod_nonneg _ (by decide)) (Int.emod_lt_of_pos _ (by decide))
def b8 (n:Int):UInt8:=u8 (IntKind.u8.wrap n)
abbrev fV (k:IntKind) (a b:Int):Int:=k.wrap (BitVec.ofInt k.bits a &&& BitVec.ofInt k.bits b).toNat
abbrev bZ (k:IntKind) (a b:Int):Int:=k.wrap (BitVec.ofInt k.bits a ^^^ BitVec.ofInt k.bits b).toNat
abbrev fY (k:IntKind) (a b:Int):Int:=k.wrap (a*2^min b.toNat k.bits)
abbrev Nd (_:IntKind) (a b:Int):Int:=a.fdiv (2^min b.toNat 64)
def okInt (k:IntKind) (n:Int):Prop:=k.min≤n∧n≤k.max
abbrev Oh:Int→Prop:=okInt .i64
def jQ {α:Type} (_:α):Prop:=True
def okStr (s:List UInt8):Prop:=s.length≤9223372036854775807
def okL {α:Type} (p:α→Prop) (l:List α):Prop:=l.length≤9223372036854775807∧∀x∈l,p x
def eU8 (b:UInt8):List V:=[.int .u8 (b.toNat:Int)]
def eInt (k:IntKind) (n:Int):List V:=[.int k n]
def eI (n:Int):List V:=[.int .i64 n]
def eB (b:Bool):List V:=[.bool b]
def eS (s:List UInt8):List V:=[.str s]
def eL {α:Type} (n:Nat) (e:α→List V) (l:List α):List V:=[.lst n (l.map e)]
def Io (k:List V):Prop:=
 (∀(S:St) (LB XR:List Nat) (fz:Bool) (n:Nat),k.map (S.liftP LB XR fz n)=k) ∧
 (∀(S:St) (LB LR LM:List Nat) (fz:Bool),k.map (mapW (S.liftC LB LR LM fz))=k)∧Of (fun v => !Cg v) k=true∧(∀(S:St) (XB XR:List Nat) (n:Nat),k.map (S.cl XB XR n)=k)∧∀t,k.all (Ja t)=true
theorem Be {F:V→V} {v v':V} {l l':List V} (h1:F v=v') (h2:l.map F=l'):(v::l).map F=v'::l':=by rw [List.map_cons,h1,h2]
theorem Eo {k:List V} {f:Nat} {S:St} {LB LR LM:List Nat} {fz:Bool} (h:Io k):mapW (S.liftC LB LR LM fz) (.clo f k) = .clo f k:=by
 show V.clo f (k.map (S.liftP LB (LR++LM) fz 2))=_
 rw [h.1]
theorem iR {k:List V} {f t:Nat} (h:Io k):oF t (.clo f k) = .clo f k:=by
 unfold oF
 have:V.no t (.clo f k)=true:=by simp only [V.no,V.flat,V.flat1,List.all_cons,List.all_nil,Bool.and_true]; exact h.2.2.2.2 t
 rw [this]
 rfl
inductive Hg where
 | c (a:IR)
 | w
 | b (id:Nat)
section
variable (C:Bj)
def WL:List Hg→(Ex→St→Prop)→Ex→St→Prop
 | [],Q,e,S=>Q e S
 | .c a::T,Q,.normal,S=>W C a (WL T Q) S
 | .c _::T,Q,.exit i,S=>WL T Q (.exit i) S
 | .c _::T,Q,.ret,S=>WL T Q .ret S
 | .w::T,Q,.normal,S=>∃S1,Fg S S1∧WL T Q .normal S1
 | .w::T,Q,.exit i,S=>WL T Q (.exit i) S
 | .w::T,Q,.ret,S=>WL T Q .ret S
 | .b id::T,Q,.exit i,S=>if i=id then WL T Q .normal S else WL T Q (.exit i) S
 | .b _::T,Q,.normal,S=>WL T Q .normal S
 | .b _::T,Q,.ret,S=>WL T Q .ret S
def OL (l:List Cd) (T:List Hg) (Q:Ex→St→Prop) (S:St):Prop:=sF C l (WL C T Q .normal) S
variable {C} {Q:Ex→St→Prop} {S:St} {T:List Hg} {l:List Cd} {d:Option Nat} {K:St→Prop} {i:Cd}
theorem Le.refl (S:St):Le S S:=⟨fun _ _ h=>h,fun _ _ h=>h,fun _ c h=>.inl ⟨c,h,.inl rfl⟩⟩
theorem Le.of {S S':St} (h1:Ct (fun p=>look S.env p.1=some p.2) S'.env) (h2:Ct (fun p=>look S.bx p.1=some p.2) S'.bx) (h3:S'.cp=[]):Le S S':=by
 have key:∀ {α:Type} (g:Nat→Option α) (l:List (Nat×α)),Ct (fun p=>g p.1=some p.2) l→∀t v,look l t=some v→g t=some v:=by
  intro α g l
  induction l with
  | nil=>intro _ t v hv; simp [look] at hv
  | cons p r ih=>
   obtain ⟨b,x⟩:=p
   intro hp t v hv
   simp only [look] at hv
   split at hv
   ·rename_i e; subst e; obtain rfl:=Option.some.inj hv; exact hp.1
   ·exact ih hp.2 t v hv
 exact ⟨key _ _ h1,key _ _ h2,fun k c h=>by rw [h3] at h; simp [look] at h⟩
theorem sQ {S S' S'':St} (h:Fg S S') (h1:Ct (fun p=>look S'.env p.1=some p.2) S''.env) (h2:Ct (fun p=>look S'.bx p.1=some p.2) S''.bx) (h3:S''.cp=[]:=by rfl):Fg S S'':=h.trans (.le (Le.of h1 h2 h3))
theorem Fg.refl (S:St):Fg S S:=.le (Le.refl S)
theorem fg {S S':St} (h1:Ct (fun p=>look S.env p.1=some p.2) S'.env) (h2:Ct (fun p=>look S.bx p.1=some p.2) S'.bx) (h3:S'.cp=[]:=by rfl):Fg S S':=.le (Le.of h1 h2 h3)
abbrev iB (S S':St):Prop:=(S'.env.map (fun p=>look S.env p.1),S'.bx.map (fun p=>look S.bx p.1),S'.cp)=(S'.env.map (fun p=>some p.2),S'.bx.map (fun p=>some p.2),[])
theorem On {α β:Type} {f g:α→β}:∀ {l:List α},l.map f=l.map g→Ct (fun p=>f p=g p) l
 | [],_=>trivial
 | _::_,h=>by
  simp only [List.map_cons,List.cons.injEq] at h
  exact ⟨h.1,On h.2⟩
theorem iB.le {S S':St} (h:iB S S'):Le S S':=by
 simp only [iB,Prod.mk.injEq] at h
 exact Le.of (On h.1) (On h.2.1) h.2.2
theorem Dw {S S':St} (h:(S'.env.map (fun p=>look S.env p.1),S'.bx.map (fun p=>look S.bx p.1),S'.cp)=(S'.env.map (fun p=>some p.2),S'.bx.map (fun p=>some p.2),([]:List (Nat×Int)))):Fg S S':=.le (iB.le h)
theorem qP {S S':St} (ts:List Nat) (h:(S'.env.map (fun p=>look (S.freezes ts).env p.1),S'.bx.map (fun p=>look (S.freezes ts).bx p.1),S'.cp)=(S'.env.map (fun p=>some p.2),S'.bx.map (fun p=>some p.2),([]:List (Nat×Int)))):Fg S S':=(Fg.fz S ts).trans (.le (iB.le h))
theorem eV {S S':St} (ts:List Nat) (rs:List (Nat×Nat)) (hr:nG rs=true) (h:(S'.env.map (fun p=>look ((S.freezes ts).swaps rs).env p.1),S'.bx.map (fun p=>look ((S.freezes ts).swaps rs).bx p.1),S'.cp)=(S'.env.map (fun p=>some p.2),S'.bx.map (fun p=>some p.2),([]:List (Nat×Int)))):Fg S S':=
 (Fg.fz S ts).trans ((Fg.sw _ rs hr).trans (.le (iB.le h)))
theorem BT {S S':St} (h1:Ct (fun p=>look S.env p.1=some p.2) S'.env) (h2:Ct (fun p=>look S.bx p.1=some p.2) S'.bx) (h3:Ct (fun p=>oE S p.1 p.2) S'.cp):Fg S S':=by
 refine .le ⟨(Le.of (S':={ S' with cp:=[] }) h1 h2 rfl).1,(Le.of (S':={ S' with cp:=[] }) h1 h2 rfl).2.1,?_⟩
 generalize S'.cp=l at h3
 induction l with
 | nil=>intro k c h; simp [look] at h
 | cons p r ih=>
  intro k c h
  simp only [look] at h
  split at h
  ·rename_i e; subst e; obtain rfl:=Option.some.inj h; exact h3.1
  ·exact ih h3.2 k c h
theorem wkJ {C:Bj} {T:List Hg} {Q:Ex→St→Prop} {S S1:St} (h1:Fg S S1) (h:WL C (.w::T) Q .normal S1):WL C (.w::T) Q .normal S:=by
 obtain ⟨S2,h2,h⟩:=h
 exact ⟨S2,h1.trans h2,h⟩
theorem nV (a:IR) {Q Q':Ex→St→Prop} (h:∀e S,Q e S=Q' e S):W C a Q S=W C a Q' S:=by
 have:Q=Q':=funext fun e=>funext fun S=>h e S
 rw [this]
theorem Bt {a b:IR} (h:WL C (.c a :: .w :: .c b::T) Q .normal S):WL C (.c (.seq a b)::T) Q .normal S:=by
 have e:WL C (.c a :: .w :: .c b::T) Q .normal S=WL C (.c (.seq a b)::T) Q .normal S:=by
  show W C a _ S=W C a _ S
  exact nV a fun e S=>by cases e<;>rfl
 exact e ▸ h
theorem Cc {id:Nat} {a:IR} (h:WL C (.c a :: .b id::T) Q .normal S):WL C (.c (.block id a)::T) Q .normal S:=by
 have e:WL C (.c a :: .b id::T) Q .normal S=WL C (.c (.block id a)::T) Q .normal S:=by
  show W C a _ S=W C a _ S
  exact nV a fun e S=>by cases e<;>rfl
 exact e ▸ h
theorem Jk {id:Nat} {a:IR} (R:St→Prop) (hJ:∀S,R S→WL C (.w::T) Q .normal S)
  (h:(∀S S1,Fg S S1→R S1→WL C (.w::T) Q .normal S)→WL C (.c a :: .b id :: .w::T) Q .normal S):WL C (.c (.block id a) :: .w::T) Q .normal S:=
 Cc (h fun _ S1 h1 h2=>wkJ h1 (hJ S1 h2))
theorem As (h:OL C l T Q S):WL C (.c (.reg l)::T) Q .normal S:=h
theorem Lc (h:WL C T Q .normal S):WL C (.c .skip::T) Q .normal S:=h
theorem Su {id:Nat} (h:WL C T Q .normal S):WL C (.b id::T) Q .normal S:=h
theorem Dc (S1:St) (h1:Fg S S1) (h:WL C T Q .normal S1):WL C (.w::T) Q .normal S:=⟨S1,h1,h⟩
theorem eF (h:WL C T Q .normal S):WL C (.w::T) Q .normal S:=⟨S,Fg.refl S,h⟩
theorem Ha (h:WL C T Q .normal S):OL C [] T Q S:=h
theorem st (h:Di C i S (OL C l T Q)):OL C (i::l) T Q S:=⟨S,Fg.refl S,h⟩
theorem sw (S1:St) (h1:Fg S S1) (h:Di C i S1 (OL C l T Q)):OL C (i::l) T Q S:=⟨S1,h1,h⟩
theorem Vq {c:Ck} {a b:IR} {cb:Bool} (hc:S.val c = .bool cb) (h1:cb=true→WL C (.c a::T) Q .normal S) (h2:cb=false→WL C (.c b::T) Q .normal S):
  WL C (.c (.ite c a b)::T) Q .normal S:=by
 refine ⟨by rw [hc]; trivial,?_⟩
 rw [hc]
 exact ⟨h1,h2⟩
theorem Ld {c:Ck} {a b:IR} {cb:Bool} (R:St→Prop) (hc:S.val c = .bool cb) (hJ:∀S,R S→WL C (.w::T) Q .normal S)
  (h1:cb=true→(∀S S1,Fg S S1→R S1→WL C (.w::T) Q .normal S)→WL C (.c a :: .w::T) Q .normal S)
  (h2:cb=false→(∀S S1,Fg S S1→R S1→WL C (.w::T) Q .normal S)→WL C (.c b :: .w::T) Q .normal S):WL C (.c (.ite c a b) :: .w::T) Q .normal S:=
 Vq hc (fun e=>h1 e fun _ S1 h1 h2=>wkJ h1 (hJ S1 h2)) (fun e=>h2 e fun _ S1 h1 h2=>wkJ h1 (hJ S1 h2))
def rP:List Hg→Nat→List Hg
 | [],_=>[]
 | .b id::T,i=>if i=id then T else rP T i
 | _::T,i=>rP T i
def fU:List Hg→Nat→Bool
 | [],_=>false
 | .b id::T,i=>if i=id then true else fU T i
 | _::T,i=>fU T i
theorem BS {i:Nat}:∀ {T:List Hg},fU T i=true→WL C (rP T i) Q .normal S→WL C T Q (.exit i) S
 | .b id::T,hb,h=>by
  simp only [fU,rP,WL] at hb h ⊢
  by_cases e:i=id
  ·rw [if_pos e]; rw [if_pos e] at h; exact h
  ·rw [if_neg e]; rw [if_neg e] at hb h; exact BS hb h
 | .c _::T,hb,h=>BS (T:=T) hb h
 | .w::T,hb,h=>BS (T:=T) hb h
theorem AcG {i:Nat}:∀ {T:List Hg},fU T i=false→Q (.exit i) S→WL C T Q (.exit i) S
 | [],_,h=>h
 | .b id::T,hb,h=>by
  simp only [fU,WL] at hb ⊢
  by_cases e:i=id
  ·rw [if_pos e] at hb; cases hb
  ·rw [if_neg e]; rw [if_neg e] at hb; exact AcG hb h
 | .c _::T,hb,h=>AcG (T:=T) hb h
 | .w::T,hb,h=>AcG (T:=T) hb h
theorem EY:∀ {T:List Hg},Q .ret S→WL C T Q .ret S
 | [],h=>h
 | .b _::T,h=>EY (T:=T) h
 | .c _::T,h=>EY (T:=T) h
 | .w::T,h=>EY (T:=T) h
theorem ex_ {i:Nat} (hb:fU T i=true) (h:WL C (rP T i) Q .normal S):WL C (.c (.exit i)::T) Q .normal S:=BS hb h
theorem Hq {i:Nat} (hb:fU T i=false) (h:Q (.exit i) S):WL C (.c (.exit i)::T) Q .normal S:=AcG hb h
theorem Ka (h:Q .ret S):WL C (.c .ret::T) Q .normal S:=EY (T:=T) h
theorem Cr {σ ρ:Type} {a:IR} {R:St→Prop} (step:σ→Option (σ⊕ρ)) (st:σ→St→Prop) {s0:σ} {r:ρ} (h:Ca step s0=some r) (S1:St) (hS:Fg S S1) (h0:st s0 S1)
  (j:Nat) (hb:(∃S,R S)→fU T j=true) (hR:∀S' S1,Fg S' S1→R S1→WL C (rP T j) Q .normal S')
  (hr:∀(s:σ) (o:σ⊕ρ) (S:St) (K:Ex→St→Prop),st s S→step s=some o→(∀x,o = .inr x→x=r) →
   (∀s',o = .inl s'→∀S' S'',Fg S' S''→st s' S''→K .normal S')→(∀S' S1,Fg S' S1→R S1→K (.exit j) S')→(∀S',Q .ret S'→K .ret S')→WL C [.c a] K .normal S):
  WL C (.c (.loop a)::T) Q .normal S:=by
 let I:St→Prop:=fun S=>∃n s,Ht step n s=some r∧st s S
 have least:∀S,I S→∃n,(∃s,Ht step n s=some r∧st s S)∧∀k,(∃s,Ht step k s=some r∧st s S)→n≤k:=by
  intro S ⟨n,hn⟩
  induction n using Nat.strongRecOn with
  | _ n ih=>
   by_cases hex:∃k,k<n∧∃s,Ht step k s=some r∧st s S
   ·obtain ⟨k,hk,hak⟩:=hex
    exact ih k hk hak
   ·exact ⟨n,hn,fun k hk=>Nat.le_of_not_lt fun hlt=>hex ⟨k,hlt,hk⟩⟩
 let μ:St→Nat:=fun S=>@dite _ (I S) (Classical.propDecidable _) (fun hh=>Classical.choose (least S hh)) (fun _=>0)
 have hμ:∀S (hh:I S),(∃s,Ht step (μ S) s=some r∧st s S)∧∀k,(∃s,Ht step k s=some r∧st s S)→μ S≤k:=by
  intro S hh
  have e:μ S=Classical.choose (least S hh):=dif_pos hh
  rw [e]
  exact Classical.choose_spec (least S hh)
 obtain ⟨n0,hn0⟩:=Kd.1 h
 refine ⟨I,μ,⟨S1,hS,n0,s0,hn0,h0⟩,fun S hI=>?_⟩
 obtain ⟨⟨s,hs,hst⟩,_⟩:=hμ S hI
 cases hm:μ S with
 | zero=>rw [hm] at hs; simp [Ht] at hs
 | succ n=>
  rw [hm] at hs
  simp only [Ht] at hs
  cases hstep:step s with
  | none=>rw [hstep] at hs; cases hs
  | some o=>
   rw [hstep] at hs
   refine hr s o S _ hst hstep (fun x e=>?_) (fun s' e S' S'' hf hs'=>?_) (fun S' S1 hf hR1=>?_) (fun S' hq=>?_)
   ·subst e; exact Option.some.inj hs
   ·subst e
    exact ⟨S'',hf,⟨n,s',hs,hs'⟩,Nat.lt_of_le_of_lt ((hμ S'' ⟨n,s',hs,hs'⟩).2 n ⟨s',hs,hs'⟩) (by omega)⟩
   ·exact BS (hb ⟨S1,hR1⟩) (hR S' S1 hf hR1)
   ·exact EY hq
abbrev nm (S:St) (x:Ck):Prop:=Bh true (S.val x)
theorem Cj {n:Nat} {v:V} (h:look S.env n=some v) (hn:Bh true v) (k:K (S.putC d (Av v) fun l=>look l n)):Di C ⟨d,.p (.mv (.t n)),none⟩ S K:=by
 have hv:S.val (.t n)=v:=by simp only [St.val,h]; rfl
 refine ⟨⟨by show Bh true (S.val (.t n)); rw [hv]; exact hn,trivial⟩,trivial,?_⟩
 show K (S.putC d (Av (S.val (.t n))) fun l=>look l n)
 rw [hv]
 exact k
theorem DZ {v:V} (hn:Bh true v) (k:K (S.put d (Av v))):Di C ⟨d,.p (.mv (.c v)),none⟩ S K:=⟨⟨hn,trivial⟩,trivial,k⟩
theorem p_ {o:PU} {φ:Prop} {v:V} (hm:Ct (nm S) o.opds) (hp:pu S (fun x=>Av (S.val x)) o=some (φ,v)) (hφ:φ) (k:K (S.putC d v (Iz (fun x=>Av (S.val x)) o))):
  Di C ⟨d,.p o,none⟩ S K:=by
 refine ⟨hm,?_⟩
 rw [hp]
 exact ⟨hφ,k⟩
theorem Bl {o:PU} {φ:Prop} {v:V} (hm:Ct (nm S) o.opds) (hp:pu S (fun x=>Av (S.val x)) o=some (φ,v)) (hφ:φ):Dd S (.p o) v:=⟨hm,φ,hp,hφ⟩
theorem Bv {o:PU} {u:V} {gs:Nat} {want g:Bool} (hg:Nc (S.val (.t gs)) want=some g) (h:g=true→Dd S (.p o) u) (k:K (S.put d (.may g u))):Di C ⟨d,.p o,some (gs,want)⟩ S K:=by
 unfold Di
 dsimp only
 rw [hg]
 exact ⟨u,h,k⟩
theorem Nk {a b c:Ck} {u:V} {gs:Nat} {want g:Bool} (hg:Nc (S.val (.t gs)) want=some g) (h:g=true→Dd S (.pick a b c) u) (k:K (S.put d (.may g u))):Di C ⟨d,.pick a b c,some (gs,want)⟩ S K:=by
 unfold Di
 dsimp only
 rw [hg]
 exact ⟨u,h,k⟩
theorem Dm {n:Nat} {v:V} (h:look S.env n=some v) (hm:Bh true v):Dd S (.p (.mv (.t n))) (Av v):=by
 have hv:S.val (.t n)=v:=by simp only [St.val,h]; rfl
 refine ⟨⟨by show Bh true (S.val (.t n)); rw [hv]; exact hm,trivial⟩,True,?_,trivial⟩
 show some (True,Av (S.val (.t n)))=_
 rw [hv]
theorem Sz {c a b:Ck} {cb:Bool} {x y v z:V} (hc:S.val c=z) (hz:Av z = .bool cb) (hm:Bh true z) (ha:S.val a=x) (hb:S.val b=y) (h1:Bh cb x) (h2:Bh (!cb) y)
  (hv:Pv cb (Av x) (Av y)=v):Dd S (.pick c a b) v:=by
 refine ⟨by rw [hc]; exact hm,cb,by rw [hc]; exact hz,by rw [ha]; exact h1,by rw [hb]; exact h2,?_⟩
 rw [ha,hb]; exact hv.symm
theorem Nw {α:Type} {e:α→List V} {l0:List α} {x i:Ck} {vx vi:V} {sz:Nat} {k:IntKind} {n:Int} {y:α} (hx:S.val x=vx) (hx':Av vx = .lst sz (l0.map e)) (hmx:Bh true vx)
  (hi:S.val i=vi) (hi':Av vi = .int k n) (hmi:Bh true vi) (hy:Co l0 n=some y):Dd S (.p (.idxA x i sz)) (.iptr (e y)):=by
 obtain ⟨h0,h1,h2⟩:=Ph hy
 refine ⟨⟨by show Bh true (S.val x); rw [hx]; exact hmx,by show Bh true (S.val i); rw [hi]; exact hmi,trivial⟩,sz=sz∧0≤n∧n<(l0.map e).length,?_,rfl,h0,by simpa using h1⟩
 simp only [pu,hx,hi,hx',hi']
 have:(l0.map e).getD n.toNat []=e y:=by simp [List.getD,h2]
 rw [this]
theorem Wf {α:Type} {e:α→List V} {l0:List α} {x:Ck} {vx:V} {sz:Nat} (hx:S.val x=vx) (hx':Av vx = .lst sz (l0.map e)) (hm:Bh true vx) (hz:sz≠0:=by decide):Dd S (.p (.len x)) (.int .i64 (l0.length:Int)):=by
 refine ⟨⟨by show Bh true (S.val x); rw [hx]; exact hm,trivial⟩,(sz≠0),?_,hz⟩
 simp only [pu,hx,hx',List.length_map]
theorem Dh {c a b:Ck} {cb:Bool} {x y v:V} (hc:S.val c = .bool cb) (ha:S.val a=x) (hb:S.val b=y) (h1:Bh cb x) (h2:Bh (!cb) y)
  (hv:Pv cb (Av x) (Av y)=v) (k:K (S.put d v)):Di C ⟨d,.pick c a b,none⟩ S K:=by
 refine ⟨by rw [hc]; trivial,?_⟩
 have e:Av (S.val c) = .bool cb:=by rw [hc]; rfl
 rw [e,ha,hb]
 dsimp only
 rw [hv]
 exact ⟨h1,h2,k⟩
theorem box_ {x:Ck} {v:V} {d:Nat} (hx:(S.drop (64*d)).val x=v) (hn:Bh true v) (hu:Cg (Av v)=false) (k:K (((S.drop (64*d)).setBx (64*d) (Av v).cells).put (some d) (.ptr (64*d) 0))):
  Di C ⟨some d,.box x,none⟩ S K:=by
 refine ⟨?_,?_,?_⟩
 ·rw [hx]; exact hn
 ·rw [hx]; exact hu
 ·rw [hx]; exact k
theorem Ce {z:List V} {d:Nat} (k:K (((S.drop (64*d)).setBx (64*d) z).put (some d) (.ptr (64*d) 0))):Di C ⟨some d,.alloc z,none⟩ S K:=k
theorem dU {sz d:Nat} (k:K ((S.drop (64*d)).put (some d) (.own (64*d) 0 sz []))):Di C ⟨some d,.nilS sz,none⟩ S K:=k
theorem Cl {x v:Ck} {n t k:Nat} {u:V} {bs:List V} (hx:S.val x = .ptr t k) (hv:S.val v=u) (hm:Bh true u) (hu:Cg (Av u)=false) (hl:(Av u).cells.length=n)
  (hb:look S.bx t=some bs) (hn:k+n≤bs.length) (k':K ((S.setBx t (Dl bs k (Av u).cells)).put d .undef)):Di C ⟨d,.store x v n,none⟩ S K:=by
 refine ⟨by rw [hx]; trivial,by rw [hv]; exact hm,?_⟩
 rw [hv,hx]
 refine ⟨hu,hl,?_⟩
 dsimp only [Av]
 rw [hb]
 exact ⟨hn,k'⟩
theorem He {α:Type} {e:α→List V} {l0:List α} {x v:Ck} {n t sz j k off i:Nat} {u:V} {y y':α} (hx:S.val x = .optr t sz j k) (hv:S.val v=u) (hm:Bh true u) (hu:Cg (Av u)=false) (hl:(Av u).cells.length=n)
  (hf:S.find t=some (off,l0.map e)) (hj:j=off+i) (hy:l0[i]? = some y) (hn:k+n≤sz) (hsz:(e y).length=sz) (hp:(Av u).cells.all (fun c => !Jp c)=true) (ht:(Av u).tags.all (· != t)=true)
  (hy':Dl (e y) k ((Av u).cells.map Fc)=e y')
  (k':K (((S.freezes (Av u).tags).map (gW t sz (off+i) [e y'])).put d .undef)):Di C ⟨d,.store x v n,none⟩ S K:=by
 subst hj
 have hlt:=(List.getElem?_eq_some_iff.1 hy).1
 have hg:(l0.map e).getD (off+i-off) []=e y:=by
  rw [Nat.add_sub_cancel_left]
  simp [List.getD,hy]
 refine ⟨by rw [hx]; trivial,by rw [hv]; exact hm,?_⟩
 rw [hv,hx]
 refine ⟨hu,hl,?_⟩
 dsimp only [Av]
 rw [hf]
 dsimp only
 rw [hg]
 refine ⟨Nat.le_add_right _ _,by simp; omega,hn,hsz,hp,ht,?_⟩
 dsimp only [Av] at hy'
 rw [hy']
 exact k'
theorem Bf {α:Type} {e:α→List V} {l:List α} {i:Nat} {y:α} {off:Nat}:Fi off (l.map e) (off+i) [e y]=(l.set i y).map e:=by
 unfold Fi
 apply List.ext_getElem?
 intro k
 rw [List.getElem?_mapIdx,List.getElem?_map,List.getElem?_map,List.getElem?_set]
 cases hk:l[k]? with
 | none=>
  have:=List.getElem?_eq_none_iff.1 hk
  by_cases h1:i=k
  ·rw [if_pos h1,if_neg (by omega)]; rfl
  ·rw [if_neg h1]; rfl
 | some z=>
  have hlt:=(List.getElem?_eq_some_iff.1 hk).1
  simp only [Option.map_some]
  by_cases h1:i=k
  ·subst h1
   rw [if_pos rfl,if_pos hlt,if_pos (Nat.le_refl _),Nat.sub_self]
   rfl
  ·rw [if_neg h1,Option.map_some]
   by_cases h3:i≤k
   ·have h4:off+k-(off+i)=(k-i-1)+1:=by omega
    rw [if_pos (by omega),h4]
    rfl
   ·rw [if_neg (by omega)]
theorem idxL {α:Type} {e:α→List V} {l0:List α} {x i:Ck} {sz:Nat} {k:IntKind} {n:Int} {y:α} (hx:S.val x = .lst sz (l0.map e)) (hi:S.val i = .int k n) (hy:Co l0 n=some y)
  (hk:K (S.put d (.iptr (e y)))):Di C ⟨d,.p (.idxA x i sz),none⟩ S K:=by
 obtain ⟨h0,h1,h2⟩:=Ph hy
 refine p_ ⟨?_,?_,trivial⟩ (φ:=sz=sz∧0≤n∧n<(l0.map e).length) (v:=.iptr ((l0.map e).getD n.toNat [])) (by simp only [pu,hx,hi,Av]) ⟨rfl,h0,by simpa using h1⟩ ?_
 ·show Bh true (S.val x); rw [hx]; trivial
 ·show Bh true (S.val i); rw [hi]; trivial
 ·have:(l0.map e).getD n.toNat []=e y:=by simp [List.getD,h2]
  rw [this]
  exact hk
theorem idxO {α:Type} {e:α→List V} {l0:List α} {x i:Ck} {t off sz:Nat} {k:IntKind} {n:Int} {y:α} (hx:S.val x = .own t off sz (l0.map e)) (hi:S.val i = .int k n) (hy:Co l0 n=some y)
  (hk:K (S.put d (.optr t sz (off+n.toNat) 0))):Di C ⟨d,.p (.idxA x i sz),none⟩ S K:=by
 obtain ⟨h0,h1,_⟩:=Ph hy
 refine p_ ⟨?_,?_,trivial⟩ (φ:=sz=sz∧0≤n∧n<(l0.map e).length) (v:=.optr t sz (off+n.toNat) 0) (by simp only [pu,hx,hi,Av]) ⟨rfl,h0,by simpa using h1⟩ hk
 ·show Bh true (S.val x); rw [hx]; trivial
 ·show Bh true (S.val i); rw [hi]; trivial
theorem loadO {α:Type} {e:α→List V} {l0:List α} {x:Ck} {t off sz j k n i:Nat} {ag:Bool} {y:α} {v:V} (hx:S.val x = .optr t sz j k) (hf:S.find t=some (off,l0.map e)) (hj:j=off+i)
  (hy:l0[i]? = some y) (hv:Hv ag n ((e y).drop k)=some v) (hn:k+n≤sz) (hsz:(e y).length=sz) (hk:K (S.put d v)):Di C ⟨d,.p (.load x n ag),none⟩ S K:=by
 subst hj
 have hlt:=(List.getElem?_eq_some_iff.1 hy).1
 have hg:(l0.map e).getD (off+i-off) []=e y:=by
  rw [Nat.add_sub_cancel_left]
  simp [List.getD,hy]
 refine p_ ⟨?_,trivial⟩ (φ:=off≤off+i∧off+i<off+(l0.map e).length∧k+n≤sz∧((l0.map e).getD (off+i-off) []).length=sz) (v:=v) ?_ ⟨Nat.le_add_right _ _,by simp; omega,hn,by rw [hg]; exact hsz⟩ hk
 ·show Bh true (S.val x); rw [hx]; trivial
 ·simp only [pu,hx,Av,hf]
  rw [hg,hv]
theorem cg3 {α β:Type} (f:α→α→α→β) {a a' b b' c c':α} (h1:a=a') (h2:b=b') (h3:c=c'):f a b c=f a' b' c':=by subst h1; subst h2; subst h3; rfl
def eKV (p:Int×Bool):List V:=[.int .i64 p.1,.bool p.2]
abbrev fZ (l:List (Int×Bool)):List (List V):=[.tup []]::l.map eKV
def Mn:List (Int×Bool)→Int→Bool
 | [],_=>false
 | (k,b)::r,n=>if k=n then b else Mn r n
def Rm:List (Int×Bool)→Int→Bool→List (Int×Bool)
 | [],n,b=>[(n,b)]
 | (k,c)::r,n,b=>if k=n then (k,b)::r else (k,c)::Rm r n b
theorem jI (n:Int):∀l:List (Int×Bool),Nz n (l.map eKV)=Mn l n
 | []=>rfl
 | (k,b)::r=>by
  show (if k=n then b else Nz n (r.map eKV))=_
  rw [jI n r]; rfl
theorem pB (n:Int) (b:Bool):∀l:List (Int×Bool),Uh n b (l.map eKV)=(Rm l n b).map eKV
 | []=>rfl
 | (k,c)::r=>by
  show (if k=n then [V.int .i64 k,V.bool b]::r.map eKV else [V.int .i64 k,V.bool c]::Uh n b (r.map eKV))=_
  rw [pB n b r]
  show _=(if k=n then (k,b)::r else (k,c)::Rm r n b).map eKV
  split<;>rfl
theorem DW {n:Int} {b:Bool} {l:List (Int×Bool)}:DV n b (fZ l)=fZ (Rm l n b):=congrArg ([V.tup []]::·) (pB n b l)
theorem mkM_ {dd:Nat} (k:K ((S.drop (64*dd)).put (some dd) (.own (64*dd) 0 0 (fZ [])))):Di C ⟨some dd,.mkM,none⟩ S K:=k
theorem mset_ {l:List (Int×Bool)} {x y z:Ck} {t off:Nat} {n:Int} {b:Bool} (hx:S.val x = .own t off 0 (fZ l)) (hy:S.val y = .int .i64 n) (hz:S.val z = .bool b)
  (k:K ((S.map (mP t n b)).put d .undef)):Di C ⟨d,.mset x y z,none⟩ S K:=by
 refine ⟨by rw [hx]; trivial,by rw [hy]; trivial,by rw [hz]; trivial,?_⟩
 rw [hx,hy,hz]
 exact k
theorem cmgetL {l:List (Int×Bool)} {x y:Ck} {n:Int} (hx:S.val x = .lst 0 (fZ l)) (hy:S.val y = .int .i64 n):Dd S (.p (.mget x y)) (.bool (Mn l n)):=by
 refine ⟨⟨by show Bh true (S.val x); rw [hx]; trivial,by show Bh true (S.val y); rw [hy]; trivial,trivial⟩,True,?_,trivial⟩
 rw [←jI]
 simp only [pu,hx,hy,Av,fZ]
theorem lenL {α:Type} {e:α→List V} {l0:List α} {x:Ck} {sz:Nat} (hx:S.val x = .lst sz (l0.map e)) (hk:K (S.put d (.int .i64 (l0.length:Int)))) (hz:sz≠0:=by decide):Di C ⟨d,.p (.len x),none⟩ S K:=by
 refine p_ ⟨?_,trivial⟩ (φ:=sz≠0) (v:=.int .i64 (l0.length:Int)) (by simp only [pu,hx,Av,List.length_map]) hz hk
 show Bh true (S.val x); rw [hx]; trivial
theorem lenO {α:Type} {e:α→List V} {l0:List α} {x:Ck} {t off sz:Nat} (hx:S.val x = .own t off sz (l0.map e)) (hk:K (S.put d (.int .i64 (l0.length:Int)))) (hz:sz≠0:=by decide):Di C ⟨d,.p (.len x),none⟩ S K:=by
 refine p_ ⟨?_,trivial⟩ (φ:=sz≠0) (v:=.int .i64 (l0.length:Int)) (by simp only [pu,hx,Av,List.length_map]) hz hk
 show Bh true (S.val x); rw [hx]; trivial
end
def Og:Nat:=1048576
end Go.Ev
