/- The transformer W, laid out as a list of what is still to be done; a step for each instruction; loops as repeated steps. -/
import Derived.Test.YtfpbbpkdjmldkaaGreatQvB
import Derived.KernelRfl
set_option linter.all false
namespace Go.Ev
section
variable {σ ρ:Type}
def Iy (step:σ→Option (σ⊕ρ)):Nat→σ→Option ρ
 | 0,_=>none
 | n+1,s=>match step s with
  | none=>none
  | some (.inl s')=>Iy step n s'
  | some (.inr r)=>some r
noncomputable def Ce (step:σ→Option (σ⊕ρ)) (s:σ):Option ρ:=
 @dite _ (∃r n,Iy step n s=some r) (Classical.propDecidable _) (fun h=>some (Classical.choose h)) (fun _=>none)
theorem Vd {step:σ→Option (σ⊕ρ)} {r:ρ}:∀ {n m:Nat} {s:σ},Iy step n s=some r→n≤m→Iy step m s=some r
 | 0,_,_,h,_=>by simp [Iy] at h
 | n+1,m+1,s,h,hm=>by
  simp only [Iy] at h ⊢
  split at h
  ·cases h
  ·exact Vd h (by omega)
  ·exact h
 | n+1,0,_,_,hm=>by omega
theorem Lm {step:σ→Option (σ⊕ρ)} {s:σ} {r:ρ}:Ce step s=some r↔∃n,Iy step n s=some r:=by
 constructor
 ·intro h
  unfold Ce at h
  split at h
  ·rename_i hh
   cases h
   exact Classical.choose_spec hh
  ·cases h
 ·rintro ⟨n,h⟩
  have hh:∃r n,Iy step n s=some r:=⟨r,n,h⟩
  unfold Ce
  rw [dif_pos hh]
  obtain ⟨k,hk⟩:=Classical.choose_spec hh
  have h1:=Vd h (Nat.le_max_left n k)
  have h2:=Vd hk (Nat.le_max_right n k)
  rw [h1] at h2
  exact h2.symm
theorem Dw {step:σ→Option (σ⊕ρ)} {s s':σ} (h:step s=some (.inl s')):Ce step s=Ce step s':=by
 cases hr:Ce step s' with
 | some r=>
  obtain ⟨n,hn⟩:=Lm.1 hr
  exact Lm.2 ⟨n+1,by simp only [Iy,h]; exact hn⟩
 | none=>
  cases hr':Ce step s with
  | none=>rfl
  | some r=>
   obtain ⟨n,hn⟩:=Lm.1 hr'
   cases n with
   | zero=>simp [Iy] at hn
   | succ n=>
    simp only [Iy,h] at hn
    rw [Lm.2 ⟨n,hn⟩] at hr
    cases hr
theorem Ea {step:σ→Option (σ⊕ρ)} {s:σ} {r:ρ} (h:step s=some (.inr r)):Ce step s=some r:=
 Lm.2 ⟨1,by simp only [Iy,h]⟩
end
theorem bnd {α β:Type} {o:Option α} {f:α→Option β} {r:β} (h:o.bind f=some r):∃x,o=some x∧f x=some r:=by
 cases o with
 | none=>cases h
 | some x=>exact ⟨x,rfl,h⟩
def Bs {α β:Type} (e:α) (f:α→β):β:=f e
theorem xE {α:Type} {c:Prop} [Decidable c] {a:Option α} {r:α} (h:(if c then a else none)=some r):c∧a=some r:=by
 split at h
 ·rename_i hc; exact ⟨hc,h⟩
 ·cases h
theorem ip {α:Type} {c:Prop} [Decidable c] {a b:α} {r:α} (hc:c) (h:(if c then a else b)=r):a=r:=by rwa [if_pos hc] at h
theorem oY {α:Type} {b:Bool} {x y:α} {r:α} (hc:b=false) (h:(if b=true then x else y)=r):y=r:=by subst hc; exact h
theorem Bq {a b:Bool} (h1:a=true) (h2:b=true):(a&&b)=true:=by rw [h1,h2]; rfl
theorem tM {b:Bool} (h:b=true):(b==true)=true:=by cases b<;>first | rfl | cases h
theorem lN {b:Bool} (h:(!b)=true):(b==false)=true:=by cases b<;>first | rfl | cases h
def El {α:Type} (l:List α) (n:Int):Option α:=if 0≤n then l[n.toNat]? else none
theorem Rb {α:Type} {l:List α} {n:Int} {y:α} (h:El l n=some y):0≤n∧n<l.length∧l[n.toNat]? = some y:=by
 unfold El at h
 split at h
 ·rename_i h0
  have:=(List.getElem?_eq_some_iff.1 h).1
  exact ⟨h0,by omega,h⟩
 ·cases h
def u8 (n:Int):UInt8:=UInt8.ofNat (n%256).toNat
theorem u8_eq {n:Int} (h0:0≤n) (h1:n<256):((u8 n).toNat:Int)=n:=by
 unfold u8
 have h2:(n%256).toNat=n.toNat:=by rw [Int.emod_eq_of_lt h0 h1]
 rw [h2,UInt8.toNat_ofNat']
 omega
theorem MU (x:Int):IntKind.u8.wrap x=x%256:=by
 simp [IntKind.wrap,IntKind.bits,IntKind.signed]
theorem vM (x:Int):((u8 (IntKind.u8.wrap x)).toNat:Int)=IntKind.u8.wrap x:=by
 rw [MU]
 exact u8_eq (Int.emod_nonneg _ (by decide)) (Int.emod_lt_of_pos _ (by decide))
def b8 (n:Int):UInt8:=u8 (IntKind.u8.wrap n)
abbrev Ym (k:IntKind) (a b:Int):Int:=k.wrap (BitVec.ofInt k.bits a &&& BitVec.ofInt k.bits b).toNat
abbrev ior (k:IntKind) (a b:Int):Int:=k.wrap (BitVec.ofInt k.bits a ||| BitVec.ofInt k.bits b).toNat
abbrev xI (k:IntKind) (a b:Int):Int:=k.wrap (BitVec.ofInt k.bits a ^^^ BitVec.ofInt k.bits b).toNat
abbrev inot (k:IntKind) (n:Int):Int:=k.wrap (BitVec.ofInt k.bits (if k.signed then -1 else k.max) ^^^ BitVec.ofInt k.bits n).toNat
abbrev fP (k:IntKind) (a b:Int):Int:=k.wrap (a*2^min b.toNat k.bits)
abbrev Kc (_:IntKind) (a b:Int):Int:=a.fdiv (2^min b.toNat 64)
def okInt (k:IntKind) (n:Int):Prop:=k.min≤n∧n≤k.max
abbrev Oh:Int→Prop:=okInt .i64
def Rn {α:Type} (_:α):Prop:=True
def nO (s:List UInt8):Prop:=s.length≤9223372036854775807
def KW {α:Type} (p:α→Prop) (l:List α):Prop:=l.length≤9223372036854775807∧∀x∈l,p x
def Gh (b:UInt8):List V:=[.int .u8 (b.toNat:Int)]
def eInt (k:IntKind) (n:Int):List V:=[.int k n]
def eI (n:Int):List V:=[.int .i64 n]
def eB (b:Bool):List V:=[.bool b]
def eS (s:List UInt8):List V:=[.str s]
def eL {α:Type} (n:Nat) (e:α→List V) (l:List α):List V:=[.lst n (l.map e)]
def Kp (k:List V):Prop:=
 (∀(S:St) (LB XR:List Nat) (fz:Bool) (n:Nat),k.map (S.liftP LB XR fz n)=k) ∧
 (∀(S:St) (LB LR LM:List Nat) (fz:Bool),k.map (mapW (S.liftC LB LR LM fz))=k)∧Qa (fun v => !Cq v) k=true∧(∀(S:St) (XB XR:List Nat) (n:Nat),k.map (S.cl XB XR n)=k)∧∀t,k.all (Kk t)=true
theorem Ej {F:V→V} {v v':V} {l l':List V} (h1:F v=v') (h2:l.map F=l'):(v::l).map F=v'::l':=by rw [List.map_cons,h1,h2]
theorem Yc {k:List V} {f:Nat} {S:St} {LB LR LM:List Nat} {fz:Bool} (h:Kp k):mapW (S.liftC LB LR LM fz) (.clo f k) = .clo f k:=by
 show V.clo f (k.map (S.liftP LB (LR++LM) fz 2))=_
 rw [h.1]
theorem cJ {k:List V} {f t:Nat} (h:Kp k):tJ t (.clo f k) = .clo f k:=by
 unfold tJ
 have:V.no t (.clo f k)=true:=by simp only [V.no,V.flat,V.flat1,List.all_cons,List.all_nil,Bool.and_true]; exact h.2.2.2.2 t
 rw [this]
 rfl
inductive Ic where
 | c (a:IR)
 | w
 | b (id:Nat)
section
variable (C:Ba)
def WL:List Ic→(Ex→St→Prop)→Ex→St→Prop
 | [],Q,e,S=>Q e S
 | .c a::T,Q,.normal,S=>W C a (WL T Q) S
 | .c _::T,Q,.exit i,S=>WL T Q (.exit i) S
 | .c _::T,Q,.ret,S=>WL T Q .ret S
 | .w::T,Q,.normal,S=>∃S1,Fg S S1∧WL T Q .normal S1
 | .w::T,Q,.exit i,S=>WL T Q (.exit i) S
 | .w::T,Q,.ret,S=>WL T Q .ret S
 | .b id::T,Q,.exit i,S=>if i=id then WL T Q .normal S else WL T Q (.exit i) S
 | .b _::T,Q,.normal,S=>WL T Q .normal S
 | .b _::T,Q,.ret,S=>WL T Q .ret S
def OL (l:List Bj) (T:List Ic) (Q:Ex→St→Prop) (S:St):Prop:=yO C l (WL C T Q .normal) S
variable {C} {Q:Ex→St→Prop} {S:St} {T:List Ic} {l:List Bj} {d:Option Nat} {K:St→Prop} {i:Bj}
theorem Le.refl (S:St):Le S S:=⟨fun _ _ h=>h,fun _ _ h=>h,fun _ c h=>.inl ⟨c,h,.inl rfl⟩⟩
theorem Le.of {S S':St} (h1:Dg (fun p=>look S.env p.1=some p.2) S'.env) (h2:Dg (fun p=>look S.bx p.1=some p.2) S'.bx) (h3:S'.cp=[]):Le S S':=by
 have key:∀ {α:Type} (g:Nat→Option α) (l:List (Nat×α)),Dg (fun p=>g p.1=some p.2) l→∀t v,look l t=some v→g t=some v:=by
  intro α g l
  induction l with
  | nil=>intro _ t v hv; simp [look] at hv
  | cons p r ih=>
   obtain ⟨b,x⟩:=p
   intro hp t v hv
   simp only [look] at hv
   split at hv
   ·rename_i e; subst e; obtain rfl:=Option.some.inj hv; exact hp.1
   ·exact ih hp.2 t v hv
 exact ⟨key _ _ h1,key _ _ h2,fun k c h=>by rw [h3] at h; simp [look] at h⟩
theorem fgl {S S' S'':St} (h:Fg S S') (h1:Dg (fun p=>look S'.env p.1=some p.2) S''.env) (h2:Dg (fun p=>look S'.bx p.1=some p.2) S''.bx) (h3:S''.cp=[]:=by rfl):Fg S S'':=h.trans (.le (Le.of h1 h2 h3))
theorem Fg.refl (S:St):Fg S S:=.le (Le.refl S)
theorem fg {S S':St} (h1:Dg (fun p=>look S.env p.1=some p.2) S'.env) (h2:Dg (fun p=>look S.bx p.1=some p.2) S'.bx) (h3:S'.cp=[]:=by rfl):Fg S S':=.le (Le.of h1 h2 h3)
abbrev lS (S S':St):Prop:=(S'.env.map (fun p=>look S.env p.1),S'.bx.map (fun p=>look S.bx p.1),S'.cp)=(S'.env.map (fun p=>some p.2),S'.bx.map (fun p=>some p.2),[])
theorem Qh {α β:Type} {f g:α→β}:∀ {l:List α},l.map f=l.map g→Dg (fun p=>f p=g p) l
 | [],_=>trivial
 | _::_,h=>by
  simp only [List.map_cons,List.cons.injEq] at h
  exact ⟨h.1,Qh h.2⟩
theorem lS.le {S S':St} (h:lS S S'):Le S S':=by
 simp only [lS,Prod.mk.injEq] at h
 exact Le.of (Qh h.1) (Qh h.2.1) h.2.2
theorem Er {S S':St} (h:(S'.env.map (fun p=>look S.env p.1),S'.bx.map (fun p=>look S.bx p.1),S'.cp)=(S'.env.map (fun p=>some p.2),S'.bx.map (fun p=>some p.2),([]:List (Nat×Int)))):Fg S S':=.le (lS.le h)
theorem qH {S S':St} (ts:List Nat) (h:(S'.env.map (fun p=>look (S.freezes ts).env p.1),S'.bx.map (fun p=>look (S.freezes ts).bx p.1),S'.cp)=(S'.env.map (fun p=>some p.2),S'.bx.map (fun p=>some p.2),([]:List (Nat×Int)))):Fg S S':=(Fg.fz S ts).trans (.le (lS.le h))
theorem Lz {S S':St} (ts:List Nat) (rs:List (Nat×Nat)) (hr:sE rs=true) (h:(S'.env.map (fun p=>look ((S.freezes ts).swaps rs).env p.1),S'.bx.map (fun p=>look ((S.freezes ts).swaps rs).bx p.1),S'.cp)=(S'.env.map (fun p=>some p.2),S'.bx.map (fun p=>some p.2),([]:List (Nat×Int)))):Fg S S':=
 (Fg.fz S ts).trans ((Fg.sw _ rs hr).trans (.le (lS.le h)))
theorem qG {S S':St} (h1:Dg (fun p=>look S.env p.1=some p.2) S'.env) (h2:Dg (fun p=>look S.bx p.1=some p.2) S'.bx) (h3:Dg (fun p=>tE S p.1 p.2) S'.cp):Fg S S':=by
 refine .le ⟨(Le.of (S':={ S' with cp:=[] }) h1 h2 rfl).1,(Le.of (S':={ S' with cp:=[] }) h1 h2 rfl).2.1,?_⟩
 generalize S'.cp=l at h3
 induction l with
 | nil=>intro k c h; simp [look] at h
 | cons p r ih=>
  intro k c h
  simp only [look] at h
  split at h
  ·rename_i e; subst e; obtain rfl:=Option.some.inj h; exact h3.1
  ·exact ih h3.2 k c h
theorem wkJ {C:Ba} {T:List Ic} {Q:Ex→St→Prop} {S S1:St} (h1:Fg S S1) (h:WL C (.w::T) Q .normal S1):WL C (.w::T) Q .normal S:=by
 obtain ⟨S2,h2,h⟩:=h
 exact ⟨S2,h1.trans h2,h⟩
theorem sV (a:IR) {Q Q':Ex→St→Prop} (h:∀e S,Q e S=Q' e S):W C a Q S=W C a Q' S:=by
 have:Q=Q':=funext fun e=>funext fun S=>h e S
 rw [this]
theorem Bk {a b:IR} (h:WL C (.c a :: .w :: .c b::T) Q .normal S):WL C (.c (.seq a b)::T) Q .normal S:=by
 have e:WL C (.c a :: .w :: .c b::T) Q .normal S=WL C (.c (.seq a b)::T) Q .normal S:=by
  show W C a _ S=W C a _ S
  exact sV a fun e S=>by cases e<;>rfl
 exact e ▸ h
theorem Ci {id:Nat} {a:IR} (h:WL C (.c a :: .b id::T) Q .normal S):WL C (.c (.block id a)::T) Q .normal S:=by
 have e:WL C (.c a :: .b id::T) Q .normal S=WL C (.c (.block id a)::T) Q .normal S:=by
  show W C a _ S=W C a _ S
  exact sV a fun e S=>by cases e<;>rfl
 exact e ▸ h
theorem Hz {id:Nat} {a:IR} (R:St→Prop) (hJ:∀S,R S→WL C (.w::T) Q .normal S)
  (h:(∀S S1,Fg S S1→R S1→WL C (.w::T) Q .normal S)→WL C (.c a :: .b id :: .w::T) Q .normal S):WL C (.c (.block id a) :: .w::T) Q .normal S:=
 Ci (h fun _ S1 h1 h2=>wkJ h1 (hJ S1 h2))
theorem Ah (h:OL C l T Q S):WL C (.c (.reg l)::T) Q .normal S:=h
theorem Nh (h:WL C T Q .normal S):WL C (.c .skip::T) Q .normal S:=h
theorem Um {id:Nat} (h:WL C T Q .normal S):WL C (.b id::T) Q .normal S:=h
theorem Dy (S1:St) (h1:Fg S S1) (h:WL C T Q .normal S1):WL C (.w::T) Q .normal S:=⟨S1,h1,h⟩
theorem aC (h:WL C T Q .normal S):WL C (.w::T) Q .normal S:=⟨S,Fg.refl S,h⟩
theorem In (h:WL C T Q .normal S):OL C [] T Q S:=h
theorem st (h:Dx C i S (OL C l T Q)):OL C (i::l) T Q S:=⟨S,Fg.refl S,h⟩
theorem sw (S1:St) (h1:Fg S S1) (h:Dx C i S1 (OL C l T Q)):OL C (i::l) T Q S:=⟨S1,h1,h⟩
theorem Od {c:Cu} {a b:IR} {cb:Bool} (hc:S.val c = .bool cb) (h1:cb=true→WL C (.c a::T) Q .normal S) (h2:cb=false→WL C (.c b::T) Q .normal S):
  WL C (.c (.ite c a b)::T) Q .normal S:=by
 refine ⟨by rw [hc]; trivial,?_⟩
 rw [hc]
 exact ⟨h1,h2⟩
theorem Vc {c:Cu} {a b:IR} {cb:Bool} (R:St→Prop) (hc:S.val c = .bool cb) (hJ:∀S,R S→WL C (.w::T) Q .normal S)
  (h1:cb=true→(∀S S1,Fg S S1→R S1→WL C (.w::T) Q .normal S)→WL C (.c a :: .w::T) Q .normal S)
  (h2:cb=false→(∀S S1,Fg S S1→R S1→WL C (.w::T) Q .normal S)→WL C (.c b :: .w::T) Q .normal S):WL C (.c (.ite c a b) :: .w::T) Q .normal S:=
 Od hc (fun e=>h1 e fun _ S1 h1 h2=>wkJ h1 (hJ S1 h2)) (fun e=>h2 e fun _ S1 h1 h2=>wkJ h1 (hJ S1 h2))
def xW:List Ic→Nat→List Ic
 | [],_=>[]
 | .b id::T,i=>if i=id then T else xW T i
 | _::T,i=>xW T i
def kD:List Ic→Nat→Bool
 | [],_=>false
 | .b id::T,i=>if i=id then true else kD T i
 | _::T,i=>kD T i
theorem HY {i:Nat}:∀ {T:List Ic},kD T i=true→WL C (xW T i) Q .normal S→WL C T Q (.exit i) S
 | .b id::T,hb,h=>by
  simp only [kD,xW,WL] at hb h ⊢
  by_cases e:i=id
  ·rw [if_pos e]; rw [if_pos e] at h; exact h
  ·rw [if_neg e]; rw [if_neg e] at hb h; exact HY hb h
 | .c _::T,hb,h=>HY (T:=T) hb h
 | .w::T,hb,h=>HY (T:=T) hb h
theorem AkJ {i:Nat}:∀ {T:List Ic},kD T i=false→Q (.exit i) S→WL C T Q (.exit i) S
 | [],_,h=>h
 | .b id::T,hb,h=>by
  simp only [kD,WL] at hb ⊢
  by_cases e:i=id
  ·rw [if_pos e] at hb; cases hb
  ·rw [if_neg e]; rw [if_neg e] at hb; exact AkJ hb h
 | .c _::T,hb,h=>AkJ (T:=T) hb h
 | .w::T,hb,h=>AkJ (T:=T) hb h
theorem LX:∀ {T:List Ic},Q .ret S→WL C T Q .ret S
 | [],h=>h
 | .b _::T,h=>LX (T:=T) h
 | .c _::T,h=>LX (T:=T) h
 | .w::T,h=>LX (T:=T) h
theorem ex_ {i:Nat} (hb:kD T i=true) (h:WL C (xW T i) Q .normal S):WL C (.c (.exit i)::T) Q .normal S:=HY hb h
theorem Iw {i:Nat} (hb:kD T i=false) (h:Q (.exit i) S):WL C (.c (.exit i)::T) Q .normal S:=AkJ hb h
theorem Kv (h:Q .ret S):WL C (.c .ret::T) Q .normal S:=LX (T:=T) h
theorem Df {σ ρ:Type} {a:IR} {R:St→Prop} (step:σ→Option (σ⊕ρ)) (st:σ→St→Prop) {s0:σ} {r:ρ} (h:Ce step s0=some r) (S1:St) (hS:Fg S S1) (h0:st s0 S1)
  (j:Nat) (hb:(∃S,R S)→kD T j=true) (hR:∀S' S1,Fg S' S1→R S1→WL C (xW T j) Q .normal S')
  (hr:∀(s:σ) (o:σ⊕ρ) (S:St) (K:Ex→St→Prop),st s S→step s=some o→(∀x,o = .inr x→x=r) →
   (∀s',o = .inl s'→∀S' S'',Fg S' S''→st s' S''→K .normal S')→(∀S' S1,Fg S' S1→R S1→K (.exit j) S')→(∀S',Q .ret S'→K .ret S')→WL C [.c a] K .normal S):
  WL C (.c (.loop a)::T) Q .normal S:=by
 let I:St→Prop:=fun S=>∃n s,Iy step n s=some r∧st s S
 have least:∀S,I S→∃n,(∃s,Iy step n s=some r∧st s S)∧∀k,(∃s,Iy step k s=some r∧st s S)→n≤k:=by
  intro S ⟨n,hn⟩
  induction n using Nat.strongRecOn with
  | _ n ih=>
   by_cases hex:∃k,k<n∧∃s,Iy step k s=some r∧st s S
   ·obtain ⟨k,hk,hak⟩:=hex
    exact ih k hk hak
   ·exact ⟨n,hn,fun k hk=>Nat.le_of_not_lt fun hlt=>hex ⟨k,hlt,hk⟩⟩
 let μ:St→Nat:=fun S=>@dite _ (I S) (Classical.propDecidable _) (fun hh=>Classical.choose (least S hh)) (fun _=>0)
 have hμ:∀S (hh:I S),(∃s,Iy step (μ S) s=some r∧st s S)∧∀k,(∃s,Iy step k s=some r∧st s S)→μ S≤k:=by
  intro S hh
  have e:μ S=Classical.choose (least S hh):=dif_pos hh
  rw [e]
  exact Classical.choose_spec (least S hh)
 obtain ⟨n0,hn0⟩:=Lm.1 h
 refine ⟨I,μ,⟨S1,hS,n0,s0,hn0,h0⟩,fun S hI=>?_⟩
 obtain ⟨⟨s,hs,hst⟩,_⟩:=hμ S hI
 cases hm:μ S with
 | zero=>rw [hm] at hs; simp [Iy] at hs
 | succ n=>
  rw [hm] at hs
  simp only [Iy] at hs
  cases hstep:step s with
  | none=>rw [hstep] at hs; cases hs
  | some o=>
   rw [hstep] at hs
   refine hr s o S _ hst hstep (fun x e=>?_) (fun s' e S' S'' hf hs'=>?_) (fun S' S1 hf hR1=>?_) (fun S' hq=>?_)
   ·subst e; exact Option.some.inj hs
   ·subst e
    exact ⟨S'',hf,⟨n,s',hs,hs'⟩,Nat.lt_of_le_of_lt ((hμ S'' ⟨n,s',hs,hs'⟩).2 n ⟨s',hs,hs'⟩) (by omega)⟩
   ·exact HY (hb ⟨S1,hR1⟩) (hR S' S1 hf hR1)
   ·exact LX hq
abbrev nm (S:St) (x:Cu):Prop:=Bc true (S.val x)
theorem Dc {n:Nat} {v:V} (h:look S.env n=some v) (hn:Bc true v) (k:K (S.putC d (An v) fun l=>look l n)):Dx C ⟨d,.p (.mv (.t n)),none⟩ S K:=by
 have hv:S.val (.t n)=v:=by simp only [St.val,h]; rfl
 refine ⟨⟨by show Bc true (S.val (.t n)); rw [hv]; exact hn,trivial⟩,trivial,?_⟩
 show K (S.putC d (An (S.val (.t n))) fun l=>look l n)
 rw [hv]
 exact k
theorem mvc_ {v:V} (hn:Bc true v) (k:K (S.put d (An v))):Dx C ⟨d,.p (.mv (.c v)),none⟩ S K:=⟨⟨hn,trivial⟩,trivial,k⟩
theorem p_ {o:PU} {φ:Prop} {v:V} (hm:Dg (nm S) o.opds) (hp:pu S (fun x=>An (S.val x)) o=some (φ,v)) (hφ:φ) (k:K (S.putC d v (Kj (fun x=>An (S.val x)) o))):
  Dx C ⟨d,.p o,none⟩ S K:=by
 refine ⟨hm,?_⟩
 rw [hp]
 exact ⟨hφ,k⟩
theorem Bw {o:PU} {φ:Prop} {v:V} (hm:Dg (nm S) o.opds) (hp:pu S (fun x=>An (S.val x)) o=some (φ,v)) (hφ:φ):Dm S (.p o) v:=⟨hm,φ,hp,hφ⟩
theorem Ep {o:PU} {u:V} {gs:Nat} {want g:Bool} (hg:Pb (S.val (.t gs)) want=some g) (h:g=true→Dm S (.p o) u) (k:K (S.put d (.may g u))):Dx C ⟨d,.p o,some (gs,want)⟩ S K:=by
 unfold Dx
 dsimp only
 rw [hg]
 exact ⟨u,h,k⟩
theorem Pk {a b c:Cu} {u:V} {gs:Nat} {want g:Bool} (hg:Pb (S.val (.t gs)) want=some g) (h:g=true→Dm S (.pick a b c) u) (k:K (S.put d (.may g u))):Dx C ⟨d,.pick a b c,some (gs,want)⟩ S K:=by
 unfold Dx
 dsimp only
 rw [hg]
 exact ⟨u,h,k⟩
theorem Qc {n:Nat} {v:V} (h:look S.env n=some v) (hm:Bc true v):Dm S (.p (.mv (.t n))) (An v):=by
 have hv:S.val (.t n)=v:=by simp only [St.val,h]; rfl
 refine ⟨⟨by show Bc true (S.val (.t n)); rw [hv]; exact hm,trivial⟩,True,?_,trivial⟩
 show some (True,An (S.val (.t n)))=_
 rw [hv]
theorem Vy {c a b:Cu} {cb:Bool} {x y v z:V} (hc:S.val c=z) (hz:An z = .bool cb) (hm:Bc true z) (ha:S.val a=x) (hb:S.val b=y) (h1:Bc cb x) (h2:Bc (!cb) y)
  (hv:Rq cb (An x) (An y)=v):Dm S (.pick c a b) v:=by
 refine ⟨by rw [hc]; exact hm,cb,by rw [hc]; exact hz,by rw [ha]; exact h1,by rw [hb]; exact h2,?_⟩
 rw [ha,hb]; exact hv.symm
theorem Ua {α:Type} {e:α→List V} {l0:List α} {x i:Cu} {vx vi:V} {sz:Nat} {k:IntKind} {n:Int} {y:α} (hx:S.val x=vx) (hx':An vx = .lst sz (l0.map e)) (hmx:Bc true vx)
  (hi:S.val i=vi) (hi':An vi = .int k n) (hmi:Bc true vi) (hy:El l0 n=some y):Dm S (.p (.idxA x i sz)) (.iptr (e y)):=by
 obtain ⟨h0,h1,h2⟩:=Rb hy
 refine ⟨⟨by show Bc true (S.val x); rw [hx]; exact hmx,by show Bc true (S.val i); rw [hi]; exact hmi,trivial⟩,sz=sz∧0≤n∧n<(l0.map e).length,?_,rfl,h0,by simpa using h1⟩
 simp only [pu,hx,hi,hx',hi']
 have:(l0.map e).getD n.toNat []=e y:=by simp [List.getD,h2]
 rw [this]
theorem Mu {α:Type} {e:α→List V} {l0:List α} {x:Cu} {vx:V} {sz:Nat} (hx:S.val x=vx) (hx':An vx = .lst sz (l0.map e)) (hm:Bc true vx) (hz:sz≠0:=by decide):Dm S (.p (.len x)) (.int .i64 (l0.length:Int)):=by
 refine ⟨⟨by show Bc true (S.val x); rw [hx]; exact hm,trivial⟩,(sz≠0),?_,hz⟩
 simp only [pu,hx,hx',List.length_map]
theorem Hp {c a b:Cu} {cb:Bool} {x y v:V} (hc:S.val c = .bool cb) (ha:S.val a=x) (hb:S.val b=y) (h1:Bc cb x) (h2:Bc (!cb) y)
  (hv:Rq cb (An x) (An y)=v) (k:K (S.put d v)):Dx C ⟨d,.pick c a b,none⟩ S K:=by
 refine ⟨by rw [hc]; trivial,?_⟩
 have e:An (S.val c) = .bool cb:=by rw [hc]; rfl
 rw [e,ha,hb]
 dsimp only
 rw [hv]
 exact ⟨h1,h2,k⟩
theorem vX {x:Cu} {v:V} {d:Nat} (hx:(S.drop (64*d)).val x=v) (hn:Bc true v) (hu:Cq (An v)=false) (k:K (((S.drop (64*d)).setBx (64*d) (An v).cells).put (some d) (.ptr (64*d) 0))):
  Dx C ⟨some d,.box x,none⟩ S K:=by
 refine ⟨?_,?_,?_⟩
 ·rw [hx]; exact hn
 ·rw [hx]; exact hu
 ·rw [hx]; exact k
theorem Hg {z:List V} {d:Nat} (k:K (((S.drop (64*d)).setBx (64*d) z).put (some d) (.ptr (64*d) 0))):Dx C ⟨some d,.alloc z,none⟩ S K:=k
theorem Zy {sz d:Nat} (k:K ((S.drop (64*d)).put (some d) (.own (64*d) 0 sz []))):Dx C ⟨some d,.nilS sz,none⟩ S K:=k
theorem Gc {x v:Cu} {n t k:Nat} {u:V} {bs:List V} (hx:S.val x = .ptr t k) (hv:S.val v=u) (hm:Bc true u) (hu:Cq (An u)=false) (hl:(An u).cells.length=n)
  (hb:look S.bx t=some bs) (hn:k+n≤bs.length) (k':K ((S.setBx t (putCells bs k (An u).cells)).put d .undef)):Dx C ⟨d,.store x v n,none⟩ S K:=by
 refine ⟨by rw [hx]; trivial,by rw [hv]; exact hm,?_⟩
 rw [hv,hx]
 refine ⟨hu,hl,?_⟩
 dsimp only [An]
 rw [hb]
 exact ⟨hn,k'⟩
theorem sto_ {α:Type} {e:α→List V} {l0:List α} {x v:Cu} {n t sz j k off i:Nat} {u:V} {y y':α} (hx:S.val x = .optr t sz j k) (hv:S.val v=u) (hm:Bc true u) (hu:Cq (An u)=false) (hl:(An u).cells.length=n)
  (hf:S.find t=some (off,l0.map e)) (hj:j=off+i) (hy:l0[i]? = some y) (hn:k+n≤sz) (hsz:(e y).length=sz) (hp:(An u).cells.all (fun c => !Lc c)=true) (ht:(An u).tags.all (· != t)=true)
  (hy':putCells (e y) k ((An u).cells.map Ga)=e y')
  (k':K (((S.freezes (An u).tags).map (lH t sz (off+i) [e y'])).put d .undef)):Dx C ⟨d,.store x v n,none⟩ S K:=by
 subst hj
 have hlt:=(List.getElem?_eq_some_iff.1 hy).1
 have hg:(l0.map e).getD (off+i-off) []=e y:=by
  rw [Nat.add_sub_cancel_left]
  simp [List.getD,hy]
 refine ⟨by rw [hx]; trivial,by rw [hv]; exact hm,?_⟩
 rw [hv,hx]
 refine ⟨hu,hl,?_⟩
 dsimp only [An]
 rw [hf]
 dsimp only
 rw [hg]
 refine ⟨Nat.le_add_right _ _,by simp; omega,hn,hsz,hp,ht,?_⟩
 dsimp only [An] at hy'
 rw [hy']
 exact k'
theorem Rp {α:Type} {e:α→List V} {l:List α} {i:Nat} {y:α} {off:Nat}:Gk off (l.map e) (off+i) [e y]=(l.set i y).map e:=by
 unfold Gk
 apply List.ext_getElem?
 intro k
 rw [List.getElem?_mapIdx,List.getElem?_map,List.getElem?_map,List.getElem?_set]
 cases hk:l[k]? with
 | none=>
  have:=List.getElem?_eq_none_iff.1 hk
  by_cases h1:i=k
  ·rw [if_pos h1,if_neg (by omega)]; rfl
  ·rw [if_neg h1]; rfl
 | some z=>
  have hlt:=(List.getElem?_eq_some_iff.1 hk).1
  simp only [Option.map_some]
  by_cases h1:i=k
  ·subst h1
   rw [if_pos rfl,if_pos hlt,if_pos (Nat.le_refl _),Nat.sub_self]
   rfl
  ·rw [if_neg h1,Option.map_some]
   by_cases h3:i≤k
   ·have h4:off+k-(off+i)=(k-i-1)+1:=by omega
    rw [if_pos (by omega),h4]
    rfl
   ·rw [if_neg (by omega)]
theorem idxL {α:Type} {e:α→List V} {l0:List α} {x i:Cu} {sz:Nat} {k:IntKind} {n:Int} {y:α} (hx:S.val x = .lst sz (l0.map e)) (hi:S.val i = .int k n) (hy:El l0 n=some y)
  (hk:K (S.put d (.iptr (e y)))):Dx C ⟨d,.p (.idxA x i sz),none⟩ S K:=by
 obtain ⟨h0,h1,h2⟩:=Rb hy
 refine p_ ⟨?_,?_,trivial⟩ (φ:=sz=sz∧0≤n∧n<(l0.map e).length) (v:=.iptr ((l0.map e).getD n.toNat [])) (by simp only [pu,hx,hi,An]) ⟨rfl,h0,by simpa using h1⟩ ?_
 ·show Bc true (S.val x); rw [hx]; trivial
 ·show Bc true (S.val i); rw [hi]; trivial
 ·have:(l0.map e).getD n.toNat []=e y:=by simp [List.getD,h2]
  rw [this]
  exact hk
theorem idxO {α:Type} {e:α→List V} {l0:List α} {x i:Cu} {t off sz:Nat} {k:IntKind} {n:Int} {y:α} (hx:S.val x = .own t off sz (l0.map e)) (hi:S.val i = .int k n) (hy:El l0 n=some y)
  (hk:K (S.put d (.optr t sz (off+n.toNat) 0))):Dx C ⟨d,.p (.idxA x i sz),none⟩ S K:=by
 obtain ⟨h0,h1,_⟩:=Rb hy
 refine p_ ⟨?_,?_,trivial⟩ (φ:=sz=sz∧0≤n∧n<(l0.map e).length) (v:=.optr t sz (off+n.toNat) 0) (by simp only [pu,hx,hi,An]) ⟨rfl,h0,by simpa using h1⟩ hk
 ·show Bc true (S.val x); rw [hx]; trivial
 ·show Bc true (S.val i); rw [hi]; trivial
theorem loadO {α:Type} {e:α→List V} {l0:List α} {x:Cu} {t off sz j k n i:Nat} {ag:Bool} {y:α} {v:V} (hx:S.val x = .optr t sz j k) (hf:S.find t=some (off,l0.map e)) (hj:j=off+i)
  (hy:l0[i]? = some y) (hv:Jw ag n ((e y).drop k)=some v) (hn:k+n≤sz) (hsz:(e y).length=sz) (hk:K (S.put d v)):Dx C ⟨d,.p (.load x n ag),none⟩ S K:=by
 subst hj
 have hlt:=(List.getElem?_eq_some_iff.1 hy).1
 have hg:(l0.map e).getD (off+i-off) []=e y:=by
  rw [Nat.add_sub_cancel_left]
  simp [List.getD,hy]
 refine p_ ⟨?_,trivial⟩ (φ:=off≤off+i∧off+i<off+(l0.map e).length∧k+n≤sz∧((l0.map e).getD (off+i-off) []).length=sz) (v:=v) ?_ ⟨Nat.le_add_right _ _,by simp; omega,hn,by rw [hg]; exact hsz⟩ hk
 ·show Bc true (S.val x); rw [hx]; trivial
 ·simp only [pu,hx,An,hf]
  rw [hg,hv]
def eKV (p:Int×Bool):List V:=[.int .i64 p.1,.bool p.2]
abbrev kH (l:List (Int×Bool)):List (List V):=[.tup []]::l.map eKV
def Of:List (Int×Bool)→Int→Bool
 | [],_=>false
 | (k,b)::r,n=>if k=n then b else Of r n
def Uc:List (Int×Bool)→Int→Bool→List (Int×Bool)
 | [],n,b=>[(n,b)]
 | (k,c)::r,n,b=>if k=n then (k,b)::r else (k,c)::Uc r n b
theorem nE (n:Int):∀l:List (Int×Bool),Pw n (l.map eKV)=Of l n
 | []=>rfl
 | (k,b)::r=>by
  show (if k=n then b else Pw n (r.map eKV))=_
  rw [nE n r]; rfl
theorem uT (n:Int) (b:Bool):∀l:List (Int×Bool),Xc n b (l.map eKV)=(Uc l n b).map eKV
 | []=>rfl
 | (k,c)::r=>by
  show (if k=n then [V.int .i64 k,V.bool b]::r.map eKV else [V.int .i64 k,V.bool c]::Xc n b (r.map eKV))=_
  rw [uT n b r]
  show _=(if k=n then (k,b)::r else (k,c)::Uc r n b).map eKV
  split<;>rfl
theorem KK {n:Int} {b:Bool} {l:List (Int×Bool)}:KJ n b (kH l)=kH (Uc l n b):=congrArg ([V.tup []]::·) (uT n b l)
theorem mkM_ {dd:Nat} (k:K ((S.drop (64*dd)).put (some dd) (.own (64*dd) 0 0 (kH [])))):Dx C ⟨some dd,.mkM,none⟩ S K:=k
theorem mset_ {l:List (Int×Bool)} {x y z:Cu} {t off:Nat} {n:Int} {b:Bool} (hx:S.val x = .own t off 0 (kH l)) (hy:S.val y = .int .i64 n) (hz:S.val z = .bool b)
  (k:K ((S.map (rI t n b)).put d .undef)):Dx C ⟨d,.mset x y z,none⟩ S K:=by
 refine ⟨by rw [hx]; trivial,by rw [hy]; trivial,by rw [hz]; trivial,?_⟩
 rw [hx,hy,hz]
 exact k
theorem cmgetL {l:List (Int×Bool)} {x y:Cu} {n:Int} (hx:S.val x = .lst 0 (kH l)) (hy:S.val y = .int .i64 n):Dm S (.p (.mget x y)) (.bool (Of l n)):=by
 refine ⟨⟨by show Bc true (S.val x); rw [hx]; trivial,by show Bc true (S.val y); rw [hy]; trivial,trivial⟩,True,?_,trivial⟩
 rw [←nE]
 simp only [pu,hx,hy,An,kH]
theorem lenL {α:Type} {e:α→List V} {l0:List α} {x:Cu} {sz:Nat} (hx:S.val x = .lst sz (l0.map e)) (hk:K (S.put d (.int .i64 (l0.length:Int)))) (hz:sz≠0:=by decide):Dx C ⟨d,.p (.len x),none⟩ S K:=by
 refine p_ ⟨?_,trivial⟩ (φ:=sz≠0) (v:=.int .i64 (l0.length:Int)) (by simp only [pu,hx,An,List.length_map]) hz hk
 show Bc true (S.val x); rw [hx]; trivial
theorem lenO {α:Type} {e:α→List V} {l0:List α} {x:Cu} {t off sz:Nat} (hx:S.val x = .own t off sz (l0.map e)) (hk:K (S.put d (.int .i64 (l0.length:Int)))) (hz:sz≠0:=by decide):Dx C ⟨d,.p (.len x),none⟩ S K:=by
 refine p_ ⟨?_,trivial⟩ (φ:=sz≠0) (v:=.int .i64 (l0.length:Int)) (by simp only [pu,hx,An,List.length_map]) hz hk
 show Bc true (S.val x); rw [hx]; trivial
end
def Uy:Nat:=1048576
end Go.Ev
