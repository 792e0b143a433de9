/- The transformer W, laid out as a list of what is still to be done; a step for each instruction; loops as repeated steps. -/
import Derived.Test.YtnkhjipmmomjoaaGreatQvB
import Derived.KernelRfl
set_option linter.all false
namespace Go.Ev
section
variable {σ ρ:Type}
def Ia (step:σ→Option (σ⊕ρ)):Nat→σ→Option ρ
 | 0,_=>none
 | n+1,s=>match step s with
  | none=>none
  | some (.inl s')=>Ia step n s'
  | some (.inr r)=>some r
noncomputable def Bz (step:σ→Option (σ⊕ρ)) (s:σ):Option ρ:=
 @dite _ (∃r n,Ia step n s=some r) (Classical.propDecidable _) (fun h=>some (Classical.choose h)) (fun _=>none)
theorem Sq {step:σ→Option (σ⊕ρ)} {r:ρ}:∀ {n m:Nat} {s:σ},Ia step n s=some r→n≤m→Ia step m s=some r
 | 0,_,_,h,_=>by simp [Ia] at h
 | n+1,m+1,s,h,hm=>by
  simp only [Ia] at h ⊢
  split at h
  ·cases h
  ·exact Sq h (by omega)
  ·exact h
 | n+1,0,_,_,hm=>by omega
theorem Kj {step:σ→Option (σ⊕ρ)} {s:σ} {r:ρ}:Bz step s=some r↔∃n,Ia step n s=some r:=by
 constructor
 ·intro h
  unfold Bz at h
  split at h
  ·rename_i hh
   cases h
   exact Classical.choose_spec hh
  ·cases h
 ·rintro ⟨n,h⟩
  have hh:∃r n,Ia step n s=some r:=⟨r,n,h⟩
  unfold Bz
  rw [dif_pos hh]
  obtain ⟨k,hk⟩:=Classical.choose_spec hh
  have h1:=Sq h (Nat.le_max_left n k)
  have h2:=Sq hk (Nat.le_max_right n k)
  rw [h1] at h2
  exact h2.symm
theorem Dh {step:σ→Option (σ⊕ρ)} {s s':σ} (h:step s=some (.inl s')):Bz step s=Bz step s':=by
 cases hr:Bz step s' with
 | some r=>
  obtain ⟨n,hn⟩:=Kj.1 hr
  exact Kj.2 ⟨n+1,by simp only [Ia,h]; exact hn⟩
 | none=>
  cases hr':Bz step s with
  | none=>rfl
  | some r=>
   obtain ⟨n,hn⟩:=Kj.1 hr'
   cases n with
   | zero=>simp [Ia] at hn
   | succ n=>
    simp only [Ia,h] at hn
    rw [Kj.2 ⟨n,hn⟩] at hr
    cases hr
theorem Dp {step:σ→Option (σ⊕ρ)} {s:σ} {r:ρ} (h:step s=some (.inr r)):Bz step s=some r:=
 Kj.2 ⟨1,by simp only [Ia,h]⟩
end
theorem bnd {α β:Type} {o:Option α} {f:α→Option β} {r:β} (h:o.bind f=some r):∃x,o=some x∧f x=some r:=by
 cases o with
 | none=>cases h
 | some x=>exact ⟨x,rfl,h⟩
def Bp {α β:Type} (e:α) (f:α→β):β:=f e
theorem grd {α:Type} {c:Prop} [Decidable c] {a:Option α} {r:α} (h:(if c then a else none)=some r):c∧a=some r:=by
 split at h
 ·rename_i hc; exact ⟨hc,h⟩
 ·cases h
theorem ip {α:Type} {c:Prop} [Decidable c] {a b:α} {r:α} (hc:c) (h:(if c then a else b)=r):a=r:=by rwa [if_pos hc] at h
theorem Xj {α:Type} {b:Bool} {x y:α} {r:α} (hc:b=false) (h:(if b=true then x else y)=r):y=r:=by subst hc; exact h
theorem Bf {a b:Bool} (h1:a=true) (h2:b=true):(a&&b)=true:=by rw [h1,h2]; rfl
theorem Qm {b:Bool} (h:b=true):(b==true)=true:=by cases b<;>first | rfl | cases h
theorem Rl {b:Bool} (h:(!b)=true):(b==false)=true:=by cases b<;>first | rfl | cases h
def Cq {α:Type} (l:List α) (n:Int):Option α:=if 0≤n then l[n.toNat]? else none
theorem Pl {α:Type} {l:List α} {n:Int} {y:α} (h:Cq l n=some y):0≤n∧n<l.length∧l[n.toNat]? = some y:=by
 unfold Cq at h
 split at h
 ·rename_i h0
  have:=(List.getElem?_eq_some_iff.1 h).1
  exact ⟨h0,by omega,h⟩
 ·cases h
def u8 (n:Int):UInt8:=UInt8.ofNat (n%256).toNat
theorem u8_eq {n:Int} (h0:0≤n) (h1:n<256):((u8 n).toNat:Int)=n:=by
 unfold u8
 have h2:(n%256).toNat=n.toNat:=by rw [Int.emod_eq_of_lt h0 h1]
 rw [h2,UInt8.toNat_ofNat']
 omega
theorem FA (x:Int):IntKind.u8.wrap x=x%256:=by
 simp [IntKind.wrap,IntKind.bits,IntKind.signed]
theorem qD (x:Int):((u8 (IntKind.u8.wrap x)).toNat:Int)=IntKind.u8.wrap x:=by
 rw [FA]
 exact u8_eq (Int.emod_nonneg _ (by decide)) (Int.emod_lt_of_pos _ (by decide))
def b8 (n:Int):UInt8:=u8 (IntKind.u8.wrap n)
abbrev gD (k:IntKind) (a b:Int):Int:=k.wrap (BitVec.ofInt k.bits a &&& BitVec.ofInt k.bits b).toNat
abbrev cQ (k:IntKind) (a b:Int):Int:=k.wrap (BitVec.ofInt k.bits a ^^^ BitVec.ofInt k.bits b).toNat
abbrev gG (k:IntKind) (a b:Int):Int:=k.wrap (a*2^min b.toNat k.bits)
abbrev Nj (_:IntKind) (a b:Int):Int:=a.fdiv (2^min b.toNat 64)
def okInt (k:IntKind) (n:Int):Prop:=k.min≤n∧n≤k.max
abbrev Np:Int→Prop:=okInt .i64
def bJ {α:Type} (_:α):Prop:=True
def okStr (s:List UInt8):Prop:=s.length≤9223372036854775807
def okL {α:Type} (p:α→Prop) (l:List α):Prop:=l.length≤9223372036854775807∧∀x∈l,p x
def eU8 (b:UInt8):List V:=[.int .u8 (b.toNat:Int)]
def eInt (k:IntKind) (n:Int):List V:=[.int k n]
def eI (n:Int):List V:=[.int .i64 n]
def eB (b:Bool):List V:=[.bool b]
def eS (s:List UInt8):List V:=[.str s]
def eL {α:Type} (n:Nat) (e:α→List V) (l:List α):List V:=[.lst n (l.map e)]
def Ho (k:List V):Prop:=
 (∀(S:St) (LB XR:List Nat) (fz:Bool) (n:Nat),k.map (S.liftP LB XR fz n)=k) ∧
 (∀(S:St) (LB LR LM:List Nat) (fz:Bool),k.map (mapW (S.liftC LB LR LM fz))=k)∧Oi (fun v => !Cf v) k=true∧(∀(S:St) (XB XR:List Nat) (n:Nat),k.map (S.cl XB XR n)=k)∧∀t,k.all (Jk t)=true
theorem Bb {F:V→V} {v v':V} {l l':List V} (h1:F v=v') (h2:l.map F=l'):(v::l).map F=v'::l':=by rw [List.map_cons,h1,h2]
theorem En {k:List V} {f:Nat} {S:St} {LB LR LM:List Nat} {fz:Bool} (h:Ho k):mapW (S.liftC LB LR LM fz) (.clo f k) = .clo f k:=by
 show V.clo f (k.map (S.liftP LB (LR++LM) fz 2))=_
 rw [h.1]
theorem dK {k:List V} {f t:Nat} (h:Ho k):oO t (.clo f k) = .clo f k:=by
 unfold oO
 have:V.no t (.clo f k)=true:=by simp only [V.no,V.flat,V.flat1,List.all_cons,List.all_nil,Bool.and_true]; exact h.2.2.2.2 t
 rw [this]
 rfl
inductive Hn where
 | c (a:IR)
 | w
 | b (id:Nat)
section
variable (C:Bi)
def WL:List Hn→(Ex→St→Prop)→Ex→St→Prop
 | [],Q,e,S=>Q e S
 | .c a::T,Q,.normal,S=>W C a (WL T Q) S
 | .c _::T,Q,.exit i,S=>WL T Q (.exit i) S
 | .c _::T,Q,.ret,S=>WL T Q .ret S
 | .w::T,Q,.normal,S=>∃S1,Fg S S1∧WL T Q .normal S1
 | .w::T,Q,.exit i,S=>WL T Q (.exit i) S
 | .w::T,Q,.ret,S=>WL T Q .ret S
 | .b id::T,Q,.exit i,S=>if i=id then WL T Q .normal S else WL T Q (.exit i) S
 | .b _::T,Q,.normal,S=>WL T Q .normal S
 | .b _::T,Q,.ret,S=>WL T Q .ret S
def OL (l:List Bv) (T:List Hn) (Q:Ex→St→Prop) (S:St):Prop:=sM C l (WL C T Q .normal) S
variable {C} {Q:Ex→St→Prop} {S:St} {T:List Hn} {l:List Bv} {d:Option Nat} {K:St→Prop} {i:Bv}
theorem Le.refl (S:St):Le S S:=⟨fun _ _ h=>h,fun _ _ h=>h,fun _ c h=>.inl ⟨c,h,.inl rfl⟩⟩
theorem Le.of {S S':St} (h1:Cr (fun p=>look S.env p.1=some p.2) S'.env) (h2:Cr (fun p=>look S.bx p.1=some p.2) S'.bx) (h3:S'.cp=[]):Le S S':=by
 have key:∀ {α:Type} (g:Nat→Option α) (l:List (Nat×α)),Cr (fun p=>g p.1=some p.2) l→∀t v,look l t=some v→g t=some v:=by
  intro α g l
  induction l with
  | nil=>intro _ t v hv; simp [look] at hv
  | cons p r ih=>
   obtain ⟨b,x⟩:=p
   intro hp t v hv
   simp only [look] at hv
   split at hv
   ·rename_i e; subst e; obtain rfl:=Option.some.inj hv; exact hp.1
   ·exact ih hp.2 t v hv
 exact ⟨key _ _ h1,key _ _ h2,fun k c h=>by rw [h3] at h; simp [look] at h⟩
theorem sW {S S' S'':St} (h:Fg S S') (h1:Cr (fun p=>look S'.env p.1=some p.2) S''.env) (h2:Cr (fun p=>look S'.bx p.1=some p.2) S''.bx) (h3:S''.cp=[]:=by rfl):Fg S S'':=h.trans (.le (Le.of h1 h2 h3))
theorem Fg.refl (S:St):Fg S S:=.le (Le.refl S)
theorem fg {S S':St} (h1:Cr (fun p=>look S.env p.1=some p.2) S'.env) (h2:Cr (fun p=>look S.bx p.1=some p.2) S'.bx) (h3:S'.cp=[]:=by rfl):Fg S S':=.le (Le.of h1 h2 h3)
abbrev iH (S S':St):Prop:=(S'.env.map (fun p=>look S.env p.1),S'.bx.map (fun p=>look S.bx p.1),S'.cp)=(S'.env.map (fun p=>some p.2),S'.bx.map (fun p=>some p.2),[])
theorem Ou {α β:Type} {f g:α→β}:∀ {l:List α},l.map f=l.map g→Cr (fun p=>f p=g p) l
 | [],_=>trivial
 | _::_,h=>by
  simp only [List.map_cons,List.cons.injEq] at h
  exact ⟨h.1,Ou h.2⟩
theorem iH.le {S S':St} (h:iH S S'):Le S S':=by
 simp only [iH,Prod.mk.injEq] at h
 exact Le.of (Ou h.1) (Ou h.2.1) h.2.2
theorem Dv {S S':St} (h:(S'.env.map (fun p=>look S.env p.1),S'.bx.map (fun p=>look S.bx p.1),S'.cp)=(S'.env.map (fun p=>some p.2),S'.bx.map (fun p=>some p.2),([]:List (Nat×Int)))):Fg S S':=.le (iH.le h)
theorem qY {S S':St} (ts:List Nat) (h:(S'.env.map (fun p=>look (S.freezes ts).env p.1),S'.bx.map (fun p=>look (S.freezes ts).bx p.1),S'.cp)=(S'.env.map (fun p=>some p.2),S'.bx.map (fun p=>some p.2),([]:List (Nat×Int)))):Fg S S':=(Fg.fz S ts).trans (.le (iH.le h))
theorem Sk {S S':St} (ts:List Nat) (rs:List (Nat×Nat)) (hr:nO rs=true) (h:(S'.env.map (fun p=>look ((S.freezes ts).swaps rs).env p.1),S'.bx.map (fun p=>look ((S.freezes ts).swaps rs).bx p.1),S'.cp)=(S'.env.map (fun p=>some p.2),S'.bx.map (fun p=>some p.2),([]:List (Nat×Int)))):Fg S S':=
 (Fg.fz S ts).trans ((Fg.sw _ rs hr).trans (.le (iH.le h)))
theorem BF {S S':St} (h1:Cr (fun p=>look S.env p.1=some p.2) S'.env) (h2:Cr (fun p=>look S.bx p.1=some p.2) S'.bx) (h3:Cr (fun p=>oM S p.1 p.2) S'.cp):Fg S S':=by
 refine .le ⟨(Le.of (S':={ S' with cp:=[] }) h1 h2 rfl).1,(Le.of (S':={ S' with cp:=[] }) h1 h2 rfl).2.1,?_⟩
 generalize S'.cp=l at h3
 induction l with
 | nil=>intro k c h; simp [look] at h
 | cons p r ih=>
  intro k c h
  simp only [look] at h
  split at h
  ·rename_i e; subst e; obtain rfl:=Option.some.inj h; exact h3.1
  ·exact ih h3.2 k c h
theorem wkJ {C:Bi} {T:List Hn} {Q:Ex→St→Prop} {S S1:St} (h1:Fg S S1) (h:WL C (.w::T) Q .normal S1):WL C (.w::T) Q .normal S:=by
 obtain ⟨S2,h2,h⟩:=h
 exact ⟨S2,h1.trans h2,h⟩
theorem oD (a:IR) {Q Q':Ex→St→Prop} (h:∀e S,Q e S=Q' e S):W C a Q S=W C a Q' S:=by
 have:Q=Q':=funext fun e=>funext fun S=>h e S
 rw [this]
theorem Bm {a b:IR} (h:WL C (.c a :: .w :: .c b::T) Q .normal S):WL C (.c (.seq a b)::T) Q .normal S:=by
 have e:WL C (.c a :: .w :: .c b::T) Q .normal S=WL C (.c (.seq a b)::T) Q .normal S:=by
  show W C a _ S=W C a _ S
  exact oD a fun e S=>by cases e<;>rfl
 exact e ▸ h
theorem By {id:Nat} {a:IR} (h:WL C (.c a :: .b id::T) Q .normal S):WL C (.c (.block id a)::T) Q .normal S:=by
 have e:WL C (.c a :: .b id::T) Q .normal S=WL C (.c (.block id a)::T) Q .normal S:=by
  show W C a _ S=W C a _ S
  exact oD a fun e S=>by cases e<;>rfl
 exact e ▸ h
theorem Il {id:Nat} {a:IR} (R:St→Prop) (hJ:∀S,R S→WL C (.w::T) Q .normal S)
  (h:(∀S S1,Fg S S1→R S1→WL C (.w::T) Q .normal S)→WL C (.c a :: .b id :: .w::T) Q .normal S):WL C (.c (.block id a) :: .w::T) Q .normal S:=
 By (h fun _ S1 h1 h2=>wkJ h1 (hJ S1 h2))
theorem Ao (h:OL C l T Q S):WL C (.c (.reg l)::T) Q .normal S:=h
theorem Js (h:WL C T Q .normal S):WL C (.c .skip::T) Q .normal S:=h
theorem Rp {id:Nat} (h:WL C T Q .normal S):WL C (.b id::T) Q .normal S:=h
theorem Dd (S1:St) (h1:Fg S S1) (h:WL C T Q .normal S1):WL C (.w::T) Q .normal S:=⟨S1,h1,h⟩
theorem cY (h:WL C T Q .normal S):WL C (.w::T) Q .normal S:=⟨S,Fg.refl S,h⟩
theorem Gr (h:WL C T Q .normal S):OL C [] T Q S:=h
theorem st (h:Dl C i S (OL C l T Q)):OL C (i::l) T Q S:=⟨S,Fg.refl S,h⟩
theorem sw (S1:St) (h1:Fg S S1) (h:Dl C i S1 (OL C l T Q)):OL C (i::l) T Q S:=⟨S1,h1,h⟩
theorem Vw {c:Ci} {a b:IR} {cb:Bool} (hc:S.val c = .bool cb) (h1:cb=true→WL C (.c a::T) Q .normal S) (h2:cb=false→WL C (.c b::T) Q .normal S):
  WL C (.c (.ite c a b)::T) Q .normal S:=by
 refine ⟨by rw [hc]; trivial,?_⟩
 rw [hc]
 exact ⟨h1,h2⟩
theorem Kh {c:Ci} {a b:IR} {cb:Bool} (R:St→Prop) (hc:S.val c = .bool cb) (hJ:∀S,R S→WL C (.w::T) Q .normal S)
  (h1:cb=true→(∀S S1,Fg S S1→R S1→WL C (.w::T) Q .normal S)→WL C (.c a :: .w::T) Q .normal S)
  (h2:cb=false→(∀S S1,Fg S S1→R S1→WL C (.w::T) Q .normal S)→WL C (.c b :: .w::T) Q .normal S):WL C (.c (.ite c a b) :: .w::T) Q .normal S:=
 Vw hc (fun e=>h1 e fun _ S1 h1 h2=>wkJ h1 (hJ S1 h2)) (fun e=>h2 e fun _ S1 h1 h2=>wkJ h1 (hJ S1 h2))
def rZ:List Hn→Nat→List Hn
 | [],_=>[]
 | .b id::T,i=>if i=id then T else rZ T i
 | _::T,i=>rZ T i
def gC:List Hn→Nat→Bool
 | [],_=>false
 | .b id::T,i=>if i=id then true else gC T i
 | _::T,i=>gC T i
theorem BE {i:Nat}:∀ {T:List Hn},gC T i=true→WL C (rZ T i) Q .normal S→WL C T Q (.exit i) S
 | .b id::T,hb,h=>by
  simp only [gC,rZ,WL] at hb h ⊢
  by_cases e:i=id
  ·rw [if_pos e]; rw [if_pos e] at h; exact h
  ·rw [if_neg e]; rw [if_neg e] at hb h; exact BE hb h
 | .c _::T,hb,h=>BE (T:=T) hb h
 | .w::T,hb,h=>BE (T:=T) hb h
theorem exq_ {i:Nat}:∀ {T:List Hn},gC T i=false→Q (.exit i) S→WL C T Q (.exit i) S
 | [],_,h=>h
 | .b id::T,hb,h=>by
  simp only [gC,WL] at hb ⊢
  by_cases e:i=id
  ·rw [if_pos e] at hb; cases hb
  ·rw [if_neg e]; rw [if_neg e] at hb; exact exq_ hb h
 | .c _::T,hb,h=>exq_ (T:=T) hb h
 | .w::T,hb,h=>exq_ (T:=T) hb h
theorem EH:∀ {T:List Hn},Q .ret S→WL C T Q .ret S
 | [],h=>h
 | .b _::T,h=>EH (T:=T) h
 | .c _::T,h=>EH (T:=T) h
 | .w::T,h=>EH (T:=T) h
theorem ex_ {i:Nat} (hb:gC T i=true) (h:WL C (rZ T i) Q .normal S):WL C (.c (.exit i)::T) Q .normal S:=BE hb h
theorem Iq {i:Nat} (hb:gC T i=false) (h:Q (.exit i) S):WL C (.c (.exit i)::T) Q .normal S:=exq_ hb h
theorem Lf (h:Q .ret S):WL C (.c .ret::T) Q .normal S:=EH (T:=T) h
theorem Cs {σ ρ:Type} {a:IR} {R:St→Prop} (step:σ→Option (σ⊕ρ)) (st:σ→St→Prop) {s0:σ} {r:ρ} (h:Bz step s0=some r) (S1:St) (hS:Fg S S1) (h0:st s0 S1)
  (j:Nat) (hb:(∃S,R S)→gC T j=true) (hR:∀S' S1,Fg S' S1→R S1→WL C (rZ T j) Q .normal S')
  (hr:∀(s:σ) (o:σ⊕ρ) (S:St) (K:Ex→St→Prop),st s S→step s=some o→(∀x,o = .inr x→x=r) →
   (∀s',o = .inl s'→∀S' S'',Fg S' S''→st s' S''→K .normal S')→(∀S' S1,Fg S' S1→R S1→K (.exit j) S')→(∀S',Q .ret S'→K .ret S')→WL C [.c a] K .normal S):
  WL C (.c (.loop a)::T) Q .normal S:=by
 let I:St→Prop:=fun S=>∃n s,Ia step n s=some r∧st s S
 have least:∀S,I S→∃n,(∃s,Ia step n s=some r∧st s S)∧∀k,(∃s,Ia step k s=some r∧st s S)→n≤k:=by
  intro S ⟨n,hn⟩
  induction n using Nat.strongRecOn with
  | _ n ih=>
   by_cases hex:∃k,k<n∧∃s,Ia step k s=some r∧st s S
   ·obtain ⟨k,hk,hak⟩:=hex
    exact ih k hk hak
   ·exact ⟨n,hn,fun k hk=>Nat.le_of_not_lt fun hlt=>hex ⟨k,hlt,hk⟩⟩
 let μ:St→Nat:=fun S=>@dite _ (I S) (Classical.propDecidable _) (fun hh=>Classical.choose (least S hh)) (fun _=>0)
 have hμ:∀S (hh:I S),(∃s,Ia step (μ S) s=some r∧st s S)∧∀k,(∃s,Ia step k s=some r∧st s S)→μ S≤k:=by
  intro S hh
  have e:μ S=Classical.choose (least S hh):=dif_pos hh
  rw [e]
  exact Classical.choose_spec (least S hh)
 obtain ⟨n0,hn0⟩:=Kj.1 h
 refine ⟨I,μ,⟨S1,hS,n0,s0,hn0,h0⟩,fun S hI=>?_⟩
 obtain ⟨⟨s,hs,hst⟩,_⟩:=hμ S hI
 cases hm:μ S with
 | zero=>rw [hm] at hs; simp [Ia] at hs
 | succ n=>
  rw [hm] at hs
  simp only [Ia] at hs
  cases hstep:step s with
  | none=>rw [hstep] at hs; cases hs
  | some o=>
   rw [hstep] at hs
   refine hr s o S _ hst hstep (fun x e=>?_) (fun s' e S' S'' hf hs'=>?_) (fun S' S1 hf hR1=>?_) (fun S' hq=>?_)
   ·subst e; exact Option.some.inj hs
   ·subst e
    exact ⟨S'',hf,⟨n,s',hs,hs'⟩,Nat.lt_of_le_of_lt ((hμ S'' ⟨n,s',hs,hs'⟩).2 n ⟨s',hs,hs'⟩) (by omega)⟩
   ·exact BE (hb ⟨S1,hR1⟩) (hR S' S1 hf hR1)
   ·exact EH hq
abbrev nm (S:St) (x:Ci):Prop:=Bh true (S.val x)
theorem Ca {n:Nat} {v:V} (h:look S.env n=some v) (hn:Bh true v) (k:K (S.putC d (Ar v) fun l=>look l n)):Dl C ⟨d,.p (.mv (.t n)),none⟩ S K:=by
 have hv:S.val (.t n)=v:=by simp only [St.val,h]; rfl
 refine ⟨⟨by show Bh true (S.val (.t n)); rw [hv]; exact hn,trivial⟩,trivial,?_⟩
 show K (S.putC d (Ar (S.val (.t n))) fun l=>look l n)
 rw [hv]
 exact k
theorem DF {v:V} (hn:Bh true v) (k:K (S.put d (Ar v))):Dl C ⟨d,.p (.mv (.c v)),none⟩ S K:=⟨⟨hn,trivial⟩,trivial,k⟩
theorem p_ {o:PU} {φ:Prop} {v:V} (hm:Cr (nm S) o.opds) (hp:pu S (fun x=>Ar (S.val x)) o=some (φ,v)) (hφ:φ) (k:K (S.putC d v (Jj (fun x=>Ar (S.val x)) o))):
  Dl C ⟨d,.p o,none⟩ S K:=by
 refine ⟨hm,?_⟩
 rw [hp]
 exact ⟨hφ,k⟩
theorem Ax {o:PU} {φ:Prop} {v:V} (hm:Cr (nm S) o.opds) (hp:pu S (fun x=>Ar (S.val x)) o=some (φ,v)) (hφ:φ):Df S (.p o) v:=⟨hm,φ,hp,hφ⟩
theorem Bn {o:PU} {u:V} {gs:Nat} {want g:Bool} (hg:Nh (S.val (.t gs)) want=some g) (h:g=true→Df S (.p o) u) (k:K (S.put d (.may g u))):Dl C ⟨d,.p o,some (gs,want)⟩ S K:=by
 unfold Dl
 dsimp only
 rw [hg]
 exact ⟨u,h,k⟩
theorem Nq {a b c:Ci} {u:V} {gs:Nat} {want g:Bool} (hg:Nh (S.val (.t gs)) want=some g) (h:g=true→Df S (.pick a b c) u) (k:K (S.put d (.may g u))):Dl C ⟨d,.pick a b c,some (gs,want)⟩ S K:=by
 unfold Dl
 dsimp only
 rw [hg]
 exact ⟨u,h,k⟩
theorem Dg {n:Nat} {v:V} (h:look S.env n=some v) (hm:Bh true v):Df S (.p (.mv (.t n))) (Ar v):=by
 have hv:S.val (.t n)=v:=by simp only [St.val,h]; rfl
 refine ⟨⟨by show Bh true (S.val (.t n)); rw [hv]; exact hm,trivial⟩,True,?_,trivial⟩
 show some (True,Ar (S.val (.t n)))=_
 rw [hv]
theorem Tl {c a b:Ci} {cb:Bool} {x y v z:V} (hc:S.val c=z) (hz:Ar z = .bool cb) (hm:Bh true z) (ha:S.val a=x) (hb:S.val b=y) (h1:Bh cb x) (h2:Bh (!cb) y)
  (hv:Px cb (Ar x) (Ar y)=v):Df S (.pick c a b) v:=by
 refine ⟨by rw [hc]; exact hm,cb,by rw [hc]; exact hz,by rw [ha]; exact h1,by rw [hb]; exact h2,?_⟩
 rw [ha,hb]; exact hv.symm
theorem Ob {α:Type} {e:α→List V} {l0:List α} {x i:Ci} {vx vi:V} {sz:Nat} {k:IntKind} {n:Int} {y:α} (hx:S.val x=vx) (hx':Ar vx = .lst sz (l0.map e)) (hmx:Bh true vx)
  (hi:S.val i=vi) (hi':Ar vi = .int k n) (hmi:Bh true vi) (hy:Cq l0 n=some y):Df S (.p (.idxA x i sz)) (.iptr (e y)):=by
 obtain ⟨h0,h1,h2⟩:=Pl hy
 refine ⟨⟨by show Bh true (S.val x); rw [hx]; exact hmx,by show Bh true (S.val i); rw [hi]; exact hmi,trivial⟩,sz=sz∧0≤n∧n<(l0.map e).length,?_,rfl,h0,by simpa using h1⟩
 simp only [pu,hx,hi,hx',hi']
 have:(l0.map e).getD n.toNat []=e y:=by simp [List.getD,h2]
 rw [this]
theorem Ml {α:Type} {e:α→List V} {l0:List α} {x:Ci} {vx:V} {sz:Nat} (hx:S.val x=vx) (hx':Ar vx = .lst sz (l0.map e)) (hm:Bh true vx) (hz:sz≠0:=by decide):Df S (.p (.len x)) (.int .i64 (l0.length:Int)):=by
 refine ⟨⟨by show Bh true (S.val x); rw [hx]; exact hm,trivial⟩,(sz≠0),?_,hz⟩
 simp only [pu,hx,hx',List.length_map]
theorem Cu {c a b:Ci} {cb:Bool} {x y v:V} (hc:S.val c = .bool cb) (ha:S.val a=x) (hb:S.val b=y) (h1:Bh cb x) (h2:Bh (!cb) y)
  (hv:Px cb (Ar x) (Ar y)=v) (k:K (S.put d v)):Dl C ⟨d,.pick c a b,none⟩ S K:=by
 refine ⟨by rw [hc]; trivial,?_⟩
 have e:Ar (S.val c) = .bool cb:=by rw [hc]; rfl
 rw [e,ha,hb]
 dsimp only
 rw [hv]
 exact ⟨h1,h2,k⟩
theorem GG {x:Ci} {v:V} {d:Nat} (hx:(S.drop (64*d)).val x=v) (hn:Bh true v) (hu:Cf (Ar v)=false) (k:K (((S.drop (64*d)).setBx (64*d) (Ar v).cells).put (some d) (.ptr (64*d) 0))):
  Dl C ⟨some d,.box x,none⟩ S K:=by
 refine ⟨?_,?_,?_⟩
 ·rw [hx]; exact hn
 ·rw [hx]; exact hu
 ·rw [hx]; exact k
theorem Fc {z:List V} {d:Nat} (k:K (((S.drop (64*d)).setBx (64*d) z).put (some d) (.ptr (64*d) 0))):Dl C ⟨some d,.alloc z,none⟩ S K:=k
theorem eG {sz d:Nat} (k:K ((S.drop (64*d)).put (some d) (.own (64*d) 0 sz []))):Dl C ⟨some d,.nilS sz,none⟩ S K:=k
theorem Ei {x v:Ci} {n t k:Nat} {u:V} {bs:List V} (hx:S.val x = .ptr t k) (hv:S.val v=u) (hm:Bh true u) (hu:Cf (Ar u)=false) (hl:(Ar u).cells.length=n)
  (hb:look S.bx t=some bs) (hn:k+n≤bs.length) (k':K ((S.setBx t (Dn bs k (Ar u).cells)).put d .undef)):Dl C ⟨d,.store x v n,none⟩ S K:=by
 refine ⟨by rw [hx]; trivial,by rw [hv]; exact hm,?_⟩
 rw [hv,hx]
 refine ⟨hu,hl,?_⟩
 dsimp only [Ar]
 rw [hb]
 exact ⟨hn,k'⟩
theorem Hk {α:Type} {e:α→List V} {l0:List α} {x v:Ci} {n t sz j k off i:Nat} {u:V} {y y':α} (hx:S.val x = .optr t sz j k) (hv:S.val v=u) (hm:Bh true u) (hu:Cf (Ar u)=false) (hl:(Ar u).cells.length=n)
  (hf:S.find t=some (off,l0.map e)) (hj:j=off+i) (hy:l0[i]? = some y) (hn:k+n≤sz) (hsz:(e y).length=sz) (hp:(Ar u).cells.all (fun c => !Jy c)=true) (ht:(Ar u).tags.all (· != t)=true)
  (hy':Dn (e y) k ((Ar u).cells.map Fj)=e y')
  (k':K (((S.freezes (Ar u).tags).map (hY t sz (off+i) [e y'])).put d .undef)):Dl C ⟨d,.store x v n,none⟩ S K:=by
 subst hj
 have hlt:=(List.getElem?_eq_some_iff.1 hy).1
 have hg:(l0.map e).getD (off+i-off) []=e y:=by
  rw [Nat.add_sub_cancel_left]
  simp [List.getD,hy]
 refine ⟨by rw [hx]; trivial,by rw [hv]; exact hm,?_⟩
 rw [hv,hx]
 refine ⟨hu,hl,?_⟩
 dsimp only [Ar]
 rw [hf]
 dsimp only
 rw [hg]
 refine ⟨Nat.le_add_right _ _,by simp; omega,hn,hsz,hp,ht,?_⟩
 dsimp only [Ar] at hy'
 rw [hy']
 exact k'
theorem Be {α:Type} {e:α→List V} {l:List α} {i:Nat} {y:α} {off:Nat}:Fp off (l.map e) (off+i) [e y]=(l.set i y).map e:=by
 unfold Fp
 apply List.ext_getElem?
 intro k
 rw [List.getElem?_mapIdx,List.getElem?_map,List.getElem?_map,List.getElem?_set]
 cases hk:l[k]? with
 | none=>
  have:=List.getElem?_eq_none_iff.1 hk
  by_cases h1:i=k
  ·rw [if_pos h1,if_neg (by omega)]; rfl
  ·rw [if_neg h1]; rfl
 | some z=>
  have hlt:=(List.getElem?_eq_some_iff.1 hk).1
  simp only [Option.map_some]
  by_cases h1:i=k
  ·subst h1
   rw [if_pos rfl,if_pos hlt,if_pos (Nat.le_refl _),Nat.sub_self]
   rfl
  ·rw [if_neg h1,Option.map_some]
   by_cases h3:i≤k
   ·have h4:off+k-(off+i)=(k-i-1)+1:=by omega
    rw [if_pos (by omega),h4]
    rfl
   ·rw [if_neg (by omega)]
theorem idxL {α:Type} {e:α→List V} {l0:List α} {x i:Ci} {sz:Nat} {k:IntKind} {n:Int} {y:α} (hx:S.val x = .lst sz (l0.map e)) (hi:S.val i = .int k n) (hy:Cq l0 n=some y)
  (hk:K (S.put d (.iptr (e y)))):Dl C ⟨d,.p (.idxA x i sz),none⟩ S K:=by
 obtain ⟨h0,h1,h2⟩:=Pl hy
 refine p_ ⟨?_,?_,trivial⟩ (φ:=sz=sz∧0≤n∧n<(l0.map e).length) (v:=.iptr ((l0.map e).getD n.toNat [])) (by simp only [pu,hx,hi,Ar]) ⟨rfl,h0,by simpa using h1⟩ ?_
 ·show Bh true (S.val x); rw [hx]; trivial
 ·show Bh true (S.val i); rw [hi]; trivial
 ·have:(l0.map e).getD n.toNat []=e y:=by simp [List.getD,h2]
  rw [this]
  exact hk
theorem idxO {α:Type} {e:α→List V} {l0:List α} {x i:Ci} {t off sz:Nat} {k:IntKind} {n:Int} {y:α} (hx:S.val x = .own t off sz (l0.map e)) (hi:S.val i = .int k n) (hy:Cq l0 n=some y)
  (hk:K (S.put d (.optr t sz (off+n.toNat) 0))):Dl C ⟨d,.p (.idxA x i sz),none⟩ S K:=by
 obtain ⟨h0,h1,_⟩:=Pl hy
 refine p_ ⟨?_,?_,trivial⟩ (φ:=sz=sz∧0≤n∧n<(l0.map e).length) (v:=.optr t sz (off+n.toNat) 0) (by simp only [pu,hx,hi,Ar]) ⟨rfl,h0,by simpa using h1⟩ hk
 ·show Bh true (S.val x); rw [hx]; trivial
 ·show Bh true (S.val i); rw [hi]; trivial
theorem loadO {α:Type} {e:α→List V} {l0:List α} {x:Ci} {t off sz j k n i:Nat} {ag:Bool} {y:α} {v:V} (hx:S.val x = .optr t sz j k) (hf:S.find t=some (off,l0.map e)) (hj:j=off+i)
  (hy:l0[i]? = some y) (hv:Ic ag n ((e y).drop k)=some v) (hn:k+n≤sz) (hsz:(e y).length=sz) (hk:K (S.put d v)):Dl C ⟨d,.p (.load x n ag),none⟩ S K:=by
 subst hj
 have hlt:=(List.getElem?_eq_some_iff.1 hy).1
 have hg:(l0.map e).getD (off+i-off) []=e y:=by
  rw [Nat.add_sub_cancel_left]
  simp [List.getD,hy]
 refine p_ ⟨?_,trivial⟩ (φ:=off≤off+i∧off+i<off+(l0.map e).length∧k+n≤sz∧((l0.map e).getD (off+i-off) []).length=sz) (v:=v) ?_ ⟨Nat.le_add_right _ _,by simp; omega,hn,by rw [hg]; exact hsz⟩ hk
 ·show Bh true (S.val x); rw [hx]; trivial
 ·simp only [pu,hx,Ar,hf]
  rw [hg,hv]
def eKV (p:Int×Bool):List V:=[.int .i64 p.1,.bool p.2]
abbrev gH (l:List (Int×Bool)):List (List V):=[.tup []]::l.map eKV
def Mp:List (Int×Bool)→Int→Bool
 | [],_=>false
 | (k,b)::r,n=>if k=n then b else Mp r n
def Rv:List (Int×Bool)→Int→Bool→List (Int×Bool)
 | [],n,b=>[(n,b)]
 | (k,c)::r,n,b=>if k=n then (k,b)::r else (k,c)::Rv r n b
theorem jP (n:Int):∀l:List (Int×Bool),Oc n (l.map eKV)=Mp l n
 | []=>rfl
 | (k,b)::r=>by
  show (if k=n then b else Oc n (r.map eKV))=_
  rw [jP n r]; rfl
theorem pL (n:Int) (b:Bool):∀l:List (Int×Bool),Ut n b (l.map eKV)=(Rv l n b).map eKV
 | []=>rfl
 | (k,c)::r=>by
  show (if k=n then [V.int .i64 k,V.bool b]::r.map eKV else [V.int .i64 k,V.bool c]::Ut n b (r.map eKV))=_
  rw [pL n b r]
  show _=(if k=n then (k,b)::r else (k,c)::Rv r n b).map eKV
  split<;>rfl
theorem DC {n:Int} {b:Bool} {l:List (Int×Bool)}:DB n b (gH l)=gH (Rv l n b):=congrArg ([V.tup []]::·) (pL n b l)
theorem mkM_ {dd:Nat} (k:K ((S.drop (64*dd)).put (some dd) (.own (64*dd) 0 0 (gH [])))):Dl C ⟨some dd,.mkM,none⟩ S K:=k
theorem mset_ {l:List (Int×Bool)} {x y z:Ci} {t off:Nat} {n:Int} {b:Bool} (hx:S.val x = .own t off 0 (gH l)) (hy:S.val y = .int .i64 n) (hz:S.val z = .bool b)
  (k:K ((S.map (mX t n b)).put d .undef)):Dl C ⟨d,.mset x y z,none⟩ S K:=by
 refine ⟨by rw [hx]; trivial,by rw [hy]; trivial,by rw [hz]; trivial,?_⟩
 rw [hx,hy,hz]
 exact k
theorem cmgetL {l:List (Int×Bool)} {x y:Ci} {n:Int} (hx:S.val x = .lst 0 (gH l)) (hy:S.val y = .int .i64 n):Df S (.p (.mget x y)) (.bool (Mp l n)):=by
 refine ⟨⟨by show Bh true (S.val x); rw [hx]; trivial,by show Bh true (S.val y); rw [hy]; trivial,trivial⟩,True,?_,trivial⟩
 rw [←jP]
 simp only [pu,hx,hy,Ar,gH]
theorem lenL {α:Type} {e:α→List V} {l0:List α} {x:Ci} {sz:Nat} (hx:S.val x = .lst sz (l0.map e)) (hk:K (S.put d (.int .i64 (l0.length:Int)))) (hz:sz≠0:=by decide):Dl C ⟨d,.p (.len x),none⟩ S K:=by
 refine p_ ⟨?_,trivial⟩ (φ:=sz≠0) (v:=.int .i64 (l0.length:Int)) (by simp only [pu,hx,Ar,List.length_map]) hz hk
 show Bh true (S.val x); rw [hx]; trivial
theorem lenO {α:Type} {e:α→List V} {l0:List α} {x:Ci} {t off sz:Nat} (hx:S.val x = .own t off sz (l0.map e)) (hk:K (S.put d (.int .i64 (l0.length:Int)))) (hz:sz≠0:=by decide):Dl C ⟨d,.p (.len x),none⟩ S K:=by
 refine p_ ⟨?_,trivial⟩ (φ:=sz≠0) (v:=.int .i64 (l0.length:Int)) (by simp only [pu,hx,Ar,List.length_map]) hz hk
 show Bh true (S.val x); rw [hx]; trivial
end
def Oj:Nat:=1048576
end Go.Ev
