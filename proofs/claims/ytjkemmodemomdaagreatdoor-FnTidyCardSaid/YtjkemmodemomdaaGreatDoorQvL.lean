/- The transformer W, laid out as a list of what is still to be done; a step for each instruction; loops as repeated steps. -/
import Derived.Test.YtjkemmodemomdaaGreatDoorQvB
import Derived.KernelRfl
set_option linter.all false
namespace Go.Ev
section
variable {σ ρ:Type}
def En (step:σ→Option (σ⊕ρ)):Nat→σ→Option ρ
 | 0,_=>none
 | n+1,s=>match step s with
  | none=>none
  | some (.inl s')=>En step n s'
  | some (.inr r)=>some r
noncomputable def Gc (step:σ→Option (σ⊕ρ)) (s:σ):Option ρ:=
 @dite _ (∃r n,En step n s=some r) (Classical.propDecidable _) (fun h=>some (Classical.choose h)) (fun _=>none)
theorem Lu {step:σ→Option (σ⊕ρ)} {r:ρ}:∀ {n m:Nat} {s:σ},En step n s=some r→n≤m→En step m s=some r
 | 0,_,_,h,_=>by simp [En] at h
 | n+1,m+1,s,h,hm=>by
  simp only [En] at h ⊢
  split at h
  ·cases h
  ·exact Lu h (by omega)
  ·exact h
 | n+1,0,_,_,hm=>by omega
theorem Gt {step:σ→Option (σ⊕ρ)} {s:σ} {r:ρ}:Gc step s=some r↔∃n,En step n s=some r:=by
 constructor
 ·intro h
  unfold Gc at h
  split at h
  ·rename_i hh
   cases h
   exact Classical.choose_spec hh
  ·cases h
 ·rintro ⟨n,h⟩
  have hh:∃r n,En step n s=some r:=⟨r,n,h⟩
  unfold Gc
  rw [dif_pos hh]
  obtain ⟨k,hk⟩:=Classical.choose_spec hh
  have h1:=Lu h (Nat.le_max_left n k)
  have h2:=Lu hk (Nat.le_max_right n k)
  rw [h1] at h2
  exact h2.symm
theorem Sh {step:σ→Option (σ⊕ρ)} {s s':σ} (h:step s=some (.inl s')):Gc step s=Gc step s':=by
 cases hr:Gc step s' with
 | some r=>
  obtain ⟨n,hn⟩:=Gt.1 hr
  exact Gt.2 ⟨n+1,by simp only [En,h]; exact hn⟩
 | none=>
  cases hr':Gc step s with
  | none=>rfl
  | some r=>
   obtain ⟨n,hn⟩:=Gt.1 hr'
   cases n with
   | zero=>simp [En] at hn
   | succ n=>
    simp only [En,h] at hn
    rw [Gt.2 ⟨n,hn⟩] at hr
    cases hr
theorem Mo {step:σ→Option (σ⊕ρ)} {s:σ} {r:ρ} (h:step s=some (.inr r)):Gc step s=some r:=
 Gt.2 ⟨1,by simp only [En,h]⟩
end
theorem bnd {α β:Type} {o:Option α} {f:α→Option β} {r:β} (h:o.bind f=some r):∃x,o=some x∧f x=some r:=by
 cases o with
 | none=>cases h
 | some x=>exact ⟨x,rfl,h⟩
def Cz {α β:Type} (e:α) (f:α→β):β:=f e
theorem bl {α β:Type} {e:α} {f:α→Option β} {r:β} (h:Cz e f=some r):∃x,x=e∧f x=some r:=⟨e,rfl,h⟩
theorem cM {α:Type} {c:Prop} [Decidable c] {a:Option α} {r:α} (h:(if c then a else none)=some r):c∧a=some r:=by
 split at h
 ·rename_i hc; exact ⟨hc,h⟩
 ·cases h
theorem ip {α:Type} {c:Prop} [Decidable c] {a b:α} {r:α} (hc:c) (h:(if c then a else b)=r):a=r:=by rwa [if_pos hc] at h
theorem Ou {α:Type} {b:Bool} {x y:α} {r:α} (hc:b=false) (h:(if b=true then x else y)=r):y=r:=by subst hc; exact h
theorem Fm {a b:Bool} (h1:a=true) (h2:b=true):(a&&b)=true:=by rw [h1,h2]; rfl
theorem Ur {b:Bool} (h:b=true):(b==true)=true:=by cases b<;>first | rfl | cases h
theorem fG {b:Bool} (h:(!b)=true):(b==false)=true:=by cases b<;>first | rfl | cases h
def Je {α:Type} (l:List α) (n:Int):Option α:=if 0≤n then l[n.toNat]? else none
theorem Qc {α:Type} {l:List α} {n:Int} {y:α} (h:Je l n=some y):0≤n∧n<l.length∧l[n.toNat]? = some y:=by
 unfold Je at h
 split at h
 ·rename_i h0
  have:=(List.getElem?_eq_some_iff.1 h).1
  exact ⟨h0,by omega,h⟩
 ·cases h
def u8 (n:Int):UInt8:=UInt8.ofNat (n%256).toNat
theorem qQ {n:Int} (h0:0≤n) (h1:n<256):((u8 n).toNat:Int)=n:=by
 unfold u8
 have h2:(n%256).toNat=n.toNat:=by rw [Int.emod_eq_of_lt h0 h1]
 rw [h2,UInt8.toNat_ofNat']
 omega
theorem wZ (x:Int):IntKind.u8.wrap x=x%256:=by
 simp [IntKind.wrap,IntKind.bits,IntKind.signed]
theorem pG (x:Int):((u8 (IntKind.u8.wrap x)).toNat:Int)=IntKind.u8.wrap x:=by
 rw [wZ]
 exact qQ (Int.emod_nonneg _ (by decide)) (Int.emod_lt_of_pos _ (by decide))
def b8 (n:Int):UInt8:=u8 (IntKind.u8.wrap n)
def qI (k:IntKind) (n:Int):Prop:=k.min≤n∧n≤k.max
abbrev Ns:Int→Prop:=qI .i64
def Mv {α:Type} (_:α):Prop:=True
def Vf (s:List UInt8):Prop:=s.length≤9223372036854775807
def qJ {α:Type} (p:α→Prop) (l:List α):Prop:=l.length≤9223372036854775807∧∀x∈l,p x
def Iy (b:UInt8):List V:=[.int .u8 (b.toNat:Int)]
def zC (k:IntKind) (n:Int):List V:=[.int k n]
def eI (n:Int):List V:=[.int .i64 n]
def eB (b:Bool):List V:=[.bool b]
def eS (s:List UInt8):List V:=[.str s]
def eL {α:Type} (n:Nat) (e:α→List V) (l:List α):List V:=[.lst n (l.map e)]
def Pk (k:List V):Prop:=
 (∀(S:St) (LB XR:List Nat) (fz:Bool) (n:Nat),k.map (S.liftP LB XR fz n)=k) ∧
 (∀(S:St) (LB LR LM:List Nat) (fz:Bool),k.map (mapW (S.liftC LB LR LM fz))=k)∧Lk (fun v => !As v) k=true∧(∀(S:St) (XB XR:List Nat) (n:Nat),k.map (S.cl XB XR n)=k)∧∀t,k.all (Eg t)=true
theorem Hi {F:V→V} {v v':V} {l l':List V} (h1:F v=v') (h2:l.map F=l'):(v::l).map F=v'::l':=by rw [List.map_cons,h1,h2]
theorem Wl {k:List V} {f:Nat} {S:St} {LB LR LM:List Nat} {fz:Bool} (h:Pk k):mapW (S.liftC LB LR LM fz) (.clo f k) = .clo f k:=by
 show V.clo f (k.map (S.liftP LB (LR++LM) fz 2))=_
 rw [h.1]
theorem Xz {k:List V} {f t:Nat} (h:Pk k):Ya t (.clo f k) = .clo f k:=by
 unfold Ya
 have:V.no t (.clo f k)=true:=by simp only [V.no,V.flat,V.flat1,List.all_cons,List.all_nil,Bool.and_true]; exact h.2.2.2.2 t
 rw [this]
 rfl
inductive Et where
 | c (a:IR)
 | w
 | b (id:Nat)
section
variable (C:Bb)
def WL:List Et→(Ex→St→Prop)→Ex→St→Prop
 | [],Q,e,S=>Q e S
 | .c a::T,Q,.normal,S=>W C a (WL T Q) S
 | .c _::T,Q,.exit i,S=>WL T Q (.exit i) S
 | .c _::T,Q,.ret,S=>WL T Q .ret S
 | .w::T,Q,.normal,S=>∃S1,Fg S S1∧WL T Q .normal S1
 | .w::T,Q,.exit i,S=>WL T Q (.exit i) S
 | .w::T,Q,.ret,S=>WL T Q .ret S
 | .b id::T,Q,.exit i,S=>if i=id then WL T Q .normal S else WL T Q (.exit i) S
 | .b _::T,Q,.normal,S=>WL T Q .normal S
 | .b _::T,Q,.ret,S=>WL T Q .ret S
def OL (l:List Bq) (T:List Et) (Q:Ex→St→Prop) (S:St):Prop:=aL C l (WL C T Q .normal) S
variable {C} {Q:Ex→St→Prop} {S:St} {T:List Et} {l:List Bq} {d:Option Nat} {K:St→Prop} {i:Bq}
theorem Le.refl (S:St):Le S S:=⟨fun _ _ h=>h,fun _ _ h=>h,fun _ c h=>.inl ⟨c,h,.inl rfl⟩⟩
theorem Le.of {S S':St} (h1:Be (fun p=>look S.env p.1=some p.2) S'.env) (h2:Be (fun p=>look S.bx p.1=some p.2) S'.bx) (h3:S'.cp=[]):Le S S':=by
 have key:∀ {α:Type} (g:Nat→Option α) (l:List (Nat×α)),Be (fun p=>g p.1=some p.2) l→∀t v,look l t=some v→g t=some v:=by
  intro α g l
  induction l with
  | nil=>intro _ t v hv; simp [look] at hv
  | cons p r ih=>
   obtain ⟨b,x⟩:=p
   intro hp t v hv
   simp only [look] at hv
   split at hv
   ·rename_i e; subst e; obtain rfl:=Option.some.inj hv; exact hp.1
   ·exact ih hp.2 t v hv
 exact ⟨key _ _ h1,key _ _ h2,fun k c h=>by rw [h3] at h; simp [look] at h⟩
theorem Fg.refl (S:St):Fg S S:=.le (Le.refl S)
theorem fg {S S':St} (h1:Be (fun p=>look S.env p.1=some p.2) S'.env) (h2:Be (fun p=>look S.bx p.1=some p.2) S'.bx) (h3:S'.cp=[]:=by rfl):Fg S S':=.le (Le.of h1 h2 h3)
abbrev Wc (S S':St):Prop:=(S'.env.map (fun p=>look S.env p.1),S'.bx.map (fun p=>look S.bx p.1),S'.cp)=(S'.env.map (fun p=>some p.2),S'.bx.map (fun p=>some p.2),[])
theorem Jk {α β:Type} {f g:α→β}:∀ {l:List α},l.map f=l.map g→Be (fun p=>f p=g p) l
 | [],_=>trivial
 | _::_,h=>by
  simp only [List.map_cons,List.cons.injEq] at h
  exact ⟨h.1,Jk h.2⟩
theorem Wc.le {S S':St} (h:Wc S S'):Le S S':=by
 simp only [Wc,Prod.mk.injEq] at h
 exact Le.of (Jk h.1) (Jk h.2.1) h.2.2
theorem Bc {S S':St} (h:(S'.env.map (fun p=>look S.env p.1),S'.bx.map (fun p=>look S.bx p.1),S'.cp)=(S'.env.map (fun p=>some p.2),S'.bx.map (fun p=>some p.2),([]:List (Nat×Int)))):Fg S S':=.le (Wc.le h)
theorem wG {S S':St} (ts:List Nat) (h:(S'.env.map (fun p=>look (S.freezes ts).env p.1),S'.bx.map (fun p=>look (S.freezes ts).bx p.1),S'.cp)=(S'.env.map (fun p=>some p.2),S'.bx.map (fun p=>some p.2),([]:List (Nat×Int)))):Fg S S':=(Fg.fz S ts).trans (.le (Wc.le h))
theorem Zn {S S' S'':St} (h:Fg S S') (h1:(S''.env.map (fun p=>look S'.env p.1),S''.bx.map (fun p=>look S'.bx p.1),S''.cp)=(S''.env.map (fun p=>some p.2),S''.bx.map (fun p=>some p.2),([]:List (Nat×Int)))):Fg S S'':=h.trans (.le (Wc.le h1))
theorem AS {C:Bb} {T:List Et} {Q:Ex→St→Prop} {S S1:St} (h1:Fg S S1) (h:WL C (.w::T) Q .normal S1):WL C (.w::T) Q .normal S:=by
 obtain ⟨S2,h2,h⟩:=h
 exact ⟨S2,h1.trans h2,h⟩
theorem Xq (a:IR) {Q Q':Ex→St→Prop} (h:∀e S,Q e S=Q' e S):W C a Q S=W C a Q' S:=by
 have:Q=Q':=funext fun e=>funext fun S=>h e S
 rw [this]
theorem Aj {a b:IR} (h:WL C (.c a :: .w :: .c b::T) Q .normal S):WL C (.c (.seq a b)::T) Q .normal S:=by
 have e:WL C (.c a :: .w :: .c b::T) Q .normal S=WL C (.c (.seq a b)::T) Q .normal S:=by
  show W C a _ S=W C a _ S
  exact Xq a fun e S=>by cases e<;>rfl
 exact e ▸ h
theorem Fa {id:Nat} {a:IR} (h:WL C (.c a :: .b id::T) Q .normal S):WL C (.c (.block id a)::T) Q .normal S:=by
 have e:WL C (.c a :: .b id::T) Q .normal S=WL C (.c (.block id a)::T) Q .normal S:=by
  show W C a _ S=W C a _ S
  exact Xq a fun e S=>by cases e<;>rfl
 exact e ▸ h
theorem aZ {id:Nat} {a:IR} (R:St→Prop) (hJ:∀S,R S→WL C (.w::T) Q .normal S)
  (h:(∀S S1,Fg S S1→R S1→WL C (.w::T) Q .normal S)→WL C (.c a :: .b id :: .w::T) Q .normal S):WL C (.c (.block id a) :: .w::T) Q .normal S:=
 Fa (h fun _ S1 h1 h2=>AS h1 (hJ S1 h2))
theorem Ak (h:OL C l T Q S):WL C (.c (.reg l)::T) Q .normal S:=h
theorem Rb (h:WL C T Q .normal S):WL C (.c .skip::T) Q .normal S:=h
theorem fO {id:Nat} (h:WL C T Q .normal S):WL C (.b id::T) Q .normal S:=h
theorem Bg (S1:St) (h1:Fg S S1) (h:WL C T Q .normal S1):WL C (.w::T) Q .normal S:=⟨S1,h1,h⟩
theorem tW (h:WL C T Q .normal S):WL C (.w::T) Q .normal S:=⟨S,Fg.refl S,h⟩
theorem Br (h:WL C T Q .normal S):OL C [] T Q S:=h
theorem st (h:Cb C i S (OL C l T Q)):OL C (i::l) T Q S:=⟨S,Fg.refl S,h⟩
theorem sw (S1:St) (h1:Fg S S1) (h:Cb C i S1 (OL C l T Q)):OL C (i::l) T Q S:=⟨S1,h1,h⟩
theorem Fs {c:Ay} {a b:IR} {cb:Bool} (hc:S.val c = .bool cb) (h1:cb=true→WL C (.c a::T) Q .normal S) (h2:cb=false→WL C (.c b::T) Q .normal S):
  WL C (.c (.ite c a b)::T) Q .normal S:=by
 refine ⟨by rw [hc]; trivial,?_⟩
 rw [hc]
 exact ⟨h1,h2⟩
def aA:List Et→Nat→List Et
 | [],_=>[]
 | .b id::T,i=>if i=id then T else aA T i
 | _::T,i=>aA T i
def Th:List Et→Nat→Bool
 | [],_=>false
 | .b id::T,i=>if i=id then true else Th T i
 | _::T,i=>Th T i
theorem cB {i:Nat}:∀ {T:List Et},Th T i=true→WL C (aA T i) Q .normal S→WL C T Q (.exit i) S
 | .b id::T,hb,h=>by
  simp only [Th,aA,WL] at hb h ⊢
  by_cases e:i=id
  ·rw [if_pos e]; rw [if_pos e] at h; exact h
  ·rw [if_neg e]; rw [if_neg e] at hb h; exact cB hb h
 | .c _::T,hb,h=>cB (T:=T) hb h
 | .w::T,hb,h=>cB (T:=T) hb h
theorem nF {i:Nat}:∀ {T:List Et},Th T i=false→Q (.exit i) S→WL C T Q (.exit i) S
 | [],_,h=>h
 | .b id::T,hb,h=>by
  simp only [Th,WL] at hb ⊢
  by_cases e:i=id
  ·rw [if_pos e] at hb; cases hb
  ·rw [if_neg e]; rw [if_neg e] at hb; exact nF hb h
 | .c _::T,hb,h=>nF (T:=T) hb h
 | .w::T,hb,h=>nF (T:=T) hb h
theorem dX:∀ {T:List Et},Q .ret S→WL C T Q .ret S
 | [],h=>h
 | .b _::T,h=>dX (T:=T) h
 | .c _::T,h=>dX (T:=T) h
 | .w::T,h=>dX (T:=T) h
theorem AN {i:Nat} (hb:Th T i=true) (h:WL C (aA T i) Q .normal S):WL C (.c (.exit i)::T) Q .normal S:=cB hb h
theorem tH {i:Nat} (hb:Th T i=false) (h:Q (.exit i) S):WL C (.c (.exit i)::T) Q .normal S:=nF hb h
theorem Gj (h:Q .ret S):WL C (.c .ret::T) Q .normal S:=dX (T:=T) h
theorem Qk {σ ρ:Type} {a:IR} {R:St→Prop} (step:σ→Option (σ⊕ρ)) (st:σ→St→Prop) {s0:σ} {r:ρ} (h:Gc step s0=some r) (S1:St) (hS:Fg S S1) (h0:st s0 S1)
  (j:Nat) (hb:(∃S,R S)→Th T j=true) (hR:∀S' S1,Fg S' S1→R S1→WL C (aA T j) Q .normal S')
  (hr:∀(s:σ) (o:σ⊕ρ) (S:St) (K:Ex→St→Prop),st s S→step s=some o→(∀x,o = .inr x→x=r) →
   (∀s',o = .inl s'→∀S' S'',Fg S' S''→st s' S''→K .normal S')→(∀S' S1,Fg S' S1→R S1→K (.exit j) S')→(∀S',Q .ret S'→K .ret S')→WL C [.c a] K .normal S):
  WL C (.c (.loop a)::T) Q .normal S:=by
 let I:St→Prop:=fun S=>∃n s,En step n s=some r∧st s S
 have least:∀S,I S→∃n,(∃s,En step n s=some r∧st s S)∧∀k,(∃s,En step k s=some r∧st s S)→n≤k:=by
  intro S ⟨n,hn⟩
  induction n using Nat.strongRecOn with
  | _ n ih=>
   by_cases hex:∃k,k<n∧∃s,En step k s=some r∧st s S
   ·obtain ⟨k,hk,hak⟩:=hex
    exact ih k hk hak
   ·exact ⟨n,hn,fun k hk=>Nat.le_of_not_lt fun hlt=>hex ⟨k,hlt,hk⟩⟩
 let μ:St→Nat:=fun S=>@dite _ (I S) (Classical.propDecidable _) (fun hh=>Classical.choose (least S hh)) (fun _=>0)
 have hμ:∀S (hh:I S),(∃s,En step (μ S) s=some r∧st s S)∧∀k,(∃s,En step k s=some r∧st s S)→μ S≤k:=by
  intro S hh
  have e:μ S=Classical.choose (least S hh):=dif_pos hh
  rw [e]
  exact Classical.choose_spec (least S hh)
 obtain ⟨n0,hn0⟩:=Gt.1 h
 refine ⟨I,μ,⟨S1,hS,n0,s0,hn0,h0⟩,fun S hI=>?_⟩
 obtain ⟨⟨s,hs,hst⟩,_⟩:=hμ S hI
 cases hm:μ S with
 | zero=>rw [hm] at hs; simp [En] at hs
 | succ n=>
  rw [hm] at hs
  simp only [En] at hs
  cases hstep:step s with
  | none=>rw [hstep] at hs; cases hs
  | some o=>
   rw [hstep] at hs
   refine hr s o S _ hst hstep (fun x e=>?_) (fun s' e S' S'' hf hs'=>?_) (fun S' S1 hf hR1=>?_) (fun S' hq=>?_)
   ·subst e; exact Option.some.inj hs
   ·subst e
    exact ⟨S'',hf,⟨n,s',hs,hs'⟩,Nat.lt_of_le_of_lt ((hμ S'' ⟨n,s',hs,hs'⟩).2 n ⟨s',hs,hs'⟩) (by omega)⟩
   ·exact cB (hb ⟨S1,hR1⟩) (hR S' S1 hf hR1)
   ·exact dX hq
abbrev nm (S:St) (x:Ay):Prop:=Af true (S.val x)
theorem Ba {n:Nat} {v:V} (h:look S.env n=some v) (hn:Af true v) (k:K (S.putC d (Ab v) fun l=>look l n)):Cb C ⟨d,.p (.mv (.t n)),none⟩ S K:=by
 have hv:S.val (.t n)=v:=by simp only [St.val,h]; rfl
 refine ⟨⟨by show Af true (S.val (.t n)); rw [hv]; exact hn,trivial⟩,trivial,?_⟩
 show K (S.putC d (Ab (S.val (.t n))) fun l=>look l n)
 rw [hv]
 exact k
theorem Dn {v:V} (hn:Af true v) (k:K (S.put d (Ab v))):Cb C ⟨d,.p (.mv (.c v)),none⟩ S K:=⟨⟨hn,trivial⟩,trivial,k⟩
theorem p_ {o:PU} {φ:Prop} {v:V} (hm:Be (nm S) o.opds) (hp:pu S (fun x=>Ab (S.val x)) o=some (φ,v)) (hφ:φ) (k:K (S.putC d v (Fv (fun x=>Ab (S.val x)) o))):
  Cb C ⟨d,.p o,none⟩ S K:=by
 refine ⟨hm,?_⟩
 rw [hp]
 exact ⟨hφ,k⟩
theorem Ap {o:PU} {φ:Prop} {v:V} (hm:Be (nm S) o.opds) (hp:pu S (fun x=>Ab (S.val x)) o=some (φ,v)) (hφ:φ):Cf S (.p o) v:=⟨hm,φ,hp,hφ⟩
theorem Da {o:PU} {u:V} {gs:Nat} {want g:Bool} (hg:Jc (S.val (.t gs)) want=some g) (h:g=true→Cf S (.p o) u) (k:K (S.put d (.may g u))):Cb C ⟨d,.p o,some (gs,want)⟩ S K:=by
 unfold Cb
 dsimp only
 rw [hg]
 exact ⟨u,h,k⟩
theorem dL {a b c:Ay} {u:V} {gs:Nat} {want g:Bool} (hg:Jc (S.val (.t gs)) want=some g) (h:g=true→Cf S (.pick a b c) u) (k:K (S.put d (.may g u))):Cb C ⟨d,.pick a b c,some (gs,want)⟩ S K:=by
 unfold Cb
 dsimp only
 rw [hg]
 exact ⟨u,h,k⟩
theorem Zi {n:Nat} {v:V} (h:look S.env n=some v) (hm:Af true v):Cf S (.p (.mv (.t n))) (Ab v):=by
 have hv:S.val (.t n)=v:=by simp only [St.val,h]; rfl
 refine ⟨⟨by show Af true (S.val (.t n)); rw [hv]; exact hm,trivial⟩,True,?_,trivial⟩
 show some (True,Ab (S.val (.t n)))=_
 rw [hv]
theorem qB {c a b:Ay} {cb:Bool} {x y v z:V} (hc:S.val c=z) (hz:Ab z = .bool cb) (hm:Af true z) (ha:S.val a=x) (hb:S.val b=y) (h1:Af cb x) (h2:Af (!cb) y)
  (hv:Ke cb (Ab x) (Ab y)=v):Cf S (.pick c a b) v:=by
 refine ⟨by rw [hc]; exact hm,cb,by rw [hc]; exact hz,by rw [ha]; exact h1,by rw [hb]; exact h2,?_⟩
 rw [ha,hb]; exact hv.symm
theorem Nz {α:Type} {e:α→List V} {l0:List α} {x i:Ay} {vx vi:V} {sz:Nat} {k:IntKind} {n:Int} {y:α} (hx:S.val x=vx) (hx':Ab vx = .lst sz (l0.map e)) (hmx:Af true vx)
  (hi:S.val i=vi) (hi':Ab vi = .int k n) (hmi:Af true vi) (hy:Je l0 n=some y):Cf S (.p (.idxA x i sz)) (.iptr (e y)):=by
 obtain ⟨h0,h1,h2⟩:=Qc hy
 refine ⟨⟨by show Af true (S.val x); rw [hx]; exact hmx,by show Af true (S.val i); rw [hi]; exact hmi,trivial⟩,sz=sz∧0≤n∧n<(l0.map e).length,?_,rfl,h0,by simpa using h1⟩
 simp only [pu,hx,hi,hx',hi']
 have:(l0.map e).getD n.toNat []=e y:=by simp [List.getD,h2]
 rw [this]
theorem Hm {α:Type} {e:α→List V} {l0:List α} {x:Ay} {vx:V} {sz:Nat} (hx:S.val x=vx) (hx':Ab vx = .lst sz (l0.map e)) (hm:Af true vx) (hz:sz≠0:=by decide):Cf S (.p (.len x)) (.int .i64 (l0.length:Int)):=by
 refine ⟨⟨by show Af true (S.val x); rw [hx]; exact hm,trivial⟩,(sz≠0),?_,hz⟩
 simp only [pu,hx,hx',List.length_map]
theorem Di {c a b:Ay} {cb:Bool} {x y v:V} (hc:S.val c = .bool cb) (ha:S.val a=x) (hb:S.val b=y) (h1:Af cb x) (h2:Af (!cb) y)
  (hv:Ke cb (Ab x) (Ab y)=v) (k:K (S.put d v)):Cb C ⟨d,.pick c a b,none⟩ S K:=by
 refine ⟨by rw [hc]; trivial,?_⟩
 have e:Ab (S.val c) = .bool cb:=by rw [hc]; rfl
 rw [e,ha,hb]
 dsimp only
 rw [hv]
 exact ⟨h1,h2,k⟩
theorem Nj {x:Ay} {v:V} {d:Nat} (hx:(S.drop (64*d)).val x=v) (hn:Af true v) (hu:As (Ab v)=false) (k:K (((S.drop (64*d)).setBx (64*d) (Ab v).cells).put (some d) (.ptr (64*d) 0))):
  Cb C ⟨some d,.box x,none⟩ S K:=by
 refine ⟨?_,?_,?_⟩
 ·rw [hx]; exact hn
 ·rw [hx]; exact hu
 ·rw [hx]; exact k
theorem Ea {z:List V} {d:Nat} (k:K (((S.drop (64*d)).setBx (64*d) z).put (some d) (.ptr (64*d) 0))):Cb C ⟨some d,.alloc z,none⟩ S K:=k
theorem Ol {sz d:Nat} (k:K ((S.drop (64*d)).put (some d) (.own (64*d) 0 sz []))):Cb C ⟨some d,.nilS sz,none⟩ S K:=k
theorem Ff {x v:Ay} {n t k:Nat} {u:V} {bs:List V} (hx:S.val x = .ptr t k) (hv:S.val v=u) (hm:Af true u) (hu:As (Ab u)=false) (hl:(Ab u).cells.length=n)
  (hb:look S.bx t=some bs) (hn:k+n≤bs.length) (k':K ((S.setBx t (Bo bs k (Ab u).cells)).put d .undef)):Cb C ⟨d,.store x v n,none⟩ S K:=by
 refine ⟨by rw [hx]; trivial,by rw [hv]; exact hm,?_⟩
 rw [hv,hx]
 refine ⟨hu,hl,?_⟩
 dsimp only [Ab]
 rw [hb]
 exact ⟨hn,k'⟩
theorem tU {α:Type} {e:α→List V} {l0:List α} {x v:Ay} {n t sz j k off i:Nat} {u:V} {y y':α} (hx:S.val x = .optr t sz j k) (hv:S.val v=u) (hm:Af true u) (hu:As (Ab u)=false) (hl:(Ab u).cells.length=n)
  (hf:S.find t=some (off,l0.map e)) (hj:j=off+i) (hy:l0[i]? = some y) (hn:k+n≤sz) (hsz:(e y).length=sz) (hp:(Ab u).cells.all (fun c => !He c)=true) (ht:(Ab u).tags.all (· != t)=true)
  (hy':Bo (e y) k ((Ab u).cells.map Cj)=e y')
  (k':K (((S.freezes (Ab u).tags).map (Tz t sz (off+i) [e y'])).put d .undef)) (hdp:Az t=false:=by rfl):Cb C ⟨d,.store x v n,none⟩ S K:=by
 subst hj
 have hlt:=(List.getElem?_eq_some_iff.1 hy).1
 have hg:(l0.map e).getD (off+i-off) []=e y:=by
  rw [Nat.add_sub_cancel_left]
  simp [List.getD,hy]
 refine ⟨by rw [hx]; trivial,by rw [hv]; exact hm,?_⟩
 rw [hv,hx]
 refine ⟨hu,hl,?_⟩
 dsimp only [Ab]
 rw [hf]
 dsimp only
 rw [hg]
 refine ⟨Nat.le_add_right _ _,by simp; omega,hn,hsz,.inl ⟨hdp,hp,ht,?_⟩⟩
 dsimp only [Ab] at hy'
 rw [hy']
 exact k'
theorem Kd {α:Type} {e:α→List V} {l:List α} {i:Nat} {y:α} {off:Nat}:Dm off (l.map e) (off+i) [e y]=(l.set i y).map e:=by
 unfold Dm
 apply List.ext_getElem?
 intro k
 rw [List.getElem?_mapIdx,List.getElem?_map,List.getElem?_map,List.getElem?_set]
 cases hk:l[k]? with
 | none=>
  have:=List.getElem?_eq_none_iff.1 hk
  by_cases h1:i=k
  ·rw [if_pos h1,if_neg (by omega)]; rfl
  ·rw [if_neg h1]; rfl
 | some z=>
  have hlt:=(List.getElem?_eq_some_iff.1 hk).1
  simp only [Option.map_some]
  by_cases h1:i=k
  ·subst h1
   rw [if_pos rfl,if_pos hlt,if_pos (Nat.le_refl _),Nat.sub_self]
   rfl
  ·rw [if_neg h1,Option.map_some]
   by_cases h3:i≤k
   ·have h4:off+k-(off+i)=(k-i-1)+1:=by omega
    rw [if_pos (by omega),h4]
    rfl
   ·rw [if_neg (by omega)]
theorem wQ {α:Type} {e:α→List V} {l0:List α} {x i:Ay} {sz:Nat} {k:IntKind} {n:Int} {y:α} (hx:S.val x = .lst sz (l0.map e)) (hi:S.val i = .int k n) (hy:Je l0 n=some y)
  (hk:K (S.put d (.iptr (e y)))):Cb C ⟨d,.p (.idxA x i sz),none⟩ S K:=by
 obtain ⟨h0,h1,h2⟩:=Qc hy
 refine p_ ⟨?_,?_,trivial⟩ (φ:=sz=sz∧0≤n∧n<(l0.map e).length) (v:=.iptr ((l0.map e).getD n.toNat [])) (by simp only [pu,hx,hi,Ab]) ⟨rfl,h0,by simpa using h1⟩ ?_
 ·show Af true (S.val x); rw [hx]; trivial
 ·show Af true (S.val i); rw [hi]; trivial
 ·have:(l0.map e).getD n.toNat []=e y:=by simp [List.getD,h2]
  rw [this]
  exact hk
theorem zI {α:Type} {e:α→List V} {l0:List α} {x:Ay} {sz:Nat} (hx:S.val x = .lst sz (l0.map e)) (hk:K (S.put d (.int .i64 (l0.length:Int)))) (hz:sz≠0:=by decide):Cb C ⟨d,.p (.len x),none⟩ S K:=by
 refine p_ ⟨?_,trivial⟩ (φ:=sz≠0) (v:=.int .i64 (l0.length:Int)) (by simp only [pu,hx,Ab,List.length_map]) hz hk
 show Af true (S.val x); rw [hx]; trivial
end
def Ls:Nat:=1048576
end Go.Ev
