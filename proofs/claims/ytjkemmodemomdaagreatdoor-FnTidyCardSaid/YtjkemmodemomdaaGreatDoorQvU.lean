/- Operations that write or make memory: boxes, stores. -/
import Derived.Test.YtjkemmodemomdaaGreatDoorQvR4
set_option linter.all false
namespace Go.Ev
open Go.RowKit
variable {φ:Bz} {m m':M} {w w' w0:World} {A:Fr} {nt:Nat} {S S':St} {a:Act} {P:Program}
variable {o:Oper} {K:St→Prop} {Q:Exit→Act→World→Prop} {C:Bb}
def Nx (φ:Bz) (w0:World) (A:Fr) (nt:Nat) (K:St→Prop) (a:Act) (w:World):Prop:=∃m S,K S∧Aw φ w0 A nt m S a w
theorem Bt {v:V} {val:Value} (h:RT φ m w v val):∀b x,v ≠ .may b x:=by
 cases v with
 | may b x=>exact absurd h (by simp [RT,RW])
 | _=>simp
theorem Cc {val:Value} {w':World} (hr:(execOp a.eval o).run P w = .ok (.value val) w') (h:Nx φ w0 A nt K (a.put o.dst val) w'):
  o.wp P a w (Nx φ w0 A nt K) Q:=by
 unfold Oper.wp
 rw [hr]
 exact h
theorem wp_skip' {w':World} (hr:(execOp a.eval o).run P w = .ok .skip w') (h:Nx φ w0 A nt K (a.put o.dst undef) w'):
  o.wp P a w (Nx φ w0 A nt K) Q:=by
 unfold Oper.wp
 rw [hr]
 exact h
theorem tX {y:Ay} (hc:Hv P φ o=some (.p (.mv y))):∃x,(o.op = .move x∨o.op = .assign x)∧opd' φ x=some y:=by
 have mvok:∀ {x:Operand},(match x with
   | .const (.slice none 0 0)=>match Gz P o.type with
    | some (sz,_)=>some (.nilS sz)
    | none=>none
   | x=>match opd' φ x with
    | some y=>some (.p (.mv y))
    | none=>none)=some (Sw.p (.mv y))→opd' φ x=some y:=by
  intro x hc
  split at hc
  ·split at hc<;>cases hc
  ·split at hc
   ·rename_i y hy
    cases hc
    exact hy
   ·cases hc
 cases hop:o.op<;>simp only [Hv,hop] at hc
 case move x=>exact ⟨x,.inl rfl,mvok hc⟩
 case assign x=>exact ⟨x,.inr rfl,mvok hc⟩
 case call c=>
  unfold Uk at hc
  repeat' split at hc
  all_goals cases hc
 all_goals (repeat' split at hc)
 all_goals cases hc
theorem aM {x:Ay} {lo hi:Option Ay} {sz:Nat} (hc:Hv P φ o=some (.p (.slice x lo hi sz))):
  ∃t e x' lo' hi' i,o.op = .slice t x' lo' hi' none∧opd' φ x'=some x∧Kc φ lo'=some lo∧Kc φ hi'=some hi∧P.underlying t=some (.slice e)∧P.info? e=some i∧i.size≠0∧sz=i.size:=by
 cases hop:o.op<;>simp only [Hv,hop] at hc
 case slice t x' lo' hi' mx=>
  cases mx with
  | some mx=>
    simp only at hc; repeat' split at hc
    all_goals cases hc
  | none=>
   simp only at hc
   split at hc
   ·rename_i h1 h2 h3
    split at hc
    ·cases hc
    ·rename_i e ht
     split at hc
     ·rename_i i hi0
      split at hc
      ·cases hc
      ·rename_i hz0
       cases hc
       exact ⟨t,e,x',lo',hi',i,rfl,h1,h2,h3,ht,hi0,hz0,rfl⟩
     ·cases hc
    ·cases hc
   ·cases hc
 case call c=>
  unfold Uk at hc
  repeat' split at hc
  all_goals cases hc
 all_goals (repeat' split at hc)
 all_goals cases hc
theorem dN {u:PU} {ψ:Prop} {v:V} (hc:Hv P φ o=some (.p u)) (h:Aw φ w0 A nt m S a w) (hm:Be (fun x=>Af true (S.val x)) u.opds)
  (hp:pu S (Ca S) u=some (ψ,v)) (hψ:ψ) {val:Value} (hr:(execOp a.eval o).run P w = .ok (.value val) w) (c:Int) (hcap:Jm S (Ca S) u=some c):Nv val c:=by
 cases u<;>try cases hcap
 case mv y=>
  obtain ⟨x,ho,hx⟩:=tX hc
  have e:val=a.eval x:=by rcases ho with ho | ho<;>(simp only [execOp,ho,Sem.run_pure] at hr; cases hr; rfl)
  subst e
  cases y with
  | c v=>cases hcap
  | t n=>rw [opd'_t hx]; exact h.cp n c hcap
 case slice x lo hi sz=>
  obtain ⟨t,e,x',lo',hi',i,ho,hx,hlo,hhi,ht,hi0,hz0,rfl⟩:=aM hc
  exact aG ho hx hlo hhi ht hi0 hz0 h hm hp hψ hr hcap
theorem pP {u:PU} (hc:Hv P φ o=some (.p u)) (hd:∀d,o.dst=some d→d<nt) (h:Aw φ w0 A nt m S a w)
  (hw:Nb C o.dst (.p u) S K):o.wp P a w (Nx φ w0 A nt K) Q:=by
 obtain ⟨hm,hw⟩:=hw
 split at hw
 ·rename_i ψ v hp
  obtain ⟨hψ,hK⟩:=hw
  obtain ⟨val,hr,hv⟩:=dP hc h hm hp hψ
  exact Cc hr ⟨m,_,hK,h.putC hd (Gw (Bt hv) hv) (dN hc h hm hp hψ hr)⟩
 ·exact hw.elim
theorem Qu {b:Bool} {x y:V} {val:Value} (h:RT φ m w (if b then x else y) val):RT φ m w (Ke b x y) val:=by
 unfold Ke
 split
 ·cases b<;>exact h
 ·split
  ·rename_i e; subst e; cases b<;>exact h
  ·exact h
 ·exact h
def zQ (P:Program) (φ:Bz) (o:Oper):Sw→Prop
 | .p _=>True
 | .pick c a b=>∃c' a' b',o.op = .pick c' a' b'∧opd' φ c'=some c∧opd' φ a'=some a∧opd' φ b'=some b
 | .box x=>∃t x',o.op = .box t x'∧Rg P φ t x'=some x
 | .alloc z=>∃t,o.op = .alloc t∧Ck P o.dst t=some z
 | .store x v n=>∃t x' v' i,o.op = .store t x' v'∧opd' φ x'=some x∧Rg P φ t v'=some v∧P.info? t=some i∧n=i.size
 | .mkS sz zero len parts=>∃t e i ps,o.op = .buildSlice t len ps∧P.underlying t=some (.slice e)∧Ck P none e=some zero∧P.info? e=some i∧sz=i.size∧i.size≠0∧¬len*i.size>2^24∧zero.length=i.size∧Nl P φ e ps.toList=some parts
 | .nilS _=>∃x',(o.op = .move x'∨o.op = .assign x')∧x' = .const (.slice none 0 0)
 | .make sz bytes zero l c=>∃t e i l' c',o.op = .makeSlice t l' c'∧P.underlying t=some (.slice e)∧Ck P none e=some zero∧P.info? e=some i∧sz=i.size∧bytes=i.bytes∧i.size≠0∧i.bytes≠0∧zero.length=i.size∧opd' φ l'=some l∧opd' φ c'=some c
 | .app sz bytes x y=>∃cl s e i z t x' y',o.op = .call cl∧cl.callee = .builtin .append∧cl.argTypes.toList=[s,t]∧cl.args.toList=[x',y']∧P.underlying s=some (.slice e)∧P.info? e=some i∧Ck P none e=some z∧z.length=i.size∧sz=i.size∧bytes=i.bytes∧i.size≠0∧i.bytes≠0 ∧
   Rg P φ s x'=some x∧Rg P φ t y'=some y∧((∃u,P.underlying t=some (.slice u))∨P.underlying t=some .string)
 | .appz sz bytes zero x y=>∃cl s e i t k x' y',o.op = .call cl∧cl.callee = .builtin .append∧cl.argTypes.toList=[s,t]∧cl.args.toList=[x',y']∧P.underlying s=some (.slice e)∧P.info? e=some i∧Ck P none e=some zero∧zero.length=i.size∧sz=i.size∧bytes=i.bytes∧i.size≠0∧i.bytes≠0 ∧
   Rg P φ s x'=some x∧Rg P φ t y'=some y∧P.underlying t=some (.int k)
 | .copy sz x y=>∃cl s e i t x' y',o.op = .call cl∧cl.callee = .builtin .copy∧cl.argTypes.toList=[s,t]∧cl.args.toList=[x',y']∧P.underlying s=some (.slice e)∧P.info? e=some i∧sz=i.size∧i.size≠0∧opd' φ x'=some x∧Rg P φ t y'=some y
 | .toBytes x=>∃s d e x',o.op = .convert s d x'∧opd' φ x'=some x∧P.underlying s=some .string∧P.underlying d=some (.slice e)∧P.underlying e=some (.int .u8)
 | .call f args=>∃cl fid,o.op = .call cl∧cl.callee = .value (.func fid)∧look φ fid=some f∧Ic P φ cl.argTypes.toList cl.args.toList=some args
 | .callv x args=>∃cl t,o.op = .call cl∧cl.callee = .value (.tmp t)∧x = .t t∧Ic P φ cl.argTypes.toList cl.args.toList=some args
 | .isnil x ne=>∃t e x' y yt,o.op = .binOp (if ne then .neq else .eql) t x' (.const (.slice none 0 0)) yt∧P.underlying t=some (.slice e)∧opd' φ x'=some x∧y=()
 | .mkM=>∃t,o.op = .makeMap t none∧Ms P t=true
 | .mset x k v=>∃t x' k' v',o.op = .mapUpdate t x' k' v'∧Ms P t=true∧opd' φ x'=some x∧opd' φ k'=some k∧opd' φ v'=some v
 | .cap x=>∃cl t e x',o.op = .call cl∧cl.callee = .builtin .cap∧cl.argTypes.toList=[t]∧cl.args.toList=[x']∧P.underlying t=some (.slice e)∧opd' φ x'=some x
 | .clear sz zero x=>∃cl s e i x',o.op = .call cl∧cl.callee = .builtin .clear∧cl.argTypes.toList=[s]∧cl.args.toList=[x']∧P.underlying s=some (.slice e)∧opd' φ x'=some x∧Ck P none e=some zero∧P.info? e=some i∧sz=i.size∧i.size≠0∧zero.length=i.size
 | .chk3 x lo hi mx=>∃t e i x' lo' hi' mx',o.op = .slice t x' (some lo') (some hi') (some mx')∧P.underlying t=some (.slice e)∧P.info? e=some i∧opd' φ x'=some x∧opd' φ lo'=some lo∧opd' φ hi'=some hi∧opd' φ mx'=some mx
 | .bad=>False
theorem Wp {s:TypeId} {sz b:Nat} (h:Gz P s=some (sz,b)):∃e i,P.underlying s=some (.slice e)∧P.info? e=some i∧sz=i.size∧b=i.bytes:=by
 unfold Gz at h
 split at h
 ·rename_i e he
  split at h
  ·rename_i i hi
   cases h
   exact ⟨e,i,he,hi,rfl,rfl⟩
  ·cases h
 ·cases h
theorem Za {s:TypeId} {sz b:Nat} (h:aY P s=some (sz,b)):∃e i z,P.underlying s=some (.slice e)∧P.info? e=some i∧Ck P none e=some z∧z.length=i.size∧sz=i.size∧b=i.bytes:=by
 unfold aY at h
 split at h
 ·rename_i e he
  split at h
  ·rename_i i z hi hz
   split at h
   ·rename_i hl
    cases h
    exact ⟨e,i,z,he,hi,hz,hl,rfl,rfl⟩
   ·cases h
  ·cases h
 ·cases h
theorem Bw {op:Sw} (hc:Hv P φ o=some op):zQ P φ o op:=by
 have mvok:∀ {x:Operand},(o.op = .move x∨o.op = .assign x)→(match x with
   | .const (.slice none 0 0)=>match Gz P o.type with
    | some (sz,_)=>some (.nilS sz)
    | none=>none
   | x=>match opd' φ x with
    | some y=>some (.p (.mv y))
    | none=>none)=some op→zQ P φ o op:=by
  intro x ho hc
  split at hc
  ·split at hc
   ·cases hc; exact ⟨_,ho,rfl⟩
   ·cases hc
  ·split at hc
   ·cases hc<;>trivial
   ·cases hc
 cases hop:o.op<;>simp only [Hv,hop] at hc
 case move x=>exact mvok (.inl hop) hc
 case assign x=>exact mvok (.inr hop) hc
 case pick=>
  split at hc
  ·rename_i h1 h2 h3
   cases hc; exact ⟨_,_,_,hop,h1,h2,h3⟩
  ·cases hc
 case makeMap t r=>
  cases r with
  | some r=>cases hc
  | none=>
   simp only at hc
   split at hc
   ·rename_i h1
    cases hc; exact ⟨_,hop,h1⟩
   ·cases hc
 case mapUpdate t m' k' v'=>
  split at hc
  ·rename_i h1 h2 h3
   split at hc
   ·rename_i h4
    cases hc; exact ⟨_,_,_,_,hop,h4,h1,h2,h3⟩
   ·cases hc
  ·cases hc
 case lookup t x' i' b'=>
  cases b' with
  | true=>cases hc
  | false=>
   simp only at hc
   split at hc
   ·split at hc
    ·cases hc<;>trivial
    ·cases hc
   ·cases hc
 case alloc=>
  split at hc
  ·rename_i h1
   cases hc; exact ⟨_,hop,h1⟩
  ·cases hc
 case box=>
  split at hc
  ·rename_i h1
   cases hc; exact ⟨_,_,hop,h1⟩
  ·cases hc
 case build=>
  split at hc
  ·split at hc
   ·split at hc
    ·cases hc<;>trivial
    ·cases hc
   ·cases hc
  ·cases hc
 case buildSlice=>
  split at hc
  ·rename_i e he
   split at hc
   ·rename_i z i ps h1 h2 h3
    split at hc
    ·cases hc
    ·rename_i h4
     cases hc
     exact ⟨_,e,i,_,hop,he,h1,h2,rfl,fun h=>h4 (.inr (.inl h)),fun h=>h4 (.inl h),Classical.byContradiction fun h=>h4 (.inr (.inr h)),h3⟩
   ·cases hc
  ·cases hc
 case load=>
  split at hc
  ·split at hc
   ·cases hc
   ·cases hc<;>trivial
  ·cases hc
 case store=>
  split at hc
  ·rename_i h1 h2 h3
   cases hc
   exact ⟨_,_,_,_,hop,h1,h2,h3,rfl⟩
  ·cases hc
 case nilCheck=>
  split at hc
  ·cases hc<;>trivial
  ·cases hc
 case binOp=>
  split at hc
  ·split at hc
   ·cases hc<;>trivial
   ·cases hc<;>trivial
   ·cases hc<;>trivial
   ·rename_i h1 _ _ _ hu
    split at hc
    ·split at hc
     ·cases hc; exact ⟨_,_,_,(),_,hop,hu,h1,rfl⟩
     ·cases hc; exact ⟨_,_,_,(),_,hop,hu,h1,rfl⟩
     ·cases hc
    ·cases hc
   ·split at hc
    ·split at hc
     ·cases hc<;>trivial
     ·cases hc
    ·split at hc
     ·cases hc<;>trivial
     ·cases hc
    ·cases hc
   ·cases hc
  ·cases hc
 case unOp=>
  split at hc
  ·cases hc<;>trivial
  ·cases hc
 case convert=>
  split at hc
  ·cases hc<;>trivial
  ·cases hc<;>trivial
  ·cases hc<;>trivial
  ·rename_i y e h1 h2 h3
   split at hc
   ·rename_i h4
    cases hc
    exact ⟨_,_,e,_,hop,h1,h2,h3,h4⟩
   ·cases hc
  ·split at hc
   ·cases hc<;>trivial
   ·cases hc
  ·cases hc
 case makeFunc=>
  split at hc
  ·split at hc
   ·split at hc
    ·cases hc<;>trivial
    ·cases hc
   ·cases hc
  ·cases hc
 case makeSlice=>
  split at hc
  ·rename_i e he
   split at hc
   ·rename_i z i l c h1 h2 h3 h4
    split at hc
    ·cases hc
    ·rename_i h5
     cases hc
     exact ⟨_,e,i,_,_,hop,he,h1,h2,rfl,rfl,fun h=>h5 (.inl h),fun h=>h5 (.inr (.inl h)),Classical.byContradiction fun h=>h5 (.inr (.inr h)),h3,h4⟩
   ·cases hc
  ·cases hc
 case slice=>
  split at hc
  ·split at hc
   ·split at hc
    ·cases hc<;>trivial
    ·split at hc
     ·split at hc
      ·cases hc
      ·cases hc<;>trivial
     ·cases hc
    ·cases hc
   ·cases hc
  ·split at hc
   ·split at hc
    ·rename_i h1 h2 h3 h4
     split at hc
     ·rename_i hu
      split at hc
      ·rename_i hi
       cases hc
       exact ⟨_,_,_,_,_,_,_,hop,hu,hi,h1,h2,h3,h4⟩
      ·cases hc
     ·cases hc
    ·cases hc
   ·cases hc
 case fieldAddr=>
  split at hc
  ·split at hc
   ·split at hc
    ·split at hc
     ·cases hc
     ·cases hc<;>trivial
    ·cases hc
   ·cases hc
  ·cases hc
 case field=>
  split at hc
  ·split at hc
   ·split at hc
    ·split at hc
     ·cases hc
     ·cases hc<;>trivial
    ·cases hc
   ·cases hc
  ·cases hc
 case indexAddr=>
  split at hc
  ·split at hc
   ·split at hc
    ·split at hc
     ·cases hc
     ·cases hc<;>trivial
    ·cases hc
   ·split at hc
    ·split at hc
     ·cases hc
     ·cases hc<;>trivial
    ·cases hc
   ·cases hc
  ·cases hc
 case index=>
  split at hc
  ·split at hc
   ·cases hc<;>trivial
   ·cases hc
  ·cases hc
 case extract=>
  split at hc
  ·cases hc<;>trivial
  ·cases hc
 case call cl=>
  unfold Uk at hc
  split at hc
  ·rename_i f hcal
   split at hc
   ·rename_i g xs h1 h2
    cases hc
    exact ⟨cl,f,hop,hcal,h1,h2⟩
   ·split at hc
    ·split at hc
     ·cases hc<;>trivial
     ·split at hc
      ·cases hc<;>trivial
      ·split at hc
       ·cases hc<;>trivial
       ·cases hc
    ·cases hc
   ·cases hc
  ·rename_i t hcal
   split at hc
   ·rename_i xs h1
    cases hc
    exact ⟨cl,t,hop,hcal,rfl,h1⟩
   ·cases hc
  ·split at hc
   ·split at hc
    ·cases hc<;>trivial
    ·cases hc<;>trivial
    ·cases hc
   ·cases hc
  ·rename_i hcal
   split at hc
   ·rename_i t x h1 h2
    split at hc
    ·rename_i h3 h4
     cases hc
     exact ⟨cl,t,_,x,hop,hcal,h1,h2,h3,h4⟩
    ·cases hc
   ·cases hc
  ·split at hc
   ·cases hc<;>trivial
   ·cases hc
  ·split at hc
   ·cases hc<;>trivial
   ·cases hc
  ·rename_i hcal
   split at hc
   ·rename_i s t x y h1 h2
    split at hc
    ·rename_i sz b x' y' h3 h4 h5
     obtain ⟨e,i,z,q1,q2,q3,q4,rfl,rfl⟩:=Za h3
     split at hc
     ·rename_i u hu
      split at hc
      ·cases hc
      ·rename_i h6
       cases hc
       exact ⟨cl,s,e,i,z,t,x,y,hop,hcal,h1,h2,q1,q2,q3,q4,rfl,rfl,fun h=>h6 (.inl h),fun h=>h6 (.inr h),h4,h5,.inl ⟨_,hu⟩⟩
     ·rename_i hu
      split at hc
      ·cases hc
      ·rename_i h6
       cases hc
       exact ⟨cl,s,e,i,z,t,x,y,hop,hcal,h1,h2,q1,q2,q3,q4,rfl,rfl,fun h=>h6 (.inl h),fun h=>h6 (.inr h),h4,h5,.inr hu⟩
     ·rename_i hu
      split at hc
      ·rename_i z' hz'
       split at hc
       ·cases hc
       ·rename_i h6
        cases hc
        have:z'=z:=by
         unfold Uq at hz'
         rw [q1] at hz'
         simp only at hz'
         rw [q3] at hz'
         exact (Option.some.inj hz').symm
        subst this
        exact ⟨cl,s,e,i,t,_,x,y,hop,hcal,h1,h2,q1,q2,q3,q4,rfl,rfl,fun h=>h6 (.inl h),fun h=>h6 (.inr h),h4,h5,hu⟩
      ·cases hc
     ·cases hc
    ·cases hc
   ·cases hc
  ·rename_i hcal
   split at hc
   ·rename_i s t x y h1 h2
    split at hc
    ·rename_i sz b x' y' h3 h4 h5
     obtain ⟨e,i,q1,q2,rfl,rfl⟩:=Wp h3
     split at hc
     ·cases hc
     ·rename_i h6
      cases hc
      exact ⟨cl,s,e,i,t,x,y,hop,hcal,h1,h2,q1,q2,rfl,h6,h4,h5⟩
    ·cases hc
   ·cases hc
  ·rename_i hcal
   split at hc
   ·rename_i s x h1 h2
    split at hc
    ·rename_i e y h3 h4
     split at hc
     ·rename_i z i h5 h6
      split at hc
      ·cases hc
      ·rename_i h7
       cases hc
       exact ⟨cl,s,e,i,x,hop,hcal,h1,h2,h3,h4,h5,h6,rfl,fun h=>h7 (.inl h),Classical.byContradiction fun h=>h7 (.inr h)⟩
     ·cases hc
    ·cases hc
   ·cases hc
  ·cases hc
 all_goals cases hc
theorem pO {c x y:Ay} (hc:Hv P φ o=some (.pick c x y)) (hd:∀d,o.dst=some d→d<nt) (h:Aw φ w0 A nt m S a w)
  (hw:Nb C o.dst (.pick c x y) S K):o.wp P a w (Nx φ w0 A nt K) Q:=by
 obtain ⟨c',x',y',hop,h1,h2,h3⟩:=Bw hc
 obtain ⟨hmc,hw⟩:=hw
 split at hw
 ·rename_i cb hcb
  obtain ⟨hma,hmb,hK⟩:=hw
  have hc1:RT φ m w (Ca S c) (a.eval c'):=opd'_ok h1 h hmc rfl
  rw [show Ca S c = .bool cb from hcb] at hc1
  have e1:=Dc hc1
  have hv:RT φ m w (Ke cb (Ab (S.val x)) (Ab (S.val y))) (if cb then a.eval x' else a.eval y'):=by
   apply Qu
   cases cb with
   | true=>exact opd'_ok h2 h hma rfl
   | false=>exact opd'_ok h3 h hmb rfl
  refine Cc (w':=w) (val:=if cb then a.eval x' else a.eval y') ?_ ⟨m,_,hK,h.put hd (Gw (Bt hv) hv)⟩
  simp only [execOp,hop,e1,asBool,Sem.run_bind,Sem.run_pure,Result.andThen_ok]
 ·exact hw.elim
theorem Aw.tagLt (h:Aw φ w0 A nt m S a w) (hd:∀d,o.dst=some d→d<nt) {d:Nat} (e:o.dst=some d):64*d<Au:=by
 have h1:=hd d e
 have h2:=h.hnt.1
 have h3:d<16000:=Nat.lt_of_lt_of_le h1 h2
 simp only [Au]
 omega
theorem Wk {v:V} {T:Nat} {c:V} (h:v.no T=true) (hm:∀b x,v ≠ .may b x) (ht:As v=false) (hc:c∈v.cells):Dp T c=true:=by
 refine List.all_eq_true.1 h c ?_
 cases v with
 | may b x=>exact absurd rfl (hm b x)
 | tup vs=>simp [As] at ht
 | _=>exact hc
theorem bZ {t:TypeId} {x:Operand} {v:V} (h:Rg P φ t x=some (.c v)) (T:Nat):v.no T=true:=by
 unfold Rg at h
 split at h
 ·cases h
 ·cases h; rfl
 ·cases h; rfl
 ·cases h; rfl
 ·split at h
  ·cases h; rfl
  ·cases h
 ·split at h
  ·cases h; rfl
  ·cases h
 ·cases h; rfl
 ·cases h
theorem Vp {v:V} {T:Nat} (hm:∀b x,Ab v ≠ .may b x) (h:v.no T=true):(Ab v).no T=true:=by
 cases v with
 | may b x=>
  simp only [Ab] at hm ⊢
  unfold V.no at *
  cases x with
  | may b' x'=>exact absurd rfl (hm b' x')
  | _=>exact h
 | _=>exact h
theorem uA {x:Ay} (hc:Hv P φ o=some (.box x)) (hd:∀d,o.dst=some d→d<nt) (h:Aw φ w0 A nt m S a w)
  (hw:Nb C o.dst (.box x) S K):o.wp P a w (Nx φ w0 A nt K) Q:=by
 obtain ⟨t,x',hop,h1⟩:=Bw hc
 cases hdst:o.dst with
 | none=>rw [hdst] at hw; exact hw.elim
 | some d=>
  rw [hdst] at hw
  obtain ⟨hm,hu,hK⟩:=hw
  have hS:=h.drop (64*d)
  have hv:RT φ m w (Ca (S.drop (64*d)) x) (a.eval x'):=Gh h1 hS hm rfl
  have hcs:=RT.cells hv hu
  have hno:(Ca (S.drop (64*d)) x).no (64*d)=true:=by
   cases x with
   | c v=>exact Vp (Bt hv) (bZ h1 _)
   | t n=>
    refine Vp (Bt hv) ?_
    simp only [St.val]
    cases hl:look (S.drop (64*d)).env n with
    | none=>rfl
    | some v=>
     rcases Fd hl with rfl | ⟨_,h2⟩
     ·rfl
     ·exact h2
  have hnew:=h.newBox (64*d) (h.tagLt hd hdst) (Ca (S.drop (64*d)) x).cells (a.eval x').cells t (fun i c hi=>by
   have hlt:i<(a.eval x').cells.size:=by rw [hcs.1]; exact (List.getElem?_eq_some_iff.1 hi).1
   have hg:(a.eval x').cells[i]? = some (a.eval x').cells[i]:=Array.getElem?_eq_getElem hlt
   exact ⟨Wk hno (Bt hv) hu (List.mem_of_getElem? hi),_,hg,hcs.2 i c _ hi hg⟩)
  refine Cc (w':=w.alloc (.cells (a.eval x').cells t)) (val:=.pointer (some ⟨w.heap.size,0,none⟩)) ?_ ⟨m.set true (64*d) (some w.heap.size),_,hK,?_⟩
  ·simp [execOp,hop,Instr.box,newVar,newRow]
  ·rw [←hdst]
   exact hnew.put hd (v:=.ptr (64*d) 0) ⟨⟨w.heap.size,Bv _ _ _,rfl⟩,fun _=>rfl⟩
end Go.Ev
