/- From a row's readings to plain values; the whole table of functions. -/
import Derived.Test.YtjkemmodemomdaaGreatDoorQvN
import Derived.Test.YtjkemmodemomdaaGreatDoorQvM
set_option linter.all false
namespace Go.Ev
def Ok {α:Type} (T:Ty) (e:α→List V) (p:α→Prop):Prop:=∀vs,Ec T vs→∃x,vs=e x∧p x
theorem Ok.int (k:IntKind):Ok (.int k) (zC k) (qI k):=fun vs h=>by
 simp only [Ec] at h
 obtain ⟨n,rfl,h1⟩:=h
 exact ⟨n,rfl,h1⟩
theorem Ok.u8:Ok (.int .u8) Iy Mv:=fun vs h=>by
 simp only [Ec] at h
 obtain ⟨n,rfl,h1,h2⟩:=h
 refine ⟨Ev.u8 n,?_,trivial⟩
 have e1:IntKind.u8.min=0:=by decide
 have e2:IntKind.u8.max=255:=by decide
 unfold Iy
 rw [qQ (by omega) (by omega)]
theorem Ok.bool:Ok .bool eB Mv:=fun vs h=>by
 simp only [Ec] at h
 obtain ⟨b,rfl⟩:=h
 exact ⟨b,rfl,trivial⟩
theorem Ok.str:Ok .str eS Vf:=fun vs h=>by
 simp only [Ec] at h
 obtain ⟨s,rfl,h1⟩:=h
 exact ⟨s,rfl,h1⟩
theorem Yo {α:Type} {T:Ty} {e:α→List V} {p:α→Prop} (h:Ok T e p):∀es:List (List V),(∀x∈es,Ec T x)→∃l:List α,es=l.map e∧∀x∈l,p x
 | [],_=>⟨[],rfl,by simp⟩
 | c::r,hc=>by
  obtain ⟨x,rfl,hx⟩:=h c (hc c (by simp))
  obtain ⟨l,rfl,hl⟩:=Yo h r fun y hy=>hc y (List.mem_cons_of_mem _ hy)
  exact ⟨x::l,rfl,by simpa using ⟨hx,hl⟩⟩
theorem Ok.slice {α:Type} {n:Nat} {T:Ty} {e:α→List V} {p:α→Prop} (h:Ok T e p):Ok (.slice n T) (eL n e) (qJ p):=fun vs hv=>by
 simp only [Ec] at hv
 obtain ⟨es,rfl,h1,h2⟩:=hv
 obtain ⟨l,rfl,h3⟩:=Yo h es h2
 exact ⟨l,rfl,by simpa using h1,h3⟩
theorem Ok.arg1 {α:Type} {T:Ty} {e:α→List V} {p:α→Prop} {u:V} (f:α→V) (he:∀x,e x=[f x]) (h:Ok T e p) (hu:Ec T [u]):∃x,u=f x∧p x:=by
 obtain ⟨x,h1,h2⟩:=h _ hu
 rw [he] at h1
 exact ⟨x,by simpa using h1,h2⟩
section
variable {P:Program} {φ:Bz} {w:World} {m:M}
theorem AQ:∀(i:Nat) (v:V) (x:Value),([]:List V)[i]? = some v→([]:List Value)[i]? = some x→RT φ m w v x:=fun i v x h=>by simp at h
theorem AB {u:V} {y:Value} {vs:List V} {xs:List Value} (h:RT φ m w u y) (hr:∀(i:Nat) (v:V) (x:Value),vs[i]? = some v→xs[i]? = some x→RT φ m w v x):
  ∀(i:Nat) (v:V) (x:Value),(u::vs)[i]? = some v→(y::xs)[i]? = some x→RT φ m w v x:=fun i v x h1 h2=>by
 cases i with
 | zero=>simp at h1 h2; subst h1; subst h2; exact h
 | succ i=>exact hr i v x (by simpa using h1) (by simpa using h2)
def Oy (P:Program) (φ:Bz) (L:List (Nat×Es)) (p:Nat×Nat):Prop:=∀xf,look L p.2=some xf→∃fn,P.funcs[p.1]? = some fn∧Km P φ fn=some xf
theorem zP {L:List (Nat×Es)} {p:Nat×Nat} {xf:Es} (h1:look L p.2=some xf) (fn:Func) (h2:P.funcs[p.1]? = some fn) (h3:Km P φ fn=some xf):Oy P φ L p:=fun xf' h=>by
 rw [h1] at h
 obtain rfl:=Option.some.inj h
 exact ⟨fn,h2,h3⟩
theorem zO {L:List (Nat×Es)} {p:Nat×Nat} (h1:look L p.2=none):Oy P φ L p:=fun xf h=>by rw [h1] at h; cases h
theorem Yl {α:Type}:∀ {l:List (Nat×α)} {k:Nat} {v:α},look l k=some v→(k,v)∈l
 | (b,x)::r,k,v,h=>by
  simp only [look] at h
  split at h
  ·rename_i e; subst e; obtain rfl:=Option.some.inj h; simp
  ·exact List.mem_cons_of_mem _ (Yl h)
 | [],_,_,h=>by simp [look] at h
theorem Xr {α:Type} {p:α→Prop}:∀ {l:List α},Be p l→∀x∈l,p x
 | _::_,h,x,hx=>by
  rcases List.mem_cons.1 hx with rfl | hx
  ·exact h.1
  ·exact Xr h.2 x hx
 | [],_,_,hx=>by simp at hx
theorem eF {L:List (Nat×Es)} (h:Be (Oy P φ L) φ):rY P φ (look L):=fun f xf hf fid hfid=>
 Xr h (fid,f) (Yl hfid) xf hf
end
end Go.Ev
