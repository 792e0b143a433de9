/- From a row's readings to plain values; the whole table of functions. -/
import Derived.Test.YtfpbbpkdjmldkaaGreatQvN
import Derived.Test.YtfpbbpkdjmldkaaGreatQvM
set_option linter.all false
namespace Go.Ev
def Ok {α:Type} (T:Ty) (e:α→List V) (p:α→Prop):Prop:=∀vs,Ib T vs→∃x,vs=e x∧p x
theorem Ok.int (k:IntKind):Ok (.int k) (eInt k) (okInt k):=fun vs h=>by
 simp only [Ib] at h
 obtain ⟨n,rfl,h1⟩:=h
 exact ⟨n,rfl,h1⟩
theorem Ok.u8:Ok (.int .u8) Gh Rn:=fun vs h=>by
 simp only [Ib] at h
 obtain ⟨n,rfl,h1,h2⟩:=h
 refine ⟨Ev.u8 n,?_,trivial⟩
 have e1:IntKind.u8.min=0:=by decide
 have e2:IntKind.u8.max=255:=by decide
 unfold Gh
 rw [u8_eq (by omega) (by omega)]
theorem Ok.bool:Ok .bool eB Rn:=fun vs h=>by
 simp only [Ib] at h
 obtain ⟨b,rfl⟩:=h
 exact ⟨b,rfl,trivial⟩
theorem Ok.str:Ok .str eS nO:=fun vs h=>by
 simp only [Ib] at h
 obtain ⟨s,rfl,h1⟩:=h
 exact ⟨s,rfl,h1⟩
theorem uY {α:Type} {T:Ty} {e:α→List V} {p:α→Prop} (h:Ok T e p):∀es:List (List V),(∀x∈es,Ib T x)→∃l:List α,es=l.map e∧∀x∈l,p x
 | [],_=>⟨[],rfl,by simp⟩
 | c::r,hc=>by
  obtain ⟨x,rfl,hx⟩:=h c (hc c (by simp))
  obtain ⟨l,rfl,hl⟩:=uY h r fun y hy=>hc y (List.mem_cons_of_mem _ hy)
  exact ⟨x::l,rfl,by simpa using ⟨hx,hl⟩⟩
theorem Ok.slice {α:Type} {n:Nat} {T:Ty} {e:α→List V} {p:α→Prop} (h:Ok T e p):Ok (.slice n T) (eL n e) (KW p):=fun vs hv=>by
 simp only [Ib] at hv
 obtain ⟨es,rfl,h1,h2⟩:=hv
 obtain ⟨l,rfl,h3⟩:=uY h es h2
 exact ⟨l,rfl,by simpa using h1,h3⟩
theorem Ok.arg1 {α:Type} {T:Ty} {e:α→List V} {p:α→Prop} {u:V} (f:α→V) (he:∀x,e x=[f x]) (h:Ok T e p) (hu:Ib T [u]):∃x,u=f x∧p x:=by
 obtain ⟨x,h1,h2⟩:=h _ hu
 rw [he] at h1
 exact ⟨x,by simpa using h1,h2⟩
section
variable {P:Program} {φ:Fa} {w:World} {m:M}
theorem rtz:∀(i:Nat) (v:V) (x:Value),([]:List V)[i]? = some v→([]:List Value)[i]? = some x→RT φ m w v x:=fun i v x h=>by simp at h
theorem rts {u:V} {y:Value} {vs:List V} {xs:List Value} (h:RT φ m w u y) (hr:∀(i:Nat) (v:V) (x:Value),vs[i]? = some v→xs[i]? = some x→RT φ m w v x):
  ∀(i:Nat) (v:V) (x:Value),(u::vs)[i]? = some v→(y::xs)[i]? = some x→RT φ m w v x:=fun i v x h1 h2=>by
 cases i with
 | zero=>simp at h1 h2; subst h1; subst h2; exact h
 | succ i=>exact hr i v x (by simpa using h1) (by simpa using h2)
def aL (P:Program) (φ:Fa) (L:List (Nat×De)) (p:Nat×Nat):Prop:=∀xf,look L p.2=some xf→∃fn,P.funcs[p.1]? = some fn∧Sb P φ fn=some xf
theorem tone {L:List (Nat×De)} {p:Nat×Nat} {xf:De} (h1:look L p.2=some xf) (fn:Func) (h2:P.funcs[p.1]? = some fn) (h3:Sb P φ fn=some xf):aL P φ L p:=fun xf' h=>by
 rw [h1] at h
 obtain rfl:=Option.some.inj h
 exact ⟨fn,h2,h3⟩
theorem tno {L:List (Nat×De)} {p:Nat×Nat} (h1:look L p.2=none):aL P φ L p:=fun xf h=>by rw [h1] at h; cases h
theorem uM {α:Type}:∀ {l:List (Nat×α)} {k:Nat} {v:α},look l k=some v→(k,v)∈l
 | (b,x)::r,k,v,h=>by
  simp only [look] at h
  split at h
  ·rename_i e; subst e; obtain rfl:=Option.some.inj h; simp
  ·exact List.mem_cons_of_mem _ (uM h)
 | [],_,_,h=>by simp [look] at h
theorem sW {α:Type} {p:α→Prop}:∀ {l:List α},Dg p l→∀x∈l,p x
 | _::_,h,x,hx=>by
  rcases List.mem_cons.1 hx with rfl | hx
  ·exact h.1
  ·exact sW h.2 x hx
 | [],_,_,hx=>by simp at hx
theorem ME {L:List (Nat×De)} (h:Dg (aL P φ L) φ):Tied P φ (look L):=fun f xf hf fid hfid=>
 sW h (fid,f) (uM hfid) xf hf
end
end Go.Ev
