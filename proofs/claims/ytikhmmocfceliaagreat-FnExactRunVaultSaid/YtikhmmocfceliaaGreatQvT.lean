/- From a row's readings to plain values; the whole table of functions. -/
import Derived.Test.YtikhmmocfceliaaGreatQvN
import Derived.Test.YtikhmmocfceliaaGreatQvM
set_option linter.all false
namespace Go.Ev
def Ok {α:Type} (T:Ty) (e:α→List V) (p:α→Prop):Prop:=∀vs,Gr T vs→∃x,vs=e x∧p x
theorem Ok.int64:Ok (.int .i64) eI Oz:=fun vs h=>by
 simp only [Gr] at h
 obtain ⟨n,rfl,h1⟩:=h
 exact ⟨n,rfl,h1⟩
theorem Ok.int (k:IntKind):Ok (.int k) (eInt k) (okInt k):=fun vs h=>by
 simp only [Gr] at h
 obtain ⟨n,rfl,h1⟩:=h
 exact ⟨n,rfl,h1⟩
theorem Ok.u8:Ok (.int .u8) eU8 jU:=fun vs h=>by
 simp only [Gr] at h
 obtain ⟨n,rfl,h1,h2⟩:=h
 refine ⟨Ev.u8 n,?_,trivial⟩
 have e1:IntKind.u8.min=0:=by decide
 have e2:IntKind.u8.max=255:=by decide
 unfold eU8
 rw [u8_eq (by omega) (by omega)]
theorem Ok.bool:Ok .bool eB jU:=fun vs h=>by
 simp only [Gr] at h
 obtain ⟨b,rfl⟩:=h
 exact ⟨b,rfl,trivial⟩
theorem Ok.str:Ok .str eS okStr:=fun vs h=>by
 simp only [Gr] at h
 obtain ⟨s,rfl,h1⟩:=h
 exact ⟨s,rfl,h1⟩
theorem pW {α:Type} {T:Ty} {e:α→List V} {p:α→Prop} (h:Ok T e p):∀es:List (List V),(∀x∈es,Gr T x)→∃l:List α,es=l.map e∧∀x∈l,p x
 | [],_=>⟨[],rfl,by simp⟩
 | c::r,hc=>by
  obtain ⟨x,rfl,hx⟩:=h c (hc c (by simp))
  obtain ⟨l,rfl,hl⟩:=pW h r fun y hy=>hc y (List.mem_cons_of_mem _ hy)
  exact ⟨x::l,rfl,by simpa using ⟨hx,hl⟩⟩
theorem Ok.slice {α:Type} {n:Nat} {T:Ty} {e:α→List V} {p:α→Prop} (h:Ok T e p):Ok (.slice n T) (eL n e) (okL p):=fun vs hv=>by
 simp only [Gr] at hv
 obtain ⟨es,rfl,h1,h2⟩:=hv
 obtain ⟨l,rfl,h3⟩:=pW h es h2
 exact ⟨l,rfl,by simpa using h1,h3⟩
theorem Ok.arg1 {α:Type} {T:Ty} {e:α→List V} {p:α→Prop} {u:V} (f:α→V) (he:∀x,e x=[f x]) (h:Ok T e p) (hu:Gr T [u]):∃x,u=f x∧p x:=by
 obtain ⟨x,h1,h2⟩:=h _ hu
 rw [he] at h1
 exact ⟨x,by simpa using h1,h2⟩
section
variable {P:Program} {φ:Ee} {w:World} {m:M}
theorem rtz:∀(i:Nat) (v:V) (x:Value),([]:List V)[i]? = some v→([]:List Value)[i]? = some x→RT φ m w v x:=fun i v x h=>by simp at h
theorem rts {u:V} {y:Value} {vs:List V} {xs:List Value} (h:RT φ m w u y) (hr:∀(i:Nat) (v:V) (x:Value),vs[i]? = some v→xs[i]? = some x→RT φ m w v x):
  ∀(i:Nat) (v:V) (x:Value),(u::vs)[i]? = some v→(y::xs)[i]? = some x→RT φ m w v x:=fun i v x h1 h2=>by
 cases i with
 | zero=>simp at h1 h2; subst h1; subst h2; exact h
 | succ i=>exact hr i v x (by simpa using h1) (by simpa using h2)
def Xx (P:Program) (φ:Ee) (L:List (Nat×Dv)) (p:Nat×Nat):Prop:=∀xf,look L p.2=some xf→∃fn,P.funcs[p.1]? = some fn∧Qs P φ fn=some xf
theorem tone {L:List (Nat×Dv)} {p:Nat×Nat} {xf:Dv} (h1:look L p.2=some xf) (fn:Func) (h2:P.funcs[p.1]? = some fn) (h3:Qs P φ fn=some xf):Xx P φ L p:=fun xf' h=>by
 rw [h1] at h
 obtain rfl:=Option.some.inj h
 exact ⟨fn,h2,h3⟩
theorem tno {L:List (Nat×Dv)} {p:Nat×Nat} (h1:look L p.2=none):Xx P φ L p:=fun xf h=>by rw [h1] at h; cases h
theorem pM {α:Type}:∀ {l:List (Nat×α)} {k:Nat} {v:α},look l k=some v→(k,v)∈l
 | (b,x)::r,k,v,h=>by
  simp only [look] at h
  split at h
  ·rename_i e; subst e; obtain rfl:=Option.some.inj h; simp
  ·exact List.mem_cons_of_mem _ (pM h)
 | [],_,_,h=>by simp [look] at h
theorem oK {α:Type} {p:α→Prop}:∀ {l:List α},Cu p l→∀x∈l,p x
 | _::_,h,x,hx=>by
  rcases List.mem_cons.1 hx with rfl | hx
  ·exact h.1
  ·exact oK h.2 x hx
 | [],_,_,hx=>by simp at hx
theorem GF {L:List (Nat×Dv)} (h:Cu (Xx P φ L) φ):Tied P φ (look L):=fun f xf hf fid hfid=>
 oK h (fid,f) (pM hfid) xf hf
end
end Go.Ev
