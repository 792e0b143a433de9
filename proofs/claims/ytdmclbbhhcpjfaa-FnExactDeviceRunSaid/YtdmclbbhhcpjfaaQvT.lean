/- From a row's readings to plain values; the whole table of functions. -/
import Derived.Test.YtdmclbbhhcpjfaaQvN
import Derived.Test.YtdmclbbhhcpjfaaQvM
set_option linter.all false
namespace Go.Ev
def Ok {α:Type} (T:Ty) (e:α→List V) (p:α→Prop):Prop:=∀vs,Dx T vs→∃x,vs=e x∧p x
theorem Ok.int64:Ok (.int .i64) eI CS:=fun vs h=>by
 simp only [Dx] at h
 obtain ⟨n,rfl,h1⟩:=h
 exact ⟨n,rfl,h1⟩
theorem Ok.int (k:IntKind):Ok (.int k) (NZ k) (ED k):=fun vs h=>by
 simp only [Dx] at h
 obtain ⟨n,rfl,h1⟩:=h
 exact ⟨n,rfl,h1⟩
theorem Ok.u8:Ok (.int .u8) Im Vw:=fun vs h=>by
 simp only [Dx] at h
 obtain ⟨n,rfl,h1,h2⟩:=h
 refine ⟨Ev.u8 n,?_,trivial⟩
 have e1:IntKind.u8.min=0:=by decide
 have e2:IntKind.u8.max=255:=by decide
 unfold Im
 rw [EJ (by omega) (by omega)]
theorem Ok.bool:Ok .bool eB Vw:=fun vs h=>by
 simp only [Dx] at h
 obtain ⟨b,rfl⟩:=h
 exact ⟨b,rfl,trivial⟩
theorem Ok.str:Ok .str eS LD:=fun vs h=>by
 simp only [Dx] at h
 obtain ⟨s,rfl,h1⟩:=h
 exact ⟨s,rfl,h1⟩
theorem bZ {α:Type} {T:Ty} {e:α→List V} {p:α→Prop} (h:Ok T e p):∀es:List (List V),(∀x∈es,Dx T x)→∃l:List α,es=l.map e∧∀x∈l,p x
 | [],_=>⟨[],rfl,by simp⟩
 | c::r,hc=>by
  obtain ⟨x,rfl,hx⟩:=h c (hc c (by simp))
  obtain ⟨l,rfl,hl⟩:=bZ h r fun y hy=>hc y (List.mem_cons_of_mem _ hy)
  exact ⟨x::l,rfl,by simpa using ⟨hx,hl⟩⟩
theorem Ok.slice {α:Type} {n:Nat} {T:Ty} {e:α→List V} {p:α→Prop} (h:Ok T e p):Ok (.slice n T) (eL n e) (EE p):=fun vs hv=>by
 simp only [Dx] at hv
 obtain ⟨es,rfl,h1,h2⟩:=hv
 obtain ⟨l,rfl,h3⟩:=bZ h es h2
 exact ⟨l,rfl,by simpa using h1,h3⟩
theorem Ok.arg1 {α:Type} {T:Ty} {e:α→List V} {p:α→Prop} {u:V} (f:α→V) (he:∀x,e x=[f x]) (h:Ok T e p) (hu:Dx T [u]):∃x,u=f x∧p x:=by
 obtain ⟨x,h1,h2⟩:=h _ hu
 rw [he] at h1
 exact ⟨x,by simpa using h1,h2⟩
section
variable {P:Program} {φ:By} {w:World} {m:M}
theorem PD:∀(i:Nat) (v:V) (x:Value),([]:List V)[i]? = some v→([]:List Value)[i]? = some x→RT φ m w v x:=fun i v x h=>by simp at h
theorem PC {u:V} {y:Value} {vs:List V} {xs:List Value} (h:RT φ m w u y) (hr:∀(i:Nat) (v:V) (x:Value),vs[i]? = some v→xs[i]? = some x→RT φ m w v x):
  ∀(i:Nat) (v:V) (x:Value),(u::vs)[i]? = some v→(y::xs)[i]? = some x→RT φ m w v x:=fun i v x h1 h2=>by
 cases i with
 | zero=>simp at h1 h2; subst h1; subst h2; exact h
 | succ i=>exact hr i v x (by simpa using h1) (by simpa using h2)
def Wh (P:Program) (φ:By) (L:List (Nat×Er)) (p:Nat×Nat):Prop:=∀xf,look L p.2=some xf→∃fn,P.funcs[p.1]? = some fn∧Lk P φ fn=some xf
theorem OI {L:List (Nat×Er)} {p:Nat×Nat} {xf:Er} (h1:look L p.2=some xf) (fn:Func) (h2:P.funcs[p.1]? = some fn) (h3:Lk P φ fn=some xf):Wh P φ L p:=fun xf' h=>by
 rw [h1] at h
 obtain rfl:=Option.some.inj h
 exact ⟨fn,h2,h3⟩
theorem bS {α:Type}:∀ {l:List (Nat×α)} {k:Nat} {v:α},look l k=some v→(k,v)∈l
 | (b,x)::r,k,v,h=>by
  simp only [look] at h
  split at h
  ·rename_i e; subst e; obtain rfl:=Option.some.inj h; simp
  ·exact List.mem_cons_of_mem _ (bS h)
 | [],_,_,h=>by simp [look] at h
theorem bA {α:Type} {p:α→Prop}:∀ {l:List α},Ax p l→∀x∈l,p x
 | _::_,h,x,hx=>by
  rcases List.mem_cons.1 hx with rfl | hx
  ·exact h.1
  ·exact bA h.2 x hx
 | [],_,_,hx=>by simp at hx
theorem lZ {L:List (Nat×Er)} (h:Ax (Wh P φ L) φ):FW P φ (look L):=fun f xf hf fid hfid=>
 bA h (fid,f) (bS hfid) xf hf
end
end Go.Ev
