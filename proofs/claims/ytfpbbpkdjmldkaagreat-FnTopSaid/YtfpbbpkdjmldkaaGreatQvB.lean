/- Functions of the small machine: what it means that a body comes to a result. -/
import Derived.Test.YtfpbbpkdjmldkaaGreatQvC
set_option linter.all false
namespace Go.Ev
def Za (S:St):iU→Option V
 | .t n=>match look S.env n with
  | some (.may _ _)=>none
  | some v=>some v
  | none=>none
 | .cell a n ag=>match look S.env a with
  | some (.ptr t k)=>match look S.bx t with
   | some cs=>if k+n≤cs.length then Jw ag n (cs.drop k) else none
   | none=>none
  | _=>none
def eK (S:St):List iU→Option (List V)
 | []=>some []
 | x::r=>match Za S x,eK S r with
  | some v,some vs=>some (v::vs)
  | _,_=>none
def isTup:V→Bool
 | .tup _=>true
 | _=>false
def tupOf (vs:List V):Option V:=
 match vs with
 | [v]=>some v
 | vs=>if vs.all (!isTup ·) then some (.tup vs) else none
def LU (S:St) (l:List iU):Option V:=
 match eK S l with
 | some vs=>tupOf vs
 | none=>none
def Jq:List V→List Nat
 | []=>[]
 | .own t _ _ _::r=>let l:=Jq r
  if Di≤t || l.contains t then l else t::l
 | _::r=>Jq r
def Gf:List V→List Nat
 | []=>[]
 | .ptr t _::r=>let l:=Gf r
  if Di≤t || l.contains t then l else t::l
 | _::r=>Gf r
def Xi (TS NB:List Nat):V→V
 | .own t off sz es=>if Di≤t then .own t off sz es else match Hq t TS 0 with
  | some e=>.own e off sz es
  | none=>.undef
 | .ptr t k=>if Di≤t then .ptr t k else match Hq t NB 0 with
  | some e=>.ptr e k
  | none=>.undef
 | c=>Lb c
def Zz:Nat→List Nat
 | 0=>[]
 | n+1=>Zz n++[Di+n]
def Pc (S:St):List Nat→Option (List (List V))
 | []=>some []
 | t::r=>match look S.bx t,Pc S r with
  | some cs,some css=>some (cs::css)
  | _,_=>none
def Xj (S:St):Nat→List (Nat×Nat×List (List V))→Prop
 | _,[]=>True
 | i,(off,sz,es)::r=>(S.find (2097152+i)=some (off,es)∧∀e∈es,e.length=sz)∧Xj S (i+1) r
def eU (S:St) (v:V) (nb:Nat) (t:Gs):Prop:=
 let NB:=Gf v.flat
 match Pc S (Zz nb++NB) with
 | some css=>
  let TS:=Jq (v.flat++css.flatten)
  Re 65 [TS.length,NB.length]=true∧Hd (Xi TS NB) v=t.r∧Rf (Xi TS NB) css=t.bx∧Xj S 0 t.rw
 | none=>False
def sT (res:List iU) (nb:Nat) (t:Gs) (S:St):Prop:=
 match LU S res with
 | some v=>eU S v nb t
 | none=>False
def Qn:List V→Nat→List (Nat×V)
 | [],_=>[]
 | v::r,k=>(k,v)::Qn r (k+1)
def Qo:List (List V)→Nat→List (Nat×List V)
 | [],_=>[]
 | v::r,k=>(k,v)::Qo r (k+1)
def FQ (res:List iU) (nb:Nat) (t:Gs):Ex→St→Prop
 | .normal,S | .ret,S=>∃S1,Fg S S1∧sT res nb t S1
 | .exit _,_=>False
def Qk (f:Nat→Nat):List V→Nat→List (Nat×Int)
 | [],_=>[]
 | .own _ _ (_+1) _::r,k=>(k,Es+(f k:Int))::Qk f r (k+1)
 | _::r,k=>Qk f r (k+1)
def pB (C:Ba) (fn:De) (g:Tr) (t:Gs):Prop:=g.args.length≤fn.nt∧(W C fn.body (FQ fn.res g.bx.length t) ⟨Qn g.args 0,Qo g.bx Di,[]⟩ ∨
 ∀f:Nat→Nat,(∀(k t off sz:Nat) (es:List (List V)),g.args[k]? = some (.own t off sz es)→sz≠0→es.length≤f k∧(off=0→f k≤9223372036854775807))→W C fn.body (FQ fn.res g.bx.length t) ⟨Qn g.args 0,Qo g.bx Di,Qk f g.args 0⟩)
end Go.Ev
