/- Functions of the small machine: what it means that a body comes to a result. -/
import Derived.Test.YtnkhjipmmomjoaaGreatQvC
set_option linter.all false
namespace Go.Ev
def Vs (S:St):cG→Option V
 | .t n=>match look S.env n with
  | some (.may _ _)=>none
  | some v=>some v
  | none=>none
 | .cell a n ag=>match look S.env a with
  | some (.ptr t k)=>match look S.bx t with
   | some cs=>if k+n≤cs.length then Hz ag n (cs.drop k) else none
   | none=>none
  | _=>none
def bC (S:St):List cG→Option (List V)
 | []=>some []
 | x::r=>match Vs S x,bC S r with
  | some v,some vs=>some (v::vs)
  | _,_=>none
def isTup:V→Bool
 | .tup _=>true
 | _=>false
def tupOf (vs:List V):Option V:=
 match vs with
 | [v]=>some v
 | vs=>if vs.all (!isTup ·) then some (.tup vs) else none
def CP (S:St) (l:List cG):Option V:=
 match bC S l with
 | some vs=>tupOf vs
 | none=>none
def Is:List V→List Nat
 | []=>[]
 | .own t _ _ _::r=>let l:=Is r
  if Cq≤t || l.contains t then l else t::l
 | _::r=>Is r
def Fm:List V→List Nat
 | []=>[]
 | .ptr t _::r=>let l:=Fm r
  if Cq≤t || l.contains t then l else t::l
 | _::r=>Fm r
def Un (TS NB:List Nat):V→V
 | .own t off sz es=>if Cq≤t then .own t off sz es else match Gw t TS 0 with
  | some e=>.own e off sz es
  | none=>.undef
 | .ptr t k=>if Cq≤t then .ptr t k else match Gw t NB 0 with
  | some e=>.ptr e k
  | none=>.undef
 | c=>Jt c
def Wo:Nat→List Nat
 | 0=>[]
 | n+1=>Wo n++[Cq+n]
def Nk (S:St):List Nat→Option (List (List V))
 | []=>some []
 | t::r=>match look S.bx t,Nk S r with
  | some cs,some css=>some (cs::css)
  | _,_=>none
def Uo (S:St):Nat→List (Nat×Nat×List (List V))→Prop
 | _,[]=>True
 | i,(off,sz,es)::r=>(S.find (2097152+i)=some (off,es)∧∀e∈es,e.length=sz)∧Uo S (i+1) r
def bK (S:St) (v:V) (nb:Nat) (t:Fq):Prop:=
 let NB:=Fm v.flat
 match Nk S (Wo nb++NB) with
 | some css=>
  let TS:=Is (v.flat++css.flatten)
  Pk 65 [TS.length,NB.length]=true∧Gi (Un TS NB) v=t.r∧Pl (Un TS NB) css=t.bx∧Uo S 0 t.rw
 | none=>False
def nI (res:List cG) (nb:Nat) (t:Fq) (S:St):Prop:=
 match CP S res with
 | some v=>bK S v nb t
 | none=>False
def Ow:List V→Nat→List (Nat×V)
 | [],_=>[]
 | v::r,k=>(k,v)::Ow r (k+1)
def Ox:List (List V)→Nat→List (Nat×List V)
 | [],_=>[]
 | v::r,k=>(k,v)::Ox r (k+1)
def FQ (res:List cG) (nb:Nat) (t:Fq):Ex→St→Prop
 | .normal,S | .ret,S=>∃S1,Fg S S1∧nI res nb t S1
 | .exit _,_=>False
def Ou (f:Nat→Nat):List V→Nat→List (Nat×Int)
 | [],_=>[]
 | .own _ _ (_+1) _::r,k=>(k,Em+(f k:Int))::Ou f r (k+1)
 | _::r,k=>Ou f r (k+1)
def gN (C:Bh) (fn:Dp) (g:Gn) (t:Fq):Prop:=g.args.length≤fn.nt∧(W C fn.body (FQ fn.res g.bx.length t) ⟨Ow g.args 0,Ox g.bx Cq,[]⟩ ∨
 ∀f:Nat→Nat,(∀(k t off sz:Nat) (es:List (List V)),g.args[k]? = some (.own t off sz es)→sz≠0→es.length≤f k∧(off=0→f k≤9223372036854775807))→W C fn.body (FQ fn.res g.bx.length t) ⟨Ow g.args 0,Ox g.bx Cq,Ou f g.args 0⟩)
end Go.Ev
