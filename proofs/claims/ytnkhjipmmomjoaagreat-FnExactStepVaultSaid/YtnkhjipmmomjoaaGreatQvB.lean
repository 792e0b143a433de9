/- Functions of the small machine: what it means that a body comes to a result. -/
import Derived.Test.YtnkhjipmmomjoaaGreatQvC
set_option linter.all false
namespace Go.Ev
def Vx (S:St):cL→Option V
 | .t n=>match look S.env n with
  | some (.may _ _)=>none
  | some v=>some v
  | none=>none
 | .cell a n ag=>match look S.env a with
  | some (.ptr t k)=>match look S.bx t with
   | some cs=>if k+n≤cs.length then Hv ag n (cs.drop k) else none
   | none=>none
  | _=>none
def bC (S:St):List cL→Option (List V)
 | []=>some []
 | x::r=>match Vx S x,bC S r with
  | some v,some vs=>some (v::vs)
  | _,_=>none
def isTup:V→Bool
 | .tup _=>true
 | _=>false
def tupOf (vs:List V):Option V:=
 match vs with
 | [v]=>some v
 | vs=>if vs.all (!isTup ·) then some (.tup vs) else none
def EU (S:St) (l:List cL):Option V:=
 match bC S l with
 | some vs=>tupOf vs
 | none=>none
def Im:List V→List Nat
 | []=>[]
 | .own t _ _ _::r=>let l:=Im r
  if Cu≤t || l.contains t then l else t::l
 | _::r=>Im r
def Ff:List V→List Nat
 | []=>[]
 | .ptr t _::r=>let l:=Ff r
  if Cu≤t || l.contains t then l else t::l
 | _::r=>Ff r
def Uo (TS NB:List Nat):V→V
 | .own t off sz es=>if Cu≤t then .own t off sz es else match Gr t TS 0 with
  | some e=>.own e off sz es
  | none=>.undef
 | .ptr t k=>if Cu≤t then .ptr t k else match Gr t NB 0 with
  | some e=>.ptr e k
  | none=>.undef
 | c=>Jo c
def Wu:Nat→List Nat
 | 0=>[]
 | n+1=>Wu n++[Cu+n]
def Nf (S:St):List Nat→Option (List (List V))
 | []=>some []
 | t::r=>match look S.bx t,Nf S r with
  | some cs,some css=>some (cs::css)
  | _,_=>none
def Up (S:St):Nat→List (Nat×Nat×List (List V))→Prop
 | _,[]=>True
 | i,(off,sz,es)::r=>(S.find (2097152+i)=some (off,es)∧∀e∈es,e.length=sz)∧Up S (i+1) r
def bL (S:St) (v:V) (nb:Nat) (t:Fk):Prop:=
 let NB:=Ff v.flat
 match Nf S (Wu nb++NB) with
 | some css=>
  let TS:=Im (v.flat++css.flatten)
  Pl 65 [TS.length,NB.length]=true∧Gd (Uo TS NB) v=t.r∧Pm (Uo TS NB) css=t.bx∧Up S 0 t.rw
 | none=>False
def nT (res:List cL) (nb:Nat) (t:Fk) (S:St):Prop:=
 match EU S res with
 | some v=>bL S v nb t
 | none=>False
def Ow:List V→Nat→List (Nat×V)
 | [],_=>[]
 | v::r,k=>(k,v)::Ow r (k+1)
def Ox:List (List V)→Nat→List (Nat×List V)
 | [],_=>[]
 | v::r,k=>(k,v)::Ox r (k+1)
def FQ (res:List cL) (nb:Nat) (t:Fk):Ex→St→Prop
 | .normal,S | .ret,S=>∃S1,Fg S S1∧nT res nb t S1
 | .exit _,_=>False
def Ou (f:Nat→Nat):List V→Nat→List (Nat×Int)
 | [],_=>[]
 | .own _ _ (_+1) _::r,k=>(k,Em+(f k:Int))::Ou f r (k+1)
 | _::r,k=>Ou f r (k+1)
def hO (C:Bj) (fn:Cz) (g:Gj) (t:Fk):Prop:=g.args.length≤fn.nt∧(W C fn.body (FQ fn.res g.bx.length t) ⟨Ow g.args 0,Ox g.bx Cu,[]⟩ ∨
 ∀f:Nat→Nat,(∀(k t off sz:Nat) (es:List (List V)),g.args[k]? = some (.own t off sz es)→sz≠0→es.length≤f k∧(off=0→f k≤9223372036854775807))→W C fn.body (FQ fn.res g.bx.length t) ⟨Ow g.args 0,Ox g.bx Cu,Ou f g.args 0⟩)
end Go.Ev
