/- Functions of the small machine: what it means that a body comes to a result. -/
import Derived.Test.YtdmclbbhhcpjfaaDoorQvC
set_option linter.all false
namespace Go.Ev
def Pg (S:St):Vr→Option V
 | .t n=>match look S.env n with
  | some (.may _ _)=>none
  | some v=>some v
  | none=>none
 | .cell a n ag=>match look S.env a with
  | some (.ptr t k)=>match look S.bx t with
   | some cs=>if k+n≤cs.length then Hl ag n (cs.drop k) else none
   | none=>none
  | _=>none
def Tc (S:St):List Vr→Option (List V)
 | []=>some []
 | x::r=>match Pg S x,Tc S r with
  | some v,some vs=>some (v::vs)
  | _,_=>none
def uH:V→Bool
 | .tup _=>true
 | _=>false
def uR (vs:List V):Option V:=
 match vs with
 | [v]=>some v
 | vs=>if vs.all (!uH ·) then some (.tup vs) else none
def jB (S:St) (l:List Vr):Option V:=
 match Tc S l with
 | some vs=>uR vs
 | none=>none
def Fw:List V→List Nat
 | []=>[]
 | .own t _ _ _::r=>let l:=Fw r
  if As≤t || l.contains t then l else t::l
 | _::r=>Fw r
def Da:List V→List Nat
 | []=>[]
 | .ptr t _::r=>let l:=Da r
  if As≤t || l.contains t then l else t::l
 | _::r=>Da r
def Oe (TS NB:List Nat):V→V
 | .own t off sz es=>if As≤t then .own t off sz es else match Dy t TS 0 with
  | some e=>.own (tg t e) off sz es
  | none=>.undef
 | .ptr t k=>if As≤t then .ptr t k else match Dy t NB 0 with
  | some e=>.ptr e k
  | none=>.undef
 | c=>Gn c
def Py:Nat→List Nat
 | 0=>[]
 | n+1=>Py n++[As+n]
def Jj (S:St):List Nat→Option (List (List V))
 | []=>some []
 | t::r=>match look S.bx t,Jj S r with
  | some cs,some css=>some (cs::css)
  | _,_=>none
def St.findR (S:St) (i:Nat):Option (Nat×List (List V)):=
 match S.find (2097152+i) with
 | some x=>some x
 | none=>S.find (2097184+i)
def Of (S:St):Nat→List (Nat×Nat×List (List V))→Prop
 | _,[]=>True
 | i,(off,sz,es)::r=>(S.findR i=some (off,es)∧∀e∈es,e.length=sz)∧Of S (i+1) r
def Tf (S:St) (v:V) (nb:Nat) (t:Dj):Prop:=
 let NB:=Da v.flat
 match Jj S (Py nb++NB) with
 | some css=>
  let TS:=Fw (v.flat++css.flatten)
  Mv 33 [TS.length,NB.length]=true∧Dq (Oe TS NB) v=t.r∧Lc (Oe TS NB) css=t.bx∧Of S 0 t.rw
 | none=>False
def aN (res:List Vr) (nb:Nat) (t:Dj) (S:St):Prop:=
 match jB S res with
 | some v=>Tf S v nb t
 | none=>False
def Kn:List V→Nat→List (Nat×V)
 | [],_=>[]
 | v::r,k=>(k,v)::Kn r (k+1)
def Ko:List (List V)→Nat→List (Nat×List V)
 | [],_=>[]
 | v::r,k=>(k,v)::Ko r (k+1)
def FQ (res:List Vr) (nb:Nat) (t:Dj):Ex→St→Prop
 | .normal,S | .ret,S=>∃S1,Fg S S1∧aN res nb t S1
 | .exit _,_=>False
def Kl (f:Nat→Nat):List V→Nat→List (Nat×Int)
 | [],_=>[]
 | .own _ _ (_+1) _::r,k=>(k,Dr+(f k:Int))::Kl f r (k+1)
 | _::r,k=>Kl f r (k+1)
def Xc (C:At) (fn:Dn) (g:Lz) (t:Dj):Prop:=g.args.length≤fn.nt∧(W C fn.body (FQ fn.res g.bx.length t) ⟨Kn g.args 0,Ko g.bx As,[]⟩ ∨
 ∀f:Nat→Nat,(∀(k t off sz:Nat) (es:List (List V)),g.args[k]? = some (.own t off sz es)→sz≠0→es.length≤f k∧(off=0→f k≤9223372036854775807))→W C fn.body (FQ fn.res g.bx.length t) ⟨Kn g.args 0,Ko g.bx As,Kl f g.args 0⟩)
end Go.Ev
