/- Functions of the small machine: what it means that a body comes to a result. -/
import Derived.Test.YtnkhjipmmomjoaaQvC
set_option linter.all false
namespace Go.Ev
def Rd (S:St):Xa→Option V
 | .t n=>match look S.env n with
  | some (.may _ _)=>none
  | some v=>some v
  | none=>none
 | .cell a n ag=>match look S.env a with
  | some (.ptr t k)=>match look S.bx t with
   | some cs=>if k+n≤cs.length then Lf ag n (cs.drop k) else none
   | none=>none
  | _=>none
def Ux (S:St):List Xa→Option (List V)
 | []=>some []
 | x::r=>match Rd S x,Ux S r with
  | some v,some vs=>some (v::vs)
  | _,_=>none
def PH:V→Bool
 | .tup _=>true
 | _=>false
def PP (vs:List V):Option V:=
 match vs with
 | [v]=>some v
 | vs=>if vs.all (!PH ·) then some (.tup vs) else none
def oT (S:St) (l:List Xa):Option V:=
 match Ux S l with
 | some vs=>PP vs
 | none=>none
def Gu:List V→List Nat
 | []=>[]
 | .own t _ _ _::r=>let l:=Gu r
  if Bx≤t || l.contains t then l else t::l
 | _::r=>Gu r
def Dy:List V→List Nat
 | []=>[]
 | .ptr t _::r=>let l:=Dy r
  if Bx≤t || l.contains t then l else t::l
 | _::r=>Dy r
def Qg (TS NB:List Nat):V→V
 | .own t off sz es=>if Bx≤t then .own t off sz es else match Ff t TS 0 with
  | some e=>.own e off sz es
  | none=>.undef
 | .ptr t k=>if Bx≤t then .ptr t k else match Ff t NB 0 with
  | some e=>.ptr e k
  | none=>.undef
 | c=>Hv c
def Ru:Nat→List Nat
 | 0=>[]
 | n+1=>Ru n++[Bx+n]
def Kt (S:St):List Nat→Option (List (List V))
 | []=>some []
 | t::r=>match look S.bx t,Kt S r with
  | some cs,some css=>some (cs::css)
  | _,_=>none
def Qh (S:St):Nat→List (Nat×Nat×List (List V))→Prop
 | _,[]=>True
 | i,(off,sz,es)::r=>(S.find (2097152+i)=some (off,es)∧∀e∈es,e.length=sz)∧Qh S (i+1) r
def Vd (S:St) (v:V) (nb:Nat) (t:Eo):Prop:=
 let NB:=Dy v.flat
 match Kt S (Ru nb++NB) with
 | some css=>
  let TS:=Gu (v.flat++css.flatten)
  Ou 65 [TS.length,NB.length]=true∧Gt (Qg TS NB) v=t.r∧Mj (Qg TS NB) css=t.bx∧Qh S 0 t.rw
 | none=>False
def cO (res:List Xa) (nb:Nat) (t:Eo) (S:St):Prop:=
 match oT S res with
 | some v=>Vd S v nb t
 | none=>False
def Nv:List V→Nat→List (Nat×V)
 | [],_=>[]
 | v::r,k=>(k,v)::Nv r (k+1)
def Nw:List (List V)→Nat→List (Nat×List V)
 | [],_=>[]
 | v::r,k=>(k,v)::Nw r (k+1)
def FQ (res:List Xa) (nb:Nat) (t:Eo):Ex→St→Prop
 | .normal,S | .ret,S=>∃S1,Fg S S1∧cO res nb t S1
 | .exit _,_=>False
def Oh (f:Nat→Nat):List V→Nat→List (Nat×Int)
 | [],_=>[]
 | .own _ _ (_+1) _::r,k=>(k,Em+(f k:Int))::Oh f r (k+1)
 | _::r,k=>Oh f r (k+1)
def eR (C:Bf) (fn:Dh) (g:Oc) (t:Eo):Prop:=g.args.length≤fn.nt∧(W C fn.body (FQ fn.res g.bx.length t) ⟨Nv g.args 0,Nw g.bx Bx,[]⟩ ∨
 ∀f:Nat→Nat,(∀(k t off sz:Nat) (es:List (List V)),g.args[k]? = some (.own t off sz es)→sz≠0→es.length≤f k∧(off=0→f k≤9223372036854775807))→W C fn.body (FQ fn.res g.bx.length t) ⟨Nv g.args 0,Nw g.bx Bx,Oh f g.args 0⟩)
end Go.Ev
