/- Functions of the small machine: what it means that a body comes to a result. -/
import Derived.Test.YtdmclbbhhcpjfaaQvC
set_option linter.all false
namespace Go.Ev
def Qo (S:St):Wg→Option V
 | .t n=>match look S.env n with
  | some (.may _ _)=>none
  | some v=>some v
  | none=>none
 | .cell a n ag=>match look S.env a with
  | some (.ptr t k)=>match look S.bx t with
   | some cs=>if k+n≤cs.length then Jx ag n (cs.drop k) else none
   | none=>none
  | _=>none
def Ug (S:St):List Wg→Option (List V)
 | []=>some []
 | x::r=>match Qo S x,Ug S r with
  | some v,some vs=>some (v::vs)
  | _,_=>none
def EA:V→Bool
 | .tup _=>true
 | _=>false
def EI (vs:List V):Option V:=
 match vs with
 | [v]=>some v
 | vs=>if vs.all (!EA ·) then some (.tup vs) else none
def lN (S:St) (l:List Wg):Option V:=
 match Ug S l with
 | some vs=>EI vs
 | none=>none
def Fo:List V→List Nat
 | []=>[]
 | .own t _ _ _::r=>let l:=Fo r
  if Am≤t || l.contains t then l else t::l
 | _::r=>Fo r
def Cx:List V→List Nat
 | []=>[]
 | .ptr t _::r=>let l:=Cx r
  if Am≤t || l.contains t then l else t::l
 | _::r=>Cx r
def Pe (TS NB:List Nat):V→V
 | .own t off sz es=>if Am≤t then .own t off sz es else match Ds t TS 0 with
  | some e=>.own (tg t e) off sz es
  | none=>.undef
 | .ptr t k=>if Am≤t then .ptr t k else match Ds t NB 0 with
  | some e=>.ptr e k
  | none=>.undef
 | c=>Gq c
def Rf:Nat→List Nat
 | 0=>[]
 | n+1=>Rf n++[Am+n]
def Ji (S:St):List Nat→Option (List (List V))
 | []=>some []
 | t::r=>match look S.bx t,Ji S r with
  | some cs,some css=>some (cs::css)
  | _,_=>none
def St.findR (S:St) (i:Nat):Option (Nat×List (List V)):=
 match S.find (2097152+i) with
 | some x=>some x
 | none=>S.find (2097184+i)
def Pg (S:St):Nat→List (Nat×Nat×List (List V))→Prop
 | _,[]=>True
 | i,(off,sz,es)::r=>(S.findR i=some (off,es)∧∀e∈es,e.length=sz)∧Pg S (i+1) r
def Ul (S:St) (v:V) (nb:Nat) (t:De):Prop:=
 let NB:=Cx v.flat
 match Ji S (Rf nb++NB) with
 | some css=>
  let TS:=Fo (v.flat++css.flatten)
  Ku 33 [TS.length,NB.length]=true∧Dv (Pe TS NB) v=t.r∧Kv (Pe TS NB) css=t.bx∧Pg S 0 t.rw
 | none=>False
def aX (res:List Wg) (nb:Nat) (t:De) (S:St):Prop:=
 match lN S res with
 | some v=>Ul S v nb t
 | none=>False
def Mi:List V→Nat→List (Nat×V)
 | [],_=>[]
 | v::r,k=>(k,v)::Mi r (k+1)
def Mj:List (List V)→Nat→List (Nat×List V)
 | [],_=>[]
 | v::r,k=>(k,v)::Mj r (k+1)
def FQ (res:List Wg) (nb:Nat) (t:De):Ex→St→Prop
 | .normal,S | .ret,S=>∃S1,Fg S S1∧aX res nb t S1
 | .exit _,_=>False
def Mv (f:Nat→Nat):List V→Nat→List (Nat×Int)
 | [],_=>[]
 | .own _ _ (_+1) _::r,k=>(k,Fd+(f k:Int))::Mv f r (k+1)
 | _::r,k=>Mv f r (k+1)
def cP (C:Av) (fn:Er) (g:Md) (t:De):Prop:=g.args.length≤fn.nt∧(W C fn.body (FQ fn.res g.bx.length t) ⟨Mi g.args 0,Mj g.bx Am,[]⟩ ∨
 ∀f:Nat→Nat,(∀(k t off sz:Nat) (es:List (List V)),g.args[k]? = some (.own t off sz es)→sz≠0→es.length≤f k∧(off=0→f k≤9223372036854775807))→W C fn.body (FQ fn.res g.bx.length t) ⟨Mi g.args 0,Mj g.bx Am,Mv f g.args 0⟩)
end Go.Ev
