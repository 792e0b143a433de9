/- Functions of the small machine: what it means that a body comes to a result. -/
import Derived.Test.YtdmclbbhhcpjfaaQvC
set_option linter.all false
namespace Go.Ev
def Pm (S:St):Vc→Option V
 | .t n=>match look S.env n with
  | some (.may _ _)=>none
  | some v=>some v
  | none=>none
 | .cell a n ag=>match look S.env a with
  | some (.ptr t k)=>match look S.bx t with
   | some cs=>if k+n≤cs.length then Jl ag n (cs.drop k) else none
   | none=>none
  | _=>none
def Sp (S:St):List Vc→Option (List V)
 | []=>some []
 | x::r=>match Pm S x,Sp S r with
  | some v,some vs=>some (v::vs)
  | _,_=>none
def zA:V→Bool
 | .tup _=>true
 | _=>false
def zI (vs:List V):Option V:=
 match vs with
 | [v]=>some v
 | vs=>if vs.all (!zA ·) then some (.tup vs) else none
def iY (S:St) (l:List Vc):Option V:=
 match Sp S l with
 | some vs=>zI vs
 | none=>none
def Fe:List V→List Nat
 | []=>[]
 | .own t _ _ _::r=>let l:=Fe r
  if Am≤t || l.contains t then l else t::l
 | _::r=>Fe r
def Cn:List V→List Nat
 | []=>[]
 | .ptr t _::r=>let l:=Cn r
  if Am≤t || l.contains t then l else t::l
 | _::r=>Cn r
def Of (TS NB:List Nat):V→V
 | .own t off sz es=>if Am≤t then .own t off sz es else match Dk t TS 0 with
  | some e=>.own (tg t e) off sz es
  | none=>.undef
 | .ptr t k=>if Am≤t then .ptr t k else match Dk t NB 0 with
  | some e=>.ptr e k
  | none=>.undef
 | c=>Ge c
def Qa:Nat→List Nat
 | 0=>[]
 | n+1=>Qa n++[Am+n]
def Iv (S:St):List Nat→Option (List (List V))
 | []=>some []
 | t::r=>match look S.bx t,Iv S r with
  | some cs,some css=>some (cs::css)
  | _,_=>none
def St.findR (S:St) (i:Nat):Option (Nat×List (List V)):=
 match S.find (2097152+i) with
 | some x=>some x
 | none=>S.find (2097184+i)
def Og (S:St):Nat→List (Nat×Nat×List (List V))→Prop
 | _,[]=>True
 | i,(off,sz,es)::r=>(S.findR i=some (off,es)∧∀e∈es,e.length=sz)∧Og S (i+1) r
def Sv (S:St) (v:V) (nb:Nat) (t:Cs):Prop:=
 let NB:=Cn v.flat
 match Iv S (Qa nb++NB) with
 | some css=>
  let TS:=Fe (v.flat++css.flatten)
  Kh 33 [TS.length,NB.length]=true∧Dg (Of TS NB) v=t.r∧Ki (Of TS NB) css=t.bx∧Og S 0 t.rw
 | none=>False
def Zv (res:List Vc) (nb:Nat) (t:Cs) (S:St):Prop:=
 match iY S res with
 | some v=>Sv S v nb t
 | none=>False
def Lw:List V→Nat→List (Nat×V)
 | [],_=>[]
 | v::r,k=>(k,v)::Lw r (k+1)
def Lx:List (List V)→Nat→List (Nat×List V)
 | [],_=>[]
 | v::r,k=>(k,v)::Lx r (k+1)
def FQ (res:List Vc) (nb:Nat) (t:Cs):Ex→St→Prop
 | .normal,S | .ret,S=>∃S1,Fg S S1∧Zv res nb t S1
 | .exit _,_=>False
def Mi (f:Nat→Nat):List V→Nat→List (Nat×Int)
 | [],_=>[]
 | .own _ _ (_+1) _::r,k=>(k,Er+(f k:Int))::Mi f r (k+1)
 | _::r,k=>Mi f r (k+1)
def bL (C:Aq) (fn:Es) (g:Lq) (t:Cs):Prop:=g.args.length≤fn.nt∧(W C fn.body (FQ fn.res g.bx.length t) ⟨Lw g.args 0,Lx g.bx Am,[]⟩ ∨
 ∀f:Nat→Nat,(∀(k t off sz:Nat) (es:List (List V)),g.args[k]? = some (.own t off sz es)→sz≠0→es.length≤f k∧(off=0→f k≤9223372036854775807))→W C fn.body (FQ fn.res g.bx.length t) ⟨Lw g.args 0,Lx g.bx Am,Mi f g.args 0⟩)
end Go.Ev
