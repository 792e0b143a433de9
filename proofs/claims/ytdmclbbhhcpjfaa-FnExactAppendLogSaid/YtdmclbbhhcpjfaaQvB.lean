/- Functions of the small machine: what it means that a body comes to a result. -/
import Derived.Test.YtdmclbbhhcpjfaaQvC
set_option linter.all false
namespace Go.Ev
def Qw (S:St):Wr→Option V
 | .t n=>match look S.env n with
  | some (.may _ _)=>none
  | some v=>some v
  | none=>none
 | .cell a n ag=>match look S.env a with
  | some (.ptr t k)=>match look S.bx t with
   | some cs=>if k+n≤cs.length then Gs ag n (cs.drop k) else none
   | none=>none
  | _=>none
def Uh (S:St):List Wr→Option (List V)
 | []=>some []
 | x::r=>match Qw S x,Uh S r with
  | some v,some vs=>some (v::vs)
  | _,_=>none
def FK:V→Bool
 | .tup _=>true
 | _=>false
def FW (vs:List V):Option V:=
 match vs with
 | [v]=>some v
 | vs=>if vs.all (!FK ·) then some (.tup vs) else none
def mK (S:St) (l:List Wr):Option V:=
 match Uh S l with
 | some vs=>FW vs
 | none=>none
def Fn:List V→List Nat
 | []=>[]
 | .own t _ _ _::r=>let l:=Fn r
  if Am≤t || l.contains t then l else t::l
 | _::r=>Fn r
def Ct:List V→List Nat
 | []=>[]
 | .ptr t _::r=>let l:=Ct r
  if Am≤t || l.contains t then l else t::l
 | _::r=>Ct r
def Pm (TS NB:List Nat):V→V
 | .own t off sz es=>if Am≤t then .own t off sz es else match Dp t TS 0 with
  | some e=>.own (tg t e) off sz es
  | none=>.undef
 | .ptr t k=>if Am≤t then .ptr t k else match Dp t NB 0 with
  | some e=>.ptr e k
  | none=>.undef
 | c=>Gr c
def Rn:Nat→List Nat
 | 0=>[]
 | n+1=>Rn n++[Am+n]
def Jp (S:St):List Nat→Option (List (List V))
 | []=>some []
 | t::r=>match look S.bx t,Jp S r with
  | some cs,some css=>some (cs::css)
  | _,_=>none
def St.findR (S:St) (i:Nat):Option (Nat×List (List V)):=
 match S.find (2097152+i) with
 | some x=>some x
 | none=>S.find (2097184+i)
def Pn (S:St):Nat→List (Nat×Nat×List (List V))→Prop
 | _,[]=>True
 | i,(off,sz,es)::r=>(S.findR i=some (off,es)∧∀e∈es,e.length=sz)∧Pn S (i+1) r
def Uo (S:St) (v:V) (nb:Nat) (t:Cz):Prop:=
 let NB:=Ct v.flat
 match Jp S (Rn nb++NB) with
 | some css=>
  let TS:=Fn (v.flat++css.flatten)
  Ld 33 [TS.length,NB.length]=true∧Dn (Pm TS NB) v=t.r∧Lf (Pm TS NB) css=t.bx∧Pn S 0 t.rw
 | none=>False
def bN (res:List Wr) (nb:Nat) (t:Cz) (S:St):Prop:=
 match mK S res with
 | some v=>Uo S v nb t
 | none=>False
def My:List V→Nat→List (Nat×V)
 | [],_=>[]
 | v::r,k=>(k,v)::My r (k+1)
def Mz:List (List V)→Nat→List (Nat×List V)
 | [],_=>[]
 | v::r,k=>(k,v)::Mz r (k+1)
def FQ (res:List Wr) (nb:Nat) (t:Cz):Ex→St→Prop
 | .normal,S | .ret,S=>∃S1,Fg S S1∧bN res nb t S1
 | .exit _,_=>False
def Nn (f:Nat→Nat):List V→Nat→List (Nat×Int)
 | [],_=>[]
 | .own _ _ (_+1) _::r,k=>(k,Fb+(f k:Int))::Nn f r (k+1)
 | _::r,k=>Nn f r (k+1)
def dO (C:Ar) (fn:Dx) (g:Mr) (t:Cz):Prop:=g.args.length≤fn.nt∧(W C fn.body (FQ fn.res g.bx.length t) ⟨My g.args 0,Mz g.bx Am,[]⟩ ∨
 ∀f:Nat→Nat,(∀(k t off sz:Nat) (es:List (List V)),g.args[k]? = some (.own t off sz es)→sz≠0→es.length≤f k∧(off=0→f k≤9223372036854775807))→W C fn.body (FQ fn.res g.bx.length t) ⟨My g.args 0,Mz g.bx Am,Nn f g.args 0⟩)
end Go.Ev
