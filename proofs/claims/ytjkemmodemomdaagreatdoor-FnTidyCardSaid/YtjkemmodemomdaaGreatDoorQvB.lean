/- Functions of the small machine: what it means that a body comes to a result. -/
import Derived.Test.YtjkemmodemomdaaGreatDoorQvC
set_option linter.all false
namespace Go.Ev
def Nu (S:St):Su→Option V
 | .t n=>match look S.env n with
  | some (.may _ _)=>none
  | some v=>some v
  | none=>none
 | .cell a n ag=>match look S.env a with
  | some (.ptr t k)=>match look S.bx t with
   | some cs=>if k+n≤cs.length then Iz ag n (cs.drop k) else none
   | none=>none
  | _=>none
def Qz (S:St):List Su→Option (List V)
 | []=>some []
 | x::r=>match Nu S x,Qz S r with
  | some v,some vs=>some (v::vs)
  | _,_=>none
def qE:V→Bool
 | .tup _=>true
 | _=>false
def qP (vs:List V):Option V:=
 match vs with
 | [v]=>some v
 | vs=>if vs.all (!qE ·) then some (.tup vs) else none
def dT (S:St) (l:List Su):Option V:=
 match Qz S l with
 | some vs=>qP vs
 | none=>none
def Fe:List V→List Nat
 | []=>[]
 | .own t _ _ _::r=>let l:=Fe r
  if Au≤t || l.contains t then l else t::l
 | _::r=>Fe r
def Cw:List V→List Nat
 | []=>[]
 | .ptr t _::r=>let l:=Cw r
  if Au≤t || l.contains t then l else t::l
 | _::r=>Cw r
def My (TS NB:List Nat):V→V
 | .own t off sz es=>if Au≤t then .own t off sz es else match Ds t TS 0 with
  | some e=>.own (tg t e) off sz es
  | none=>.undef
 | .ptr t k=>if Au≤t then .ptr t k else match Ds t NB 0 with
  | some e=>.ptr e k
  | none=>.undef
 | c=>Gi c
def On:Nat→List Nat
 | 0=>[]
 | n+1=>On n++[Au+n]
def Io (S:St):List Nat→Option (List (List V))
 | []=>some []
 | t::r=>match look S.bx t,Io S r with
  | some cs,some css=>some (cs::css)
  | _,_=>none
def St.findR (S:St) (i:Nat):Option (Nat×List (List V)):=
 match S.find (2097152+i) with
 | some x=>some x
 | none=>S.find (2097184+i)
def Mz (S:St):Nat→List (Nat×Nat×List (List V))→Prop
 | _,[]=>True
 | i,(off,sz,es)::r=>(S.findR i=some (off,es)∧∀e∈es,e.length=sz)∧Mz S (i+1) r
def Rd (S:St) (v:V) (nb:Nat) (t:Dh):Prop:=
 let NB:=Cw v.flat
 match Io S (On nb++NB) with
 | some css=>
  let TS:=Fe (v.flat++css.flatten)
  Lv 33 [TS.length,NB.length]=true∧Ft (My TS NB) v=t.r∧Jy (My TS NB) css=t.bx∧Mz S 0 t.rw
 | none=>False
def Xo (res:List Su) (nb:Nat) (t:Dh) (S:St):Prop:=
 match dT S res with
 | some v=>Rd S v nb t
 | none=>False
def Lb:List V→Nat→List (Nat×V)
 | [],_=>[]
 | v::r,k=>(k,v)::Lb r (k+1)
def Lc:List (List V)→Nat→List (Nat×List V)
 | [],_=>[]
 | v::r,k=>(k,v)::Lc r (k+1)
def FQ (res:List Su) (nb:Nat) (t:Dh):Ex→St→Prop
 | .normal,S | .ret,S=>∃S1,Fg S S1∧Xo res nb t S1
 | .exit _,_=>False
def Lp (f:Nat→Nat):List V→Nat→List (Nat×Int)
 | [],_=>[]
 | .own _ _ (_+1) _::r,k=>(k,Fj+(f k:Int))::Lp f r (k+1)
 | _::r,k=>Lp f r (k+1)
def Yy (C:Bb) (fn:Es) (g:Lj) (t:Dh):Prop:=g.args.length≤fn.nt∧(W C fn.body (FQ fn.res g.bx.length t) ⟨Lb g.args 0,Lc g.bx Au,[]⟩ ∨
 ∀f:Nat→Nat,(∀(k t off sz:Nat) (es:List (List V)),g.args[k]? = some (.own t off sz es)→sz≠0→es.length≤f k∧(off=0→f k≤9223372036854775807))→W C fn.body (FQ fn.res g.bx.length t) ⟨Lb g.args 0,Lc g.bx Au,Lp f g.args 0⟩)
end Go.Ev
