/- Functions of the small machine: what it means that a body comes to a result. -/
import Derived.Test.YtikhmmocfceliaaGreatQvC
set_option linter.all false
namespace Go.Ev
def Wq (S:St):dC→Option V
 | .t n=>match look S.env n with
  | some (.may _ _)=>none
  | some v=>some v
  | none=>none
 | .cell a n ag=>match look S.env a with
  | some (.ptr t k)=>match look S.bx t with
   | some cs=>if k+n≤cs.length then Hy ag n (cs.drop k) else none
   | none=>none
  | _=>none
def bS (S:St):List dC→Option (List V)
 | []=>some []
 | x::r=>match Wq S x,bS S r with
  | some v,some vs=>some (v::vs)
  | _,_=>none
def isTup:V→Bool
 | .tup _=>true
 | _=>false
def tupOf (vs:List V):Option V:=
 match vs with
 | [v]=>some v
 | vs=>if vs.all (!isTup ·) then some (.tup vs) else none
def FS (S:St) (l:List dC):Option V:=
 match bS S l with
 | some vs=>tupOf vs
 | none=>none
def Je:List V→List Nat
 | []=>[]
 | .own t _ _ _::r=>let l:=Je r
  if Ch≤t || l.contains t then l else t::l
 | _::r=>Je r
def Fn:List V→List Nat
 | []=>[]
 | .ptr t _::r=>let l:=Fn r
  if Ch≤t || l.contains t then l else t::l
 | _::r=>Fn r
def Vj (TS NB:List Nat):V→V
 | .own t off sz es=>if Ch≤t then .own t off sz es else match Ha t TS 0 with
  | some e=>.own (tg t e) off sz es
  | none=>.undef
 | .ptr t k=>if Ch≤t then .ptr t k else match Ha t NB 0 with
  | some e=>.ptr e k
  | none=>.undef
 | c=>Kd c
def Xl:Nat→List Nat
 | 0=>[]
 | n+1=>Xl n++[Ch+n]
def Nv (S:St):List Nat→Option (List (List V))
 | []=>some []
 | t::r=>match look S.bx t,Nv S r with
  | some cs,some css=>some (cs::css)
  | _,_=>none
def St.findR (S:St) (i:Nat):Option (Nat×List (List V)):=
 match S.find (2097152+i) with
 | some x=>some x
 | none=>S.find (2097184+i)
def Vk (S:St):Nat→List (Nat×Nat×List (List V))→Prop
 | _,[]=>True
 | i,(off,sz,es)::r=>(S.findR i=some (off,es)∧∀e∈es,e.length=sz)∧Vk S (i+1) r
def cA (S:St) (v:V) (nb:Nat) (t:Fu):Prop:=
 let NB:=Fn v.flat
 match Nv S (Xl nb++NB) with
 | some css=>
  let TS:=Je (v.flat++css.flatten)
  Px 33 [TS.length,NB.length]=true∧Gh (Vj TS NB) v=t.r∧Py (Vj TS NB) css=t.bx∧Vk S 0 t.rw
 | none=>False
def oG (res:List dC) (nb:Nat) (t:Fu) (S:St):Prop:=
 match FS S res with
 | some v=>cA S v nb t
 | none=>False
def Rv:List V→Nat→List (Nat×V)
 | [],_=>[]
 | v::r,k=>(k,v)::Rv r (k+1)
def Rw:List (List V)→Nat→List (Nat×List V)
 | [],_=>[]
 | v::r,k=>(k,v)::Rw r (k+1)
def FQ (res:List dC) (nb:Nat) (t:Fu):Ex→St→Prop
 | .normal,S | .ret,S=>∃S1,Fg S S1∧oG res nb t S1
 | .exit _,_=>False
def Sl (f:Nat→Nat):List V→Nat→List (Nat×Int)
 | [],_=>[]
 | .own _ _ (_+1) _::r,k=>(k,Fm+(f k:Int))::Sl f r (k+1)
 | _::r,k=>Sl f r (k+1)
def kZ (C:Bl) (fn:Dv) (g:Gq) (t:Fu):Prop:=g.args.length≤fn.nt∧(W C fn.body (FQ fn.res g.bx.length t) ⟨Rv g.args 0,Rw g.bx Ch,[]⟩ ∨
 ∀f:Nat→Nat,(∀(k t off sz:Nat) (es:List (List V)),g.args[k]? = some (.own t off sz es)→sz≠0→es.length≤f k∧(off=0→f k≤9223372036854775807))→W C fn.body (FQ fn.res g.bx.length t) ⟨Rv g.args 0,Rw g.bx Ch,Sl f g.args 0⟩)
end Go.Ev
