/- Functions of the small machine: what it means that a body comes to a result. -/
import Derived.Test.YtknpcenmkejaaaaQvC
set_option linter.all false
namespace Go.Ev
def Th (S:St):aM→Option V
 | .t n=>match look S.env n with
  | some (.may _ _)=>none
  | some v=>some v
  | none=>none
 | .cell a n ag=>match look S.env a with
  | some (.ptr t k)=>match look S.bx t with
   | some cs=>if k+n≤cs.length then Ih ag n (cs.drop k) else none
   | none=>none
  | _=>none
def Xu (S:St):List aM→Option (List V)
 | []=>some []
 | x::r=>match Th S x,Xu S r with
  | some v,some vs=>some (v::vs)
  | _,_=>none
def isTup:V→Bool
 | .tup _=>true
 | _=>false
def tupOf (vs:List V):Option V:=
 match vs with
 | [v]=>some v
 | vs=>if vs.all (!isTup ·) then some (.tup vs) else none
def uK (S:St) (l:List aM):Option V:=
 match Xu S l with
 | some vs=>tupOf vs
 | none=>none
def Hf:List V→List Nat
 | []=>[]
 | .own t _ _ _::r=>let l:=Hf r
  if Bd≤t || l.contains t then l else t::l
 | _::r=>Hf r
def Ee:List V→List Nat
 | []=>[]
 | .ptr t _::r=>let l:=Ee r
  if Bd≤t || l.contains t then l else t::l
 | _::r=>Ee r
def Ry (TS NB:List Nat):V→V
 | .own t off sz es=>if Bd≤t then .own t off sz es else match Fd t TS 0 with
  | some e=>.own (tg t e) off sz es
  | none=>.undef
 | .ptr t k=>if Bd≤t then .ptr t k else match Fd t NB 0 with
  | some e=>.ptr e k
  | none=>.undef
 | c=>If c
def Uf:Nat→List Nat
 | 0=>[]
 | n+1=>Uf n++[Bd+n]
def Ll (S:St):List Nat→Option (List (List V))
 | []=>some []
 | t::r=>match look S.bx t,Ll S r with
  | some cs,some css=>some (cs::css)
  | _,_=>none
def St.findR (S:St) (i:Nat):Option (Nat×List (List V)):=
 match S.find (2097152+i) with
 | some x=>some x
 | none=>S.find (2097184+i)
def Rz (S:St):Nat→List (Nat×Nat×List (List V))→Prop
 | _,[]=>True
 | i,(off,sz,es)::r=>(S.findR i=some (off,es)∧∀e∈es,e.length=sz)∧Rz S (i+1) r
def Yb (S:St) (v:V) (nb:Nat) (t:Ep):Prop:=
 let NB:=Ee v.flat
 match Ll S (Uf nb++NB) with
 | some css=>
  let TS:=Hf (v.flat++css.flatten)
  Na 33 [TS.length,NB.length]=true∧Ez (Ry TS NB) v=t.r∧Nb (Ry TS NB) css=t.bx∧Rz S 0 t.rw
 | none=>False
def gZ (res:List aM) (nb:Nat) (t:Ep) (S:St):Prop:=
 match uK S res with
 | some v=>Yb S v nb t
 | none=>False
def Pb:List V→Nat→List (Nat×V)
 | [],_=>[]
 | v::r,k=>(k,v)::Pb r (k+1)
def Pc:List (List V)→Nat→List (Nat×List V)
 | [],_=>[]
 | v::r,k=>(k,v)::Pc r (k+1)
def FQ (res:List aM) (nb:Nat) (t:Ep):Ex→St→Prop
 | .normal,S | .ret,S=>∃S1,Fg S S1∧gZ res nb t S1
 | .exit _,_=>False
def Pp (f:Nat→Nat):List V→Nat→List (Nat×Int)
 | [],_=>[]
 | .own _ _ (_+1) _::r,k=>(k,Ei+(f k:Int))::Pp f r (k+1)
 | _::r,k=>Pp f r (k+1)
def kG (C:Az) (fn:Dl) (g:Ow) (t:Ep):Prop:=g.args.length≤fn.nt∧(W C fn.body (FQ fn.res g.bx.length t) ⟨Pb g.args 0,Pc g.bx Bd,[]⟩ ∨
 ∀f:Nat→Nat,(∀(k t off sz:Nat) (es:List (List V)),g.args[k]? = some (.own t off sz es)→sz≠0→es.length≤f k∧(off=0→f k≤9223372036854775807))→W C fn.body (FQ fn.res g.bx.length t) ⟨Pb g.args 0,Pc g.bx Bd,Pp f g.args 0⟩)
end Go.Ev
