/- Functions of the small machine: what it means that a body comes to a result. -/
import Derived.Test.YtnkhjipmmomjoaaGreatQvC
set_option linter.all false
namespace Go.Ev
def Wd (S:St):dC→Option V
 | .t n=>match look S.env n with
  | some (.may _ _)=>none
  | some v=>some v
  | none=>none
 | .cell a n ag=>match look S.env a with
  | some (.ptr t k)=>match look S.bx t with
   | some cs=>if k+n≤cs.length then Ic ag n (cs.drop k) else none
   | none=>none
  | _=>none
def bR (S:St):List dC→Option (List V)
 | []=>some []
 | x::r=>match Wd S x,bR S r with
  | some v,some vs=>some (v::vs)
  | _,_=>none
def isTup:V→Bool
 | .tup _=>true
 | _=>false
def tupOf (vs:List V):Option V:=
 match vs with
 | [v]=>some v
 | vs=>if vs.all (!isTup ·) then some (.tup vs) else none
def ED (S:St) (l:List dC):Option V:=
 match bR S l with
 | some vs=>tupOf vs
 | none=>none
def Iy:List V→List Nat
 | []=>[]
 | .own t _ _ _::r=>let l:=Iy r
  if Cv≤t || l.contains t then l else t::l
 | _::r=>Iy r
def Fn:List V→List Nat
 | []=>[]
 | .ptr t _::r=>let l:=Fn r
  if Cv≤t || l.contains t then l else t::l
 | _::r=>Fn r
def Va (TS NB:List Nat):V→V
 | .own t off sz es=>if Cv≤t then .own t off sz es else match Gy t TS 0 with
  | some e=>.own e off sz es
  | none=>.undef
 | .ptr t k=>if Cv≤t then .ptr t k else match Gy t NB 0 with
  | some e=>.ptr e k
  | none=>.undef
 | c=>Jx c
def Wy:Nat→List Nat
 | 0=>[]
 | n+1=>Wy n++[Cv+n]
def Nk (S:St):List Nat→Option (List (List V))
 | []=>some []
 | t::r=>match look S.bx t,Nk S r with
  | some cs,some css=>some (cs::css)
  | _,_=>none
def Vb (S:St):Nat→List (Nat×Nat×List (List V))→Prop
 | _,[]=>True
 | i,(off,sz,es)::r=>(S.find (2097152+i)=some (off,es)∧∀e∈es,e.length=sz)∧Vb S (i+1) r
def cA (S:St) (v:V) (nb:Nat) (t:Fq):Prop:=
 let NB:=Fn v.flat
 match Nk S (Wy nb++NB) with
 | some css=>
  let TS:=Iy (v.flat++css.flatten)
  Pn 65 [TS.length,NB.length]=true∧Gj (Va TS NB) v=t.r∧Po (Va TS NB) css=t.bx∧Vb S 0 t.rw
 | none=>False
def oB (res:List dC) (nb:Nat) (t:Fq) (S:St):Prop:=
 match ED S res with
 | some v=>cA S v nb t
 | none=>False
def Oz:List V→Nat→List (Nat×V)
 | [],_=>[]
 | v::r,k=>(k,v)::Oz r (k+1)
def Pa:List (List V)→Nat→List (Nat×List V)
 | [],_=>[]
 | v::r,k=>(k,v)::Pa r (k+1)
def FQ (res:List dC) (nb:Nat) (t:Fq):Ex→St→Prop
 | .normal,S | .ret,S=>∃S1,Fg S S1∧oB res nb t S1
 | .exit _,_=>False
def Ox (f:Nat→Nat):List V→Nat→List (Nat×Int)
 | [],_=>[]
 | .own _ _ (_+1) _::r,k=>(k,Et+(f k:Int))::Ox f r (k+1)
 | _::r,k=>Ox f r (k+1)
def iC (C:Bi) (fn:Dj) (g:Gq) (t:Fq):Prop:=g.args.length≤fn.nt∧(W C fn.body (FQ fn.res g.bx.length t) ⟨Oz g.args 0,Pa g.bx Cv,[]⟩ ∨
 ∀f:Nat→Nat,(∀(k t off sz:Nat) (es:List (List V)),g.args[k]? = some (.own t off sz es)→sz≠0→es.length≤f k∧(off=0→f k≤9223372036854775807))→W C fn.body (FQ fn.res g.bx.length t) ⟨Oz g.args 0,Pa g.bx Cv,Ox f g.args 0⟩)
end Go.Ev
