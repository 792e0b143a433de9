/- Functions of the small machine: what it means that a body comes to a result. -/
import Derived.Test.YtdmclbbhhcpjfaaQvC
set_option linter.all false
namespace Go.Ev
def resOne (S : St) : Res → Option V
 | .t n => match look S.env n with
  | some (.may _ _) => none
  | some v => some v
  | none => none
 | .cell a n ag => match look S.env a with
  | some (.ptr t k) => match look S.bx t with
   | some cs => if k + n ≤ cs.length then oneOf ag n (cs.drop k) else none
   | none => none
  | _ => none
def resAll (S : St) : List Res → Option (List V)
 | [] => some []
 | x :: r => match resOne S x, resAll S r with
  | some v, some vs => some (v :: vs)
  | _, _ => none
def isTup : V → Bool
 | .tup _ => true
 | _ => false
def tupOf (vs : List V) : Option V :=
 match vs with
 | [v] => some v
 | vs => if vs.all (!isTup ·) then some (.tup vs) else none
def resV (S : St) (l : List Res) : Option V :=
 match resAll S l with
 | some vs => tupOf vs
 | none => none
def rowsOf : List V → List Nat
 | [] => []
 | .own t _ _ _ :: r => let l := rowsOf r
  if pin0 ≤ t || l.contains t then l else t :: l
 | _ :: r => rowsOf r
def boxesOf : List V → List Nat
 | [] => []
 | .ptr t _ :: r => let l := boxesOf r
  if pin0 ≤ t || l.contains t then l else t :: l
 | _ :: r => boxesOf r
def renC (TS NB : List Nat) : V → V
 | .own t off sz es => if pin0 ≤ t then .own t off sz es else match place t TS 0 with
  | some e => .own e off sz es
  | none => .undef
 | .ptr t k => if pin0 ≤ t then .ptr t k else match place t NB 0 with
  | some e => .ptr e k
  | none => .undef
 | c => base1 c
def pinBs : Nat → List Nat
 | 0 => []
 | n + 1 => pinBs n ++ [pin0 + n]
def lookAll (S : St) : List Nat → Option (List (List V))
 | [] => some []
 | t :: r => match look S.bx t, lookAll S r with
  | some cs, some css => some (cs :: css)
  | _, _ => none
def rowsBack (S : St) : Nat → List (Nat × Nat × List (List V)) → Prop
 | _, [] => True
 | i, (off, sz, es) :: r => (S.find (2097152 + i) = some (off, es) ∧ ∀ e ∈ es, e.length = sz) ∧ rowsBack S (i + 1) r
def takeOK (S : St) (v : V) (nb : Nat) (t : Take) : Prop :=
 let NB := boxesOf v.flat
 match lookAll S (pinBs nb ++ NB) with
 | some css =>
  let TS := rowsOf (v.flat ++ css.flatten)
  less 65 [TS.length, NB.length] = true ∧ mapV (renC TS NB) v = t.r ∧ mapBs (renC TS NB) css = t.bx ∧ rowsBack S 0 t.rw
 | none => False
def RetOK (res : List Res) (nb : Nat) (t : Take) (S : St) : Prop :=
 match resV S res with
 | some v => takeOK S v nb t
 | none => False
def enumA : List V → Nat → List (Nat × V)
 | [], _ => []
 | v :: r, k => (k, v) :: enumA r (k + 1)
def enumB : List (List V) → Nat → List (Nat × List V)
 | [], _ => []
 | v :: r, k => (k, v) :: enumB r (k + 1)
def FQ (res : List Res) (nb : Nat) (t : Take) : Ex → St → Prop
 | .normal, S | .ret, S => ∃ S1, Fg S S1 ∧ RetOK res nb t S1
 | .exit _, _ => False
def capsIn (f : Nat → Nat) : List V → Nat → List (Nat × Int)
 | [], _ => []
 | .own _ _ (_ + 1) _ :: r, k => (k, xcap + (f k : Int)) :: capsIn f r (k + 1)
 | _ :: r, k => capsIn f r (k + 1)
def FnOK (C : CRel) (fn : XFn) (g : Give) (t : Take) : Prop := g.args.length ≤ fn.nt ∧ (W C fn.body (FQ fn.res g.bx.length t) ⟨enumA g.args 0, enumB g.bx pin0, []⟩ ∨
 ∀ f : Nat → Nat, (∀ (k t off sz : Nat) (es : List (List V)), g.args[k]? = some (.own t off sz es) → sz ≠ 0 → es.length ≤ f k ∧ (off = 0 → f k ≤ 9223372036854775807)) → W C fn.body (FQ fn.res g.bx.length t) ⟨enumA g.args 0, enumB g.bx pin0, capsIn f g.args 0⟩)
end Go.Ev
