/- Functions of the small machine: what it means that a body comes to a result. -/
import Derived.Test.YtdmclbbhhcpjfaaQvC
set_option linter.all false
namespace Go.Ev
def Ux (S : St) : bK → Option V
 | .t n => match look S.env n with
  | some (.may _ _) => none
  | some v => some v
  | none => none
 | .cell a n ag => match look S.env a with
  | some (.ptr t k) => match look S.bx t with
   | some cs => if k + n ≤ cs.length then Lz ag n (cs.drop k) else none
   | none => none
  | _ => none
def Zy (S : St) : List bK → Option (List V)
 | [] => some []
 | x :: r => match Ux S x, Zy S r with
  | some v, some vs => some (v :: vs)
  | _, _ => none
def UY : V → Bool
 | .tup _ => true
 | _ => false
def VM (vs : List V) : Option V :=
 match vs with
 | [v] => some v
 | vs => if vs.all (!UY ·) then some (.tup vs) else none
def yM (S : St) (l : List bK) : Option V :=
 match Zy S l with
 | some vs => VM vs
 | none => none
def Hw : List V → List Nat
 | [] => []
 | .own t _ _ _ :: r => let l := Hw r
  if Ct ≤ t || l.contains t then l else t :: l
 | _ :: r => Hw r
def Fa : List V → List Nat
 | [] => []
 | .ptr t _ :: r => let l := Fa r
  if Ct ≤ t || l.contains t then l else t :: l
 | _ :: r => Fa r
def Tr (TS NB : List Nat) : V → V
 | .own t off sz es => if Ct ≤ t then .own t off sz es else match Gh t TS 0 with
  | some e => .own e off sz es
  | none => .undef
 | .ptr t k => if Ct ≤ t then .ptr t k else match Gh t NB 0 with
  | some e => .ptr e k
  | none => .undef
 | c => Iy c
def Vr : Nat → List Nat
 | 0 => []
 | n + 1 => Vr n ++ [Ct + n]
def Mr (S : St) : List Nat → Option (List (List V))
 | [] => some []
 | t :: r => match look S.bx t, Mr S r with
  | some cs, some css => some (cs :: css)
  | _, _ => none
def Tt (S : St) : Nat → List (Nat × Nat × List (List V)) → Prop
 | _, [] => True
 | i, (off, sz, es) :: r => (S.find (2097152 + i) = some (off, es) ∧ ∀ e ∈ es, e.length = sz) ∧ Tt S (i + 1) r
def aG (S : St) (v : V) (nb : Nat) (t : Ft) : Prop :=
 let NB := Fa v.flat
 match Mr S (Vr nb ++ NB) with
 | some css =>
  let TS := Hw (v.flat ++ css.flatten)
  Rm 65 [TS.length, NB.length] = true ∧ Hy (Tr TS NB) v = t.r ∧ Ol (Tr TS NB) css = t.bx ∧ Tt S 0 t.rw
 | none => False
def mE (res : List bK) (nb : Nat) (t : Ft) (S : St) : Prop :=
 match yM S res with
 | some v => aG S v nb t
 | none => False
def Qo : List V → Nat → List (Nat × V)
 | [], _ => []
 | v :: r, k => (k, v) :: Qo r (k + 1)
def Qp : List (List V) → Nat → List (Nat × List V)
 | [], _ => []
 | v :: r, k => (k, v) :: Qp r (k + 1)
def FQ (res : List bK) (nb : Nat) (t : Ft) : Ex → St → Prop
 | .normal, S | .ret, S => ∃ S1, Fg S S1 ∧ mE res nb t S1
 | .exit _, _ => False
def Ns (f : Nat → Nat) : List V → Nat → List (Nat × Int)
 | [], _ => []
 | .own _ _ (_ + 1) _ :: r, k => (k, Gb + (f k : Int)) :: Ns f r (k + 1)
 | _ :: r, k => Ns f r (k + 1)
def Cp (C : Bc) (fn : El) (g : Rv) (t : Ft) : Prop := g.args.length ≤ fn.nt ∧ (W C fn.body (FQ fn.res g.bx.length t) ⟨Qo g.args 0, Qp g.bx Ct, []⟩ ∨
 ∀ f : Nat → Nat, (∀ (k t off sz : Nat) (es : List (List V)), g.args[k]? = some (.own t off sz es) → sz ≠ 0 → es.length ≤ f k ∧ (off = 0 → f k ≤ 9223372036854775807)) → W C fn.body (FQ fn.res g.bx.length t) ⟨Qo g.args 0, Qp g.bx Ct, Ns f g.args 0⟩)
end Go.Ev
