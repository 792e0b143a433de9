/- Plain words of names: which bytes may stand in them. -/
import Derived.Test.YtdmclbbhhcpjfaaQwL
set_option linter.all false
namespace Go.Ev

/-- May a byte be printed? -/
noncomputable def pc (y : UInt8) : Bool := (g338 y).getD false
set_option maxRecDepth 100000 in
theorem g338_eq (y : UInt8) : g338 y = some (pc y) := by
  revert y
  refine byte_cases ?_
  decide +kernel
def pcs0 (y : UInt8) : Bool := bif (bif (bif (decide (((y).toNat : Int) ≥ 48)) then (decide (((y).toNat : Int) ≤ 57)) else false) then true else (bif (decide (((y).toNat : Int) ≥ 65)) then (decide (((y).toNat : Int) ≤ 90)) else false)) then true else (bif (decide (((y).toNat : Int) ≥ 97)) then (decide (((y).toNat : Int) ≤ 122)) else false)
theorem signs_eq (y : UInt8) : iter (g279_l1 y) (pcs0 y, 0) = some (pc y) := by
  refine iter_some.2 ⟨20, ?_⟩
  revert y
  refine byte_cases ?_
  decide +kernel
theorem g279_eq (t : List UInt8) (hl : t.length ≤ 4611686018427387903) : g279 t = some (t.all pc) := by
  rw [← range_all]
  refine all_loop (n := t.length) (step := g279_l0 t) (fun k => pc (t[k]?.getD default)) (fun k hk _ => ?_) ?_
  · simp only [g279_l0]
    rw [if_pos (decide_eq_true (by omega)), idx_lt hk, List.getElem?_eq_getElem hk]
    generalize t[k] = y
    have := signs_eq y
    simp only [pcs0] at this
    simp only [Option.bind_some, g335, bindv, this, Option.getD_some, w1 (show k < 4611686018427387904 by omega)]
  · simp only [g279_l0]
    rw [if_neg (by simp)]
noncomputable def nmOK (t : List UInt8) : Bool := decide (1 ≤ t.length) && decide (t.length ≤ 40) && t.all pc
theorem g278_eq (t : List UInt8) (hl : t.length ≤ 4611686018427387903) : g278 t = some (nmOK t) := by
  have e1 : decide ((t.length : Int) > 0) = decide (1 ≤ t.length) := decide_eq_decide.2 (by omega)
  have e2 : decide ((t.length : Int) ≤ 40) = decide (t.length ≤ 40) := decide_eq_decide.2 (by omega)
  simp only [g278, g279_eq t hl, bindv, e1, e2, nmOK]
  cases decide (1 ≤ t.length) <;> cases decide (t.length ≤ 40) <;> rfl
theorem g283_eq (t : List UInt8) (hl : t.length ≤ 4611686018427387903) : g283 t = some (t.all pc) := by
  simp only [g283, g337_eq t _ pc (fun x _ => g338_eq x) hl, Option.bind_some]
theorem g281_eq (t : List UInt8) (hl : t.length ≤ 4611686018427387903) : g281 t = some (nmOK t) := by
  have e1 : decide (1 ≤ (t.length : Int)) = decide (1 ≤ t.length) := decide_eq_decide.2 (by omega)
  have e2 : decide ((t.length : Int) ≤ 40) = decide (t.length ≤ 40) := decide_eq_decide.2 (by omega)
  simp only [g281, g63, g283_eq t hl, e1, e2, nmOK]
  cases decide (1 ≤ t.length) <;> cases decide (t.length ≤ 40) <;> rfl
end Go.Ev
