/- What slices.SortFunc makes of a list, where its comparison is fit. -/
import Derived.Sort.Defs
import Derived.Sort.Statements
import Derived.Lib.BitFns
set_option linter.all false
namespace Go.Ev
open Classical in
noncomputable def vI {α:Type} [Inhabited α] (l:List α) (f:α→α→Option Int):Option (List α):=
 if (∀x y,∃n,f x y=some n)∧Go.Sort.SWO (fun x y=>decide ((f x y).getD 0<0))∧l.length≤1048576 then
  some (Go.Sort.pdq (fun x y=>decide ((f x y).getD 0<0)) l.toArray 0 l.length (Lib.bitLen l.length) true true).toList
 else none
end Go.Ev
