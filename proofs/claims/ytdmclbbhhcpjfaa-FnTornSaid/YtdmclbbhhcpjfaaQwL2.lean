/- Plain lemmas of searches, copies and comparisons, written by a program of ours. -/
import Derived.Test.YtdmclbbhhcpjfaaQwK
import Derived.Test.YtdmclbbhhcpjfaaQgD
set_option linter.all false
set_option linter.all false
namespace Go.Ev
/- slices.IndexFunc[[]impl.Sector,impl.Sector] -/
theorem g367_eq (l : List DSector) (f : DSector → Option Bool) (p : DSector → Bool) (hf : ∀ x ∈ l, f x = some (p x)) (hl : l.length ≤ 4611686018427387903) : g367 l f = some (firstOf l p) := index_loop l f p hf hl (fun _ => rfl)
/- slices.ContainsFunc[[]impl.Sector,impl.Sector] -/
theorem g329_eq (l : List DSector) (f : DSector → Option Bool) (p : DSector → Bool) (hf : ∀ x ∈ l, f x = some (p x)) (hl : l.length ≤ 4611686018427387903) : g329 l f = some (l.any p) := by
  unfold g329; rw [g367_eq l f p hf hl]; simp only [Option.bind_some, firstOf_ge]
/- impl.areAll[impl.Sector] -/
theorem g270_eq (l : List DSector) (f : DSector → Option Bool) (p : DSector → Bool) (hf : ∀ x ∈ l, f x = some (p x)) (hl : l.length ≤ 4611686018427387903) : g270 l f = some (l.all p) := by
  unfold g270; rw [g329_eq l _ (fun x => !p x) (fun x hx => by simp [g330, hf x hx]) hl]; simp only [Option.bind_some, all_any]
/- slices.Clone[[]byte,byte] -/
theorem g325_eq (l : List UInt8) (hl : l.length ≤ 1048576) : g325 l = some l := by
  unfold g325; rw [if_pos (by simp; omega)]
end Go.Ev
