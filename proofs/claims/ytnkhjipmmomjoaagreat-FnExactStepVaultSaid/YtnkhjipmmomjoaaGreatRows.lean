/-
  No cell of these rows narrows 'for every input' (looked for: loops, veiled, ifaces, maps, wideKeys, modest, calm, conditions, laid).
  DERIVED. THE GIVEN ROWS OF THIS SEAT. 5 by the template 'for every input the law returns true; each argument reads behind the call as it read before'; 0 by the template 'total and deterministic' (their statements: YtnkhjipmmomjoaaGreatTotals.lean).
  GIVEN WITH THE SEED: the statements are not yours to turn. If you find one false, say at which input.
  Laid BY PROGRAM, IN A SANDBOX (cutbox-rows.mjs): the forced cells as the released guide's own fill.sh prints them over the translation 8245323c312f455d… (all of the seat's roots in one cut). By AI agents, Wed Nov 11 2026. No macro, syntax, notation, axiom, sorry.
-/
import Derived.Test.YtnkhjipmmomjoaaGreatChecked
import GoSem.Claim
import GoSem.ClaimJoined
import GoSem.ClaimMapViews
import Derived.JoinedTies
import Derived.KernelRfl
namespace Go.Proofs.YtnkhjipmmomjoaaGreat
/- THE CELL 'sum', in the pinned program and in every row, IS THE sha256 OF THE DUMP (.gsa) THAT YtnkhjipmmomjoaaGreatProg.lean LOADS. Nothing in Lean hashes anything: it is a label: what it is worth is what the hold of that sum in a sandbox is worth. -/
noncomputable def Tryz.pinned : Pinned := { name := "ytnkhjipmmomjoaagreat", sum := "8245323c312f455d90ae4c17fd313d847b61187e5e7b9339f13041905660f7e5", checked := Tryz.checked }
namespace Rows
def none {H : Type} : Left H := { results := [], args := [] }

/-- 'laws.FnTop': WHATEVER THE INPUT: true; the input reads as it did. -/
def fnTopSpec : ChangeSpec := { name := "fnTop", fn := fun _ => fun
  | [d1, d2] => { results := [.lit (.bool true)], args := [d1, d2] }
  | _ => none }
def fnTopRow : OpenClaim := { program := "ytnkhjipmmomjoaagreat", sum := "8245323c312f455d90ae4c17fd313d847b61187e5e7b9339f13041905660f7e5", func := "loop.example/g00149/laws.FnTop", spec := "fnTop", inPlace := ["slices.overlaps[int]", "internal/bytealg.abigen_runtime_cmpstring", "slices.overlaps[loop.example/g00149/impl.Pair]", "internal/bytealg.IndexByteString"], unfollowed := true, recurses := true, apart := false }
def FnTopSaid : Prop := fnTopRow.holds Tryz.pinned (OpenSpec.ofChange fnTopSpec)

/-- ITS FALSE NEIGHBOUR: 'it returns false'. Refute it at one input. -/
def fnTopWrong : ChangeSpec := { name := "fnTop", fn := fun _ => fun
  | [d1, d2] => { results := [.lit (.bool false)], args := [d1, d2] }
  | _ => none }
def FnTopWrongFalsely : Prop := fnTopRow.holds Tryz.pinned (OpenSpec.ofChange fnTopWrong)

/-- 'laws.FnDrains': WHATEVER THE INPUT: true; the input reads as it did. -/
def fnDrainsSpec : ChangeSpec := { name := "fnDrains", fn := fun _ => fun
  | [d] => { results := [.lit (.bool true)], args := [d] }
  | _ => none }
def fnDrainsRow : OpenClaim := { program := "ytnkhjipmmomjoaagreat", sum := "8245323c312f455d90ae4c17fd313d847b61187e5e7b9339f13041905660f7e5", func := "loop.example/g00149/laws.FnDrains", spec := "fnDrains", inPlace := ["slices.overlaps[int]"], unfollowed := true, recurses := true, apart := false }
def FnDrainsSaid : Prop := fnDrainsRow.holds Tryz.pinned (OpenSpec.ofChange fnDrainsSpec)

/-- ITS FALSE NEIGHBOUR: 'it returns false'. Refute it at one input. -/
def fnDrainsWrong : ChangeSpec := { name := "fnDrains", fn := fun _ => fun
  | [d] => { results := [.lit (.bool false)], args := [d] }
  | _ => none }
def FnDrainsWrongFalsely : Prop := fnDrainsRow.holds Tryz.pinned (OpenSpec.ofChange fnDrainsWrong)

/-- 'laws.FnOwned': WHATEVER THE INPUT: true; the input reads as it did. -/
def fnOwnedSpec : ChangeSpec := { name := "fnOwned", fn := fun _ => fun
  | [d] => { results := [.lit (.bool true)], args := [d] }
  | _ => none }
def fnOwnedRow : OpenClaim := { program := "ytnkhjipmmomjoaagreat", sum := "8245323c312f455d90ae4c17fd313d847b61187e5e7b9339f13041905660f7e5", func := "loop.example/g00149/laws.FnOwned", spec := "fnOwned", inPlace := ["slices.overlaps[int]"], unfollowed := true, recurses := true, apart := false }
def FnOwnedSaid : Prop := fnOwnedRow.holds Tryz.pinned (OpenSpec.ofChange fnOwnedSpec)

/-- ITS FALSE NEIGHBOUR: 'it returns false'. Refute it at one input. -/
def fnOwnedWrong : ChangeSpec := { name := "fnOwned", fn := fun _ => fun
  | [d] => { results := [.lit (.bool false)], args := [d] }
  | _ => none }
def FnOwnedWrongFalsely : Prop := fnOwnedRow.holds Tryz.pinned (OpenSpec.ofChange fnOwnedWrong)

/-- 'laws.FnExactRunVault': WHATEVER THE INPUT: true; the input reads as it did. -/
def fnExactRunVaultSpec : ChangeSpec := { name := "fnExactRunVault", fn := fun _ => fun
  | [d] => { results := [.lit (.bool true)], args := [d] }
  | _ => none }
def fnExactRunVaultRow : OpenClaim := { program := "ytnkhjipmmomjoaagreat", sum := "8245323c312f455d90ae4c17fd313d847b61187e5e7b9339f13041905660f7e5", func := "loop.example/g00149/laws.FnExactRunVault", spec := "fnExactRunVault", inPlace := ["slices.overlaps[int]"], unfollowed := true, recurses := true, apart := false }
def FnExactRunVaultSaid : Prop := fnExactRunVaultRow.holds Tryz.pinned (OpenSpec.ofChange fnExactRunVaultSpec)

/-- ITS FALSE NEIGHBOUR: 'it returns false'. Refute it at one input. -/
def fnExactRunVaultWrong : ChangeSpec := { name := "fnExactRunVault", fn := fun _ => fun
  | [d] => { results := [.lit (.bool false)], args := [d] }
  | _ => none }
def FnExactRunVaultWrongFalsely : Prop := fnExactRunVaultRow.holds Tryz.pinned (OpenSpec.ofChange fnExactRunVaultWrong)

/-- 'laws.FnExactStepVault': WHATEVER THE INPUT: true; the input reads as it did. -/
def fnExactStepVaultSpec : ChangeSpec := { name := "fnExactStepVault", fn := fun _ => fun
  | [d1, d2] => { results := [.lit (.bool true)], args := [d1, d2] }
  | _ => none }
def fnExactStepVaultRow : OpenClaim := { program := "ytnkhjipmmomjoaagreat", sum := "8245323c312f455d90ae4c17fd313d847b61187e5e7b9339f13041905660f7e5", func := "loop.example/g00149/laws.FnExactStepVault", spec := "fnExactStepVault", inPlace := ["slices.overlaps[int]"], unfollowed := true, recurses := true, apart := false }
def FnExactStepVaultSaid : Prop := fnExactStepVaultRow.holds Tryz.pinned (OpenSpec.ofChange fnExactStepVaultSpec)

/-- ITS FALSE NEIGHBOUR: 'it returns false'. Refute it at one input. -/
def fnExactStepVaultWrong : ChangeSpec := { name := "fnExactStepVault", fn := fun _ => fun
  | [d1, d2] => { results := [.lit (.bool false)], args := [d1, d2] }
  | _ => none }
def FnExactStepVaultWrongFalsely : Prop := fnExactStepVaultRow.holds Tryz.pinned (OpenSpec.ofChange fnExactStepVaultWrong)

/- THE SECOND FORM. 'bulk': how many values and letters a reading holds, each counted each time it is reached (what is shared counts as often as it is met; a slice's spare places count too). A statement '..UptoSaid' is the law's where the arguments, and the package variables that the reading takes, are together of bulk at most 1048576: NARROWER than '..Said'. Prove '..Said' where nothing that the law and all that it calls make is longer than what came in: it says more and counts as full. Else prove '..UptoSaid'. A law counts once. -/
mutual
def uptoBulk {H : Type} : DataW H → Nat
  | .lit (.string bytes) => bytes.length + 1
  | .lit _ => 1
  | .nil => 1
  | .ptr d => uptoBulk d + 1
  | .slice elems spare => uptoBulkAll elems + uptoBulkAll spare + 1
  | .agg parts => uptoBulkAll parts + 1
  | .iface _ d => uptoBulk d + 1
  | .map entries => uptoBulkEntries entries + 1
  | .held _ => 1
def uptoBulkAll {H : Type} : List (DataW H) → Nat
  | [] => 0
  | d :: r => uptoBulk d + uptoBulkAll r
def uptoBulkEntries {H : Type} : List (Lit × DataW H) → Nat
  | [] => 0
  | x :: r => uptoBulkEntry x + uptoBulkEntries r
def uptoBulkEntry {H : Type} : Lit × DataW H → Nat
  | (.string bytes, d) => bytes.length + uptoBulk d + 1
  | (_, d) => uptoBulk d + 1
 end
def uptoSmall : (H : Type) → List (DataW H) → Bool := fun _ ds => decide (uptoBulkAll ds ≤ 1048576)
def OpenSpec.upto (s : _root_.Go.ChangeSpec) : _root_.Go.OpenSpec := { _root_.Go.OpenSpec.ofChange s with cond := some uptoSmall }

/-- 'laws.FnTop', WHERE WHAT IT READS IS OF BULK AT MOST 1048576: true; the input reads as it did. -/
def fnTopUptoRow : OpenClaim := { program := "ytnkhjipmmomjoaagreat", sum := "8245323c312f455d90ae4c17fd313d847b61187e5e7b9339f13041905660f7e5", func := "loop.example/g00149/laws.FnTop", spec := "fnTop", inPlace := ["slices.overlaps[int]", "internal/bytealg.abigen_runtime_cmpstring", "slices.overlaps[loop.example/g00149/impl.Pair]", "internal/bytealg.IndexByteString"], unfollowed := true, recurses := true, apart := false, narrowed := true }
def FnTopUptoSaid : Prop := fnTopUptoRow.holds Tryz.pinned (OpenSpec.upto fnTopSpec)

/-- 'laws.FnDrains', WHERE WHAT IT READS IS OF BULK AT MOST 1048576: true; the input reads as it did. -/
def fnDrainsUptoRow : OpenClaim := { program := "ytnkhjipmmomjoaagreat", sum := "8245323c312f455d90ae4c17fd313d847b61187e5e7b9339f13041905660f7e5", func := "loop.example/g00149/laws.FnDrains", spec := "fnDrains", inPlace := ["slices.overlaps[int]"], unfollowed := true, recurses := true, apart := false, narrowed := true }
def FnDrainsUptoSaid : Prop := fnDrainsUptoRow.holds Tryz.pinned (OpenSpec.upto fnDrainsSpec)

/-- 'laws.FnOwned', WHERE WHAT IT READS IS OF BULK AT MOST 1048576: true; the input reads as it did. -/
def fnOwnedUptoRow : OpenClaim := { program := "ytnkhjipmmomjoaagreat", sum := "8245323c312f455d90ae4c17fd313d847b61187e5e7b9339f13041905660f7e5", func := "loop.example/g00149/laws.FnOwned", spec := "fnOwned", inPlace := ["slices.overlaps[int]"], unfollowed := true, recurses := true, apart := false, narrowed := true }
def FnOwnedUptoSaid : Prop := fnOwnedUptoRow.holds Tryz.pinned (OpenSpec.upto fnOwnedSpec)

/-- 'laws.FnExactRunVault', WHERE WHAT IT READS IS OF BULK AT MOST 1048576: true; the input reads as it did. -/
def fnExactRunVaultUptoRow : OpenClaim := { program := "ytnkhjipmmomjoaagreat", sum := "8245323c312f455d90ae4c17fd313d847b61187e5e7b9339f13041905660f7e5", func := "loop.example/g00149/laws.FnExactRunVault", spec := "fnExactRunVault", inPlace := ["slices.overlaps[int]"], unfollowed := true, recurses := true, apart := false, narrowed := true }
def FnExactRunVaultUptoSaid : Prop := fnExactRunVaultUptoRow.holds Tryz.pinned (OpenSpec.upto fnExactRunVaultSpec)

/-- 'laws.FnExactStepVault', WHERE WHAT IT READS IS OF BULK AT MOST 1048576: true; the input reads as it did. -/
def fnExactStepVaultUptoRow : OpenClaim := { program := "ytnkhjipmmomjoaagreat", sum := "8245323c312f455d90ae4c17fd313d847b61187e5e7b9339f13041905660f7e5", func := "loop.example/g00149/laws.FnExactStepVault", spec := "fnExactStepVault", inPlace := ["slices.overlaps[int]"], unfollowed := true, recurses := true, apart := false, narrowed := true }
def FnExactStepVaultUptoSaid : Prop := fnExactStepVaultUptoRow.holds Tryz.pinned (OpenSpec.upto fnExactStepVaultSpec)

end Rows
end Go.Proofs.YtnkhjipmmomjoaaGreat
