/-
  No cell of these rows narrows 'for every input' (looked for: loops, veiled, ifaces, maps, wideKeys, modest, calm, conditions, laid).
  DERIVED. THE GIVEN ROWS OF THIS SEAT. 11 by the template 'for every input the law returns true; each argument reads behind the call as it read before'; 0 by the template 'total and deterministic' (their statements: YtdmclbbhhcpjfaaTotals.lean).
  GIVEN WITH THE SEED: the statements are not yours to turn. If you find one false, say at which input.
  Laid BY PROGRAM, IN A SANDBOX (cutbox-rows.mjs): the forced cells as the released guide's own fill.sh prints them over the translation 37ec5870b804b8e6… (all of the seat's roots in one cut). By AI agents, Wed Nov 11 2026. No macro, syntax, notation, axiom, sorry.
-/
import Derived.Test.YtdmclbbhhcpjfaaChecked
import GoSem.Claim
import GoSem.ClaimJoined
import GoSem.ClaimMapViews
import Derived.JoinedTies
import Derived.KernelRfl
namespace Go.Proofs.Ytdmclbbhhcpjfaa
/- THE CELL 'sum', in the pinned program and in every row, IS THE sha256 OF THE DUMP (.gsa) THAT YtdmclbbhhcpjfaaProg.lean LOADS. Nothing in Lean hashes anything: it is a label: what it is worth is what the hold of that sum in a sandbox is worth. -/
noncomputable def Try.pinned : Pinned := { name := "ytdmclbbhhcpjfaa", sum := "37ec5870b804b8e611e47d3f7c00519a572be6a49ca8b4c275aac810e6bfe35a", checked := Try.checked }
namespace Rows
def none {H : Type} : Left H := { results := [], args := [] }

/-- 'laws.FnDevice': WHATEVER THE INPUT: true; the input reads as it did. -/
def fnDeviceSpec : ChangeSpec := { name := "fnDevice", fn := fun _ => fun
  | [d1, d2] => { results := [.lit (.bool true)], args := [d1, d2] }
  | _ => none }
def fnDeviceRow : OpenClaim := { program := "ytdmclbbhhcpjfaa", sum := "37ec5870b804b8e611e47d3f7c00519a572be6a49ca8b4c275aac810e6bfe35a", func := "loop.example/g00149/laws.FnDevice", spec := "fnDevice", unfollowed := true, recurses := true, apart := false }
def FnDeviceSaid : Prop := fnDeviceRow.holds Try.pinned (OpenSpec.ofChange fnDeviceSpec)

/-- ITS FALSE NEIGHBOUR: 'it returns false'. Refute it at one input. -/
def fnDeviceWrong : ChangeSpec := { name := "fnDevice", fn := fun _ => fun
  | [d1, d2] => { results := [.lit (.bool false)], args := [d1, d2] }
  | _ => none }
def FnDeviceWrongFalsely : Prop := fnDeviceRow.holds Try.pinned (OpenSpec.ofChange fnDeviceWrong)

/-- 'laws.FnLogs': WHATEVER THE INPUT: true; the input reads as it did. -/
def fnLogsSpec : ChangeSpec := { name := "fnLogs", fn := fun _ => fun
  | [d] => { results := [.lit (.bool true)], args := [d] }
  | _ => none }
def fnLogsRow : OpenClaim := { program := "ytdmclbbhhcpjfaa", sum := "37ec5870b804b8e611e47d3f7c00519a572be6a49ca8b4c275aac810e6bfe35a", func := "loop.example/g00149/laws.FnLogs", spec := "fnLogs", unfollowed := true, recurses := true, apart := false }
def FnLogsSaid : Prop := fnLogsRow.holds Try.pinned (OpenSpec.ofChange fnLogsSpec)

/-- ITS FALSE NEIGHBOUR: 'it returns false'. Refute it at one input. -/
def fnLogsWrong : ChangeSpec := { name := "fnLogs", fn := fun _ => fun
  | [d] => { results := [.lit (.bool false)], args := [d] }
  | _ => none }
def FnLogsWrongFalsely : Prop := fnLogsRow.holds Try.pinned (OpenSpec.ofChange fnLogsWrong)

/-- 'laws.FnExactAuthorityOK': WHATEVER THE INPUT: true; the input reads as it did. -/
def fnExactAuthorityOKSpec : ChangeSpec := { name := "fnExactAuthorityOK", fn := fun _ => fun
  | [d] => { results := [.lit (.bool true)], args := [d] }
  | _ => none }
def fnExactAuthorityOKRow : OpenClaim := { program := "ytdmclbbhhcpjfaa", sum := "37ec5870b804b8e611e47d3f7c00519a572be6a49ca8b4c275aac810e6bfe35a", func := "loop.example/g00149/laws.FnExactAuthorityOK", spec := "fnExactAuthorityOK", inPlace := ["internal/bytealg.IndexByteString"], unfollowed := true, recurses := true, apart := false }
def FnExactAuthorityOKSaid : Prop := fnExactAuthorityOKRow.holds Try.pinned (OpenSpec.ofChange fnExactAuthorityOKSpec)

/-- ITS FALSE NEIGHBOUR: 'it returns false'. Refute it at one input. -/
def fnExactAuthorityOKWrong : ChangeSpec := { name := "fnExactAuthorityOK", fn := fun _ => fun
  | [d] => { results := [.lit (.bool false)], args := [d] }
  | _ => none }
def FnExactAuthorityOKWrongFalsely : Prop := fnExactAuthorityOKRow.holds Try.pinned (OpenSpec.ofChange fnExactAuthorityOKWrong)

/-- 'laws.FnExactDeviceWrite': WHATEVER THE INPUT: true; the input reads as it did. -/
def fnExactDeviceWriteSpec : ChangeSpec := { name := "fnExactDeviceWrite", fn := fun _ => fun
  | [d1, d2, d3] => { results := [.lit (.bool true)], args := [d1, d2, d3] }
  | _ => none }
def fnExactDeviceWriteRow : OpenClaim := { program := "ytdmclbbhhcpjfaa", sum := "37ec5870b804b8e611e47d3f7c00519a572be6a49ca8b4c275aac810e6bfe35a", func := "loop.example/g00149/laws.FnExactDeviceWrite", spec := "fnExactDeviceWrite", unfollowed := true, recurses := true, apart := false }
def FnExactDeviceWriteSaid : Prop := fnExactDeviceWriteRow.holds Try.pinned (OpenSpec.ofChange fnExactDeviceWriteSpec)

/-- ITS FALSE NEIGHBOUR: 'it returns false'. Refute it at one input. -/
def fnExactDeviceWriteWrong : ChangeSpec := { name := "fnExactDeviceWrite", fn := fun _ => fun
  | [d1, d2, d3] => { results := [.lit (.bool false)], args := [d1, d2, d3] }
  | _ => none }
def FnExactDeviceWriteWrongFalsely : Prop := fnExactDeviceWriteRow.holds Try.pinned (OpenSpec.ofChange fnExactDeviceWriteWrong)

/-- 'laws.FnExactRevokedOf': WHATEVER THE INPUT: true; the input reads as it did. -/
def fnExactRevokedOfSpec : ChangeSpec := { name := "fnExactRevokedOf", fn := fun _ => fun
  | [d1, d2] => { results := [.lit (.bool true)], args := [d1, d2] }
  | _ => none }
def fnExactRevokedOfRow : OpenClaim := { program := "ytdmclbbhhcpjfaa", sum := "37ec5870b804b8e611e47d3f7c00519a572be6a49ca8b4c275aac810e6bfe35a", func := "loop.example/g00149/laws.FnExactRevokedOf", spec := "fnExactRevokedOf", inPlace := ["internal/bytealg.IndexByteString"], unfollowed := true, recurses := true, apart := false }
def FnExactRevokedOfSaid : Prop := fnExactRevokedOfRow.holds Try.pinned (OpenSpec.ofChange fnExactRevokedOfSpec)

/-- ITS FALSE NEIGHBOUR: 'it returns false'. Refute it at one input. -/
def fnExactRevokedOfWrong : ChangeSpec := { name := "fnExactRevokedOf", fn := fun _ => fun
  | [d1, d2] => { results := [.lit (.bool false)], args := [d1, d2] }
  | _ => none }
def FnExactRevokedOfWrongFalsely : Prop := fnExactRevokedOfRow.holds Try.pinned (OpenSpec.ofChange fnExactRevokedOfWrong)

/-- 'laws.FnTorn': WHATEVER THE INPUT: true; the input reads as it did. -/
def fnTornSpec : ChangeSpec := { name := "fnTorn", fn := fun _ => fun
  | [d1, d2] => { results := [.lit (.bool true)], args := [d1, d2] }
  | _ => none }
def fnTornRow : OpenClaim := { program := "ytdmclbbhhcpjfaa", sum := "37ec5870b804b8e611e47d3f7c00519a572be6a49ca8b4c275aac810e6bfe35a", func := "loop.example/g00149/laws.FnTorn", spec := "fnTorn", unfollowed := true, recurses := true, apart := false }
def FnTornSaid : Prop := fnTornRow.holds Try.pinned (OpenSpec.ofChange fnTornSpec)

/-- ITS FALSE NEIGHBOUR: 'it returns false'. Refute it at one input. -/
def fnTornWrong : ChangeSpec := { name := "fnTorn", fn := fun _ => fun
  | [d1, d2] => { results := [.lit (.bool false)], args := [d1, d2] }
  | _ => none }
def FnTornWrongFalsely : Prop := fnTornRow.holds Try.pinned (OpenSpec.ofChange fnTornWrong)

/-- 'laws.FnExactAppendLog': WHATEVER THE INPUT: true; the input reads as it did. -/
def fnExactAppendLogSpec : ChangeSpec := { name := "fnExactAppendLog", fn := fun _ => fun
  | [d1, d2] => { results := [.lit (.bool true)], args := [d1, d2] }
  | _ => none }
def fnExactAppendLogRow : OpenClaim := { program := "ytdmclbbhhcpjfaa", sum := "37ec5870b804b8e611e47d3f7c00519a572be6a49ca8b4c275aac810e6bfe35a", func := "loop.example/g00149/laws.FnExactAppendLog", spec := "fnExactAppendLog", unfollowed := true, recurses := true, apart := false }
def FnExactAppendLogSaid : Prop := fnExactAppendLogRow.holds Try.pinned (OpenSpec.ofChange fnExactAppendLogSpec)

/-- ITS FALSE NEIGHBOUR: 'it returns false'. Refute it at one input. -/
def fnExactAppendLogWrong : ChangeSpec := { name := "fnExactAppendLog", fn := fun _ => fun
  | [d1, d2] => { results := [.lit (.bool false)], args := [d1, d2] }
  | _ => none }
def FnExactAppendLogWrongFalsely : Prop := fnExactAppendLogRow.holds Try.pinned (OpenSpec.ofChange fnExactAppendLogWrong)

/-- 'laws.FnExactDeviceRun': WHATEVER THE INPUT: true; the input reads as it did. -/
def fnExactDeviceRunSpec : ChangeSpec := { name := "fnExactDeviceRun", fn := fun _ => fun
  | [d] => { results := [.lit (.bool true)], args := [d] }
  | _ => none }
def fnExactDeviceRunRow : OpenClaim := { program := "ytdmclbbhhcpjfaa", sum := "37ec5870b804b8e611e47d3f7c00519a572be6a49ca8b4c275aac810e6bfe35a", func := "loop.example/g00149/laws.FnExactDeviceRun", spec := "fnExactDeviceRun", apart := false }
def FnExactDeviceRunSaid : Prop := fnExactDeviceRunRow.holds Try.pinned (OpenSpec.ofChange fnExactDeviceRunSpec)

/-- ITS FALSE NEIGHBOUR: 'it returns false'. Refute it at one input. -/
def fnExactDeviceRunWrong : ChangeSpec := { name := "fnExactDeviceRun", fn := fun _ => fun
  | [d] => { results := [.lit (.bool false)], args := [d] }
  | _ => none }
def FnExactDeviceRunWrongFalsely : Prop := fnExactDeviceRunRow.holds Try.pinned (OpenSpec.ofChange fnExactDeviceRunWrong)

/-- 'laws.FnExactVaultPairs': WHATEVER THE INPUT: true; the input reads as it did. -/
def fnExactVaultPairsSpec : ChangeSpec := { name := "fnExactVaultPairs", fn := fun _ => fun
  | [d] => { results := [.lit (.bool true)], args := [d] }
  | _ => none }
def fnExactVaultPairsRow : OpenClaim := { program := "ytdmclbbhhcpjfaa", sum := "37ec5870b804b8e611e47d3f7c00519a572be6a49ca8b4c275aac810e6bfe35a", func := "loop.example/g00149/laws.FnExactVaultPairs", spec := "fnExactVaultPairs", unfollowed := true, recurses := true, apart := false }
def FnExactVaultPairsSaid : Prop := fnExactVaultPairsRow.holds Try.pinned (OpenSpec.ofChange fnExactVaultPairsSpec)

/-- ITS FALSE NEIGHBOUR: 'it returns false'. Refute it at one input. -/
def fnExactVaultPairsWrong : ChangeSpec := { name := "fnExactVaultPairs", fn := fun _ => fun
  | [d] => { results := [.lit (.bool false)], args := [d] }
  | _ => none }
def FnExactVaultPairsWrongFalsely : Prop := fnExactVaultPairsRow.holds Try.pinned (OpenSpec.ofChange fnExactVaultPairsWrong)

/-- 'laws.FnExactVaultOf': WHATEVER THE INPUT: true; the input reads as it did. -/
def fnExactVaultOfSpec : ChangeSpec := { name := "fnExactVaultOf", fn := fun _ => fun
  | [d1, d2] => { results := [.lit (.bool true)], args := [d1, d2] }
  | _ => none }
def fnExactVaultOfRow : OpenClaim := { program := "ytdmclbbhhcpjfaa", sum := "37ec5870b804b8e611e47d3f7c00519a572be6a49ca8b4c275aac810e6bfe35a", func := "loop.example/g00149/laws.FnExactVaultOf", spec := "fnExactVaultOf", inPlace := ["internal/bytealg.IndexByteString"], unfollowed := true, recurses := true, apart := false }
def FnExactVaultOfSaid : Prop := fnExactVaultOfRow.holds Try.pinned (OpenSpec.ofChange fnExactVaultOfSpec)

/-- ITS FALSE NEIGHBOUR: 'it returns false'. Refute it at one input. -/
def fnExactVaultOfWrong : ChangeSpec := { name := "fnExactVaultOf", fn := fun _ => fun
  | [d1, d2] => { results := [.lit (.bool false)], args := [d1, d2] }
  | _ => none }
def FnExactVaultOfWrongFalsely : Prop := fnExactVaultOfRow.holds Try.pinned (OpenSpec.ofChange fnExactVaultOfWrong)

/-- 'laws.FnVaults': WHATEVER THE INPUT: true; the input reads as it did. -/
def fnVaultsSpec : ChangeSpec := { name := "fnVaults", fn := fun _ => fun
  | [d] => { results := [.lit (.bool true)], args := [d] }
  | _ => none }
def fnVaultsRow : OpenClaim := { program := "ytdmclbbhhcpjfaa", sum := "37ec5870b804b8e611e47d3f7c00519a572be6a49ca8b4c275aac810e6bfe35a", func := "loop.example/g00149/laws.FnVaults", spec := "fnVaults", inPlace := ["internal/bytealg.IndexByteString"], unfollowed := true, recurses := true, apart := false }
def FnVaultsSaid : Prop := fnVaultsRow.holds Try.pinned (OpenSpec.ofChange fnVaultsSpec)

/-- ITS FALSE NEIGHBOUR: 'it returns false'. Refute it at one input. -/
def fnVaultsWrong : ChangeSpec := { name := "fnVaults", fn := fun _ => fun
  | [d] => { results := [.lit (.bool false)], args := [d] }
  | _ => none }
def FnVaultsWrongFalsely : Prop := fnVaultsRow.holds Try.pinned (OpenSpec.ofChange fnVaultsWrong)

/- THE SECOND FORM. 'bulk': how many values and letters a reading holds, each counted each time it is reached (what is shared counts as often as it is met; a slice's spare places count too). A statement '..UptoSaid' is the law's where the arguments, and the package variables that the reading takes, are together of bulk at most 1048576: NARROWER than '..Said'. Prove '..Said' where nothing that the law and all that it calls make is longer than what came in: it says more and counts as full. Else prove '..UptoSaid'. A law counts once. -/
mutual
def uptoBulk {H : Type} : DataW H → Nat
  | .lit (.string bytes) => bytes.length + 1
  | .lit _ => 1
  | .nil => 1
  | .ptr d => uptoBulk d + 1
  | .slice elems spare => uptoBulkAll elems + uptoBulkAll spare + 1
  | .agg parts => uptoBulkAll parts + 1
  | .iface _ d => uptoBulk d + 1
  | .map entries => uptoBulkEntries entries + 1
  | .held _ => 1
def uptoBulkAll {H : Type} : List (DataW H) → Nat
  | [] => 0
  | d :: r => uptoBulk d + uptoBulkAll r
def uptoBulkEntries {H : Type} : List (Lit × DataW H) → Nat
  | [] => 0
  | x :: r => uptoBulkEntry x + uptoBulkEntries r
def uptoBulkEntry {H : Type} : Lit × DataW H → Nat
  | (.string bytes, d) => bytes.length + uptoBulk d + 1
  | (_, d) => uptoBulk d + 1
 end
def uptoSmall : (H : Type) → List (DataW H) → Bool := fun _ ds => decide (uptoBulkAll ds ≤ 1048576)
def OpenSpec.upto (s : _root_.Go.ChangeSpec) : _root_.Go.OpenSpec := { _root_.Go.OpenSpec.ofChange s with cond := some uptoSmall }

/-- 'laws.FnDevice', WHERE WHAT IT READS IS OF BULK AT MOST 1048576: true; the input reads as it did. -/
def fnDeviceUptoRow : OpenClaim := { program := "ytdmclbbhhcpjfaa", sum := "37ec5870b804b8e611e47d3f7c00519a572be6a49ca8b4c275aac810e6bfe35a", func := "loop.example/g00149/laws.FnDevice", spec := "fnDevice", unfollowed := true, recurses := true, apart := false, narrowed := true }
def FnDeviceUptoSaid : Prop := fnDeviceUptoRow.holds Try.pinned (OpenSpec.upto fnDeviceSpec)

/-- 'laws.FnLogs', WHERE WHAT IT READS IS OF BULK AT MOST 1048576: true; the input reads as it did. -/
def fnLogsUptoRow : OpenClaim := { program := "ytdmclbbhhcpjfaa", sum := "37ec5870b804b8e611e47d3f7c00519a572be6a49ca8b4c275aac810e6bfe35a", func := "loop.example/g00149/laws.FnLogs", spec := "fnLogs", unfollowed := true, recurses := true, apart := false, narrowed := true }
def FnLogsUptoSaid : Prop := fnLogsUptoRow.holds Try.pinned (OpenSpec.upto fnLogsSpec)

/-- 'laws.FnExactAuthorityOK', WHERE WHAT IT READS IS OF BULK AT MOST 1048576: true; the input reads as it did. -/
def fnExactAuthorityOKUptoRow : OpenClaim := { program := "ytdmclbbhhcpjfaa", sum := "37ec5870b804b8e611e47d3f7c00519a572be6a49ca8b4c275aac810e6bfe35a", func := "loop.example/g00149/laws.FnExactAuthorityOK", spec := "fnExactAuthorityOK", inPlace := ["internal/bytealg.IndexByteString"], unfollowed := true, recurses := true, apart := false, narrowed := true }
def FnExactAuthorityOKUptoSaid : Prop := fnExactAuthorityOKUptoRow.holds Try.pinned (OpenSpec.upto fnExactAuthorityOKSpec)

/-- 'laws.FnExactDeviceWrite', WHERE WHAT IT READS IS OF BULK AT MOST 1048576: true; the input reads as it did. -/
def fnExactDeviceWriteUptoRow : OpenClaim := { program := "ytdmclbbhhcpjfaa", sum := "37ec5870b804b8e611e47d3f7c00519a572be6a49ca8b4c275aac810e6bfe35a", func := "loop.example/g00149/laws.FnExactDeviceWrite", spec := "fnExactDeviceWrite", unfollowed := true, recurses := true, apart := false, narrowed := true }
def FnExactDeviceWriteUptoSaid : Prop := fnExactDeviceWriteUptoRow.holds Try.pinned (OpenSpec.upto fnExactDeviceWriteSpec)

/-- 'laws.FnExactRevokedOf', WHERE WHAT IT READS IS OF BULK AT MOST 1048576: true; the input reads as it did. -/
def fnExactRevokedOfUptoRow : OpenClaim := { program := "ytdmclbbhhcpjfaa", sum := "37ec5870b804b8e611e47d3f7c00519a572be6a49ca8b4c275aac810e6bfe35a", func := "loop.example/g00149/laws.FnExactRevokedOf", spec := "fnExactRevokedOf", inPlace := ["internal/bytealg.IndexByteString"], unfollowed := true, recurses := true, apart := false, narrowed := true }
def FnExactRevokedOfUptoSaid : Prop := fnExactRevokedOfUptoRow.holds Try.pinned (OpenSpec.upto fnExactRevokedOfSpec)

/-- 'laws.FnTorn', WHERE WHAT IT READS IS OF BULK AT MOST 1048576: true; the input reads as it did. -/
def fnTornUptoRow : OpenClaim := { program := "ytdmclbbhhcpjfaa", sum := "37ec5870b804b8e611e47d3f7c00519a572be6a49ca8b4c275aac810e6bfe35a", func := "loop.example/g00149/laws.FnTorn", spec := "fnTorn", unfollowed := true, recurses := true, apart := false, narrowed := true }
def FnTornUptoSaid : Prop := fnTornUptoRow.holds Try.pinned (OpenSpec.upto fnTornSpec)

/-- 'laws.FnExactAppendLog', WHERE WHAT IT READS IS OF BULK AT MOST 1048576: true; the input reads as it did. -/
def fnExactAppendLogUptoRow : OpenClaim := { program := "ytdmclbbhhcpjfaa", sum := "37ec5870b804b8e611e47d3f7c00519a572be6a49ca8b4c275aac810e6bfe35a", func := "loop.example/g00149/laws.FnExactAppendLog", spec := "fnExactAppendLog", unfollowed := true, recurses := true, apart := false, narrowed := true }
def FnExactAppendLogUptoSaid : Prop := fnExactAppendLogUptoRow.holds Try.pinned (OpenSpec.upto fnExactAppendLogSpec)

/-- 'laws.FnExactDeviceRun', WHERE WHAT IT READS IS OF BULK AT MOST 1048576: true; the input reads as it did. -/
def fnExactDeviceRunUptoRow : OpenClaim := { program := "ytdmclbbhhcpjfaa", sum := "37ec5870b804b8e611e47d3f7c00519a572be6a49ca8b4c275aac810e6bfe35a", func := "loop.example/g00149/laws.FnExactDeviceRun", spec := "fnExactDeviceRun", apart := false, narrowed := true }
def FnExactDeviceRunUptoSaid : Prop := fnExactDeviceRunUptoRow.holds Try.pinned (OpenSpec.upto fnExactDeviceRunSpec)

/-- 'laws.FnExactVaultPairs', WHERE WHAT IT READS IS OF BULK AT MOST 1048576: true; the input reads as it did. -/
def fnExactVaultPairsUptoRow : OpenClaim := { program := "ytdmclbbhhcpjfaa", sum := "37ec5870b804b8e611e47d3f7c00519a572be6a49ca8b4c275aac810e6bfe35a", func := "loop.example/g00149/laws.FnExactVaultPairs", spec := "fnExactVaultPairs", unfollowed := true, recurses := true, apart := false, narrowed := true }
def FnExactVaultPairsUptoSaid : Prop := fnExactVaultPairsUptoRow.holds Try.pinned (OpenSpec.upto fnExactVaultPairsSpec)

/-- 'laws.FnExactVaultOf', WHERE WHAT IT READS IS OF BULK AT MOST 1048576: true; the input reads as it did. -/
def fnExactVaultOfUptoRow : OpenClaim := { program := "ytdmclbbhhcpjfaa", sum := "37ec5870b804b8e611e47d3f7c00519a572be6a49ca8b4c275aac810e6bfe35a", func := "loop.example/g00149/laws.FnExactVaultOf", spec := "fnExactVaultOf", inPlace := ["internal/bytealg.IndexByteString"], unfollowed := true, recurses := true, apart := false, narrowed := true }
def FnExactVaultOfUptoSaid : Prop := fnExactVaultOfUptoRow.holds Try.pinned (OpenSpec.upto fnExactVaultOfSpec)

/-- 'laws.FnVaults', WHERE WHAT IT READS IS OF BULK AT MOST 1048576: true; the input reads as it did. -/
def fnVaultsUptoRow : OpenClaim := { program := "ytdmclbbhhcpjfaa", sum := "37ec5870b804b8e611e47d3f7c00519a572be6a49ca8b4c275aac810e6bfe35a", func := "loop.example/g00149/laws.FnVaults", spec := "fnVaults", inPlace := ["internal/bytealg.IndexByteString"], unfollowed := true, recurses := true, apart := false, narrowed := true }
def FnVaultsUptoSaid : Prop := fnVaultsUptoRow.holds Try.pinned (OpenSpec.upto fnVaultsSpec)

end Rows
end Go.Proofs.Ytdmclbbhhcpjfaa
