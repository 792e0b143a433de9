/-
  No cell of these rows narrows 'for every input' (looked for: loops, veiled, ifaces, maps, wideKeys, modest, calm, conditions, laid).
  DERIVED. THE GIVEN ROWS OF THIS SEAT. 12 by the template 'for every input the law returns true; each argument reads behind the call as it read before'; 0 by the template 'total and deterministic' (their statements: YtdkeomfbpdodiaaTotals.lean).
  GIVEN WITH THE SEED: the statements are not yours to turn. If you find one false, say at which input.
  Laid BY PROGRAM, IN A SANDBOX (cutbox-rows.mjs): the forced cells as the released guide's own fill.sh prints them over the translation 9cf89f78239743cb… (all of the seat's roots in one cut). By AI agents, Wed Nov 11 2026. No macro, syntax, notation, axiom, sorry.
-/
import Derived.Test.YtdkeomfbpdodiaaChecked
import GoSem.Claim
import GoSem.ClaimJoined
import GoSem.ClaimMapViews
import Derived.JoinedTies
import Derived.KernelRfl
namespace Go.Proofs.Ytdkeomfbpdodiaa
/- THE CELL 'sum', in the pinned program and in every row, IS THE sha256 OF THE DUMP (.gsa) THAT YtdkeomfbpdodiaaProg.lean LOADS. Nothing in Lean hashes anything: it is a label: what it is worth is what the hold of that sum in a sandbox is worth. -/
noncomputable def Try.pinned : Pinned := { name := "ytdkeomfbpdodiaa", sum := "9cf89f78239743cb61f225f68f9e7b647a2ce745a56c44325548c2785c4b3430", checked := Try.checked }
namespace Rows
def none {H : Type} : Left H := { results := [], args := [] }

/-- 'laws.FnExactLater': WHATEVER THE INPUT: true; the input reads as it did. -/
def fnExactLaterSpec : ChangeSpec := { name := "fnExactLater", fn := fun _ => fun
  | [d1, d2] => { results := [.lit (.bool true)], args := [d1, d2] }
  | _ => none }
def fnExactLaterRow : OpenClaim := { program := "ytdkeomfbpdodiaa", sum := "9cf89f78239743cb61f225f68f9e7b647a2ce745a56c44325548c2785c4b3430", func := "loop.example/g00149/laws.FnExactLater", spec := "fnExactLater", apart := false }
def FnExactLaterSaid : Prop := fnExactLaterRow.holds Try.pinned (OpenSpec.ofChange fnExactLaterSpec)

/-- ITS FALSE NEIGHBOUR: 'it returns false'. Refute it at one input. -/
def fnExactLaterWrong : ChangeSpec := { name := "fnExactLater", fn := fun _ => fun
  | [d1, d2] => { results := [.lit (.bool false)], args := [d1, d2] }
  | _ => none }
def FnExactLaterWrongFalsely : Prop := fnExactLaterRow.holds Try.pinned (OpenSpec.ofChange fnExactLaterWrong)

/-- 'laws.FnExactTableOK': WHATEVER THE INPUT: true; the input reads as it did. -/
def fnExactTableOKSpec : ChangeSpec := { name := "fnExactTableOK", fn := fun _ => fun
  | [d] => { results := [.lit (.bool true)], args := [d] }
  | _ => none }
def fnExactTableOKRow : OpenClaim := { program := "ytdkeomfbpdodiaa", sum := "9cf89f78239743cb61f225f68f9e7b647a2ce745a56c44325548c2785c4b3430", func := "loop.example/g00149/laws.FnExactTableOK", spec := "fnExactTableOK", unfollowed := true, recurses := true, apart := false }
def FnExactTableOKSaid : Prop := fnExactTableOKRow.holds Try.pinned (OpenSpec.ofChange fnExactTableOKSpec)

/-- ITS FALSE NEIGHBOUR: 'it returns false'. Refute it at one input. -/
def fnExactTableOKWrong : ChangeSpec := { name := "fnExactTableOK", fn := fun _ => fun
  | [d] => { results := [.lit (.bool false)], args := [d] }
  | _ => none }
def FnExactTableOKWrongFalsely : Prop := fnExactTableOKRow.holds Try.pinned (OpenSpec.ofChange fnExactTableOKWrong)

/-- 'laws.FnExactDue': WHATEVER THE INPUT: true; the input reads as it did. -/
def fnExactDueSpec : ChangeSpec := { name := "fnExactDue", fn := fun _ => fun
  | [d] => { results := [.lit (.bool true)], args := [d] }
  | _ => none }
def fnExactDueRow : OpenClaim := { program := "ytdkeomfbpdodiaa", sum := "9cf89f78239743cb61f225f68f9e7b647a2ce745a56c44325548c2785c4b3430", func := "loop.example/g00149/laws.FnExactDue", spec := "fnExactDue", unfollowed := true, recurses := true, apart := false }
def FnExactDueSaid : Prop := fnExactDueRow.holds Try.pinned (OpenSpec.ofChange fnExactDueSpec)

/-- ITS FALSE NEIGHBOUR: 'it returns false'. Refute it at one input. -/
def fnExactDueWrong : ChangeSpec := { name := "fnExactDue", fn := fun _ => fun
  | [d] => { results := [.lit (.bool false)], args := [d] }
  | _ => none }
def FnExactDueWrongFalsely : Prop := fnExactDueRow.holds Try.pinned (OpenSpec.ofChange fnExactDueWrong)

/-- 'laws.FnExactGrant': WHATEVER THE INPUT: true; the input reads as it did. -/
def fnExactGrantSpec : ChangeSpec := { name := "fnExactGrant", fn := fun _ => fun
  | [d1, d2, d3] => { results := [.lit (.bool true)], args := [d1, d2, d3] }
  | _ => none }
def fnExactGrantRow : OpenClaim := { program := "ytdkeomfbpdodiaa", sum := "9cf89f78239743cb61f225f68f9e7b647a2ce745a56c44325548c2785c4b3430", func := "loop.example/g00149/laws.FnExactGrant", spec := "fnExactGrant", unfollowed := true, recurses := true, apart := false }
def FnExactGrantSaid : Prop := fnExactGrantRow.holds Try.pinned (OpenSpec.ofChange fnExactGrantSpec)

/-- ITS FALSE NEIGHBOUR: 'it returns false'. Refute it at one input. -/
def fnExactGrantWrong : ChangeSpec := { name := "fnExactGrant", fn := fun _ => fun
  | [d1, d2, d3] => { results := [.lit (.bool false)], args := [d1, d2, d3] }
  | _ => none }
def FnExactGrantWrongFalsely : Prop := fnExactGrantRow.holds Try.pinned (OpenSpec.ofChange fnExactGrantWrong)

/-- 'laws.FnExactRevoke': WHATEVER THE INPUT: true; the input reads as it did. -/
def fnExactRevokeSpec : ChangeSpec := { name := "fnExactRevoke", fn := fun _ => fun
  | [d1, d2] => { results := [.lit (.bool true)], args := [d1, d2] }
  | _ => none }
def fnExactRevokeRow : OpenClaim := { program := "ytdkeomfbpdodiaa", sum := "9cf89f78239743cb61f225f68f9e7b647a2ce745a56c44325548c2785c4b3430", func := "loop.example/g00149/laws.FnExactRevoke", spec := "fnExactRevoke", unfollowed := true, recurses := true, apart := false }
def FnExactRevokeSaid : Prop := fnExactRevokeRow.holds Try.pinned (OpenSpec.ofChange fnExactRevokeSpec)

/-- ITS FALSE NEIGHBOUR: 'it returns false'. Refute it at one input. -/
def fnExactRevokeWrong : ChangeSpec := { name := "fnExactRevoke", fn := fun _ => fun
  | [d1, d2] => { results := [.lit (.bool false)], args := [d1, d2] }
  | _ => none }
def FnExactRevokeWrongFalsely : Prop := fnExactRevokeRow.holds Try.pinned (OpenSpec.ofChange fnExactRevokeWrong)

/-- 'laws.FnExactDone': WHATEVER THE INPUT: true; the input reads as it did. -/
def fnExactDoneSpec : ChangeSpec := { name := "fnExactDone", fn := fun _ => fun
  | [d1, d2] => { results := [.lit (.bool true)], args := [d1, d2] }
  | _ => none }
def fnExactDoneRow : OpenClaim := { program := "ytdkeomfbpdodiaa", sum := "9cf89f78239743cb61f225f68f9e7b647a2ce745a56c44325548c2785c4b3430", func := "loop.example/g00149/laws.FnExactDone", spec := "fnExactDone", unfollowed := true, recurses := true, apart := false }
def FnExactDoneSaid : Prop := fnExactDoneRow.holds Try.pinned (OpenSpec.ofChange fnExactDoneSpec)

/-- ITS FALSE NEIGHBOUR: 'it returns false'. Refute it at one input. -/
def fnExactDoneWrong : ChangeSpec := { name := "fnExactDone", fn := fun _ => fun
  | [d1, d2] => { results := [.lit (.bool false)], args := [d1, d2] }
  | _ => none }
def FnExactDoneWrongFalsely : Prop := fnExactDoneRow.holds Try.pinned (OpenSpec.ofChange fnExactDoneWrong)

/-- 'laws.FnExactRenew': WHATEVER THE INPUT: true; the input reads as it did. -/
def fnExactRenewSpec : ChangeSpec := { name := "fnExactRenew", fn := fun _ => fun
  | [d1, d2, d3] => { results := [.lit (.bool true)], args := [d1, d2, d3] }
  | _ => none }
def fnExactRenewRow : OpenClaim := { program := "ytdkeomfbpdodiaa", sum := "9cf89f78239743cb61f225f68f9e7b647a2ce745a56c44325548c2785c4b3430", func := "loop.example/g00149/laws.FnExactRenew", spec := "fnExactRenew", unfollowed := true, recurses := true, apart := false }
def FnExactRenewSaid : Prop := fnExactRenewRow.holds Try.pinned (OpenSpec.ofChange fnExactRenewSpec)

/-- ITS FALSE NEIGHBOUR: 'it returns false'. Refute it at one input. -/
def fnExactRenewWrong : ChangeSpec := { name := "fnExactRenew", fn := fun _ => fun
  | [d1, d2, d3] => { results := [.lit (.bool false)], args := [d1, d2, d3] }
  | _ => none }
def FnExactRenewWrongFalsely : Prop := fnExactRenewRow.holds Try.pinned (OpenSpec.ofChange fnExactRenewWrong)

/-- 'laws.FnExactTick': WHATEVER THE INPUT: true; the input reads as it did. -/
def fnExactTickSpec : ChangeSpec := { name := "fnExactTick", fn := fun _ => fun
  | [d1, d2] => { results := [.lit (.bool true)], args := [d1, d2] }
  | _ => none }
def fnExactTickRow : OpenClaim := { program := "ytdkeomfbpdodiaa", sum := "9cf89f78239743cb61f225f68f9e7b647a2ce745a56c44325548c2785c4b3430", func := "loop.example/g00149/laws.FnExactTick", spec := "fnExactTick", unfollowed := true, recurses := true, apart := false }
def FnExactTickSaid : Prop := fnExactTickRow.holds Try.pinned (OpenSpec.ofChange fnExactTickSpec)

/-- ITS FALSE NEIGHBOUR: 'it returns false'. Refute it at one input. -/
def fnExactTickWrong : ChangeSpec := { name := "fnExactTick", fn := fun _ => fun
  | [d1, d2] => { results := [.lit (.bool false)], args := [d1, d2] }
  | _ => none }
def FnExactTickWrongFalsely : Prop := fnExactTickRow.holds Try.pinned (OpenSpec.ofChange fnExactTickWrong)

/-- 'laws.FnLeases': WHATEVER THE INPUT: true; the input reads as it did. -/
def fnLeasesSpec : ChangeSpec := { name := "fnLeases", fn := fun _ => fun
  | [d1, d2] => { results := [.lit (.bool true)], args := [d1, d2] }
  | _ => none }
def fnLeasesRow : OpenClaim := { program := "ytdkeomfbpdodiaa", sum := "9cf89f78239743cb61f225f68f9e7b647a2ce745a56c44325548c2785c4b3430", func := "loop.example/g00149/laws.FnLeases", spec := "fnLeases", unfollowed := true, recurses := true, apart := false }
def FnLeasesSaid : Prop := fnLeasesRow.holds Try.pinned (OpenSpec.ofChange fnLeasesSpec)

/-- ITS FALSE NEIGHBOUR: 'it returns false'. Refute it at one input. -/
def fnLeasesWrong : ChangeSpec := { name := "fnLeases", fn := fun _ => fun
  | [d1, d2] => { results := [.lit (.bool false)], args := [d1, d2] }
  | _ => none }
def FnLeasesWrongFalsely : Prop := fnLeasesRow.holds Try.pinned (OpenSpec.ofChange fnLeasesWrong)

/-- 'laws.FnExactCallTarget': WHATEVER THE INPUT: true; the input reads as it did. -/
def fnExactCallTargetSpec : ChangeSpec := { name := "fnExactCallTarget", fn := fun _ => fun
  | [d1, d2, d3, d4] => { results := [.lit (.bool true)], args := [d1, d2, d3, d4] }
  | _ => none }
def fnExactCallTargetRow : OpenClaim := { program := "ytdkeomfbpdodiaa", sum := "9cf89f78239743cb61f225f68f9e7b647a2ce745a56c44325548c2785c4b3430", func := "loop.example/g00149/laws.FnExactCallTarget", spec := "fnExactCallTarget", inPlace := ["slices.overlaps[int]"], apart := false }
def FnExactCallTargetSaid : Prop := fnExactCallTargetRow.holds Try.pinned (OpenSpec.ofChange fnExactCallTargetSpec)

/-- ITS FALSE NEIGHBOUR: 'it returns false'. Refute it at one input. -/
def fnExactCallTargetWrong : ChangeSpec := { name := "fnExactCallTarget", fn := fun _ => fun
  | [d1, d2, d3, d4] => { results := [.lit (.bool false)], args := [d1, d2, d3, d4] }
  | _ => none }
def FnExactCallTargetWrongFalsely : Prop := fnExactCallTargetRow.holds Try.pinned (OpenSpec.ofChange fnExactCallTargetWrong)

/-- 'laws.FnExactVaultOK': WHATEVER THE INPUT: true; the input reads as it did. -/
def fnExactVaultOKSpec : ChangeSpec := { name := "fnExactVaultOK", fn := fun _ => fun
  | [d] => { results := [.lit (.bool true)], args := [d] }
  | _ => none }
def fnExactVaultOKRow : OpenClaim := { program := "ytdkeomfbpdodiaa", sum := "9cf89f78239743cb61f225f68f9e7b647a2ce745a56c44325548c2785c4b3430", func := "loop.example/g00149/laws.FnExactVaultOK", spec := "fnExactVaultOK", unfollowed := true, recurses := true, apart := false }
def FnExactVaultOKSaid : Prop := fnExactVaultOKRow.holds Try.pinned (OpenSpec.ofChange fnExactVaultOKSpec)

/-- ITS FALSE NEIGHBOUR: 'it returns false'. Refute it at one input. -/
def fnExactVaultOKWrong : ChangeSpec := { name := "fnExactVaultOK", fn := fun _ => fun
  | [d] => { results := [.lit (.bool false)], args := [d] }
  | _ => none }
def FnExactVaultOKWrongFalsely : Prop := fnExactVaultOKRow.holds Try.pinned (OpenSpec.ofChange fnExactVaultOKWrong)

/-- 'laws.FnCalls': WHATEVER THE INPUT: true; the input reads as it did. -/
def fnCallsSpec : ChangeSpec := { name := "fnCalls", fn := fun _ => fun
  | [d1, d2] => { results := [.lit (.bool true)], args := [d1, d2] }
  | _ => none }
def fnCallsRow : OpenClaim := { program := "ytdkeomfbpdodiaa", sum := "9cf89f78239743cb61f225f68f9e7b647a2ce745a56c44325548c2785c4b3430", func := "loop.example/g00149/laws.FnCalls", spec := "fnCalls", inPlace := ["slices.overlaps[int]"], apart := false }
def FnCallsSaid : Prop := fnCallsRow.holds Try.pinned (OpenSpec.ofChange fnCallsSpec)

/-- ITS FALSE NEIGHBOUR: 'it returns false'. Refute it at one input. -/
def fnCallsWrong : ChangeSpec := { name := "fnCalls", fn := fun _ => fun
  | [d1, d2] => { results := [.lit (.bool false)], args := [d1, d2] }
  | _ => none }
def FnCallsWrongFalsely : Prop := fnCallsRow.holds Try.pinned (OpenSpec.ofChange fnCallsWrong)

/- THE SECOND FORM. 'bulk': how many values and letters a reading holds, each counted each time it is reached (what is shared counts as often as it is met; a slice's spare places count too). A statement '..UptoSaid' is the law's where the arguments, and the package variables that the reading takes, are together of bulk at most 1048576: NARROWER than '..Said'. Prove '..Said' where nothing that the law and all that it calls make is longer than what came in: it says more and counts as full. Else prove '..UptoSaid'. A law counts once. -/
mutual
def uptoBulk {H : Type} : DataW H → Nat
  | .lit (.string bytes) => bytes.length + 1
  | .lit _ => 1
  | .nil => 1
  | .ptr d => uptoBulk d + 1
  | .slice elems spare => uptoBulkAll elems + uptoBulkAll spare + 1
  | .agg parts => uptoBulkAll parts + 1
  | .iface _ d => uptoBulk d + 1
  | .map entries => uptoBulkEntries entries + 1
  | .held _ => 1
def uptoBulkAll {H : Type} : List (DataW H) → Nat
  | [] => 0
  | d :: r => uptoBulk d + uptoBulkAll r
def uptoBulkEntries {H : Type} : List (Lit × DataW H) → Nat
  | [] => 0
  | x :: r => uptoBulkEntry x + uptoBulkEntries r
def uptoBulkEntry {H : Type} : Lit × DataW H → Nat
  | (.string bytes, d) => bytes.length + uptoBulk d + 1
  | (_, d) => uptoBulk d + 1
 end
def uptoSmall : (H : Type) → List (DataW H) → Bool := fun _ ds => decide (uptoBulkAll ds ≤ 1048576)
def OpenSpec.upto (s : _root_.Go.ChangeSpec) : _root_.Go.OpenSpec := { _root_.Go.OpenSpec.ofChange s with cond := some uptoSmall }

/-- 'laws.FnExactLater', WHERE WHAT IT READS IS OF BULK AT MOST 1048576: true; the input reads as it did. -/
def fnExactLaterUptoRow : OpenClaim := { program := "ytdkeomfbpdodiaa", sum := "9cf89f78239743cb61f225f68f9e7b647a2ce745a56c44325548c2785c4b3430", func := "loop.example/g00149/laws.FnExactLater", spec := "fnExactLater", apart := false, narrowed := true }
def FnExactLaterUptoSaid : Prop := fnExactLaterUptoRow.holds Try.pinned (OpenSpec.upto fnExactLaterSpec)

/-- 'laws.FnExactTableOK', WHERE WHAT IT READS IS OF BULK AT MOST 1048576: true; the input reads as it did. -/
def fnExactTableOKUptoRow : OpenClaim := { program := "ytdkeomfbpdodiaa", sum := "9cf89f78239743cb61f225f68f9e7b647a2ce745a56c44325548c2785c4b3430", func := "loop.example/g00149/laws.FnExactTableOK", spec := "fnExactTableOK", unfollowed := true, recurses := true, apart := false, narrowed := true }
def FnExactTableOKUptoSaid : Prop := fnExactTableOKUptoRow.holds Try.pinned (OpenSpec.upto fnExactTableOKSpec)

/-- 'laws.FnExactDue', WHERE WHAT IT READS IS OF BULK AT MOST 1048576: true; the input reads as it did. -/
def fnExactDueUptoRow : OpenClaim := { program := "ytdkeomfbpdodiaa", sum := "9cf89f78239743cb61f225f68f9e7b647a2ce745a56c44325548c2785c4b3430", func := "loop.example/g00149/laws.FnExactDue", spec := "fnExactDue", unfollowed := true, recurses := true, apart := false, narrowed := true }
def FnExactDueUptoSaid : Prop := fnExactDueUptoRow.holds Try.pinned (OpenSpec.upto fnExactDueSpec)

/-- 'laws.FnExactGrant', WHERE WHAT IT READS IS OF BULK AT MOST 1048576: true; the input reads as it did. -/
def fnExactGrantUptoRow : OpenClaim := { program := "ytdkeomfbpdodiaa", sum := "9cf89f78239743cb61f225f68f9e7b647a2ce745a56c44325548c2785c4b3430", func := "loop.example/g00149/laws.FnExactGrant", spec := "fnExactGrant", unfollowed := true, recurses := true, apart := false, narrowed := true }
def FnExactGrantUptoSaid : Prop := fnExactGrantUptoRow.holds Try.pinned (OpenSpec.upto fnExactGrantSpec)

/-- 'laws.FnExactRevoke', WHERE WHAT IT READS IS OF BULK AT MOST 1048576: true; the input reads as it did. -/
def fnExactRevokeUptoRow : OpenClaim := { program := "ytdkeomfbpdodiaa", sum := "9cf89f78239743cb61f225f68f9e7b647a2ce745a56c44325548c2785c4b3430", func := "loop.example/g00149/laws.FnExactRevoke", spec := "fnExactRevoke", unfollowed := true, recurses := true, apart := false, narrowed := true }
def FnExactRevokeUptoSaid : Prop := fnExactRevokeUptoRow.holds Try.pinned (OpenSpec.upto fnExactRevokeSpec)

/-- 'laws.FnExactDone', WHERE WHAT IT READS IS OF BULK AT MOST 1048576: true; the input reads as it did. -/
def fnExactDoneUptoRow : OpenClaim := { program := "ytdkeomfbpdodiaa", sum := "9cf89f78239743cb61f225f68f9e7b647a2ce745a56c44325548c2785c4b3430", func := "loop.example/g00149/laws.FnExactDone", spec := "fnExactDone", unfollowed := true, recurses := true, apart := false, narrowed := true }
def FnExactDoneUptoSaid : Prop := fnExactDoneUptoRow.holds Try.pinned (OpenSpec.upto fnExactDoneSpec)

/-- 'laws.FnExactRenew', WHERE WHAT IT READS IS OF BULK AT MOST 1048576: true; the input reads as it did. -/
def fnExactRenewUptoRow : OpenClaim := { program := "ytdkeomfbpdodiaa", sum := "9cf89f78239743cb61f225f68f9e7b647a2ce745a56c44325548c2785c4b3430", func := "loop.example/g00149/laws.FnExactRenew", spec := "fnExactRenew", unfollowed := true, recurses := true, apart := false, narrowed := true }
def FnExactRenewUptoSaid : Prop := fnExactRenewUptoRow.holds Try.pinned (OpenSpec.upto fnExactRenewSpec)

/-- 'laws.FnExactTick', WHERE WHAT IT READS IS OF BULK AT MOST 1048576: true; the input reads as it did. -/
def fnExactTickUptoRow : OpenClaim := { program := "ytdkeomfbpdodiaa", sum := "9cf89f78239743cb61f225f68f9e7b647a2ce745a56c44325548c2785c4b3430", func := "loop.example/g00149/laws.FnExactTick", spec := "fnExactTick", unfollowed := true, recurses := true, apart := false, narrowed := true }
def FnExactTickUptoSaid : Prop := fnExactTickUptoRow.holds Try.pinned (OpenSpec.upto fnExactTickSpec)

/-- 'laws.FnLeases', WHERE WHAT IT READS IS OF BULK AT MOST 1048576: true; the input reads as it did. -/
def fnLeasesUptoRow : OpenClaim := { program := "ytdkeomfbpdodiaa", sum := "9cf89f78239743cb61f225f68f9e7b647a2ce745a56c44325548c2785c4b3430", func := "loop.example/g00149/laws.FnLeases", spec := "fnLeases", unfollowed := true, recurses := true, apart := false, narrowed := true }
def FnLeasesUptoSaid : Prop := fnLeasesUptoRow.holds Try.pinned (OpenSpec.upto fnLeasesSpec)

/-- 'laws.FnExactCallTarget', WHERE WHAT IT READS IS OF BULK AT MOST 1048576: true; the input reads as it did. -/
def fnExactCallTargetUptoRow : OpenClaim := { program := "ytdkeomfbpdodiaa", sum := "9cf89f78239743cb61f225f68f9e7b647a2ce745a56c44325548c2785c4b3430", func := "loop.example/g00149/laws.FnExactCallTarget", spec := "fnExactCallTarget", inPlace := ["slices.overlaps[int]"], apart := false, narrowed := true }
def FnExactCallTargetUptoSaid : Prop := fnExactCallTargetUptoRow.holds Try.pinned (OpenSpec.upto fnExactCallTargetSpec)

/-- 'laws.FnExactVaultOK', WHERE WHAT IT READS IS OF BULK AT MOST 1048576: true; the input reads as it did. -/
def fnExactVaultOKUptoRow : OpenClaim := { program := "ytdkeomfbpdodiaa", sum := "9cf89f78239743cb61f225f68f9e7b647a2ce745a56c44325548c2785c4b3430", func := "loop.example/g00149/laws.FnExactVaultOK", spec := "fnExactVaultOK", unfollowed := true, recurses := true, apart := false, narrowed := true }
def FnExactVaultOKUptoSaid : Prop := fnExactVaultOKUptoRow.holds Try.pinned (OpenSpec.upto fnExactVaultOKSpec)

/-- 'laws.FnCalls', WHERE WHAT IT READS IS OF BULK AT MOST 1048576: true; the input reads as it did. -/
def fnCallsUptoRow : OpenClaim := { program := "ytdkeomfbpdodiaa", sum := "9cf89f78239743cb61f225f68f9e7b647a2ce745a56c44325548c2785c4b3430", func := "loop.example/g00149/laws.FnCalls", spec := "fnCalls", inPlace := ["slices.overlaps[int]"], apart := false, narrowed := true }
def FnCallsUptoSaid : Prop := fnCallsUptoRow.holds Try.pinned (OpenSpec.upto fnCallsSpec)

end Rows
end Go.Proofs.Ytdkeomfbpdodiaa
