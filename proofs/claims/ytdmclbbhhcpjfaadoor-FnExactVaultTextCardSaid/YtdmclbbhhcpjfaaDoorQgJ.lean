/- FnExactVaultText: the facts that the claim's row tells of the program, one after the other: together they need more memory than a text may have. -/
import Derived.Test.YtdmclbbhhcpjfaaDoorRows
import Derived.WalkKit
import Derived.ProofKit
import Derived.OpenShut
import Derived.ShutString
import Derived.ChangeOld
set_option linter.all false
set_option maxRecDepth 100000
namespace Go.Proofs.YtdmclbbhhcpjfaaDoor.fnExactVaultText
open Go.ChangeShapes Go.WideShapes Go.ChangeAt Go.RowKit
theorem j1:laidOutB Tryd.prog=true:=by kernel_rfl
theorem j2:mapsRowed Tryd.prog=true:=by kernel_rfl
theorem j3:(Rows.fnExactVaultTextRow.inPlace==Tryd.prog.inPlace 3)=true:=by kernel_rfl
theorem j4:(Rows.fnExactVaultTextRow.unfollowed==Tryd.prog.unfollowed 3)=true:=by kernel_rfl
theorem j5:(Rows.fnExactVaultTextRow.recurses==Tryd.prog.recurses 3)=true:=by kernel_rfl
theorem j6:(Rows.fnExactVaultTextRow.named==Tryd.prog.varsNamed 3)=true:=by kernel_rfl
theorem j7:(Rows.fnExactVaultTextRow.plainKeys==Tryd.prog.plainKeys)=true:=by kernel_rfl
theorem j8:Tryd.prog.stopsHeard=true:=by kernel_rfl
theorem j9:Tryd.prog.mayEnter=true:=by kernel_rfl
theorem j10:(Rows.fnExactVaultTextRow.lifted==Tryd.prog.liftsFinal)=true:=by kernel_rfl
theorem j11:(Tryd.prog.make==some Rows.fnExactVaultTextRow.make)=true:=by kernel_rfl
theorem joined:joinedFacts Tryd.prog 3 Tryd.f3 Rows.fnExactVaultTextSpec Rows.fnExactVaultTextRow=true:=by
  unfold joinedFacts
  rw [j1,j2,j3,j4,j5,j6,j7,j8,j9,j10,j11]
  kernel_rfl
end Go.Proofs.YtdmclbbhhcpjfaaDoor.fnExactVaultText
