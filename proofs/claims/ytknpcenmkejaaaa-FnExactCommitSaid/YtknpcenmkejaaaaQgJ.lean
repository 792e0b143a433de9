/- FnExactCommit: the facts that the claim's row tells of the program, one after the other: together they need more memory than a text may have. -/
import Derived.Test.YtknpcenmkejaaaaRows
import Derived.WalkKit
import Derived.ProofKit
import Derived.OpenShut
import Derived.ShutString
import Derived.ChangeOld
set_option linter.all false
set_option maxRecDepth 100000
namespace Go.Proofs.Ytknpcenmkejaaaa.fnExactCommit
open Go.ChangeShapes Go.WideShapes Go.ChangeAt Go.RowKit
theorem j1:laidOutB Try.prog=true:=by kernel_rfl
theorem j2:mapsRowed Try.prog=true:=by kernel_rfl
theorem j3:(Rows.fnExactCommitRow.inPlace==Try.prog.inPlace 3)=true:=by kernel_rfl
theorem j4:(Rows.fnExactCommitRow.unfollowed==Try.prog.unfollowed 3)=true:=by kernel_rfl
theorem j5:(Rows.fnExactCommitRow.recurses==Try.prog.recurses 3)=true:=by kernel_rfl
theorem j6:(Rows.fnExactCommitRow.named==Try.prog.varsNamed 3)=true:=by kernel_rfl
theorem j7:(Rows.fnExactCommitRow.plainKeys==Try.prog.plainKeys)=true:=by kernel_rfl
theorem j8:Try.prog.stopsHeard=true:=by kernel_rfl
theorem j9:Try.prog.mayEnter=true:=by kernel_rfl
theorem j10:(Rows.fnExactCommitRow.lifted==Try.prog.liftsFinal)=true:=by kernel_rfl
theorem j11:(Try.prog.make==some Rows.fnExactCommitRow.make)=true:=by kernel_rfl
theorem joined:joinedFacts Try.prog 3 Try.f3 Rows.fnExactCommitSpec Rows.fnExactCommitRow=true:=by
  unfold joinedFacts
  rw [j1,j2,j3,j4,j5,j6,j7,j8,j9,j10,j11]
  kernel_rfl
end Go.Proofs.Ytknpcenmkejaaaa.fnExactCommit
