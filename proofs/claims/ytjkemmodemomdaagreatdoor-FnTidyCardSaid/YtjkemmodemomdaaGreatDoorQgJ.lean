/- FnTidy: the facts that the claim's row tells of the program, one after the other: together they need more memory than a text may have. -/
import Derived.Test.YtjkemmodemomdaaGreatDoorRows
import Derived.WalkKit
import Derived.ProofKit
import Derived.OpenShut
import Derived.ShutString
import Derived.ChangeOld
set_option linter.all false
set_option maxRecDepth 100000
namespace Go.Proofs.YtjkemmodemomdaaGreatDoor.fnTidy
open Go.ChangeShapes Go.WideShapes Go.ChangeAt Go.RowKit
theorem j1:laidOutB Tryz.prog=true:=by kernel_rfl
theorem j2:mapsRowed Tryz.prog=true:=by kernel_rfl
theorem j3:(Rows.fnTidyRow.inPlace==Tryz.prog.inPlace 3)=true:=by kernel_rfl
theorem j4:(Rows.fnTidyRow.unfollowed==Tryz.prog.unfollowed 3)=true:=by kernel_rfl
theorem j5:(Rows.fnTidyRow.recurses==Tryz.prog.recurses 3)=true:=by kernel_rfl
theorem j6:(Rows.fnTidyRow.named==Tryz.prog.varsNamed 3)=true:=by kernel_rfl
theorem j7:(Rows.fnTidyRow.plainKeys==Tryz.prog.plainKeys)=true:=by kernel_rfl
theorem j8:Tryz.prog.stopsHeard=true:=by kernel_rfl
theorem j9:Tryz.prog.mayEnter=true:=by kernel_rfl
theorem j10:(Rows.fnTidyRow.lifted==Tryz.prog.liftsFinal)=true:=by kernel_rfl
theorem j11:(Tryz.prog.make==some Rows.fnTidyRow.make)=true:=by kernel_rfl
theorem joined:joinedFacts Tryz.prog 3 Tryz.f3 Rows.fnTidySpec Rows.fnTidyRow=true:=by
  unfold joinedFacts
  rw [j1,j2,j3,j4,j5,j6,j7,j8,j9,j10,j11]
  kernel_rfl
end Go.Proofs.YtjkemmodemomdaaGreatDoor.fnTidy
