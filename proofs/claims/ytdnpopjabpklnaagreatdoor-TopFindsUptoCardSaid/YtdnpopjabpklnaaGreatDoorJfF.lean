/- Contracts and plain laws that the proof of the top laws uses (JfF). No condition beyond those stated. -/
import Derived.Test.YtdnpopjabpklnaaGreatDoorCards
import Derived.JoinedCond
import Derived.ProofKit
set_option maxRecDepth 100000
set_option maxHeartbeats 64000000
set_option linter.all false
namespace Go.Proofs.YtdnpopjabpklnaaGreatDoor
section
open Go
namespace JfF
theorem j1:(Rows.topFindsUptoRow.inPlace==Tryz.prog.inPlace 4)=true:=by kernel_rfl
theorem j2:(Rows.topFindsUptoRow.unfollowed==Tryz.prog.unfollowed 4)=true:=by kernel_rfl
theorem j3:(Rows.topFindsUptoRow.recurses==Tryz.prog.recurses 4)=true:=by kernel_rfl
theorem j4:(Rows.topFindsUptoRow.named==Tryz.prog.varsNamed 4)=true:=by kernel_rfl
theorem j5:laidOutB Tryz.prog=true:=by kernel_rfl
theorem j6:mapsRowed Tryz.prog=true:=by kernel_rfl
theorem j7:Tryz.prog.stopsHeard=true:=by kernel_rfl
theorem j8:Tryz.prog.mayEnter=true:=by kernel_rfl
theorem j9:(Rows.topFindsUptoRow.lifted==Tryz.prog.liftsFinal)=true:=by kernel_rfl
theorem closed:joinedFacts Tryz.prog 4 Tryz.f4 (Rows.OpenSpec.upto Rows.topFindsSpec).bare Rows.topFindsUptoRow=true:=by
 unfold joinedFacts;rw[j1,j2,j3,j4,j5,j6,j7,j8,j9]
 kernel_rfl
end JfF
end
end Go.Proofs.YtdnpopjabpklnaaGreatDoor
