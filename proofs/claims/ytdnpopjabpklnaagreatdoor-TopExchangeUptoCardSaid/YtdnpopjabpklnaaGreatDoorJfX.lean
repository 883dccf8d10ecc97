/- Contracts and plain laws that the proof of the top laws uses (JfX). No condition beyond those stated. -/
import Derived.Test.YtdnpopjabpklnaaGreatDoorCards
import Derived.JoinedCond
import Derived.ProofKit
set_option maxRecDepth 100000
set_option maxHeartbeats 64000000
set_option linter.all false
namespace Go.Proofs.YtdnpopjabpklnaaGreatDoor
section
open Go
namespace JfX
theorem j1:(Rows.topExchangeUptoRow.inPlace==Tryz.prog.inPlace 3)=true:=by kernel_rfl
theorem j2:(Rows.topExchangeUptoRow.unfollowed==Tryz.prog.unfollowed 3)=true:=by kernel_rfl
theorem j3:(Rows.topExchangeUptoRow.recurses==Tryz.prog.recurses 3)=true:=by kernel_rfl
theorem j4:(Rows.topExchangeUptoRow.named==Tryz.prog.varsNamed 3)=true:=by kernel_rfl
theorem j5:laidOutB Tryz.prog=true:=by kernel_rfl
theorem j6:mapsRowed Tryz.prog=true:=by kernel_rfl
theorem j7:Tryz.prog.stopsHeard=true:=by kernel_rfl
theorem j8:Tryz.prog.mayEnter=true:=by kernel_rfl
theorem j9:(Rows.topExchangeUptoRow.lifted==Tryz.prog.liftsFinal)=true:=by kernel_rfl
theorem closed:joinedFacts Tryz.prog 3 Tryz.f3 (Rows.OpenSpec.upto Rows.topExchangeSpec).bare Rows.topExchangeUptoRow=true:=by
 unfold joinedFacts;rw[j1,j2,j3,j4,j5,j6,j7,j8,j9]
 kernel_rfl
end JfX
end
end Go.Proofs.YtdnpopjabpklnaaGreatDoor
