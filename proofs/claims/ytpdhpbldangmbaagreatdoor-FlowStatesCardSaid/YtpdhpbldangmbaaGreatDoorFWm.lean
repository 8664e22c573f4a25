/- flow.Verify at the arguments of flowFact: run by the kernel. -/
import Derived.Test.YtpdhpbldangmbaaGreatDoorSi
set_option linter.all false
set_option maxRecDepth 1000000
namespace Go.Proofs.YtpdhpbldangmbaaGreatDoor
open Go.Am Go.Tx
def ZGR:ZkL 21 ((Zc2 Tryz.prog Zp3 600).rn 14 [ZvY,ZvZ,ZE7] [])=true:=by decide+kernel
end Go.Proofs.YtpdhpbldangmbaaGreatDoor
