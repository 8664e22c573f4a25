/- flowFact: run by the kernel. -/
import Derived.Test.YtpdhpbldangmbaaGreatDoorSi
set_option linter.all false
set_option maxRecDepth 1000000
namespace Go.Proofs.YtpdhpbldangmbaaGreatDoor
open Go.Am Go.Tx
def ZpX:ZnJ ((Zc2 Tryz.prog ZxU 600).rn 4 [] [])=true:=by decide+kernel
end Go.Proofs.YtpdhpbldangmbaaGreatDoor
