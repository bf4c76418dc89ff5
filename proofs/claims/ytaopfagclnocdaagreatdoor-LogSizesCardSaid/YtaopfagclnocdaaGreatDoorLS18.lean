/- Rows.LogSizesCardSaid -/
import Derived.Test.YtaopfagclnocdaaGreatDoorLS17
import Derived.Test.YtaopfagclnocdaaGreatDoorLS16
import Derived.Test.YtaopfagclnocdaaGreatDoorLS7
namespace Go.Proofs.YtaopfagclnocdaaGreatDoor
open Go.RowKit Go.Shelf
set_option linter.unusedVariables false
set_option maxHeartbeats 64000000
set_option maxRecDepth 100000
def NumRelS (t:List UInt8) (w:World) (q i:Value) (wr:World):Prop:=∃ k:Nat,k≤6∧i=.int .i64 k∧q=.int .i64 (digN (t.take k))∧(t.take k).all isDig=true∧wr=w
section
attribute [-go_sem] run_index_string
end
section
variable {F0:List Nat} {w0 w:World} {R:List Asrt} {bd:Nat} {d:DiskD}
end
end Go.Proofs.YtaopfagclnocdaaGreatDoor
