/- total.Repeat. -/
import Derived.Test.YtjedgdamommgeaaGreatTot1
import Derived.Lib.MinMax
set_option linter.unusedVariables false
namespace Go.Proofs.YtjedgdamommgeaaGreat
open Go.RowKit
namespace Tot
end Tot
structure RepAt (w wr : World) (vo : Value) (cur : List Int) : Prop where
 own : wr.ownsRow 0 3 1 vo cur.length (cur.map cI)
 new : ∀ k, vo.ownBlock = some k → w.heap.size ≤ k
 only : Only (fun _ => False) w wr
 len : cur.length ≤ 100000
end Go.Proofs.YtjedgdamommgeaaGreat
