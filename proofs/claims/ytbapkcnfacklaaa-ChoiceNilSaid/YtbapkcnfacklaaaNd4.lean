/- The guards Great of a recipe and of a request: walks. Printed by gen_nd4.py. -/
import Derived.Test.YtbapkcnfacklaaaNd3
set_option linter.unusedVariables false
namespace Go.Proofs.Ytbapkcnfacklaaa
open Go.RowKit Go.Shelf
structure SmallRec (x : RecD) : Prop where
 packs : x.packs.length ≤ 30
 prefs : x.prefs.length ≤ 20
 all : ∀ p ∈ x.packs, SmallPack p
end Go.Proofs.Ytbapkcnfacklaaa
