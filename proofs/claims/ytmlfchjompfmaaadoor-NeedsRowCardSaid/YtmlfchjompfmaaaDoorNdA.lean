/- Nd3 Nd4, in one text. -/
import Derived.Test.YtmlfchjompfmaaaDoorNd2
set_option linter.unusedVariables false
namespace Go.Proofs.YtmlfchjompfmaaaDoor
open Go.RowKit Go.Shelf
theorem rangeAt_keep0 {w w' : World} {b o : Nat} {cs : List Value} (h : w.rangeAt b o cs) (k : Only (fun _ => False) w w') : w'.rangeAt b o cs := by
 intro j u hu
 have hb := World.block_lt_of_cell? _ _ (h j u hu)
 rw [World.cell?_of_block (w := w) (k.block b hb (fun f => f))]
 exact h j u hu
structure SmallPack (x : PackD) : Prop where
 rels : x.rels.length ≤ 30
 vars : x.vars.length ≤ 20
 deps : x.deps.length ≤ 40
 cons : x.cons.length ≤ 40
 provs : x.provides.length ≤ 50
structure SmallRec (x : RecD) : Prop where
 packs : x.packs.length ≤ 30
 prefs : x.prefs.length ≤ 20
 all : ∀ p ∈ x.packs, SmallPack p
end Go.Proofs.YtmlfchjompfmaaaDoor
