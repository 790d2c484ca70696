/- The closed facts of EdgeNone's row, each by itself. -/
import Derived.Test.YtdmmebjjojimiaaGreatDoorG00
import Derived.Test.YtdmmebjjojimiaaGreatDoorTie
import Derived.Test.YtdmmebjjojimiaaGreatDoorCards
set_option maxRecDepth 100000
set_option maxHeartbeats 8000000
set_option linter.all false
namespace Go.Proofs.YtdmmebjjojimiaaGreatDoor.edgeNone
open Go.RowKit
theorem anp{a b:Bool}(h:a=true)(k:b=true):(a&&b)=true:=by rw[h,k];rfl
theorem agb{P:Program}(h:P.funcs.any Func.goes=false)(f:FuncId):P.goes f=false:=by
 unfold Program.goes;rw[h,Bool.and_false,Bool.or_false,List.any_eq_false];intro g _;cases hg:P.funcs[g]? with
 |none=>simp
 |some fn=>rw[Array.any_eq_false]at h;obtain⟨hi,e⟩:=yA.1 hg;have:=h g hi;rw[e]at this;simpa using this
theorem aa1{P:Program}{c:OpenClaim}(hs:c.start= .entering)(h:P.funcs.any Func.goes=false):false=c.goesBy P:=by
 unfold OpenClaim.goesBy Program.goesAt Program.goesFrom;rw[hs];cases P.funcNamed c.func with
 |none=>rfl
 |some f=>simp[agb h]
theorem ar0:Tryz.pinned.checked.prog.funcs.any Func.goes=false:=by kernel_rfl
theorem agc:false=Rows.edgeNoneRow.goesBy Tryz.pinned.checked.prog:=aa1 rfl ar0
theorem laidOut:laidOutB Tryz.prog=true:=by kernel_rfl
theorem aef:laidOutB Tryz.pinned.checked.prog=true:=laidOut
theorem ar4:(Rows.edgeNoneRow.inPlace==Tryz.pinned.checked.prog.inPlace 4)=true:=by kernel_rfl
theorem unf:(Rows.edgeNoneRow.unfollowed==Tryz.pinned.checked.prog.unfollowed 4)=true:=by kernel_rfl
theorem rcs:(Rows.edgeNoneRow.recurses==Tryz.pinned.checked.prog.recurses 4)=true:=by kernel_rfl
theorem nmd:(Rows.edgeNoneRow.named==Tryz.pinned.checked.prog.varsNamed 4)=true:=by kernel_rfl
theorem pnd:(Rows.edgeNoneRow.pinned==Rows.edgeNoneRow.pinnedBy)=true:=by kernel_rfl
theorem agd:joinedFacts Tryz.pinned.checked.prog 4 Tryz.f4 (OpenSpec.ofChange Rows.edgeNoneSpec).bare Rows.edgeNoneRow=true:=by
 unfold joinedFacts;iterate 31 (refine anp ?_ (by first|with_reducible exact aef|with_reducible exact ar4|with_reducible exact unf|with_reducible exact rcs|with_reducible exact nmd|with_reducible exact pnd|as_aux_lemma=>kernel_rfl))
 kernel_rfl
end Go.Proofs.YtdmmebjjojimiaaGreatDoor.edgeNone
