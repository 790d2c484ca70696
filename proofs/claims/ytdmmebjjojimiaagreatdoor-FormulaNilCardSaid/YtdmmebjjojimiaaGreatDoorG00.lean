/- Short names for lemmas of the library that stand in many places, and small lemmas for what; The closed facts of FormulaNil's row, each by itself. -/
import Derived.ProofKit
import Derived.OpenShut
import Derived.BigQuiet
import Derived.Lib.Hide
import Derived.WalkSpells
import Derived.Test.YtdmmebjjojimiaaGreatDoorTie
import Derived.Test.YtdmmebjjojimiaaGreatDoorCards
set_option linter.all false
set_option maxRecDepth 100000
set_option maxHeartbeats 8000000
namespace Go.Proofs
open Go.RowKit
theorem zh{p:Prop}(h:p):Hid p:=Lib.hid h
theorem ze{α:Sort _}(a:α):∃b,a=b:=⟨a,rfl⟩
theorem zB{α:Sort _}(a:α):∃b,b=a:=⟨a,rfl⟩
theorem zG{α:Type _}(l:List α)(i:Nat)(h:i<l.length):∃y,l[i]? =some y:=⟨_,List.getElem?_eq_getElem h⟩
theorem zw(x:Int)(h: -9223372036854775808<=x:=by omega)(k:x<9223372036854775808:=by omega):IntKind.i64.wrap x=x:=by rw[IntKind.wrap_i64];omega
abbrev qA:= @List.getElem?_eq_getElem
abbrev qC:= @List.getD_eq_getElem?_getD
abbrev qD:= @IntKind.wrap_i64
abbrev qE:= @Nat.zero_le
abbrev qF:= @Nat.add_zero
abbrev qG:= @Option.some.injEq
abbrev qH:= @Nat.le_refl
abbrev qI:= @List.take_of_length_le
abbrev qJ:= @List.getElem?_eq_some_iff
abbrev qK:= @List.length_append
abbrev qL:= @heap_alloc_new
abbrev qM:= @List.length_map
abbrev qN:= @List.length_cons
abbrev qO:= @Addr.mk.injEq
abbrev qP:= @decide_eq_false
abbrev qQ:= @List.mem_cons_self
abbrev qR:= @Nat.le_trans
abbrev qT:= @List.mem_of_getElem?
abbrev qU:= @Value.slice.injEq
abbrev qW:= @List.mem_append
abbrev qX:= @decide_eq_true
abbrev qY:= @List.mem_cons
abbrev qZ:= @List.getElem_mem
abbrev yA:= @Array.getElem?_eq_some_iff
abbrev yC:= @beq_eq_false_iff_ne
abbrev yD:= @List.mem_map
abbrev yE:= @List.mem_cons_of_mem
abbrev yF:= @List.eq_nil_of_length_eq_zero
abbrev yG:= @Nat.le_of_eq
abbrev yH:= @Nat.mul_one
abbrev yI:= @List.mem_range
abbrev yJ:= @List.mem_singleton
abbrev yK:= @Nat.lt_or_ge
abbrev yL:= @List.take_succ_eq_append_getElem
abbrev yM:= @List.getElem?_append_left
abbrev yN:= @List.getElem?_append_right
abbrev yO:= @List.length_filter_le
abbrev yP:= @decide_eq_true_eq
abbrev yQ:= @Bool.false_and
abbrev yR:= @Bool.true_and
abbrev yT:= @Int.toNat_natCast
abbrev yU:= @List.any_eq_true
abbrev yW:= @List.append_assoc
theorem zk{p:Prop}(h:p:=by kernel_rfl):p:=h
end Go.Proofs
namespace Go.Proofs.YtdmmebjjojimiaaGreatDoor.formulaNil
open Go.RowKit
theorem aiF{a b:Bool}(h:a=true)(k:b=true):(a&&b)=true:=by rw[h,k];rfl
theorem ab3{P:Program}(h:P.funcs.any Func.goes=false)(f:FuncId):P.goes f=false:=by
 unfold Program.goes;rw[h,Bool.and_false,Bool.or_false,List.any_eq_false];intro g _;cases hg:P.funcs[g]? with
 |none=>simp
 |some fn=>rw[Array.any_eq_false]at h;obtain⟨hi,e⟩:=yA.1 hg;have:=h g hi;rw[e]at this;simpa using this
theorem Xc{P:Program}{c:OpenClaim}(hs:c.start= .entering)(h:P.funcs.any Func.goes=false):false=c.goesBy P:=by
 unfold OpenClaim.goesBy Program.goesAt Program.goesFrom;rw[hs];cases P.funcNamed c.func with
 |none=>rfl
 |some f=>simp[ab3 h]
theorem amc:Tryz.pinned.checked.prog.funcs.any Func.goes=false:=by kernel_rfl
theorem ab4:false=Rows.formulaNilRow.goesBy Tryz.pinned.checked.prog:=Xc rfl amc
theorem laidOut:laidOutB Tryz.prog=true:=by kernel_rfl
theorem aad:laidOutB Tryz.pinned.checked.prog=true:=laidOut
theorem amd:(Rows.formulaNilRow.inPlace==Tryz.pinned.checked.prog.inPlace 6)=true:=by kernel_rfl
theorem unf:(Rows.formulaNilRow.unfollowed==Tryz.pinned.checked.prog.unfollowed 6)=true:=by kernel_rfl
theorem rcs:(Rows.formulaNilRow.recurses==Tryz.pinned.checked.prog.recurses 6)=true:=by kernel_rfl
theorem nmd:(Rows.formulaNilRow.named==Tryz.pinned.checked.prog.varsNamed 6)=true:=by kernel_rfl
theorem pnd:(Rows.formulaNilRow.pinned==Rows.formulaNilRow.pinnedBy)=true:=by kernel_rfl
theorem ab5:joinedFacts Tryz.pinned.checked.prog 6 Tryz.f6 (OpenSpec.ofChange Rows.formulaNilSpec).bare Rows.formulaNilRow=true:=by
 unfold joinedFacts;iterate 31 (refine aiF ?_ (by first|with_reducible exact aad|with_reducible exact amd|with_reducible exact unf|with_reducible exact rcs|with_reducible exact nmd|with_reducible exact pnd|as_aux_lemma=>kernel_rfl))
 kernel_rfl
end Go.Proofs.YtdmmebjjojimiaaGreatDoor.formulaNil
