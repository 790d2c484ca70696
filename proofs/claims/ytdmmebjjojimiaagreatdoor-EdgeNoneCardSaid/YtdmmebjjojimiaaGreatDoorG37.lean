/- What the door's rows list of the library's variables: strconv's two errors and its powers  -/
import Derived.Test.YtdmmebjjojimiaaGreatDoorG15
import Derived.LaidMore
import Derived.Deep.DeepWitnessRowRef
set_option maxRecDepth 100000
set_option maxHeartbeats 8000000
set_option linter.all false
namespace Go.Proofs
theorem zDv{p:Prop}(h:p:=by
 obtain⟨_,u,v,e,-⟩:=iface_of_trod Tryz.underlying397 h4
 exact⟨u,v,by rw[h3];congr 1;apply Array.ext';exact e⟩):p:=h
end Go.Proofs
namespace Go.Proofs.YtdmmebjjojimiaaGreatDoor
open Go.RowKit
noncomputable def VR:List (String×DataW Unit):=[("math/bits.deBruijn32tab",Rows.laid_math_bits_deBruijn32tab),("math/bits.deBruijn64tab",Rows.laid_math_bits_deBruijn64tab),("internal/strconv.uint64pow10",Rows.laid_internal_strconv_uint64pow10),("unicode/utf8.acceptRanges",Rows.laid_unicode_utf8_acceptRanges),("strconv.ErrRange",Rows.laid_strconv_ErrRange),("strconv.ErrSyntax",Rows.laid_strconv_ErrSyntax),("unicode/utf8.first",Rows.laid_unicode_utf8_first)]
theorem Ii{P:Program}{w:World}:∀{l:List (String×DataW Unit)} {ps:List MemPlace},DataW.LaidVars P w l ps->∀n d,(n,d)∈l->∃g t cs fuel p,P.globalNamed n=some g/\(P.globals[g]?).map (·.type)=some t/\w.var? P n=some cs/\DataW.trod (fun _=>()) P w 0 (fun _=>true) false fuel t cs.toList=some (d,p)
 | [],_,_,_,_,hm=>by cases hm
 | (n',d')::r,ps,h,n,d,hm=>by
  obtain⟨g,t,cs,fuel,p,q,h1,h2,h3,h4,h5,_⟩:=h
  rcases qY.1 hm with e|e
  ·cases e
   exact⟨g,t,cs,fuel,p,h1,h2,h3,h4⟩
  ·exact Ii h5 n d e
theorem anq:Tryz.prog.globalNamed "strconv.ErrSyntax" =some 3:=by kernel_rfl
theorem anr:Tryz.prog.globalNamed "strconv.ErrRange" =some 4:=by kernel_rfl
theorem ar5:Tryz.prog.globalNamed "internal/strconv.uint64pow10" =some 5:=by kernel_rfl
theorem ant:(Tryz.prog.globals[3]?).map (·.type)=some 397:=by kernel_rfl
theorem anu:(Tryz.prog.globals[4]?).map (·.type)=some 397:=by kernel_rfl
theorem ar6:(Tryz.prog.globals[5]?).map (·.type)=some 433:=by kernel_rfl
theorem aeg:(Rows.laid_internal_strconv_uint64pow10:DataW Unit)=Lib.tabData .u64 Lib.pow10Tab:=by kernel_rfl
theorem agf{W:World}(h:laidMetH Tryz.prog VR W):Laid W:=by
 rw[MakeChecks.laidMetH_plain _ _ _ zk]at h;obtain⟨ps,hv,-⟩:=h;refine⟨?_,?_,?_⟩;·obtain⟨g,t,cs,fuel,p,h1,h2,h3,h4⟩:=Ii hv "strconv.ErrSyntax" Rows.laid_strconv_ErrSyntax (by simp[VR]);obtain rfl:=Option.some.inj (anq.symm.trans h1);obtain rfl:=Option.some.inj (ant.symm.trans h2);exact zDv
 ·obtain⟨g,t,cs,fuel,p,h1,h2,h3,h4⟩:=Ii hv "strconv.ErrRange" Rows.laid_strconv_ErrRange (by simp[VR]);obtain rfl:=Option.some.inj (anr.symm.trans h1);obtain rfl:=Option.some.inj (anu.symm.trans h2);exact zDv
 obtain⟨g,t,cs,fuel,p,h1,h2,h3,h4⟩:=Ii hv "internal/strconv.uint64pow10" Rows.laid_internal_strconv_uint64pow10 (by simp[VR]);obtain rfl:=Option.some.inj (ar5.symm.trans h1);obtain rfl:=Option.some.inj (ar6.symm.trans h2);rw[aeg]at h4;unfold Lib.TabIs;rw[h3,<-Lib.cells_of_tab Tryz.underlying433 Tryz.underlying290 zk zk h4]
noncomputable def aeh (os:Os):World:=
 let w0:=World.doorLaid Tryz.prog 4000 os
 {w0 with heap:=w0.heap.modify 1 fun
  | .cells _ t f=>.cells (Pinned.utf8FirstZ.map fun(z:Nat)=>Value.int .u8 (z:Int)).toArray t f
  |o=>o}
theorem aa2(os:Os)(args:Array Value):laidMetH Tryz.prog VR ((aeh os).forCall (fun _ _=>0) ⟨#[],args,[]⟩).memory:=by rw[MakeChecks.laidMetH_plain _ _ _ zk];exact laidMet_of_run' 8 zk zk
end Go.Proofs.YtdmmebjjojimiaaGreatDoor
