/- DERIVED: THE SHELF's CONTRACTS AT THIS DUMP, IN PLAIN WORDS (tools/lay-plain.mjs out of 'T; SlicesI CnfFn Cnf CnfLaw CnfLaw2, in one text. -/
import Derived.Test.YtdmmebjjojimiaaGreatDoorG02
import Derived.Shelf.Small.Wraps
import Derived.Shelf.Slices.Clone
import Derived.Shelf.Slices.SearchI
import Derived.Shelf.Slices.Cells
import Derived.Shelf.SlicesE.Clone
import Derived.Shelf.SlSortCmp.NoneTotal
import Derived.Shelf.SlIterI.Nil
import Derived.Shelf.SortM.Plain
import Derived.Shelf.SortM.SortNone
import Derived.Shelf.Slices.Turned
import Derived.Shelf.Slices.Empties2
set_option maxRecDepth 100000
set_option maxHeartbeats 8000000
set_option linter.all false
namespace Go.Proofs
open Go.Shelf
def Tryz.CJ:Go.Shelf.Ren:=⟨fun |122=>235|215=>315|n=>n,fun |3=>3|4=>4|n=>n,fun |n=>n⟩
theorem Tryz.QN:Go.Proofs.Lays.n122 Tryz.prog Tryz.CJ:={
 mixed:=by kernel_rfl
 f122:=Tryz.func235.trans (congrArg some zk)
 f215:=Tryz.func315.trans (congrArg some zk)
 t3:=Tryz.underlying3
 a3:=Tryz.isAgg3
 z3:=Tryz.sizeOf3
 v3:=Tryz.zeroValue3
 t4:=Tryz.underlying4
 a4:=Tryz.isAgg4
 z4:=Tryz.sizeOf4
 v4:=Tryz.zeroValue4}
open Go.RowKit in
theorem Tryz.cmp_Compare_int(x y:Int)(w:World):Calls Tryz.prog 235 #[.int .i64 x,.int .i64 y] w fun e w'=>e= .returned (.int .i64 (Lib.compareInt x y))/\w'=w:=Any.cmp_Compare_int Tryz.QN x y w
def Tryz.Oi:Go.Shelf.Ren:=⟨fun |15=>83|n=>n,fun |22=>78|3=>3|4=>4|n=>n,fun |n=>n⟩
theorem Tryz.laysNm215:Go.Proofs.Lays2.n15 Tryz.prog Tryz.Oi:={
 mixed:=by kernel_rfl
 f15:=Tryz.func83.trans (congrArg some zk)
 t3:=Tryz.underlying3
 a3:=Tryz.isAgg3
 z3:=Tryz.sizeOf3
 v3:=Tryz.zeroValue3
 t4:=Tryz.underlying4
 a4:=Tryz.isAgg4
 z4:=Tryz.sizeOf4
 v4:=Tryz.zeroValue4
 t22:=Tryz.underlying78
 a22:=Tryz.isAgg78
 z22:=Tryz.sizeOf78
 v22:=Tryz.zeroValue78
 i3:=by kernel_rfl}
open Go.RowKit Go.Lib in
theorem Tryz.slices_Clone_int(b off n c:Nat)(zs:List Int)(w:World)(hz:n<=zs.length)(hbig:n*8<=140737488355328)(hc:∀j,j<zs.length->w.cell? ⟨b,off+j,none⟩=some (.int .i64 (zs.getD j 0))):Calls Tryz.prog 83 #[.slice (some ⟨b,off,none⟩) n c] w fun e w'=> ∃v',e= .returned v'/\w'.ownsRow w.heap.size 3 1 v' n ((zs.take n).map (Value.int .i64))/\v'≠ .slice none 0 0/\Below w.heap.size w w':=Any.slices_Clone_int Tryz.laysNm215 b off n c zs w hz hbig hc
open Go.RowKit Go.Lib in
theorem Tryz.slices_Clone_int_nil(n c:Nat)(w:World):Calls Tryz.prog 83 #[.slice none n c] w fun e w'=>e= .returned (.slice none 0 0)/\w'=w:=Any.slices_Clone_int_nil Tryz.laysNm215 n c w
open Go.RowKit Go.Lib in
theorem Tryz.slices_Clone_int_zero(a:Addr)(c:Nat)(w:World):Calls Tryz.prog 83 #[.slice (some a) 0 c] w fun e w'=> ∃v',e= .returned v'/\w'.ownsRow w.heap.size 3 1 v' 0 []/\v'≠ .slice none 0 0/\Below w.heap.size w w':=Any.slices_Clone_int_zero Tryz.laysNm215 a c w
def Tryz.Oj:Go.Shelf.Ren:=⟨fun |20=>299|n=>n,fun |22=>78|3=>3|4=>4|0=>0|n=>n,fun |n=>n⟩
theorem Tryz.PN:Go.Proofs.Lays2.n20 Tryz.prog Tryz.Oj:={
 mixed:=by kernel_rfl
 f20:=Tryz.func299.trans (congrArg some zk)
 t0:=Tryz.underlying0
 a0:=Tryz.isAgg0
 z0:=Tryz.sizeOf0
 v0:=Tryz.zeroValue0
 t3:=Tryz.underlying3
 a3:=Tryz.isAgg3
 z3:=Tryz.sizeOf3
 v3:=Tryz.zeroValue3
 t4:=Tryz.underlying4
 a4:=Tryz.isAgg4
 z4:=Tryz.sizeOf4
 v4:=Tryz.zeroValue4
 t22:=Tryz.underlying78
 a22:=Tryz.isAgg78
 z22:=Tryz.sizeOf78
 v22:=Tryz.zeroValue78
 i3:=by kernel_rfl}
open Go.RowKit Go.Lib Go.Sort in
theorem Tryz.slices_Compact_int(blk off cap:Nat)(zs:List Int)(w:World)(hH:Holds (Value.int .i64) w blk off zs.toArray)(hsz:zs.length<=9223372036854775807)(hcap:zs.length<=cap):Calls Tryz.prog 299 #[.slice (some ⟨blk,off,none⟩) zs.length cap] w fun e w'=>e= .returned (.slice (some ⟨blk,off,none⟩) (Lib.compact zs).length cap)/\∃q,w'=putRow (Value.int .i64) (Sort.ahead w q) blk off (Lib.compact zs++List.replicate (zs.length-(Lib.compact zs).length) 0).toArray:=Any.slices_Compact_int Tryz.PN blk off cap zs w hH hsz hcap
open Go.RowKit Go.Lib Go.Sort in
theorem Tryz.slices_Compact_int_empty(a:Option Addr)(cap:Nat)(w:World):Calls Tryz.prog 299 #[.slice a 0 cap] w fun e w'=>e= .returned (.slice a 0 cap)/\w'=w:=Any.slices_Compact_int_empty Tryz.PN a cap w
def Tryz.Fb:Go.Shelf.Ren:=⟨fun |46=>407|n=>n,fun |24=>3|22=>78|3=>3|25=>235|4=>4|0=>0|n=>n,fun |n=>n⟩
theorem Tryz.Lh:Go.Proofs.SlLaysF.n46 Tryz.prog Tryz.Fb:={
 mixed:=by kernel_rfl
 f46:=⟨Tryz.f407.name,by decide,Tryz.func407.trans (congrArg some zk)⟩
 t0:=Tryz.underlying0
 a0:=Tryz.isAgg0
 z0:=Tryz.sizeOf0
 v0:=Tryz.zeroValue0
 t3:=Tryz.underlying3
 a3:=Tryz.isAgg3
 z3:=Tryz.sizeOf3
 v3:=Tryz.zeroValue3
 t4:=Tryz.underlying4
 a4:=Tryz.isAgg4
 z4:=Tryz.sizeOf4
 v4:=Tryz.zeroValue4
 t22:=Tryz.underlying78
 a22:=Tryz.isAgg78
 z22:=Tryz.sizeOf78
 v22:=Tryz.zeroValue78
 a24:=Tryz.isAgg3
 z24:=Tryz.sizeOf3
 t25:=Tryz.underlying235
 a25:=Tryz.isAgg235
 z25:=Tryz.sizeOf235
 v25:=Tryz.zeroValue235}
open Go.RowKit Go.Lib Go.Sort in
theorem Tryz.siftDownCmpFunc{α:Type}[Inhabited α](enc:α->Value)(cf:α->α->Int)(g:Nat)(cb:Array Value)(blk off cap lo hi first:Nat)(d0 d:Array α)(w0 w:World)(eg:∀args w,(callFunc g args).run Tryz.prog w= .ok (.enter g args) w)(hcmp:CmpLays1 Tryz.prog g cb enc cf blk off d0.size w0)(R:Row1 enc w0 blk off d0)(hs:d0.size=d.size)(S:SW enc w0 blk off d w)(hlo:lo<=hi)(hb:first+hi<=d.size)(hsz:d.size<4611686018427387904):Calls Tryz.prog 407 #[.slice (some ⟨blk,off,none⟩) d.size cap,.int .i64 lo,.int .i64 hi,.int .i64 first,.func (.func g) #[] cb] w fun e w'=>e= .returned (.tuple #[])/\SW enc w0 blk off (siftDown (ltOf cf) hi first lo d) w':=Any.siftDownCmpFunc Tryz.Lh enc cf g cb blk off cap lo hi first d0 d w0 w eg hcmp R hs S hlo hb hsz
def Tryz.Gu:Go.Shelf.Ren:=⟨fun |21=>383|46=>407|n=>n,fun |24=>3|22=>78|3=>3|25=>235|4=>4|0=>0|n=>n,fun |n=>n⟩
theorem Tryz.Ol:Go.Proofs.SlLaysF.n21 Tryz.prog Tryz.Gu:={
 mixed:=by kernel_rfl
 f21:=⟨Tryz.f383.name,by decide,Tryz.func383.trans (congrArg some zk)⟩
 f46:=⟨Tryz.f407.name,by decide,Tryz.func407.trans (congrArg some zk)⟩
 t0:=Tryz.underlying0
 a0:=Tryz.isAgg0
 z0:=Tryz.sizeOf0
 v0:=Tryz.zeroValue0
 t3:=Tryz.underlying3
 a3:=Tryz.isAgg3
 z3:=Tryz.sizeOf3
 v3:=Tryz.zeroValue3
 t4:=Tryz.underlying4
 a4:=Tryz.isAgg4
 z4:=Tryz.sizeOf4
 v4:=Tryz.zeroValue4
 t22:=Tryz.underlying78
 a22:=Tryz.isAgg78
 z22:=Tryz.sizeOf78
 v22:=Tryz.zeroValue78
 a24:=Tryz.isAgg3
 z24:=Tryz.sizeOf3
 t25:=Tryz.underlying235
 a25:=Tryz.isAgg235
 z25:=Tryz.sizeOf235
 v25:=Tryz.zeroValue235}
open Go.RowKit Go.Lib Go.Sort in
theorem Tryz.heapSortCmpFunc{α:Type}[Inhabited α](enc:α->Value)(cf:α->α->Int)(g:Nat)(cb:Array Value)(blk off cap a b:Nat)(d0 d:Array α)(w0 w:World)(eg:∀args w,(callFunc g args).run Tryz.prog w= .ok (.enter g args) w)(hcmp:CmpLays1 Tryz.prog g cb enc cf blk off d0.size w0)(R:Row1 enc w0 blk off d0)(hs:d0.size=d.size)(S:SW enc w0 blk off d w)(hab:a<=b)(hb:b<=d.size)(hsz:d.size<4611686018427387904):Calls Tryz.prog 383 #[.slice (some ⟨blk,off,none⟩) d.size cap,.int .i64 a,.int .i64 b,.func (.func g) #[] cb] w fun e w'=>e= .returned (.tuple #[])/\SW enc w0 blk off (heapSort (ltOf cf) d a b) w':=Any.heapSortCmpFunc Tryz.Ol enc cf g cb blk off cap a b d0 d w0 w eg hcmp R hs S hab hb hsz
def Tryz.Fe:Go.Shelf.Ren:=⟨fun |57=>417|n=>n,fun |24=>3|22=>78|3=>3|70=>336|25=>235|0=>0|4=>4|n=>n,fun |n=>n⟩
theorem Tryz.Lj:Go.Proofs.SlLaysF.n57 Tryz.prog Tryz.Fe:={
 mixed:=by kernel_rfl
 f57:=⟨Tryz.f417.name,by decide,Tryz.func417.trans (congrArg some zk)⟩
 t0:=Tryz.underlying0
 a0:=Tryz.isAgg0
 z0:=Tryz.sizeOf0
 v0:=Tryz.zeroValue0
 t3:=Tryz.underlying3
 a3:=Tryz.isAgg3
 z3:=Tryz.sizeOf3
 v3:=Tryz.zeroValue3
 t4:=Tryz.underlying4
 a4:=Tryz.isAgg4
 z4:=Tryz.sizeOf4
 v4:=Tryz.zeroValue4
 t22:=Tryz.underlying78
 a22:=Tryz.isAgg78
 z22:=Tryz.sizeOf78
 v22:=Tryz.zeroValue78
 a24:=Tryz.isAgg3
 z24:=Tryz.sizeOf3
 t25:=Tryz.underlying235
 a25:=Tryz.isAgg235
 z25:=Tryz.sizeOf235
 v25:=Tryz.zeroValue235
 t70:=Tryz.underlying336
 a70:=Tryz.isAgg336
 z70:=Tryz.sizeOf336
 v70:=Tryz.zeroValue336}
open Go.RowKit Go.Lib Go.Sort in
theorem Tryz.order2CmpFunc{α:Type}[Inhabited α](enc:α->Value)(cf:α->α->Int)(g:Nat)(cb:Array Value)(blk off cap a b c s:Nat)(d0 d:Array α)(w0 W:World)(eg:∀args w,(callFunc g args).run Tryz.prog w= .ok (.enter g args) w)(hcmp:CmpLays1 Tryz.prog g cb enc cf blk off d0.size w0)(R:Row1 enc w0 blk off d0)(hs:d0.size=d.size)(C:Cnt1 enc w0 blk off d c s W)(ha:a<d.size)(hb:b<d.size)(hsz:d.size<4611686018427387904)(hss:s<4611686018427387904):Calls Tryz.prog 417 #[.slice (some ⟨blk,off,none⟩) d.size cap,.int .i64 a,.int .i64 b,.pointer (some ⟨c,0,none⟩),.func (.func g) #[] cb] W fun e w'=>e= .returned (.tuple #[.int .i64 (order2 (ltOf cf) d a b s).1,.int .i64 (order2 (ltOf cf) d a b s).2.1])/\Cnt1 enc w0 blk off d c (order2 (ltOf cf) d a b s).2.2 w':=Any.order2CmpFunc Tryz.Lj enc cf g cb blk off cap a b c s d0 d w0 W eg hcmp R hs C ha hb hsz hss
def Tryz.Fg:Go.Shelf.Ren:=⟨fun |50=>409|57=>417|n=>n,fun |24=>3|22=>78|3=>3|70=>336|25=>235|77=>264|0=>0|4=>4|n=>n,fun |n=>n⟩
theorem Tryz.Ll:Go.Proofs.SlLaysF.n50 Tryz.prog Tryz.Fg:={
 mixed:=by kernel_rfl
 f50:=⟨Tryz.f409.name,by decide,Tryz.func409.trans (congrArg some zk)⟩
 f57:=⟨Tryz.f417.name,by decide,Tryz.func417.trans (congrArg some zk)⟩
 t0:=Tryz.underlying0
 a0:=Tryz.isAgg0
 z0:=Tryz.sizeOf0
 v0:=Tryz.zeroValue0
 t3:=Tryz.underlying3
 a3:=Tryz.isAgg3
 z3:=Tryz.sizeOf3
 v3:=Tryz.zeroValue3
 t4:=Tryz.underlying4
 a4:=Tryz.isAgg4
 z4:=Tryz.sizeOf4
 v4:=Tryz.zeroValue4
 t22:=Tryz.underlying78
 a22:=Tryz.isAgg78
 z22:=Tryz.sizeOf78
 v22:=Tryz.zeroValue78
 a24:=Tryz.isAgg3
 z24:=Tryz.sizeOf3
 t25:=Tryz.underlying235
 a25:=Tryz.isAgg235
 z25:=Tryz.sizeOf235
 v25:=Tryz.zeroValue235
 t70:=Tryz.underlying336
 a70:=Tryz.isAgg336
 z70:=Tryz.sizeOf336
 v70:=Tryz.zeroValue336
 t77:=Tryz.underlying264
 a77:=Tryz.isAgg264
 z77:=Tryz.sizeOf264
 v77:=Tryz.zeroValue264}
open Go.RowKit Go.Lib Go.Sort in
theorem Tryz.medianCmpFunc{α:Type}[Inhabited α](enc:α->Value)(cf:α->α->Int)(g:Nat)(cb:Array Value)(blk off cap a b c' c s:Nat)(d0 d:Array α)(w0 W:World)(eg:∀args w,(callFunc g args).run Tryz.prog w= .ok (.enter g args) w)(hcmp:CmpLays1 Tryz.prog g cb enc cf blk off d0.size w0)(R:Row1 enc w0 blk off d0)(hs:d0.size=d.size)(C:Cnt1 enc w0 blk off d c s W)(ha:a<d.size)(hb:b<d.size)(hc:c'<d.size)(hsz:d.size<4611686018427387904)(hss:s+3<4611686018427387904):Calls Tryz.prog 409 #[.slice (some ⟨blk,off,none⟩) d.size cap,.int .i64 a,.int .i64 b,.int .i64 c',.pointer (some ⟨c,0,none⟩),.func (.func g) #[] cb] W fun e w'=>e= .returned (.int .i64 (median (ltOf cf) d a b c' s).1)/\Cnt1 enc w0 blk off d c (median (ltOf cf) d a b c' s).2 w':=Any.medianCmpFunc Tryz.Ll enc cf g cb blk off cap a b c' c s d0 d w0 W eg hcmp R hs C ha hb hc hsz hss
def Tryz.Fh:Go.Shelf.Ren:=⟨fun |49=>408|50=>409|57=>417|n=>n,fun |24=>3|22=>78|3=>3|70=>336|25=>235|77=>264|0=>0|4=>4|n=>n,fun |n=>n⟩
theorem Tryz.Lm:Go.Proofs.SlLaysF.n49 Tryz.prog Tryz.Fh:={
 mixed:=by kernel_rfl
 f49:=⟨Tryz.f408.name,by decide,Tryz.func408.trans (congrArg some zk)⟩
 f50:=⟨Tryz.f409.name,by decide,Tryz.func409.trans (congrArg some zk)⟩
 f57:=⟨Tryz.f417.name,by decide,Tryz.func417.trans (congrArg some zk)⟩
 t0:=Tryz.underlying0
 a0:=Tryz.isAgg0
 z0:=Tryz.sizeOf0
 v0:=Tryz.zeroValue0
 t3:=Tryz.underlying3
 a3:=Tryz.isAgg3
 z3:=Tryz.sizeOf3
 v3:=Tryz.zeroValue3
 t4:=Tryz.underlying4
 a4:=Tryz.isAgg4
 z4:=Tryz.sizeOf4
 v4:=Tryz.zeroValue4
 t22:=Tryz.underlying78
 a22:=Tryz.isAgg78
 z22:=Tryz.sizeOf78
 v22:=Tryz.zeroValue78
 a24:=Tryz.isAgg3
 z24:=Tryz.sizeOf3
 t25:=Tryz.underlying235
 a25:=Tryz.isAgg235
 z25:=Tryz.sizeOf235
 v25:=Tryz.zeroValue235
 t70:=Tryz.underlying336
 a70:=Tryz.isAgg336
 z70:=Tryz.sizeOf336
 v70:=Tryz.zeroValue336
 t77:=Tryz.underlying264
 a77:=Tryz.isAgg264
 z77:=Tryz.sizeOf264
 v77:=Tryz.zeroValue264}
open Go.RowKit Go.Lib Go.Sort in
theorem Tryz.medianAdjacentCmpFunc{α:Type}[Inhabited α](enc:α->Value)(cf:α->α->Int)(g:Nat)(cb:Array Value)(blk off cap a c s:Nat)(d0 d:Array α)(w0 W:World)(eg:∀args w,(callFunc g args).run Tryz.prog w= .ok (.enter g args) w)(hcmp:CmpLays1 Tryz.prog g cb enc cf blk off d0.size w0)(R:Row1 enc w0 blk off d0)(hs:d0.size=d.size)(C:Cnt1 enc w0 blk off d c s W)(ha1:1<=a)(ha2:a+1<d.size)(hsz:d.size<4611686018427387904)(hss:s+3<4611686018427387904):Calls Tryz.prog 408 #[.slice (some ⟨blk,off,none⟩) d.size cap,.int .i64 a,.pointer (some ⟨c,0,none⟩),.func (.func g) #[] cb] W fun e w'=>e= .returned (.int .i64 (medianAdjacent (ltOf cf) d a s).1)/\Cnt1 enc w0 blk off d c (medianAdjacent (ltOf cf) d a s).2 w':=Any.medianAdjacentCmpFunc Tryz.Lm enc cf g cb blk off cap a c s d0 d w0 W eg hcmp R hs C ha1 ha2 hsz hss
def Tryz.Gv:Go.Shelf.Ren:=⟨fun |23=>385|49=>408|50=>409|57=>417|n=>n,fun |24=>3|22=>78|3=>3|25=>235|45=>280|0=>0|4=>4|70=>336|77=>264|n=>n,fun |n=>n⟩
theorem Tryz.Om:Go.Proofs.SlLaysF.n23 Tryz.prog Tryz.Gv:={
 mixed:=by kernel_rfl
 f23:=⟨Tryz.f385.name,by decide,Tryz.func385.trans (congrArg some zk)⟩
 f49:=⟨Tryz.f408.name,by decide,Tryz.func408.trans (congrArg some zk)⟩
 f50:=⟨Tryz.f409.name,by decide,Tryz.func409.trans (congrArg some zk)⟩
 f57:=⟨Tryz.f417.name,by decide,Tryz.func417.trans (congrArg some zk)⟩
 t0:=Tryz.underlying0
 a0:=Tryz.isAgg0
 z0:=Tryz.sizeOf0
 v0:=Tryz.zeroValue0
 t3:=Tryz.underlying3
 a3:=Tryz.isAgg3
 z3:=Tryz.sizeOf3
 v3:=Tryz.zeroValue3
 t4:=Tryz.underlying4
 a4:=Tryz.isAgg4
 z4:=Tryz.sizeOf4
 v4:=Tryz.zeroValue4
 t22:=Tryz.underlying78
 a22:=Tryz.isAgg78
 z22:=Tryz.sizeOf78
 v22:=Tryz.zeroValue78
 a24:=Tryz.isAgg3
 z24:=Tryz.sizeOf3
 t25:=Tryz.underlying235
 a25:=Tryz.isAgg235
 z25:=Tryz.sizeOf235
 v25:=Tryz.zeroValue235
 t45:=Tryz.underlying280
 a45:=Tryz.isAgg280
 z45:=Tryz.sizeOf280
 v45:=Tryz.zeroValue280
 t70:=Tryz.underlying336
 a70:=Tryz.isAgg336
 z70:=Tryz.sizeOf336
 v70:=Tryz.zeroValue336
 t77:=Tryz.underlying264
 a77:=Tryz.isAgg264
 z77:=Tryz.sizeOf264
 v77:=Tryz.zeroValue264}
open Go.RowKit Go.Lib Go.Sort in
theorem Tryz.choosePivotCmpFunc{α:Type}[Inhabited α](enc:α->Value)(cf:α->α->Int)(g:Nat)(cb:Array Value)(blk off cap a b:Nat)(d0 d:Array α)(w0 W:World)(eg:∀args w,(callFunc g args).run Tryz.prog w= .ok (.enter g args) w)(hcmp:CmpLays1 Tryz.prog g cb enc cf blk off d0.size w0)(R:Row1 enc w0 blk off d0)(hs:d0.size=d.size)(S:SW enc w0 blk off d W)(hab:a<b)(hb:b<=d.size)(hsz:d.size<4611686018427387904):Calls Tryz.prog 385 #[.slice (some ⟨blk,off,none⟩) d.size cap,.int .i64 a,.int .i64 b,.func (.func g) #[] cb] W fun e w'=>e= .returned (.tuple #[.int .i64 (choosePivot (ltOf cf) d a b).1,.int .i64 (hintCode (choosePivot (ltOf cf) d a b).2)])/\SW enc w0 blk off d w':=Any.choosePivotCmpFunc Tryz.Om enc cf g cb blk off cap a b d0 d w0 W eg hcmp R hs S hab hb hsz
def Tryz.Gw:Go.Shelf.Ren:=⟨fun |24=>386|n=>n,fun |24=>3|22=>78|3=>3|25=>235|4=>4|0=>0|n=>n,fun |n=>n⟩
theorem Tryz.Oo:Go.Proofs.SlLaysF.n24 Tryz.prog Tryz.Gw:={
 mixed:=by kernel_rfl
 f24:=⟨Tryz.f386.name,by decide,Tryz.func386.trans (congrArg some zk)⟩
 t0:=Tryz.underlying0
 a0:=Tryz.isAgg0
 z0:=Tryz.sizeOf0
 v0:=Tryz.zeroValue0
 t3:=Tryz.underlying3
 a3:=Tryz.isAgg3
 z3:=Tryz.sizeOf3
 v3:=Tryz.zeroValue3
 t4:=Tryz.underlying4
 a4:=Tryz.isAgg4
 z4:=Tryz.sizeOf4
 v4:=Tryz.zeroValue4
 t22:=Tryz.underlying78
 a22:=Tryz.isAgg78
 z22:=Tryz.sizeOf78
 v22:=Tryz.zeroValue78
 a24:=Tryz.isAgg3
 z24:=Tryz.sizeOf3
 t25:=Tryz.underlying235
 a25:=Tryz.isAgg235
 z25:=Tryz.sizeOf235
 v25:=Tryz.zeroValue235}
open Go.RowKit Go.Lib Go.Sort in
theorem Tryz.reverseRangeCmpFunc{α:Type}[Inhabited α](enc:α->Value)(g:Nat)(cb:Array Value)(blk off cap a b:Nat)(d0 d:Array α)(w0 w:World)(R:Row1 enc w0 blk off d0)(hs:d0.size=d.size)(S:SW enc w0 blk off d w)(hab:a<=b)(hb:b<=d.size)(hsz:d.size<4611686018427387904):Calls Tryz.prog 386 #[.slice (some ⟨blk,off,none⟩) d.size cap,.int .i64 a,.int .i64 b,.func (.func g) #[] cb] w fun e w'=>e= .returned (.tuple #[])/\SW enc w0 blk off (reverseRange d a b) w':=Any.reverseRangeCmpFunc Tryz.Oo enc g cb blk off cap a b d0 d w0 w R hs S hab hb hsz
def Tryz.Gy:Go.Shelf.Ren:=⟨fun |25=>387|n=>n,fun |24=>3|22=>78|3=>3|25=>235|4=>4|0=>0|n=>n,fun |n=>n⟩
theorem Tryz.Oq:Go.Proofs.SlLaysF.n25 Tryz.prog Tryz.Gy:={
 mixed:=by kernel_rfl
 f25:=⟨Tryz.f387.name,by decide,Tryz.func387.trans (congrArg some zk)⟩
 t0:=Tryz.underlying0
 a0:=Tryz.isAgg0
 z0:=Tryz.sizeOf0
 v0:=Tryz.zeroValue0
 t3:=Tryz.underlying3
 a3:=Tryz.isAgg3
 z3:=Tryz.sizeOf3
 v3:=Tryz.zeroValue3
 t4:=Tryz.underlying4
 a4:=Tryz.isAgg4
 z4:=Tryz.sizeOf4
 v4:=Tryz.zeroValue4
 t22:=Tryz.underlying78
 a22:=Tryz.isAgg78
 z22:=Tryz.sizeOf78
 v22:=Tryz.zeroValue78
 a24:=Tryz.isAgg3
 z24:=Tryz.sizeOf3
 t25:=Tryz.underlying235
 a25:=Tryz.isAgg235
 z25:=Tryz.sizeOf235
 v25:=Tryz.zeroValue235}
open Go.RowKit Go.Lib Go.Sort in
theorem Tryz.partialInsertionSortCmpFunc{α:Type}[Inhabited α](enc:α->Value)(cf:α->α->Int)(g:Nat)(cb:Array Value)(blk off cap a b:Nat)(d0 d:Array α)(w0 w:World)(eg:∀args w,(callFunc g args).run Tryz.prog w= .ok (.enter g args) w)(hcmp:CmpLays1 Tryz.prog g cb enc cf blk off d0.size w0)(R:Row1 enc w0 blk off d0)(hs:d0.size=d.size)(S:SW enc w0 blk off d w)(hab:a<b)(hb:b<=d.size)(hsz:d.size<4611686018427387904):Calls Tryz.prog 387 #[.slice (some ⟨blk,off,none⟩) d.size cap,.int .i64 a,.int .i64 b,.func (.func g) #[] cb] w fun e w'=>e= .returned (.bool (Sort.partialInsertionSort (ltOf cf) d a b).2)/\SW enc w0 blk off (Sort.partialInsertionSort (ltOf cf) d a b).1 w':=Any.partialInsertionSortCmpFunc Tryz.Oq enc cf g cb blk off cap a b d0 d w0 w eg hcmp R hs S hab hb hsz
def Tryz.Gz:Go.Shelf.Ren:=⟨fun |26=>388|n=>n,fun |24=>3|22=>78|3=>3|25=>235|0=>0|4=>4|n=>n,fun |n=>n⟩
theorem Tryz.Ot:Go.Proofs.SlLaysF.n26 Tryz.prog Tryz.Gz:={
 mixed:=by kernel_rfl
 f26:=⟨Tryz.f388.name,by decide,Tryz.func388.trans (congrArg some zk)⟩
 t0:=Tryz.underlying0
 a0:=Tryz.isAgg0
 z0:=Tryz.sizeOf0
 v0:=Tryz.zeroValue0
 t3:=Tryz.underlying3
 a3:=Tryz.isAgg3
 z3:=Tryz.sizeOf3
 v3:=Tryz.zeroValue3
 t4:=Tryz.underlying4
 a4:=Tryz.isAgg4
 z4:=Tryz.sizeOf4
 v4:=Tryz.zeroValue4
 t22:=Tryz.underlying78
 a22:=Tryz.isAgg78
 z22:=Tryz.sizeOf78
 v22:=Tryz.zeroValue78
 a24:=Tryz.isAgg3
 z24:=Tryz.sizeOf3
 t25:=Tryz.underlying235
 a25:=Tryz.isAgg235
 z25:=Tryz.sizeOf235
 v25:=Tryz.zeroValue235}
open Go.RowKit Go.Lib Go.Sort in
theorem Tryz.partitionEqualCmpFunc{α:Type}[Inhabited α](enc:α->Value)(cf:α->α->Int)(g:Nat)(cb:Array Value)(blk off cap a b pivot:Nat)(d0 d:Array α)(w0 w:World)(eg:∀args w,(callFunc g args).run Tryz.prog w= .ok (.enter g args) w)(hcmp:CmpLays1 Tryz.prog g cb enc cf blk off d0.size w0)(R:Row1 enc w0 blk off d0)(hs:d0.size=d.size)(S:SW enc w0 blk off d w)(hap:a<=pivot)(hpb:pivot<b)(hb:b<=d.size)(hsz:d.size<4611686018427387904):Calls Tryz.prog 388 #[.slice (some ⟨blk,off,none⟩) d.size cap,.int .i64 a,.int .i64 b,.int .i64 pivot,.func (.func g) #[] cb] w fun e w'=>e= .returned (.int .i64 (Sort.partitionEqual (ltOf cf) d a b pivot).1)/\SW enc w0 blk off (Sort.partitionEqual (ltOf cf) d a b pivot).2 w':=Any.partitionEqualCmpFunc Tryz.Ot enc cf g cb blk off cap a b pivot d0 d w0 w eg hcmp R hs S hap hpb hb hsz
def Tryz.GH:Go.Shelf.Ren:=⟨fun |27=>389|n=>n,fun |24=>3|22=>78|3=>3|25=>235|4=>4|0=>0|n=>n,fun |n=>n⟩
theorem Tryz.Ou:Go.Proofs.SlLaysF.n27 Tryz.prog Tryz.GH:={
 mixed:=by kernel_rfl
 f27:=⟨Tryz.f389.name,by decide,Tryz.func389.trans (congrArg some zk)⟩
 t0:=Tryz.underlying0
 a0:=Tryz.isAgg0
 z0:=Tryz.sizeOf0
 v0:=Tryz.zeroValue0
 t3:=Tryz.underlying3
 a3:=Tryz.isAgg3
 z3:=Tryz.sizeOf3
 v3:=Tryz.zeroValue3
 t4:=Tryz.underlying4
 a4:=Tryz.isAgg4
 z4:=Tryz.sizeOf4
 v4:=Tryz.zeroValue4
 t22:=Tryz.underlying78
 a22:=Tryz.isAgg78
 z22:=Tryz.sizeOf78
 v22:=Tryz.zeroValue78
 a24:=Tryz.isAgg3
 z24:=Tryz.sizeOf3
 t25:=Tryz.underlying235
 a25:=Tryz.isAgg235
 z25:=Tryz.sizeOf235
 v25:=Tryz.zeroValue235}
open Go.RowKit Go.Lib Go.Sort in
theorem Tryz.partitionCmpFunc{α:Type}[Inhabited α](enc:α->Value)(cf:α->α->Int)(g:Nat)(cb:Array Value)(blk off cap a b pivot:Nat)(d0 d:Array α)(w0 w:World)(eg:∀args w,(callFunc g args).run Tryz.prog w= .ok (.enter g args) w)(hcmp:CmpLays1 Tryz.prog g cb enc cf blk off d0.size w0)(R:Row1 enc w0 blk off d0)(hs:d0.size=d.size)(S:SW enc w0 blk off d w)(hap:a<=pivot)(hpb:pivot<b)(hb:b<=d.size)(hsz:d.size<4611686018427387904):Calls Tryz.prog 389 #[.slice (some ⟨blk,off,none⟩) d.size cap,.int .i64 a,.int .i64 b,.int .i64 pivot,.func (.func g) #[] cb] w fun e w'=>e= .returned (.tuple #[.int .i64 (Sort.partition (ltOf cf) d a b pivot).1,.bool (Sort.partition (ltOf cf) d a b pivot).2.1])/\SW enc w0 blk off (Sort.partition (ltOf cf) d a b pivot).2.2 w':=Any.partitionCmpFunc Tryz.Ou enc cf g cb blk off cap a b pivot d0 d w0 w eg hcmp R hs S hap hpb hb hsz
def Tryz.IZ:Go.Shelf.Ren:=⟨fun |6=>296|15=>174|14=>355|28=>252|29=>253|20=>382|21=>383|22=>384|23=>385|24=>386|25=>387|26=>388|27=>389|46=>407|47=>318|48=>319|49=>408|50=>409|57=>417|n=>n,fun |22=>78|24=>3|25=>235|3=>3|39=>239|0=>0|53=>288|55=>290|4=>4|46=>281|45=>280|50=>285|5=>5|9=>9|66=>332|70=>336|76=>369|77=>264|n=>n,fun |n=>n⟩
theorem Tryz.GI:Go.Proofs.SlLaysF.n6 Tryz.prog Tryz.IZ:={
 mixed:=by kernel_rfl
 f6:=⟨Tryz.f296.name,by decide,Tryz.func296.trans (congrArg some zk)⟩
 f14:=⟨Tryz.f355.name,by decide,Tryz.func355.trans (congrArg some zk)⟩
 f15:=Tryz.func174.trans (congrArg some zk)
 f20:=⟨Tryz.f382.name,by decide,Tryz.func382.trans (congrArg some zk)⟩
 f21:=⟨Tryz.f383.name,by decide,Tryz.func383.trans (congrArg some zk)⟩
 f22:=⟨Tryz.f384.name,by decide,Tryz.func384.trans (congrArg some zk)⟩
 f23:=⟨Tryz.f385.name,by decide,Tryz.func385.trans (congrArg some zk)⟩
 f24:=⟨Tryz.f386.name,by decide,Tryz.func386.trans (congrArg some zk)⟩
 f25:=⟨Tryz.f387.name,by decide,Tryz.func387.trans (congrArg some zk)⟩
 f26:=⟨Tryz.f388.name,by decide,Tryz.func388.trans (congrArg some zk)⟩
 f27:=⟨Tryz.f389.name,by decide,Tryz.func389.trans (congrArg some zk)⟩
 f28:=Tryz.func252.trans (congrArg some zk)
 f29:=Tryz.func253.trans (congrArg some zk)
 f46:=⟨Tryz.f407.name,by decide,Tryz.func407.trans (congrArg some zk)⟩
 f47:=Tryz.func318.trans (congrArg some zk)
 f48:=Tryz.func319.trans (congrArg some zk)
 f49:=⟨Tryz.f408.name,by decide,Tryz.func408.trans (congrArg some zk)⟩
 f50:=⟨Tryz.f409.name,by decide,Tryz.func409.trans (congrArg some zk)⟩
 f57:=⟨Tryz.f417.name,by decide,Tryz.func417.trans (congrArg some zk)⟩
 t0:=Tryz.underlying0
 a0:=Tryz.isAgg0
 z0:=Tryz.sizeOf0
 v0:=Tryz.zeroValue0
 t3:=Tryz.underlying3
 a3:=Tryz.isAgg3
 z3:=Tryz.sizeOf3
 v3:=Tryz.zeroValue3
 t4:=Tryz.underlying4
 a4:=Tryz.isAgg4
 z4:=Tryz.sizeOf4
 v4:=Tryz.zeroValue4
 t5:=Tryz.underlying5
 a5:=Tryz.isAgg5
 z5:=Tryz.sizeOf5
 v5:=Tryz.zeroValue5
 t9:=Tryz.underlying9
 a9:=Tryz.isAgg9
 z9:=Tryz.sizeOf9
 v9:=Tryz.zeroValue9
 t22:=Tryz.underlying78
 a22:=Tryz.isAgg78
 z22:=Tryz.sizeOf78
 v22:=Tryz.zeroValue78
 a24:=Tryz.isAgg3
 z24:=Tryz.sizeOf3
 t25:=Tryz.underlying235
 a25:=Tryz.isAgg235
 z25:=Tryz.sizeOf235
 v25:=Tryz.zeroValue235
 t39:=Tryz.underlying239
 a39:=Tryz.isAgg239
 z39:=Tryz.sizeOf239
 v39:=Tryz.zeroValue239
 t45:=Tryz.underlying280
 a45:=Tryz.isAgg280
 z45:=Tryz.sizeOf280
 v45:=Tryz.zeroValue280
 t46:=Tryz.underlying281
 a46:=Tryz.isAgg281
 z46:=Tryz.sizeOf281
 v46:=Tryz.zeroValue281
 t50:=Tryz.underlying285
 a50:=Tryz.isAgg285
 z50:=Tryz.sizeOf285
 v50:=Tryz.zeroValue285
 t53:=Tryz.underlying288
 a53:=Tryz.isAgg288
 z53:=Tryz.sizeOf288
 v53:=Tryz.zeroValue288
 t55:=Tryz.underlying290
 a55:=Tryz.isAgg290
 z55:=Tryz.sizeOf290
 v55:=Tryz.zeroValue290
 t66:=Tryz.underlying332
 a66:=Tryz.isAgg332
 z66:=Tryz.sizeOf332
 v66:=Tryz.zeroValue332
 t70:=Tryz.underlying336
 a70:=Tryz.isAgg336
 z70:=Tryz.sizeOf336
 v70:=Tryz.zeroValue336
 t76:=Tryz.underlying369
 a76:=Tryz.isAgg369
 z76:=Tryz.sizeOf369
 v76:=Tryz.zeroValue369
 t77:=Tryz.underlying264
 a77:=Tryz.isAgg264
 z77:=Tryz.sizeOf264
 v77:=Tryz.zeroValue264}
open Go.RowKit Go.Lib Go.Sort in
theorem Tryz.slices_SortFunc{α:Type}[Inhabited α](enc:α->Value)(h1:OneCell enc)(cf:α->α->Int)(hO:SWO (ltOf cf))(g:Nat)(cb:Array Value)(blk off cap:Nat)(d:Array α)(w:World)(eg:∀args w,(callFunc g args).run Tryz.prog w= .ok (.enter g args) w)(hcmp:CmpLays1 Tryz.prog g cb enc cf blk off d.size w)(hH:Holds enc w blk off d)(hblk:blk<w.heap.size)(hsz:d.size<4611686018427387904):Calls Tryz.prog 296 #[.slice (some ⟨blk,off,none⟩) d.size cap,.func (.func g) #[] cb] w fun e w'=>e= .returned (.tuple #[])/\∃d' n os,PermIn 0 d.size d d'/\SortedIn (ltOf cf) 0 d.size d'/\w'=sortWorld enc w blk off n d' os:=Any.slices_SortFunc Tryz.GI enc h1 cf hO g cb blk off cap d w eg hcmp hH hblk hsz
def Tryz.GK:Go.Shelf.Ren:=⟨fun |6=>296|15=>174|14=>355|28=>252|29=>253|20=>382|21=>383|22=>384|23=>385|24=>386|25=>387|26=>388|27=>389|46=>407|47=>318|48=>319|49=>408|50=>409|57=>417|n=>n,fun |22=>78|24=>3|25=>235|3=>3|39=>239|0=>0|53=>288|55=>290|4=>4|46=>281|45=>280|50=>285|5=>5|9=>9|66=>332|70=>336|76=>369|77=>264|n=>n,fun |n=>n⟩
theorem Tryz.Ov:Go.Proofs.SlLaysF0.n6 Tryz.prog Tryz.GK:={
 mixed:=by kernel_rfl
 f6:=⟨Tryz.f296.name,by decide,Tryz.func296.trans (congrArg some zk)⟩
 f14:=⟨Tryz.f355.name,by decide,Tryz.func355.trans (congrArg some zk)⟩
 f15:=Tryz.func174.trans (congrArg some zk)
 f20:=⟨Tryz.f382.name,by decide,Tryz.func382.trans (congrArg some zk)⟩
 f21:=⟨Tryz.f383.name,by decide,Tryz.func383.trans (congrArg some zk)⟩
 f22:=⟨Tryz.f384.name,by decide,Tryz.func384.trans (congrArg some zk)⟩
 f23:=⟨Tryz.f385.name,by decide,Tryz.func385.trans (congrArg some zk)⟩
 f24:=⟨Tryz.f386.name,by decide,Tryz.func386.trans (congrArg some zk)⟩
 f25:=⟨Tryz.f387.name,by decide,Tryz.func387.trans (congrArg some zk)⟩
 f26:=⟨Tryz.f388.name,by decide,Tryz.func388.trans (congrArg some zk)⟩
 f27:=⟨Tryz.f389.name,by decide,Tryz.func389.trans (congrArg some zk)⟩
 f28:=Tryz.func252.trans (congrArg some zk)
 f29:=Tryz.func253.trans (congrArg some zk)
 f46:=⟨Tryz.f407.name,by decide,Tryz.func407.trans (congrArg some zk)⟩
 f47:=Tryz.func318.trans (congrArg some zk)
 f48:=Tryz.func319.trans (congrArg some zk)
 f49:=⟨Tryz.f408.name,by decide,Tryz.func408.trans (congrArg some zk)⟩
 f50:=⟨Tryz.f409.name,by decide,Tryz.func409.trans (congrArg some zk)⟩
 f57:=⟨Tryz.f417.name,by decide,Tryz.func417.trans (congrArg some zk)⟩
 t0:=Tryz.underlying0
 a0:=Tryz.isAgg0
 z0:=Tryz.sizeOf0
 v0:=Tryz.zeroValue0
 t3:=Tryz.underlying3
 a3:=Tryz.isAgg3
 z3:=Tryz.sizeOf3
 v3:=Tryz.zeroValue3
 t4:=Tryz.underlying4
 a4:=Tryz.isAgg4
 z4:=Tryz.sizeOf4
 v4:=Tryz.zeroValue4
 t5:=Tryz.underlying5
 a5:=Tryz.isAgg5
 z5:=Tryz.sizeOf5
 v5:=Tryz.zeroValue5
 t9:=Tryz.underlying9
 a9:=Tryz.isAgg9
 z9:=Tryz.sizeOf9
 v9:=Tryz.zeroValue9
 t22:=Tryz.underlying78
 a22:=Tryz.isAgg78
 z22:=Tryz.sizeOf78
 v22:=Tryz.zeroValue78
 t25:=Tryz.underlying235
 a25:=Tryz.isAgg235
 z25:=Tryz.sizeOf235
 v25:=Tryz.zeroValue235
 t39:=Tryz.underlying239
 a39:=Tryz.isAgg239
 z39:=Tryz.sizeOf239
 v39:=Tryz.zeroValue239
 t45:=Tryz.underlying280
 a45:=Tryz.isAgg280
 z45:=Tryz.sizeOf280
 v45:=Tryz.zeroValue280
 t46:=Tryz.underlying281
 a46:=Tryz.isAgg281
 z46:=Tryz.sizeOf281
 v46:=Tryz.zeroValue281
 t50:=Tryz.underlying285
 a50:=Tryz.isAgg285
 z50:=Tryz.sizeOf285
 v50:=Tryz.zeroValue285
 t53:=Tryz.underlying288
 a53:=Tryz.isAgg288
 z53:=Tryz.sizeOf288
 v53:=Tryz.zeroValue288
 t55:=Tryz.underlying290
 a55:=Tryz.isAgg290
 z55:=Tryz.sizeOf290
 v55:=Tryz.zeroValue290
 t66:=Tryz.underlying332
 a66:=Tryz.isAgg332
 z66:=Tryz.sizeOf332
 v66:=Tryz.zeroValue332
 t70:=Tryz.underlying336
 a70:=Tryz.isAgg336
 z70:=Tryz.sizeOf336
 v70:=Tryz.zeroValue336
 t76:=Tryz.underlying369
 a76:=Tryz.isAgg369
 z76:=Tryz.sizeOf369
 v76:=Tryz.zeroValue369
 t77:=Tryz.underlying264
 a77:=Tryz.isAgg264
 z77:=Tryz.sizeOf264
 v77:=Tryz.zeroValue264}
open Go.RowKit Go.Lib Go.Sort in
theorem Tryz.slices_SortFunc_none{α:Type}[Inhabited α](p:Option Addr)(cap:Nat)(fv:Value)(w:World):Calls Tryz.prog 296 #[.slice p 0 cap,fv] w fun e w'=>e= .returned (.tuple #[])/\w'=w:=AnyF.slices_SortFunc_none Tryz.Ov p cap fv w
open Go.RowKit Go.Lib Go.Sort in
theorem Tryz.slices_SortFunc_total{α:Type}[Inhabited α](enc:α->Value)(h1:OneCell enc)(cf:α->α->Int)(hO:SWO (ltOf cf))(g:Nat)(cb:Array Value)(blk off cap:Nat)(d:Array α)(w:World)(eg:∀args w,(callFunc g args).run Tryz.prog w= .ok (.enter g args) w)(hcmp:CmpLays1 Tryz.prog g cb enc cf blk off d.size w)(hH:Holds enc w blk off d)(hblk:blk<w.heap.size)(hsz:d.size<4611686018427387904)(hT:∀x y,(ltOf cf) x y=false->(ltOf cf) y x=false->x=y):Calls Tryz.prog 296 #[.slice (some ⟨blk,off,none⟩) d.size cap,.func (.func g) #[] cb] w fun e w'=>e= .returned (.tuple #[])/\∃n os,w'=sortWorld enc w blk off n (d.toList.mergeSort fun x y=> !(ltOf cf) y x).toArray os:=Any.slices_SortFunc_total Tryz.GI enc h1 cf hO g cb blk off cap d w eg hcmp hH hblk hsz hT
def Tryz.keysA_ren:Go.Shelf.Ren:=⟨fun |7=>150|10=>218|n=>n,fun |23=>211|26=>3|3=>3|28=>214|0=>0|27=>213|33=>64|4=>4|n=>n,fun |n=>n⟩
theorem Tryz.keysA:Go.Proofs.SlLaysZI.n7 Tryz.prog Tryz.keysA_ren:={
 mixed:=by kernel_rfl
 f7:=⟨Tryz.f150.name,by decide,Tryz.func150.trans (congrArg some zk)⟩
 f10:=⟨Tryz.f218.name,by decide,Tryz.func218.trans (congrArg some zk)⟩
 t0:=Tryz.underlying0
 a0:=Tryz.isAgg0
 z0:=Tryz.sizeOf0
 v0:=Tryz.zeroValue0
 t4:=Tryz.underlying4
 a4:=Tryz.isAgg4
 z4:=Tryz.sizeOf4
 v4:=Tryz.zeroValue4
 t23:=Tryz.underlying211
 a23:=Tryz.isAgg211
 z23:=Tryz.sizeOf211
 v23:=Tryz.zeroValue211
 t26:=Tryz.underlying3
 a26:=Tryz.isAgg3
 z26:=Tryz.sizeOf3
 v26:=Tryz.zeroValue3
 t27:=Tryz.underlying213
 a27:=Tryz.isAgg213
 z27:=Tryz.sizeOf213
 v27:=Tryz.zeroValue213
 t28:=Tryz.underlying214
 a28:=Tryz.isAgg214
 z28:=Tryz.sizeOf214
 v28:=Tryz.zeroValue214
 t33:=Tryz.underlying64
 a33:=Tryz.isAgg64
 z33:=Tryz.sizeOf64
 v33:=Tryz.zeroValue64}
def Tryz.sortedA_ren:Go.Shelf.Ren:=⟨fun |6=>149|8=>216|9=>217|11=>294|13=>174|12=>295|23=>252|24=>253|14=>346|15=>347|16=>348|17=>349|18=>350|19=>351|20=>352|21=>353|22=>354|25=>379|26=>318|27=>319|28=>380|29=>381|30=>315|31=>406|n=>n,fun |26=>3|28=>214|24=>78|0=>0|3=>3|37=>239|48=>288|50=>290|4=>4|40=>281|39=>280|45=>285|5=>5|9=>9|51=>332|55=>336|57=>369|58=>264|33=>64|n=>n,fun |n=>n⟩
theorem Tryz.sortedA:Go.Proofs.SlLaysZI.n6 Tryz.prog Tryz.sortedA_ren:={
 mixed:=by kernel_rfl
 f6:=⟨Tryz.f149.name,by decide,Tryz.func149.trans (congrArg some zk)⟩
 f8:=⟨Tryz.f216.name,by decide,Tryz.func216.trans (congrArg some zk)⟩
 f11:=⟨Tryz.f294.name,by decide,Tryz.func294.trans (congrArg some zk)⟩
 t0:=Tryz.underlying0
 a0:=Tryz.isAgg0
 z0:=Tryz.sizeOf0
 v0:=Tryz.zeroValue0
 t24:=Tryz.underlying78
 a24:=Tryz.isAgg78
 z24:=Tryz.sizeOf78
 v24:=Tryz.zeroValue78
 t26:=Tryz.underlying3
 a26:=Tryz.isAgg3
 z26:=Tryz.sizeOf3
 v26:=Tryz.zeroValue3
 t28:=Tryz.underlying214
 a28:=Tryz.isAgg214
 z28:=Tryz.sizeOf214
 v28:=Tryz.zeroValue214
 i26:=by kernel_rfl}
def Tryz.ZA:Go.Shelf.Ren:=⟨fun |5=>217|8=>174|7=>295|19=>252|20=>253|10=>346|11=>347|12=>348|13=>349|14=>350|15=>351|16=>352|17=>353|18=>354|30=>379|31=>318|32=>319|33=>380|34=>381|35=>315|40=>406|n=>n,fun |23=>78|25=>3|3=>3|32=>239|22=>78|0=>0|44=>288|46=>290|4=>4|36=>281|35=>280|41=>285|5=>5|9=>9|53=>332|57=>336|63=>369|64=>264|n=>n,fun |n=>n⟩
theorem Tryz.sortA:Go.Proofs.SlLaysM.n5 Tryz.prog Tryz.ZA:={
 mixed:=by kernel_rfl
 f5:=⟨Tryz.f217.name,by decide,Tryz.func217.trans (congrArg some zk)⟩
 f7:=⟨Tryz.f295.name,by decide,Tryz.func295.trans (congrArg some zk)⟩
 f8:=Tryz.func174.trans (congrArg some zk)
 f10:=⟨Tryz.f346.name,by decide,Tryz.func346.trans (congrArg some zk)⟩
 f11:=⟨Tryz.f347.name,by decide,Tryz.func347.trans (congrArg some zk)⟩
 f12:=⟨Tryz.f348.name,by decide,Tryz.func348.trans (congrArg some zk)⟩
 f13:=⟨Tryz.f349.name,by decide,Tryz.func349.trans (congrArg some zk)⟩
 f14:=⟨Tryz.f350.name,by decide,Tryz.func350.trans (congrArg some zk)⟩
 f15:=⟨Tryz.f351.name,by decide,Tryz.func351.trans (congrArg some zk)⟩
 f16:=⟨Tryz.f352.name,by decide,Tryz.func352.trans (congrArg some zk)⟩
 f17:=⟨Tryz.f353.name,by decide,Tryz.func353.trans (congrArg some zk)⟩
 f18:=⟨Tryz.f354.name,by decide,Tryz.func354.trans (congrArg some zk)⟩
 f19:=Tryz.func252.trans (congrArg some zk)
 f20:=Tryz.func253.trans (congrArg some zk)
 f30:=⟨Tryz.f379.name,by decide,Tryz.func379.trans (congrArg some zk)⟩
 f31:=Tryz.func318.trans (congrArg some zk)
 f32:=Tryz.func319.trans (congrArg some zk)
 f33:=⟨Tryz.f380.name,by decide,Tryz.func380.trans (congrArg some zk)⟩
 f34:=⟨Tryz.f381.name,by decide,Tryz.func381.trans (congrArg some zk)⟩
 f35:=⟨Tryz.f315.name,by decide,Tryz.func315.trans (congrArg some zk)⟩
 f40:=⟨Tryz.f406.name,by decide,Tryz.func406.trans (congrArg some zk)⟩
 t0:=Tryz.underlying0
 a0:=Tryz.isAgg0
 z0:=Tryz.sizeOf0
 v0:=Tryz.zeroValue0
 t3:=Tryz.underlying3
 a3:=Tryz.isAgg3
 z3:=Tryz.sizeOf3
 v3:=Tryz.zeroValue3
 t4:=Tryz.underlying4
 a4:=Tryz.isAgg4
 z4:=Tryz.sizeOf4
 v4:=Tryz.zeroValue4
 t5:=Tryz.underlying5
 a5:=Tryz.isAgg5
 z5:=Tryz.sizeOf5
 v5:=Tryz.zeroValue5
 t9:=Tryz.underlying9
 a9:=Tryz.isAgg9
 z9:=Tryz.sizeOf9
 v9:=Tryz.zeroValue9
 t22:=Tryz.underlying78
 a22:=Tryz.isAgg78
 z22:=Tryz.sizeOf78
 v22:=Tryz.zeroValue78
 t23:=Tryz.underlying78
 a23:=Tryz.isAgg78
 z23:=Tryz.sizeOf78
 v23:=Tryz.zeroValue78
 t25:=Tryz.underlying3
 a25:=Tryz.isAgg3
 z25:=Tryz.sizeOf3
 v25:=Tryz.zeroValue3
 t32:=Tryz.underlying239
 a32:=Tryz.isAgg239
 z32:=Tryz.sizeOf239
 v32:=Tryz.zeroValue239
 t35:=Tryz.underlying280
 a35:=Tryz.isAgg280
 z35:=Tryz.sizeOf280
 v35:=Tryz.zeroValue280
 t36:=Tryz.underlying281
 a36:=Tryz.isAgg281
 z36:=Tryz.sizeOf281
 v36:=Tryz.zeroValue281
 t41:=Tryz.underlying285
 a41:=Tryz.isAgg285
 z41:=Tryz.sizeOf285
 v41:=Tryz.zeroValue285
 t44:=Tryz.underlying288
 a44:=Tryz.isAgg288
 z44:=Tryz.sizeOf288
 v44:=Tryz.zeroValue288
 t46:=Tryz.underlying290
 a46:=Tryz.isAgg290
 z46:=Tryz.sizeOf290
 v46:=Tryz.zeroValue290
 t53:=Tryz.underlying332
 a53:=Tryz.isAgg332
 z53:=Tryz.sizeOf332
 v53:=Tryz.zeroValue332
 t57:=Tryz.underlying336
 a57:=Tryz.isAgg336
 z57:=Tryz.sizeOf336
 v57:=Tryz.zeroValue336
 t63:=Tryz.underlying369
 a63:=Tryz.isAgg369
 z63:=Tryz.sizeOf369
 v63:=Tryz.zeroValue369
 t64:=Tryz.underlying264
 a64:=Tryz.isAgg264
 z64:=Tryz.sizeOf264
 v64:=Tryz.zeroValue264}
end Go.Proofs
namespace Go.Proofs
theorem zAd{p:Prop}(h:p:=by simp;omega):p:=h
theorem zBE{p:Prop}(h:p:=by simpa using hi):p:=h
theorem zBb{p:Prop}(h:p:=by simpa using hj):p:=h
theorem zBz{p:Prop}(h:p:=by simp):p:=h
theorem zCd{p:Prop}(h:p:=by
 go_ret
 exact⟨rfl,rfl⟩):p:=h
theorem zDZ{p:Prop}(h:p:=by exact this.mono fun i hi=>by subst hi;rfl):p:=h
theorem zDb{p:Prop}(h:p:=by
 show(w.heap.modify g _)[g]? =_
 rw[Array.getElem?_modify,if_pos rfl,hg]
 rfl):p:=h
theorem zEE{p:Prop}(h:p:=by rw[hw];exact Only.refl _ _):p:=h
theorem zEZ{p:Prop}(h:p:=by
 have h2:=aI h1 (wC (Only.refl (fun _=>False) _) os) (fun _ _ f=>f)
 simpa using h2):p:=h
theorem zEi{p:Prop}(h:p:=by
 rw[qM]
 have:=yO (Lib.keeps xs.toArray) (List.range xs.length)
 simpa using this):p:=h
theorem zEl{p:Prop}(h:p:=by
 rw[rounds_succ]
 go_wp2
 rw[rounds_succ]
 go_wp2
 go_ret
 exact⟨by simp,rfl⟩):p:=h
end Go.Proofs
namespace Go.Proofs.YtdmmebjjojimiaaGreatDoor
open Go.RowKit Go.Lib Go.Sort Go.Shelf
theorem Lp{w:World}{e:TypeId}{g n cap:Nat}{xs:List Value}(h:w.ownsRow 0 e 1 (.slice (some ⟨g,0,none⟩) n cap) n xs)(d:Array Int)(hd:d.size=n):(putRow (Value.int .i64) w g 0 d).ownsRow 0 e 1 (.slice (some ⟨g,0,none⟩) n cap) n (d.toList.map cI):=by
 rcases h.2 with⟨h',_⟩| ⟨g',cap',cur,h',hb,hg,h1,h2,h3,htake⟩;·simp at h'
 simp only[qU,qG,qO,and_true,true_and]at h';obtain⟨rfl,rfl⟩:=h';refine⟨by simp[hd],.inr ⟨g,cap,putCells (Value.int .i64) 0 d cur,rfl,qE _,?_,h1,h2,?_,?_⟩⟩;·exact zDb
 ·simpa[putCells]using h3
 apply List.ext_getElem?;intro j;simp only[yH,putCells,List.getElem?_take,List.getElem?_map];by_cases hj:j<n
 ·have hjd:j<d.size:=by omega
  have hjc:j<cur.size:=zBk;simp[hj,hjd,hjc,cI]
 have hjd:¬j<d.size:=by omega
 simp[hj,hjd]
theorem Jw(w:World)(g:Nat)(d:Array Int):Only (fun k=>k=g) w (putRow (Value.int .i64) w g 0 d):=
 ⟨rfl,rfl,rfl,by simp[putRow,mapBlock],fun k _ hk=>by
  show(w.heap.modify g _)[k]? =_
  rw[Array.getElem?_modify,if_neg (fun e=>hk e.symm)]⟩
theorem wC{F:Nat->Prop}{w w':World}(h:Only F w w')(os:Array Obj):Only F w (grow w' os):=
 h.trans (G:=fun _=>False) ⟨rfl,rfl,rfl,by simp[grow],fun k hk _=>by
  show(w'.heap++os)[k]? =_
  rw[Array.getElem?_append_left hk]⟩ (fun _ f=>f.elim)
theorem wS{F:Nat->Prop}{w w':World}(h:Only F w w')(n:Nat):Only F w (Sort.ahead w' n):=⟨h.os,h.tape,h.output,h.size,h.block⟩
theorem PO{w:World}{e:TypeId}{g n cap:Nat}{xs:List Int}(h:w.ownsRow 0 e 1 (.slice (some ⟨g,0,none⟩) n cap) n (xs.map cI)):Holds (Value.int .i64) w g 0 xs.toArray:=by
 intro j hj;have hn:xs.length=n:=by simpa using h.1
 have hj':j<xs.length:=zBb;refine⟨?_,h.frozenAt _⟩;rw[Nat.zero_add,h.cellAt j zBk];simp[hj',cI]
theorem Lr{w:World}{v:Value}{xs:List Int}(hI:Ints w v xs)(hb:xs.length<=17592186043904):Calls Tryz.prog 83 #[v] w fun e w'=> ∃v',e= .returned v'/\w'.ownsRow 0 3 1 v' xs.length (xs.map cI)/\(∀k,v'.ownBlock=some k->w.heap.size<=k)/\O0 w w':=by
 obtain⟨ao,cap,rfl,hl,hm⟩:=hI.shape;have fin:∀(n:Nat) (zs:List Value) (e:Ending) (w':World),(∃v',e= .returned v'/\w'.ownsRow w.heap.size 3 1 v' n zs/\v'≠ .slice none 0 0/\Below w.heap.size w w')->∃v',e= .returned v'/\w'.ownsRow 0 3 1 v' n zs/\(∀k,v'.ownBlock=some k->w.heap.size<=k)/\O0 w w':=by
  rintro n zs e w' ⟨v',he,ho,_,hbel⟩;refine⟨v',he,⟨ho.1,?_⟩,fun k hk=>(ho.lt k hk).1,(Only.of_below hbel).trans' ?_⟩
  ·rcases ho.2 with h| ⟨g,c,cur,h1,h2,h3⟩;·exact .inl h
   exact .inr ⟨g,c,cur,h1,qE _,h3⟩
  intro i hi;exact hi
 by_cases h0:xs.length=0
 ·have hx:xs=[]:=yF h0;subst hx;cases ao with
  |none=>exact(Tryz.slices_Clone_int_nil 0 cap w).mono fun e w' ⟨he,hw⟩=>⟨_,he,by rw[hw];exact World.ownsRow_nil _ _ _ _,fun k hk=>by simp[Value.ownBlock]at hk,by rw[hw];exact Only.refl _ _⟩
  |some a=>exact(Tryz.slices_Clone_int_zero a cap w).mono fun e w' h=>fin 0 [] e w' h
 obtain⟨b,off,rfl,hbb,hc⟩:=hI.cells _ _ _ rfl zBk;refine(Tryz.slices_Clone_int b off xs.length cap xs w (qH _) zBk hc).mono fun e w' h=>?_;rw[qI (qH _)]at h;exact fin _ _ e w' h
theorem PS{w:World}{v:Value}{xs:List Int}(hI:Ints w v xs)(hb:xs.length<=1099511627776):Calls Tryz.prog 83 #[v] w fun e w'=> ∃v',e= .returned v'/\w'.ownsRow 0 3 1 v' xs.length (xs.map cI)/\(∀k,v'.ownBlock=some k->w.heap.size<=k)/\O0 w w':=Lr hI zBk
theorem ZB{w:World}{v:Value}{xs:List Int}(h:w.ownsRow 0 3 1 v xs.length (xs.map cI))(hb:xs.length<=17592186043904)(cf:Int->Int->Int)(hO:SWO (ltOf cf))(hT:∀x y,(ltOf cf) x y=false->(ltOf cf) y x=false->x=y)(g:Nat)(cb:Array Value)(eg:∀args w,(callFunc g args).run Tryz.prog w= .ok (.enter g args) w)(hcmp:∀(W:World) (x y:Int),Calls Tryz.prog g (#[.int .i64 x,.int .i64 y]++cb) W fun e w'=>e= .returned (.int .i64 (cf x y))/\∃q os',w'=grow (W.drewN q) os'):Calls Tryz.prog 296 #[v,.func (.func g) #[] cb] w fun e w'=>e= .returned (.tuple #[])/\w'.ownsRow 0 3 1 v xs.length ((xs.mergeSort fun x y=> !(ltOf cf) y x).map cI)/\Only (fun k=>v.ownBlock=some k) w w':=by
 by_cases h0:xs.length=0
 ·have hx:xs=[]:=yF h0;subst hx;obtain⟨ao,cap,rfl,_,_⟩:=aC h;refine(Tryz.slices_SortFunc_none (α:=Int) ao cap _ w).mono fun e w' ⟨he,hw⟩=>⟨he,?_,?_⟩;·rw[hw];simpa using h
  exact zEE
 obtain⟨gb,cap,rfl,_,_⟩:=fJ h zBk;have hH:=PO h;have hlt:=dX h (k:=gb) rfl;have key:=Tryz.slices_SortFunc_total (Value.int .i64) (fun _=>rfl) cf hO g cb gb 0 cap xs.toArray w eg (fun m os dk _ x y=>hcmp _ x y) hH hlt zAd hT;simp only[List.size_toArray]at key;refine key.mono fun e w' ⟨he,n,os,hw⟩=>⟨he,?_,?_⟩;·subst hw;unfold sortWorld;have h1:=Lp (w:=Sort.ahead w n) (g:=gb) (n:=xs.length) (cap:=cap) (e:=3) h (xs.mergeSort fun x y=> !(ltOf cf) y x).toArray zAM;exact zEZ
 subst hw;unfold sortWorld;refine wC ?_ os;have:=(wS (Only.refl (fun k=>k=gb) w) n).same (Jw (Sort.ahead w n) gb (xs.mergeSort fun x y=> !(ltOf cf) y x).toArray);exact zDZ
theorem Fj(xs:List Int):(Lib.compact xs).length<=xs.length:=by unfold Lib.compact Lib.compactUpTo;exact zEi
theorem Ug{w:World}{v:Value}{xs:List Int}(h:w.ownsRow 0 3 1 v xs.length (xs.map cI)):Calls Tryz.prog 299 #[v] w fun e w'=> ∃v',e= .returned v'/\w'.ownsRow 0 3 1 v' (Lib.compact xs).length ((Lib.compact xs).map cI)/\v'.ownBlock=v.ownBlock/\Only (fun k=>v.ownBlock=some k) w w':=by
 by_cases h0:xs.length=0
 ·have hx:xs=[]:=yF h0;subst hx;obtain⟨ao,cap,rfl,_,_⟩:=aC h;refine(Tryz.slices_Compact_int_empty ao cap w).mono fun e w' ⟨he,hw⟩=>⟨_,he,?_,rfl,?_⟩;·rw[hw];exact h
  exact zEE
 obtain⟨gb,cap,rfl,hc1,hc2⟩:=fJ h zBk;have hH:=PO h;unfold maxLen at hc2;refine(Tryz.slices_Compact_int gb 0 cap xs w hH zBk hc1).mono fun e w' ⟨he,q,hw⟩=>⟨_,he,?_,rfl,?_⟩;·subst hw;have hle:=Fj xs;have h1:=Lp (w:=Sort.ahead w q) (g:=gb) (n:=xs.length) (cap:=cap) (e:=3) h (Lib.compact xs++List.replicate (xs.length-(Lib.compact xs).length) 0).toArray zAd;have h2:=Yp h1 (Lib.compact xs).length hle;simpa using h2
 subst hw;have:=(wS (Only.refl (fun k=>k=gb) w) q).same (Jw (Sort.ahead w q) gb (Lib.compact xs++List.replicate (xs.length-(Lib.compact xs).length) 0).toArray);exact zDZ
namespace iE
def J5:Int:= -9223372036854775808
def wr(x:Int):Bool:=x==0||x==J5
def uM(x:Int):Int:=max x (IntKind.i64.wrap (-x))
def cf(x y:Int):Int:=if Lib.compareInt (uM x) (uM y)=0 then Lib.compareInt x y else Lib.compareInt (uM x) (uM y)
def lt(x y:Int):Bool:=decide (uM x<uM y\/(uM x=uM y/\x<y))
theorem lt_eq(x y:Int):ltOf cf x y=lt x y:=by unfold ltOf cf lt Lib.compareInt;congr 1;apply propext;split<;>split<;>(try split)<;>(try split)<;>omega
theorem lt_iff(x y:Int):lt x y=true↔uM x<uM y\/(uM x=uM y/\x<y):=by simp[lt]
theorem CO(x y:Int):lt x y=false↔uM y<=uM x/\(uM x=uM y->y<=x):=by rw[<-Bool.not_eq_true,lt_iff];omega
theorem swo:SWO (ltOf cf) where
 irrefl x:=by rw[lt_eq,CO];omega
 trans x y z h1 h2:=by rw[lt_eq,lt_iff]at*;omega
 ntrans x y z h1 h2:=by rw[lt_eq,CO]at*;omega
theorem total(x y:Int)(h1:(ltOf cf) x y=false)(h2:(ltOf cf) y x=false):x=y:=by rw[lt_eq,CO]at*;omega
def sortL(xs:List Int):List Int:=xs.mergeSort fun x y=> !(ltOf cf) y x
def su(xs:List Int):List Int:=Lib.compact (sortL xs)
def clash(l:List Int):Bool:=(List.range l.length).any fun i=>decide (1<=i)&&(l.getD i 0==IntKind.i64.wrap (-(l.getD (i-1) 0)))
def form(xs:List Int):Option (List Int):=if xs.any wr then none else if clash (su xs)then none else some (su xs)
end iE
section
variable {w:World}
theorem PU(x:Int):Calls Tryz.prog 222 #[.int .i64 x] w fun e w'=>e= .returned (.bool (iE.wr x))/\w=w':=by
 unfold iE.wr;by_cases h0:x=0;·subst h0;go_enter Tryz.func222,Tryz.ntmps222;go_wp2;exact zCd
 have h1:(x==0)=false:=yC.2 h0;generalize hm:(x==iE.J5)=r;unfold iE.J5 at hm;rw[h1];clear h0;cases r;all_goals go_enter Tryz.func222,Tryz.ntmps222;go_wp2;go_ret;exact⟨rfl,rfl⟩
theorem Yx(x:Int)(r:Int)(hr:iE.uM x=r):Calls Tryz.prog 298 #[.int .i64 x] w fun e w'=>e= .returned (.int .i64 r)/\w=w':=by subst hr;unfold iE.uM;generalize hy:IntKind.i64.wrap (-x)=y;go_enter Tryz.func298,Tryz.ntmps298;go_wp2;exact zCd
theorem ahm(g:Nat)(a b:Int)(h0:w.cell? ⟨g,0,none⟩=some (.int .i64 a))(h1:w.cell? ⟨g,1,none⟩=some (.int .i64 b)):Calls Tryz.prog 234 #[.slice (some ⟨g,0,none⟩) 2 2] w fun e w'=>e= .returned (.int .i64 (if a=0 then b else a))/\w=w':=by
 by_cases ha:a=0
 ·subst ha;by_cases hb:b=0;·subst hb;go_enter Tryz.func234,Tryz.ntmps234;go_wp2;refine wp_loop_rounds 3 ?_;rw[rounds_succ];go_wp2;exact zEl
  have hb':(b != 0)=true:=bne_iff_ne.2 hb;clear hb;go_enter Tryz.func234,Tryz.ntmps234;go_wp2;refine wp_loop_rounds 2 ?_;exact zEl
 have ha':(a != 0)=true:=bne_iff_ne.2 ha;rw[if_neg ha];clear ha;go_enter Tryz.func234,Tryz.ntmps234;go_wp2;refine wp_loop_rounds 1 ?_;rw[rounds_succ];go_wp2;exact zCd
theorem agm(g:Nat)(a b r:Int)(h0:w.cell? ⟨g,0,none⟩=some (.int .i64 a))(h1:w.cell? ⟨g,1,none⟩=some (.int .i64 b))(hr:(if a=0 then b else a)=r):Calls Tryz.prog 234 #[.slice (some ⟨g,0,none⟩) 2 2] w fun e w'=>e= .returned (.int .i64 r)/\w=w':=by subst hr;exact ahm g a b h0 h1
theorem WO(w:World)(o:Obj):w.alloc o=grow (w.drewN 0) #[o]:=by show({w with heap:=w.heap.push o}:World)={w with heap:=w.heap++ #[o]};rw[Array.push_eq_append]
theorem ahn(x y:Int):Calls Tryz.prog 297 #[.int .i64 x,.int .i64 y] w fun e w'=>e= .returned (.int .i64 (iE.cf x y))/\∃q os',w'=grow (w.drewN q) os':=by unfold iE.cf;have c1:=fun W=>(Tryz.cmp_Compare_int (iE.uM x) (iE.uM y) W).mono fun _ _ h=>(⟨h.1,h.2.symm⟩:_/\W=_);have c2:=fun W=>(Tryz.cmp_Compare_int x y W).mono fun _ _ h=>(⟨h.1,h.2.symm⟩:_/\W=_);have C1:=zh c1;have C2:=zh c2;clear c1 c2;generalize Lib.compareInt (iE.uM x) (iE.uM y)=p at*;generalize Lib.compareInt x y=q at*;generalize hax:iE.uM x=ax at*;generalize hay:iE.uM y=ay at*;have HX:=zh hax;have HY:=zh hay;clear hax hay;generalize hr:(if p=0 then q else p)=r;have HR:=zh hr;clear hr;go_enter Tryz.func297,Tryz.ntmps297;go_wp2_with fail;refine(Yx x ax HX.out).mono ?_;rintro e w1 ⟨rfl,rfl⟩;go_wp2_with fail;refine(Yx y ay HY.out).mono ?_;rintro e w1 ⟨rfl,rfl⟩;go_wp2_with fail;refine(C1.out _).mono ?_;rintro e w1 ⟨rfl,rfl⟩;go_wp2_with fail;refine(C2.out _).mono ?_;rintro e w1 ⟨rfl,rfl⟩;go_wp2_with fail;refine(agm w.heap.size p q r zBz zAM HR.out).mono ?_;rintro e w2 ⟨rfl,rfl⟩;go_wp2_with fail;go_ret;exact⟨rfl,0,#[.cells #[.int .i64 p,.int .i64 q] 3],WO _ _⟩
end
def QO(l:List Int)(k:Nat):Prop:= ∀i,1<=i->i<k->(l.getD i 0==IntKind.i64.wrap (-(l.getD (i-1) 0)))=false
theorem ZC{l:List Int}{k:Nat}(h1:1<=k)(hk:k<l.length)(h:(l.getD k 0==IntKind.i64.wrap (-(l.getD (k-1) 0)))=true):iE.clash l=true:=by unfold iE.clash;rw[yU];exact⟨k,by simpa using hk,by rw[h];simp[h1]⟩
theorem WQ{l:List Int}(h:QO l l.length):iE.clash l=false:=by unfold iE.clash;rw[<-Bool.not_eq_true,yU];rintro⟨i,hi,hc⟩;simp only[Bool.and_eq_true,yP]at hc;rw[h i hc.1 zBE]at hc;exact absurd hc.2 zAM
theorem Uh{xs:List Int}(h:∀x∈xs,bU x):∀x∈iE.su xs,bU x:=by
 intro x hx;unfold iE.su Lib.compact Lib.compactUpTo at hx;obtain⟨i,hi,rfl⟩:=yD.1 hx;have hi2:=(List.mem_filter.1 hi).1;rw[yI]at hi2;have hm:(iE.sortL xs).toArray[i]! ∈iE.sortL xs:=by simp[hi2]
 exact h _ ((List.mergeSort_perm xs _).mem_iff.1 hm)
theorem qo{w:World}{e:TypeId}{g n cap:Nat}{xs:List Int}(h:w.ownsRow 0 e 1 (.slice (some ⟨g,0,none⟩) n cap) n (xs.map cI)){i:Nat}(hi:i<xs.length):w.cell? ⟨g,i,none⟩=some (.int .i64 (xs.getD i 0)):=by
 have hn:xs.length=n:=by simpa using h.1
 rw[h.cellAt i zBk];simp[List.getD,qA hi]
def zL(w:World)(xs:List Int)(e:Ending)(w':World):Prop:=
 match iE.form xs with
 |none=>e= .returned (.tuple #[.slice none 0 0,.bool false])/\O0 w w'
 |some l=> ∃v,e= .returned (.tuple #[v,.bool true])/\w'.ownsRow 0 3 1 v l.length (l.map cI)/\(∀k,v.ownBlock=some k->w.heap.size<=k)/\O0 w w'
theorem ZE{w:World}{v:Value}{xs:List Int}(hI:Ints w v xs)(hb:xs.length<=17592186043904):Calls Tryz.prog 220 #[v] w (zL w xs):=by
 have abJ:∀args w,(callFunc 222 args).run Tryz.prog w= .ok (.enter 222 args) w:=enters_of Tryz.func222 zk rfl;have akx:∀args w,(callFunc 297 args).run Tryz.prog w= .ok (.enter 297 args) w:=enters_of Tryz.func297 zk rfl;have hpred:abq w 222 #[] iE.wr xs:=fun x _ W _=>(PU x).mono fun _ _ ⟨he,hw⟩=>⟨he,by rw[hw];exact Only.refl _ _⟩;have aho:=zh abJ;have aky:=zh akx;have abK:=zh hpred;clear abJ akx hpred;cases hany:xs.any iE.wr
 ·have Fp:=zh hany;clear hany;go_enter Tryz.func220,Tryz.ntmps220;go_wp2_with fail;refine(tH hI 222 #[] iE.wr aho.out abK.out false Fp.out).mono ?_;rintro e w1 ⟨rfl,O1⟩;have hI1:=hI.aN O1;go_wp2_with fail;refine(Lr hI1 hb).mono ?_;rintro e w2 ⟨v2,rfl,R2,N2,O2⟩;go_wp2_with fail;refine(ZB R2 hb iE.cf iE.swo iE.total 297 #[] aky.out (fun W x y=>ahn x y)).mono ?_;rintro e w3 ⟨rfl,R3,O3⟩;have R3':w3.ownsRow 0 3 1 v2 (iE.sortL xs).length ((iE.sortL xs).map cI):=by have:(iE.sortL xs).length=xs.length:=List.length_mergeSort xs;rw[this];exact R3
  go_wp2_with fail;refine(Ug R3').mono ?_;rintro e w4 ⟨v4,rfl,R4,B4,O4⟩;have hl:Lib.compact (iE.sortL xs)=iE.su xs:=rfl;rw[hl]at R4;have hlen:(iE.su xs).length<=17592186043904:=by have h1:=Fj (iE.sortL xs);have h2:(iE.sortL xs).length=xs.length:=List.length_mergeSort xs;rw[hl]at h1;omega
  have hr4:=Uh hI.range;have hform:iE.form xs=if iE.clash (iE.su xs)then none else some (iE.su xs):=by unfold iE.form;rw[Fp.out];rfl
  have N4:∀k,v4.ownBlock=some k->w.heap.size<=k:=fun k hk=>by rw[B4]at hk;have:=N2 k hk;have:=O1.size;omega
  have O5:O0 w w4:=((O1.same O2).trans O3 fun i hi=>.inr (by have:=N2 i hi;have:=O1.size;omega)).trans O4 fun i hi=>.inr (by have:=N2 i hi;have:=O1.size;omega);have HF:=zh hform;clear hl hform O1 O2 O3 O4 R2 R3 R3' N2 B4 hI1 hI Fp abK aho aky;generalize iE.su xs=l at*;obtain⟨ao,cap,rfl,hc1,hc2⟩:=aC R4;unfold maxLen at hc2;go_wp2_with fail;go_loopw [5] (fun v wr=> ∃(k:Nat),v= .int .i64 k/\1<=k/\(k<=l.length\/k=1)/\QO l k/\wr.ownsRow 0 3 1 (.slice ao l.length cap) l.length (l.map cI)/\O0 w wr) (fun v _=>l.length-(intOf v).toNat);case atStart=>exact⟨1,rfl,qH _,.inr rfl,fun i h1 h2=>by omega,R4,O5⟩
  case round=>
   clear R4 O5;obtain⟨k,rfl,hk1,hk2,hN,R4,O5⟩:=hrel;have HN:=zh hN;have HK2:=zh hk2;clear hN hk2;by_cases c:k<l.length
   ·obtain⟨g,cap',he,_,_⟩:=fJ R4 zBk;simp only[qU]at he;obtain⟨rfl,-,rfl⟩:=he;obtain⟨j,rfl⟩:∃j,k=j+1:=⟨k-1,by omega⟩;have q1:wr.cell? ⟨g,j+1,none⟩=some (.int .i64 (l.getD (j+1) 0)):=qo R4 c;have q2:wr.cell? ⟨g,j,none⟩=some (.int .i64 (l.getD j 0)):=qo R4 zBk;have e2:IntKind.i64.wrap (j:Int)=j:=IntWalk.i64_in _ zBk;have e3:(j:Int)<(l.length:Int):=zBk;have e4:(j:Int)+1<(l.length:Int):=zBk;have hcl:=fun h=>ZC (l:=l) (k:=j+1) hk1 c h;have hnc:(l.getD (j+1) 0==IntKind.i64.wrap (-(l.getD j 0)))=false->QO l (j+2):=by
     intro hcmp i h1 h2;rcases yK i (j+1)with h3|h3;·exact HN.out i h1 h3
     have:i=j+1:=by omega
     subst this;simpa using hcmp
    simp only[Nat.add_sub_cancel]at hcl;generalize l.getD (j+1) 0=a at*;generalize l.getD j 0=b at*;generalize hnb:IntKind.i64.wrap (-b)=nb at*;cases hcmp:(a==nb)
    ·have HS:=zh (hnc hcmp);clear hcl hnc;go_wp2_with fail;go_quiet (fail);clear e2;go_wp2_with fail;go_roundw;case rel=>exact⟨j+2,by go_num,by omega,.inl zBk,HS.out,R4,O5.drewN _⟩
     case measure=>simp[intOf];omega
    have HC:=zh (hcl hcmp);clear hcl hnc;go_wp2_with fail;go_quiet (fail);clear e2;go_wp2_with fail;go_ret2;unfold zL;rw[HF.out,HC.out];exact⟨rfl,O5.drewN _⟩
   have hcl:iE.clash l=false:=by refine WQ fun i h1 h2=>HN.out i h1 ?_;have:=HK2.out;omega
   have HC:=zh hcl;clear hcl;go_wp2_with fail;go_ret2;unfold zL;rw[HF.out,HC.out];exact⟨_,rfl,R4,N4,O5⟩
 have Fp:=zh hany;clear hany;go_enter Tryz.func220,Tryz.ntmps220;go_wp2_with fail;refine(tH hI 222 #[] iE.wr aho.out abK.out true Fp.out).mono ?_;rintro e w1 ⟨rfl,O1⟩;go_wp2_with fail;go_ret2;have hf:iE.form xs=none:=by unfold iE.form;rw[Fp.out];rfl
 unfold zL;rw[hf];exact⟨rfl,O1⟩
theorem abL{w:World}{v:Value}{xs:List Int}(hI:Ints w v xs)(hb:xs.length<=1099511627776):Calls Tryz.prog 220 #[v] w (zL w xs):=ZE hI zBk
namespace iE
def Strict(l:List Int):Prop:=l.Pairwise fun x y=>lt x y=true
theorem WR(xs:List Int):(sortL xs).Perm xs:=List.mergeSort_perm xs _
theorem QS(xs:List Int):(sortL xs).Pairwise fun x y=>lt y x=false:=by
 have h:=List.pairwise_mergeSort (le:=fun x y=> !(ltOf cf) y x) (l:=xs)
  (by
    intro a b c h1 h2
    simp only[Bool.not_eq_true']at*
    exact swo.ntrans c b a h2 h1)
  (by
    intro a b
    simp only[Bool.or_eq_true,Bool.not_eq_true']
    rw[lt_eq,lt_eq,CO,CO];omega)
 exact h.imp (by intro a b h;simpa[lt_eq]using h)
theorem Ls{l:List Int}(h:l.Pairwise fun x y=>lt y x=false){i j:Nat}(hij:i<j)(hj:j<l.length):lt (l.getD j 0) (l.getD i 0)=false:=by have:=(List.pairwise_iff_getElem.1 h) i j zBk hj hij;simpa[qC,hj,show i<l.length by omega]using this
theorem I7(l:List Int)(j:Nat)(hj:j<l.length):Lib.keeps l.toArray j=true↔j=0\/l.getD j 0≠l.getD (j-1) 0:=by
 unfold Lib.keeps;simp only[yP];have h1:l.toArray[j]! =l.getD j 0:=by simp[hj,qC]
 have h2:l.toArray[j-1]! =l.getD (j-1) 0:=by simp[show j-1<l.length by omega,qC]
 rw[h1,h2]
theorem Lu{l:List Int}(h:l.Pairwise fun x y=>lt y x=false):Strict (Lib.compact l):=by
 unfold Strict Lib.compact Lib.compactUpTo;rw[List.pairwise_map];have hr:(List.range l.length).Pairwise (· < ·):=List.pairwise_lt_range;have hf:=(hr.filter (Lib.keeps l.toArray));refine hf.imp_of_mem ?_;intro i j hi hj hij;obtain⟨hi1,hi2⟩:=List.mem_filter.1 hi;obtain⟨hj1,hj2⟩:=List.mem_filter.1 hj;rw[yI]at hi1 hj1;have e1:l.toArray[i]! =l.getD i 0:=by simp[hi1,qC]
 have e2:l.toArray[j]! =l.getD j 0:=by simp[hj1,qC]
 rw[e1,e2];have hk:=(I7 l j hj1).1 hj2;have hne:l.getD j 0≠l.getD (j-1) 0:=by
  rcases hk with hk|hk;·omega
  exact hk
 have h1:=Ls h (i:=j-1) (j:=j) zBk hj1;rw[CO]at h1;rw[lt_iff];by_cases e:i=j-1;·subst e;omega
 have h2:=Ls h (i:=i) (j:=j-1) zAC zBk;rw[CO]at h2;omega
theorem mem_compact(l:List Int)(x:Int):x∈Lib.compact l↔x∈l:=by
 unfold Lib.compact Lib.compactUpTo;constructor;·intro hx;obtain⟨i,hi,rfl⟩:=yD.1 hx;have hi1:=(List.mem_filter.1 hi).1;rw[yI]at hi1;simp[hi1]
 intro hx; -- the first place where it stands
 have key:∀n,∀i,i=n->i<l.length->l.getD i 0=x->∃j,j<l.length/\Lib.keeps l.toArray j=true/\l.getD j 0=x:=by
  intro n
  induction n with
  |zero=>intro i hi hl he;subst hi;exact⟨0,hl,(I7 l 0 hl).2 (.inl rfl),he⟩
  |succ n ih=>
   intro i hi hl he
   subst hi
   by_cases hk:l.getD (n+1) 0=l.getD n 0
   ·exact ih n rfl zBk (by rw[<-hk];exact he)
   ·exact⟨n+1,hl,(I7 l (n+1) hl).2 (.inr (by simpa using hk)),he⟩
 obtain⟨i,hi,rfl⟩:=List.getElem_of_mem hx;obtain⟨j,hj1,hj2,hj3⟩:=key i i rfl hi (by simp[qC,hi]);rw[yD];refine⟨j,List.mem_filter.2 ⟨by simpa using hj1,hj2⟩,?_⟩;rw[<-hj3];simp[hj1,qC]
theorem Au(xs:List Int):Strict (su xs):=Lu (QS xs)
theorem lD(xs:List Int)(x:Int):x∈su xs↔x∈xs:=by unfold su;rw[mem_compact];exact(WR xs).mem_iff
theorem LC:∀{a b:List Int},Strict a->Strict b->(∀x,x∈a↔x∈b)->a=b
 | [],[],_,_,_=>rfl
 | [],y::b,_,_,h=>absurd ((h y).2 (qQ ..)) zAM
 |x::a,[],_,_,h=>absurd ((h x).1 (qQ ..)) zAM
 |x::a,y::b,ha,hb,h=>by
  unfold Strict at ha hb
  rw[List.pairwise_cons]at ha hb
  have hxy:x=y:=by
   have h1:=(h x).1 (qQ ..)
   have h2:=(h y).2 (qQ ..)
   rcases qY.1 h1 with e|h1
   ·exact e
   ·rcases qY.1 h2 with e|h2
    ·exact e.symm
    ·have k1:=ha.1 y h2
     have k2:=hb.1 x h1
     rw[lt_iff]at k1 k2;omega
  subst hxy
  have irr:∀z,lt z z=false:=fun z=>by rw[CO];omega
  rw[LC ha.2 hb.2 fun z=>?_]
  have hz:=h z
  simp only[qY]at hz
  constructor
  ·intro hza
   rcases hz.1 (.inr hza)with e|e
   ·subst e;have:=ha.1 z hza;rw[irr]at this;cases this
   ·exact e
  ·intro hzb
   rcases hz.2 (.inr hzb)with e|e
   ·subst e;have:=hb.1 z hzb;rw[irr]at this;cases this
   ·exact e
end iE
namespace iE
structure Lit (x:Int):Prop where
 r:bU x
 w:wr x=false
theorem Lit.ne0{x:Int}(h:Lit x):x≠0:=by intro e;subst e;have:=h.w;revert this;decide
theorem Lit.lo{x:Int}(h:Lit x): -9223372036854775807<=x/\x<=9223372036854775807:=by
 have h1:=h.r;have h2:x≠J5:=by intro e;have:=h.w;unfold wr at this;rw[e]at this;simp at this
 unfold J5 at h2;unfold bU at h1;omega
theorem Lit.neg{x:Int}(h:Lit x):Lit (-x):=by have h1:=h.lo;have h2:=h.ne0;refine⟨by unfold bU;omega,?_⟩;unfold wr J5;simp only[Bool.or_eq_false_iff,yC];omega
theorem Lit.wrap{x:Int}(h:Lit x):IntKind.i64.wrap (-x)= -x:=IntWalk.i64_in _ (by have:=h.lo;omega)
theorem Lit.abs{x:Int}(h:Lit x):uM x=x.natAbs:=by unfold uM;rw[h.wrap];omega
def nG(l:List Int):Prop:=l.Pairwise fun x y=>x.natAbs<y.natAbs
theorem nG.strict{l:List Int}(h:nG l)(hl:∀x∈l,Lit x):Strict l:=by unfold nG at h;unfold Strict;refine h.imp_of_mem ?_;intro a b ha hb hab;rw[lt_iff,(hl a ha).abs,(hl b hb).abs];omega
theorem abM{xs:List Int}(h:∀x∈xs,Lit x):xs.any wr=false:=by rw[<-Bool.not_eq_true,yU];rintro⟨x,hx,hw⟩;rw[(h x hx).w]at hw;cases hw
theorem CQ{l:List Int}(h:nG l)(hl:∀x∈l,Lit x):clash l=false:=by
 unfold clash;rw[<-Bool.not_eq_true,yU];rintro⟨i,hi,hc⟩;simp only[Bool.and_eq_true,yP,beq_iff_eq]at hc;rw[yI]at hi;obtain⟨h1,h2⟩:=hc;have e1:l.getD i 0=l[i]:=by simp[qC,hi]
 have e2:l.getD (i-1) 0=l[i-1]:=by simp[qC,show i-1<l.length by omega]
 have h3:=(List.pairwise_iff_getElem.1 h) (i-1) i zAC hi zBk;rw[e1,e2,(hl _ (qZ zBk)).wrap]at h2;rw[h2]at h3;omega
theorem zM{xs o:List Int}(hx:∀x∈xs,Lit x)(ho:nG o)(hm:∀y,y∈o↔y∈xs):form xs=some o:=by have hl:∀x∈o,Lit x:=fun x h=>hx x ((hm x).1 h);have e:su xs=o:=LC (Au xs) (ho.strict hl) (fun y=>(lD xs y).trans (hm y).symm);unfold form;rw[abM hx,e,CQ ho hl];rfl
theorem WS{xs:List Int}{x:Int}(hx:x∈xs)(hw:wr x=true):form xs=none:=by unfold form;rw[if_pos (yU.2 ⟨x,hx,hw⟩)]
theorem abN{xs:List Int}(hx:∀x∈xs,bU x){x:Int}(h1:x∈xs)(h2: -x∈xs):form xs=none:=by
 by_cases hany:xs.any wr=true;·unfold form;rw[if_pos hany]
 have hl:∀y∈xs,Lit y:=fun y hy=>⟨hx y hy,by
  cases h:wr y
  ·rfl
  ·exact(hany (yU.2 ⟨y,hy,h⟩)).elim⟩
 have hf:∀y∈su xs,Lit y:=fun y hy=>hl y ((lD xs y).1 hy);unfold form;rw[if_neg hany,if_pos];have m1:=(lD xs x).2 h1;have m2:=(lD xs (-x)).2 h2;obtain⟨i,hi,ei⟩:=List.getElem_of_mem m1;obtain⟨j,hj,ej⟩:=List.getElem_of_mem m2;have hs:=Au xs;generalize su xs=l at*;have key:∀i j,(hi:i<l.length)->(hj:j<l.length)->i<j->l[j]= -l[i]->clash l=true:=by
  intro i j hi hj hij e;have hP:=List.pairwise_iff_getElem.1 hs;have hj1:j=i+1:=by apply Classical.byContradiction;intro hne;have q1:=hP i (i+1) hi zAC zBk;have q2:=hP (i+1) j zAC hj zBk;have b1:=(hf _ (qZ hi)).abs;have b2:=(hf _ (qZ (show i+1<l.length by omega))).abs;have b3:=(hf _ (qZ hj)).abs;rw[lt_iff,b1,b2]at q1;rw[lt_iff,b2,b3]at q2;rw[e]at q2;omega
  subst hj1;unfold clash;rw[yU];refine⟨i+1,by simpa using hj,?_⟩;have e1:l.getD (i+1) 0=l[i+1]:=by simp[qC,hj]
  have e2:l.getD (i+1-1) 0=l[i]:=by simp[qC,hi]
  rw[e1,e2,(hf _ (qZ hi)).wrap,e];simp
 rcases Nat.lt_trichotomy i j with c|c|c;·exact key i j hi hj c (by rw[ei,ej])
 ·subst c;have:x= -x:=ei.symm.trans ej;have:=(hl x h1).ne0;omega
 exact key j i hj hi c (by rw[ei,ej];omega)
end iE
end Go.Proofs.YtdmmebjjojimiaaGreatDoor
namespace Go.Proofs
theorem zB6{p:Prop}(h:p:=by rw[e]):p:=h
end Go.Proofs
namespace Go.Proofs.YtdmmebjjojimiaaGreatDoor
open Go.RowKit
section
variable {w:World}
theorem wU(x:Int)(hx:bU x)(r:Bool)(hr:iE.wr x=r):Calls Tryz.prog 97 #[.int .i64 x] w fun e w'=>e= .returned (.bool r)/\w=w':=by
 subst hr;unfold iE.wr;obtain⟨h1,h2⟩:=hx;by_cases h0:x=0;·subst h0;go_enter Tryz.func97,Tryz.ntmps97;go_wp2;exact zCd
 have k0:(x==0)=false:=yC.2 h0;have key:(x==IntKind.i64.wrap (-x))=(x==iE.J5):=by rw[Bool.eq_iff_iff,beq_iff_eq,beq_iff_eq,qD];unfold iE.J5;omega
 rw[k0];generalize hnx:IntKind.i64.wrap (-x)=nx at*;cases hm:(x==iE.J5);all_goals rw[hm]at key;clear hm h0 h1 h2;go_enter Tryz.func97,Tryz.ntmps97;go_wp2;go_ret;exact⟨rfl,rfl⟩
theorem GL(x:Int)(hx:bU x)(hw:iE.wr x=false):Calls Tryz.prog 98 #[.int .i64 x] w fun e w'=>e= .returned (.int .i64 (x.natAbs:Int))/\w=w':=by
 obtain⟨h1,h2⟩:=hx;have hne:x≠ -9223372036854775808:=by intro e;rw[e]at hw;revert hw;decide
 have hw': -9223372036854775807<=x:=zBk;clear hw hne h1;by_cases h0:x<0
 ·have e:((x.natAbs:Nat):Int)= -x:=by omega
  rw[e];go_enter Tryz.func98,Tryz.ntmps98;go_wp2;exact zCd
 have e:((x.natAbs:Nat):Int)=x:=by omega
 rw[e];clear e;go_enter Tryz.func98,Tryz.ntmps98;go_wp2;exact zCd
theorem LD{va vb:Value}{xs ys:List Int}(ha:Ints w va xs)(hb:Ints w vb ys):Calls Tryz.prog 69 #[va,vb] w fun e w'=>e= .returned (.bool (xs==ys))/\O0 w w':=by
 obtain⟨ao,ca,rfl,ha1,ha2⟩:=ha.shape;obtain⟨bo,cb,rfl,hb1,hb2⟩:=hb.shape;by_cases hl:xs.length=ys.length
 ·have k1:((xs.length:Int) != (ys.length:Int))=false:=by simp[hl]
  have HL:=zh hl;clear hl;go_enter Tryz.func69,Tryz.ntmps69;go_wp2;go_loopw [13] (fun v wr=> ∃k:Nat,v= .int .i64 k/\k<=xs.length/\(∀j,j<k->xs.getD j 0=ys.getD j 0)/\O0 w wr) (fun v _=>xs.length-(intOf v).toNat);case atStart=>exact⟨0,rfl,qE _,fun j hj=>by omega,Only.refl _ _⟩
  case round=>
   obtain⟨k,rfl,hk,hE,hO⟩:=hrel;have HE:=zh hE;clear hE;by_cases c:k<xs.length
   ·obtain⟨b1,o1,rfl,_,c1⟩:=(ha.aN hO).cells _ _ _ rfl zBk;obtain⟨b2,o2,rfl,_,c2⟩:=(hb.aN hO).cells _ _ _ rfl (by have:=HL.out;omega);have q1:=c1 k c;have q2:=c2 k (by have:=HL.out;omega);have e1:(k:Int)<(xs.length:Int):=zBk;have e2:(k:Int)<(ys.length:Int):=by have:=HL.out;omega
    clear c1 c2;generalize hx:xs.getD k 0=x at*;generalize hy:ys.getD k 0=y at*;have HX:=zh hx;have HY:=zh hy;clear hx hy;cases hc:(x != y)
    ·have hxy:x=y:=by simpa using hc
     have HXY:=zh hxy;clear hxy;go_wp2_with fail;go_quiet (fail);go_wp2_with fail;go_roundw;case rel=>
      refine⟨k+1,by go_num,by omega,fun j hj=>?_,hO.drewN _⟩;rcases yK j k with h1|h1;·exact HE.out j h1
      rw[show j=k by omega,HX.out,HY.out,HXY.out]
     case measure=>simp[intOf];omega
    have hne:(xs==ys)=false:=yC.2 (fun e=>by
     have h1:=HX.out
     rw[e,HY.out]at h1
     rw[h1]at hc
     simp at hc)
    have HNE:=zh hne;clear hne;go_wp2_with fail;go_quiet (fail);go_wp2_with fail;go_ret;rw[HNE.out];exact⟨rfl,hO.drewN _⟩
   have heq:(xs==ys)=true:=by rw[beq_iff_eq];apply List.ext_getElem HL.out;intro i h1 h2;have:=HE.out i zBk;simpa[qC,h1,h2]using this
   have HEQ:=zh heq;clear heq;go_wp2_with fail;go_ret;rw[HEQ.out];exact⟨rfl,hO⟩
 have k1:((xs.length:Int) != (ys.length:Int))=true:=bne_iff_ne.2 zBk;have hne:(xs==ys)=false:=yC.2 (fun e=>hl zB6);rw[hne];clear hl hne;go_enter Tryz.func69,Tryz.ntmps69;go_wp2;go_ret;exact⟨rfl,Only.refl _ _⟩
end
namespace Rup
theorem Ui{c f:List Int}(h:iE.form c=some f):∀x,x∈f↔x∈c:=by
 unfold iE.form at h;split at h;·cases h
 split at h;·cases h
 simp at h;subst h;exact iE.lD c
end Rup
theorem WT{xs f:List Int}(h:∀x∈xs,bU x)(hf:iE.form xs=some f):∀x∈f,bU x:=fun x hx=>h x ((Rup.Ui hf x).1 hx)
end Go.Proofs.YtdmmebjjojimiaaGreatDoor
namespace Go.Proofs
theorem zB5{p:Prop}(h:p:=by unfold Mine;rw[H.tb];decide):p:=h
theorem zCy{p:Prop}(h:p:=by
 refine⟨g,V,⟨?_,H.tb,H.l.far (hF zAG) _,H.ci.F7 H.ct ho (fun k hk e=>by rw[e,H.tb]at hk;simp at hk),H.ct,H.few,H.short,H.fresh.more ho.size⟩,Agree.refl _ _,(Only.refl _ w).setCell (.inl zB5) _⟩
 rw[jX H.blk];rfl):p:=h
theorem zD4{p:Prop}(h:p:=by
 rw[<-HAdd.out]at hfin
 have HFin:=zh hfin
 clear hfin HC O2 O3
 go_wp2_with fail
 go_end0
 exact⟨rfl,HFin.out⟩):p:=h
end Go.Proofs
namespace Go.Proofs.YtdmmebjjojimiaaGreatDoor
open Go.RowKit
structure lu where
 cls:List (List Int)
 bad:Bool
 full:Bool
structure WU where
 vl:Value
 us:List Value
structure lJ (w:World) (g:Tag) (b:Nat) (V:WU) (B:lu):Prop where
 blk:w.heap[b]? =some (.cells #[V.vl,.bool B.bad,.bool B.full] 162 (0,0))
 tb:g b=(31,0)
 l:Row w g (32,0) 78 V.vl V.us
 ci:lG w V.us B.cls
 ct:∀i,i<B.cls.length->Tagged g (33,0) (V.us.getD i bP) (B.cls.getD i [])
 few:B.cls.length<=262144
 short:∀c∈B.cls,c.length<=1099511627
 fresh:sV w g
def iV(w:World)(g:Tag)(b:Nat)(B:lu)(w':World):Prop:= ∃g' V',lJ w' g' b V' B/\Agree w g g'/\Only (Mine g) w w'
section
variable {w:World} {g:Tag} {b:Nat} {V:WU} {B:lu}
theorem lJ.only(H:lJ w g b V B){F:Nat->Prop}{w':World}(ho:Only F w w')(hF:∀k,(g k).1≠0->¬F k):lJ w' g b V B:=
 ⟨aF H.blk ho (hF b (by rw[H.tb];simp)),H.tb,H.l.only ho (fun k hk=>hF k (by rw[hk];simp)),H.ci.F7 H.ct ho (fun k hk=>hF k (by rw[hk];simp)),H.ct,H.few,H.short,H.fresh.more ho.size⟩
theorem lJ.aN(H:lJ w g b V B){w':World}(ho:O0 w w'):lJ w' g b V B:=H.only ho (fun _ _ f=>f)
theorem iV.refl(H:lJ w g b V B):iV w g b B w:=⟨g,V,H,Agree.refl _ _,Only.refl _ _⟩
theorem iV.trans{g1:Tag}{w1 w2:World}{B2:lu}(ha:Agree w g g1)(ho:Only (Mine g) w w1)(h2:iV w1 g1 b B2 w2):iV w g b B2 w2:=by obtain⟨g2,V2,H2,A2,O2⟩:=h2;exact⟨g2,V2,H2,ha.trans A2 ho.size,ho.mine ha O2⟩
theorem lJ.Uf(H:lJ w g b V B):En w V.vl B.cls:=⟨V.us,Cells.fH H.l.own,H.ci⟩
def LG(w:World)(e:Ending)(w':World):Prop:= ∃b g V,e= .returned (.pointer (some ⟨b,0,none⟩))/\lJ w' g b V ⟨[],false,false⟩/\(∀k,Mine g k->w.heap.size<=k)/\O0 w w'
theorem LG.of(w:World):LG w (.returned (.pointer (some ⟨w.heap.size,0,none⟩))) (w.alloc (.cells #[.slice none 0 0,.bool false,.bool false] 162)):=by
 refine⟨w.heap.size,fun k=>if k=w.heap.size then (31,0)else (0,0),⟨bP,[]⟩,rfl,⟨qL w _,by simp,Row.nil _ _ _ _,⟨rfl,by simp⟩,by simp,by simp,by simp,?_⟩,fun k hk=>?_,(Only.refl _ w).alloc _⟩;·intro k hk;simp at hk;simp only;rw[if_neg zBk]
 unfold Mine at hk;simp only at hk;split at hk;·omega
 simp at hk
theorem WV(w:World):Calls Tryz.prog 73 #[] w (LG w):=by have hm:=LG.of w;have HM:=zh hm;clear hm;go_enter Tryz.func73,Tryz.ntmps73;go_wp2_with fail;go_ret;exact HM.out
theorem CS(H:lJ w g b V B):Calls Tryz.prog 29 #[.pointer (some ⟨b,0,none⟩)] w fun e w'=> ∃v us,e= .returned v/\CG w w' v us B.cls/\O0 w w':=by
 have hI:=H.Uf;have hfew:=H.few;have HSh:=zh H.short;have q0:w.cell? ⟨b,0,none⟩=some V.vl:=by rw[ah H.blk];rfl
 obtain⟨ac,cc,hvl,hc1,hc2⟩:=hI.shape;rw[hvl]at q0 hI;clear hvl;go_enter Tryz.func29,Tryz.ntmps29;go_wp2_with fail;go_loopw [3,13] (fun vo v wr=> ∃(k:Nat) (us:List Value),v= .int .i64 k/\k<=B.cls.length/\us.length<=k/\CG w wr vo us (B.cls.take k)/\O0 w wr) (fun _ v _=>B.cls.length-(intOf v).toNat);case atStart=>exact⟨0,[],rfl,qE _,qE _,CG.nil w w,Only.refl _ _⟩
 case round=>
  obtain⟨k,us,rfl,hk,hus,hS,hO⟩:=hrel;by_cases ck:k<B.cls.length
  ·obtain⟨bb,off,u,rfl,_,q,hu⟩:=(hI.aN hO).at ck;have hcb:=HSh.out _ (ql [] ck);have hts:=WM B.cls k ck;obtain⟨au,cu,rfl,_,_⟩:=hu.shape;have HTS:=zh hts;clear hts;generalize B.cls.getD k []=c at*;have hC:=PS hu zBk;have HC:=zh hC;clear hC;go_wp2_with fail;refine HC.out.mono ?_;rintro e w2 ⟨vf,rfl,R1,N1,O2⟩;have hIf:=Ints.fH R1 hu.range;have hS2:=hS.aN O2;have hO2:=hO.same O2;have hap:0<c.length->∀j,Value.blk vf=some j->u3.ownBlock≠some j:=by
    intro _ j hj hF;have hj1:vf.ownBlock=some j:=by
     rcases R1.2 with⟨h',_⟩| ⟨g',cap',cur,h',_⟩;·rw[h']at hj;simp[Value.blk]at hj
     rw[h']at hj⊢;simpa[Value.blk,Value.ownBlock]using hj
    have h1:=N1 j hj1;have h2:=dX hS.row hF;omega
   have HAp:=zh hap;clear hap;obtain⟨af,cf,rfl,_,_⟩:=hIf.shape;go_wp2_with (at_builtin;go_must (refine tC (u:=.slice af c.length cf) abt rfl (.tmp 17) (.tmp 20) rfl rfl rfl (Po _ _ _ _ rfl) rfl (aI hS2.row ((Only.refl (fun _=>False) _).alloc _) (fun _ _ f=>f)) zBk (by decide) ?n3));intro v2 w3 s1 s2 s3;have hsz:=hO2.size;have hS3:=(hS2.aN ((Only.refl (fun _=>False) _).alloc (.cells #[.slice af c.length cf] 78))).snoc zAd (hIf.aN ((Only.refl (fun _=>False) _).alloc _)) HAp.out s1 s2 s3;have hO3:O0 w w3:=(hO2.alloc _).trans s2 (fun k hk=>.inr (hS2.new k hk));clear s1 s2 s3 hS2;go_wp2_with fail;go_roundw;case rel=>refine⟨k+1,us++[.slice af c.length cf],by go_num,by omega,by simp;omega,?_,hO3⟩;rw[HTS.out];exact hS3
   case measure=>simp[intOf];omega
  have hk':k=B.cls.length:=by omega
  have hfin:CG w wr u3 us B.cls:=by rw[hk',qI (qH _)]at hS;exact hS
  have HFin:=zh hfin;clear hS hfin;go_wp2_with fail;go_ret;exact⟨_,us,rfl,HFin.out,hO⟩
end
def lu.add(B:lu)(xs:List Int):lu:=
 if xs.any iE.wr then {B with bad:=true}else
 match iE.form xs with
 |none=>B
 |some f=>if 262144<=B.cls.length then {B with full:=true}else {B with cls:=B.cls++[f]}
theorem abO{xs f:List Int}(h:iE.form xs=some f):f.length<=xs.length:=by
 have h1:=Fj (iE.sortL xs);have h2:(iE.sortL xs).length=xs.length:=List.length_mergeSort xs;have hl:Lib.compact (iE.sortL xs)=iE.su xs:=rfl;rw[hl]at h1;unfold iE.form at h;split at h;·cases h
 split at h;·cases h
 have:=Option.some.inj h;rw[<-this];omega
section
variable {w:World} {g:Tag} {b:Nat} {V:WU} {B:lu}
theorem lJ.ahq(H:lJ w g b V B):iV w g b {B with bad:=true} (w.setCell ⟨b,1,none⟩ (.bool true)):=by have hF:∀{t:Nat×Nat},t≠(31,0)->g b≠t:=fun{t} h e=>h (e.symm.trans H.tb);have ho:Only (fun k=>k=b) w (w.setCell ⟨b,1,none⟩ (.bool true)):=Only.setCell (Only.refl (fun k=>k=b) w) (p:=⟨b,1,none⟩) (.inl rfl) _;exact zCy
theorem lJ.QT(H:lJ w g b V B):iV w g b {B with full:=true} (w.setCell ⟨b,2,none⟩ (.bool true)):=by have hF:∀{t:Nat×Nat},t≠(31,0)->g b≠t:=fun{t} h e=>h (e.symm.trans H.tb);have ho:Only (fun k=>k=b) w (w.setCell ⟨b,2,none⟩ (.bool true)):=Only.setCell (Only.refl (fun k=>k=b) w) (p:=⟨b,2,none⟩) (.inl rfl) _;exact zCy
def mZ(w w2:World)(g:Tag):Tag:=Tag.put g w.heap.size w2.heap.size (33,0)
theorem uN{w w2:World}{g:Tag}{k:Nat}(h:k<w.heap.size):mZ w w2 g k=g k:=Tag.xW _ _ h
theorem lJ.rowAt(H:lJ w g b V B){w2:World}(O2:O0 w w2):Row w2 (mZ w w2 g) (32,0) 78 V.vl V.us:=H.l.keep O2 (fun _ _ f=>f) (fun k hk=>uN hk)
theorem lJ.push(H:lJ w g b V B){w2 w3:World}{vf v':Value}{f:List Int}(O2:O0 w w2)(hf:Ints w2 vf f)(hnew:0<f.length->∀k,Value.blk vf=some k->w.heap.size<=k)(hfew:B.cls.length<262144)(hsh:f.length<=1099511627){lo:Nat}(hlo:w2.heap.size<=lo)(R:Row w3 (Tag.put (mZ w w2 g) lo w3.heap.size (32,0)) (32,0) 78 v' (V.us++[vf]))(O3:Only (fun k=>mZ w w2 g k=(32,0)) w2 w3):iV w g b {B with cls:=B.cls++[f]} (w3.setCell ⟨b,0,none⟩ v'):=by
 have hb:=dR H.blk;have hs2:=O2.size;have hs3:=O3.size;have A1:Agree w g (mZ w w2 g):=fun k hk=>uN hk;have A2:Agree w2 (mZ w w2 g) (Tag.put (mZ w w2 g) lo w3.heap.size (32,0)):=Agree.put _ _ hlo;have A12:=A1.trans A2 hs2;have hb1:mZ w w2 g b=(31,0):=(A1 b hb).trans H.tb;have hb2:Tag.put (mZ w w2 g) lo w3.heap.size (32,0) b=(31,0):=(A12 b hb).trans H.tb;have ho:Only (fun k=>k=b) w3 (w3.setCell ⟨b,0,none⟩ v'):=Only.setCell (Only.refl (fun k=>k=b) w3) (p:=⟨b,0,none⟩) (.inl rfl) _;have akB:∀i,i<B.cls.length->Tagged (mZ w w2 g) (33,0) (V.us.getD i bP) (B.cls.getD i []):=fun i hi=>(H.ct i hi).agree (H.ci.2 i hi) A1;have akC:=H.ci.aN O2;have aoR:=akC.F7 akB O3 (fun k hk e=>by rw[hk]at e;simp at e);have htf:Tagged (mZ w w2 g) (33,0) vf f:=fun hp k hk=>Tag.Ah _ _ (hnew hp k hk) (hf.lt hp hk);have hf3:=hf.F7 htf O3 (fun k hk e=>by rw[hk]at e;simp at e);have akD:=htf.agree hf A2;have akE:∀i,i<B.cls.length->Tagged (Tag.put (mZ w w2 g) lo w3.heap.size (32,0)) (33,0) (V.us.getD i bP) (B.cls.getD i []):=fun i hi=>(akB i hi).agree (akC.2 i hi) A2;have hne:∀k,Tag.put (mZ w w2 g) lo w3.heap.size (32,0) k=(33,0)->¬k=b:=fun k hk e=>by rw[e,hb2]at hk;simp at hk
 refine⟨Tag.put (mZ w w2 g) lo w3.heap.size (32,0),⟨v',V.us++[vf]⟩,⟨?_,hb2,R.far (by rw[hb2];simp) _,lG.snoc (aoR.F7 akE ho hne) (hf3.F7 akD ho hne),?_,by simp;omega,?_,?_⟩,A12,?_⟩;·rw[jX (aF (aF H.blk O2 (fun f=>f)) O3 (by rw[hb1];simp))];rfl
 ·intro i hi;have hul:=H.ci.1;by_cases c:i<B.cls.length;·simp only;rw[tJ _ _ _ zBk,tJ _ _ _ c];exact akE i c
  simp only[qK,List.length_singleton]at hi;have:i=B.cls.length:=zBk;subst this;simp only;rw[tN _ _ _ zAC,tN _ _ _ zBk,hul];simpa using akD
 ·intro c hc;rcases qW.1 hc with h|h;·exact H.short c h
  rw[yJ.1 h];exact hsh
 ·intro k hk;have hk':w3.heap.size<=k:=by simpa using hk
  rw[Tag.Kt _ _ hk'];unfold mZ;rw[Tag.Kt _ _ zBk];exact H.fresh k zBk
 refine Only.setCell ?_ (.inl zB5) _;refine(O2.mono (G:=Mine g) fun _ f=>f.elim).trans O3 (fun k hk=>?_);by_cases c:k<w.heap.size;·rw[uN c]at hk;exact .inl (by unfold Mine;rw[hk];decide)
 exact .inr zBk
theorem DK(H:lJ w g b V B){v:Value}{xs:List Int}(hI:Ints w v xs)(hb:xs.length<=1099511627):Calls Tryz.prog 153 #[.pointer (some ⟨b,0,none⟩),v] w fun e w'=>e= .returned (.tuple #[])/\iV w g b (B.add xs) w':=by
 have abJ:∀args w,(callFunc 222 args).run Tryz.prog w= .ok (.enter 222 args) w:=enters_of Tryz.func222 zk rfl;have hF:=abL hI zBk;obtain⟨ao,cap,rfl,hc1,hc2⟩:=hI.shape;have hCF:∀W,O0 w W->∀r,xs.any iE.wr=r->_:=fun W hW r hr=>tH (hI.aN hW) 222 #[] iE.wr abJ (fun x _ W _=>(PU x).mono fun _ _ ⟨he,hw⟩=>⟨he,by rw[hw];exact Only.refl _ _⟩) r hr;have HF:=zh hF;have HCF:=zh hCF;have HI:=zh hI;clear hF hCF abJ;have hfew:=H.few;go_enter Tryz.func153,Tryz.ntmps153;go_wp2_with fail;refine HF.out.mono ?_;intro e w2 hp;unfold zL at hp;cases hany:xs.any iE.wr with
 |true=>
  have hform:iE.form xs=none:=by unfold iE.form;rw[if_pos hany]
  rw[hform]at hp;obtain⟨rfl,O2⟩:=hp;have hC:=HCF.out w2 O2 true hany;have HC:=zh hC;have hadd:B.add xs={B with bad:=true}:=by unfold lu.add;rw[if_pos hany]
  have HAdd:=zh hadd;clear hany hform hC HF HCF hadd;go_wp2_with fail;refine HC.out.mono ?_;rintro e w3 ⟨rfl,O3⟩;have hO:=O2.same O3;have H3:=H.aN hO;have q1:w3.cell? ⟨b,1,none⟩=some (.bool B.bad):=by rw[ah H3.blk];rfl
  have f1:=iG H3.blk 1;have hfin:=iV.trans (Agree.refl _ _) (hO.mono (G:=Mine g) fun _ f=>f.elim) H3.ahq;exact zD4
 |false=>
  have hC:=fun W hW=>HCF.out W hW false hany;have HC:=zh hC;clear hC HCF HF;cases hform:iE.form xs with
  |none=>
   rw[hform]at hp;obtain⟨rfl,O2⟩:=hp;have hadd:B.add xs=B:=by unfold lu.add;rw[if_neg (by rw[hany];simp),hform]
   have HAdd:=zh hadd;clear hany hform hadd;go_wp2_with fail;refine(HC.out w2 O2).mono ?_;rintro e w3 ⟨rfl,O3⟩;have hO:=O2.same O3;have hfin:=iV.trans (Agree.refl _ _) (hO.mono (G:=Mine g) fun _ f=>f.elim) (iV.refl (H.aN hO));exact zD4
  |some f=>
   rw[hform]at hp;obtain⟨vf,rfl,R2,N2,O2⟩:=hp;have hadd:B.add xs=if 262144<=B.cls.length then {B with full:=true}else {B with cls:=B.cls++[f]}:=by unfold lu.add;rw[if_neg (by rw[hany];simp),hform]
   have HAdd:=zh hadd;have hrf:=WT HI.out.range hform;have hfl:f.length<=xs.length:=abO hform;have hIf:=Ints.fH R2 hrf;have hN:0<f.length->∀k,Value.blk vf=some k->w.heap.size<=k:=by
    intro _ j hj;refine N2 j ?_;rcases R2.2 with⟨h',_⟩| ⟨g',cap',cur,h',_⟩;·rw[h']at hj;simp[Value.blk]at hj
    rw[h']at hj⊢;simpa[Value.blk,Value.ownBlock]using hj
   have HN:=zh hN;obtain⟨af,cf,rfl,_,_⟩:=hIf.shape;clear hany hform hadd hrf R2 N2 hN;go_wp2_with fail;refine(HC.out w2 O2).mono ?_;rintro e w3 ⟨rfl,O3⟩;have hO:=O2.same O3;have aoS:=hIf.aN O3;have H3:=H.aN hO;have q0:w3.cell? ⟨b,0,none⟩=some V.vl:=by rw[ah H3.blk];rfl
   have hul:V.us.length=B.cls.length:=H3.ci.1;have hrow:=H.rowAt hO;obtain⟨al,cl,hvl,_,_⟩:=hrow.shape;rw[hvl,hul]at q0;have hrow':=hrow;rw[hvl,hul]at hrow';have f0:=iG H3.blk 0;by_cases cf2:262144<=B.cls.length
   ·have q2:w3.cell? ⟨b,2,none⟩=some (.bool B.full):=by rw[ah H3.blk];rfl
    have f2:=iG H3.blk 2;have hfin:=iV.trans (Agree.refl _ _) (hO.mono (G:=Mine g) fun _ f=>f.elim) H3.QT;have Uj:B.add xs={B with full:=true}:=by rw[HAdd.out,if_pos cf2]
    rw[<-Uj]at hfin;have HFin:=zh hfin;have d1:decide ((262144:Int)<=(B.cls.length:Int))=true:=qX zBk;have d2:decide (262144<=B.cls.length)=true:=qX cf2;clear hfin HC O2 O3 Uj cf2 hfew;go_wp2_with fail;go_end0;exact⟨rfl,HFin.out⟩
   have d1:decide ((262144:Int)<=(B.cls.length:Int))=false:=qP zBk;have d2:decide (262144<=B.cls.length)=false:=qP cf2;have Uj:B.add xs={B with cls:=B.cls++[f]}:=by rw[HAdd.out,if_neg cf2]
   have hlt:B.cls.length<262144:=zBk;have hpush:=fun(w4:World) (v4:Value) (lo:Nat) (h1:w3.heap.size<=lo) h2 h3=>H.push (w3:=w4) (v':=v4) hO aoS HN.out hlt zBk (lo:=lo) h1 h2 h3;have HP:=zh hpush;have akF:=zh Uj;have hfz:∀o,(w3.alloc o).frozen? ⟨b,0,none⟩=false:=fun o=>tV q0 f0 ((Only.refl (fun _=>False) w3).alloc o) (fun f=>f);clear hpush Uj cf2 hfew HC O2 O3;have aoT:V.us.length+1<=1099511627776:=zBk;clear hlt;go_wp2_with (at_builtin;go_must (refine Row.app (u:=.slice af f.length cf) abt rfl (.tmp 38) (.tmp 40) rfl rfl rfl (Po _ _ _ _ rfl) rfl (by exact Row.alloc hrow' _) aoT zAG ?n3));intro v4 w4 s1 s2;have hfin:=HP.out w4 v4 _ zAM s1 (Only.same ((Only.refl _ w3).alloc _) s2);rw[<-akF.out]at hfin;have HFin:=zh hfin;have z0:=dh q0 (Only.same ((Only.refl _ w3).alloc _) s2) (by rw[uN (dR H.blk),H.tb];simp);have zf:=tV q0 f0 (Only.same ((Only.refl _ w3).alloc _) s2) (by rw[uN (dR H.blk),H.tb];simp);obtain⟨a4,c4,rfl,_,_⟩:=s1.shape;clear hfin s1 s2 HP;go_wp2_with fail;go_end0;have hl3:(V.us++[Value.slice af f.length cf]).length=B.cls.length+1:=by simp[hul]
   have hfin:=HFin.out;rw[hl3]at hfin;exact⟨rfl,hfin⟩
end
def Tryz.W9:Go.Shelf.Ren:=⟨fun |107=>152|108=>219|n=>n,fun |28=>78|3=>3|4=>4|0=>0|n=>n,fun |n=>n⟩
theorem Tryz.abX:Go.Proofs.Lays.n107 Tryz.prog Tryz.W9:={
 mixed:=by kernel_rfl
 f107:=Tryz.func152.trans (congrArg some zk)
 f108:=Tryz.func219.trans (congrArg some zk)
 t0:=Tryz.underlying0
 a0:=Tryz.isAgg0
 z0:=Tryz.sizeOf0
 v0:=Tryz.zeroValue0
 t3:=Tryz.underlying3
 a3:=Tryz.isAgg3
 z3:=Tryz.sizeOf3
 v3:=Tryz.zeroValue3
 t4:=Tryz.underlying4
 a4:=Tryz.isAgg4
 z4:=Tryz.sizeOf4
 v4:=Tryz.zeroValue4
 t28:=Tryz.underlying78
 a28:=Tryz.isAgg78
 z28:=Tryz.sizeOf78
 v28:=Tryz.zeroValue78}
theorem Tryz.slices_Contains_int(b off n c:Nat)(zs:List Int)(x:Int)(w:World)(hz:n<=zs.length)(hbig:n<=9223372036854775807)(hc:∀j,j<zs.length->w.cell? ⟨b,off+j,none⟩=some (.int .i64 (zs.getD j 0))):Calls Tryz.prog 152 #[.slice (some ⟨b,off,none⟩) n c,.int .i64 x] w fun e w'=>e= .returned (.bool ((zs.take n).contains x))/\w'=w:=Any.slices_Contains_int Tryz.abX b off n c zs x w hz hbig hc
theorem Tryz.slices_Contains_int_empty(a:Option Addr)(c:Nat)(x:Int)(w:World):Calls Tryz.prog 152 #[.slice a 0 c,.int .i64 x] w fun e w'=>e= .returned (.bool false)/\w'=w:=Any.slices_Contains_int_empty Tryz.abX a c x w
end Go.Proofs.YtdmmebjjojimiaaGreatDoor
