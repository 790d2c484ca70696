/- LkP1 LkP2 LkP3 LkP4, in one text.; What a recipe, and a request over it, must be: one plain predicate for package check and f -/
import Derived.Test.YtdmmebjjojimiaaGreatDoorG14
import Derived.Lib.SplitLaws
import Derived.Shelf.Strconv.Itoa3
import Derived.Shelf.Strconv.ErrVarAll
import Derived.Shelf.Strings.Search3
import Derived.Laws.Cover1
set_option maxRecDepth 100000
set_option maxHeartbeats 8000000
set_option linter.all false
namespace Go.Proofs.YtdmmebjjojimiaaGreatDoor.Lk
open Go.RowKit
open Vn (YM L9 D9 isLt kY G6)
abbrev By:=List UInt8
def ak2(c:UInt8):Bool:=isLt c||D9 c||decide (c.toNat=45)
def nameB(l:By):Bool:=decide (0<l.length)&&decide (l.length<=24)&&l.head?.any isLt&&l.all ak2
def acF(l:By):Bool:=nameB l||YM l&&decide (l.length<=3)
end Go.Proofs.YtdmmebjjojimiaaGreatDoor.Lk
namespace Go.Proofs.YtdmmebjjojimiaaGreatDoor.Lk
open Go.RowKit
open Vn (YM L9 D9 isLt kY G6)
end Go.Proofs.YtdmmebjjojimiaaGreatDoor.Lk
namespace Go.Proofs.YtdmmebjjojimiaaGreatDoor.Lk
open Go.RowKit
open Vn (YM L9 D9 isLt kY G6)
end Go.Proofs.YtdmmebjjojimiaaGreatDoor.Lk
namespace Go.Proofs.YtdmmebjjojimiaaGreatDoor.Lk
open Go.RowKit
end Go.Proofs.YtdmmebjjojimiaaGreatDoor.Lk
namespace Go.Proofs.YtdmmebjjojimiaaGreatDoor
open Go.RowKit
def ak3(p:iT)(s:nZ):Bool:=p.vars.any fun v=>decide (v.name=s.name)&&tX v.values s.value
def Xn(p:iT)(l:List nZ):Bool:=l.all (ak3 p)
def iC(l:List jY):Bool:=match l with
 | [s]=>decide (s.lo=ByteArray.empty)&&decide (s.hi=ByteArray.empty)
 |_=>false
def aH.ak4(x:aH)(s:Str):Bool:=decide (x.find s<0)&&decide (0<(x.eG s).length)
def aH.Xo(x:aH)(s:jE):Bool:=
 if 0<=x.find s.name then Xn (x.pack (x.find s.name).toNat) s.sets
 else decide (0<(x.eG s.name).length)&&iC s.spans&&s.sets.isEmpty
def FH:List Str->Bool
 | []=>true
 |a::r=> !tX r a&&FH r
def ak5(v:kS):Bool:=Lk.nameB v.name.toList&&decide (0<v.values.length)&&decide (v.values.length<=4)&&v.values.all (fun s=>Lk.acF s.toList)&&FH v.values
def ahK(l:List kS):Bool:=l.all ak5&&decide (l.length<=4)&&FH (l.map kS.name)
def aH.ahL(x:aH)(i:Nat):Bool:=
 let p:=x.pack i
 decide (x.find p.name=i)&&decide ((x.eG p.name).length=0)&&decide (0<p.bY.length)
  &&(decide (p.bY.length<=10)&&decide (p.deps.length<=16)&&decide (p.cons.length<=8)&&decide (p.provides.length<=4)&&decide (p.files.length<=8))
  &&FH (p.bY.map wJ.version)&&ahK p.vars&&FH p.provides&&FH p.files
def aH.ak6(x:aH)(p:iT)(d:uY):Bool:=x.Xo d.on&&Xn p d.cond.sets
def aH.ak7(x:aH)(p:iT)(c:Ai):Bool:=Xn p c.cond.sets&&(decide (c.with'.name=ByteArray.empty)||decide (0<=x.find c.with'.name)&&x.Xo c.with')
def aH.ae6(x:aH)(p:iT):Bool:=p.deps.all (x.ak6 p)&&p.cons.all (x.ak7 p)
def aH.ahM(x:aH)(i:Nat):Bool:=
 let f:=x.iH.getD i default
 x.ak4 f.virtual&& !((x.iH.take i).any fun g=>decide (g.virtual=f.virtual))&&FH f.names
  &&f.names.all fun n=>decide (0<=x.find n)&&tX (x.pack (x.find n).toNat).provides f.virtual
def aH.ok(x:aH):Bool:=decide (x.packs.length<=24)&&decide (x.iH.length<=8)&&(List.range x.packs.length).all x.ahL&&x.packs.all x.ae6&&(List.range x.iH.length).all x.ahM
def fV.ok(x:aH)(q:fV):Bool:=decide (0<q.roots.length)&&decide (q.roots.length<=8)&&q.roots.all fun r=>x.Xo r.spec
end Go.Proofs.YtdmmebjjojimiaaGreatDoor
namespace Go.Proofs.YtdmmebjjojimiaaGreatDoor.Lk
open Go.RowKit
open Vn (YM L9 D9 isLt kY G6)
end Go.Proofs.YtdmmebjjojimiaaGreatDoor.Lk
namespace Go.Proofs.YtdmmebjjojimiaaGreatDoor
open Go.Shelf Go.RowKit Go.Lib Go.Sort
def Sv.Rj:Go.Shelf.Ren:=⟨fun |172=>402|244=>414|245=>415|247=>419|279=>420|280=>421|281=>422|282=>423|287=>425|316=>426|171=>403|205=>427|321=>432|322=>433|243=>416|246=>424|283=>428|284=>429|285=>430|286=>431|129=>253|317=>434|318=>435|319=>436|320=>437|337=>438|338=>439|n=>n,fun |9=>9|3=>3|75=>397|76=>398|4=>4|5=>5|167=>410|37=>52|0=>0|85=>411|2=>2|168=>413|53=>290|175=>417|46=>239|210=>421|127=>428|145=>431|143=>429|21=>21|171=>423|173=>425|212=>433|51=>288|20=>20|213=>434|232=>435|233=>436|80=>437|n=>n,fun |15=>3|16=>4|17=>5|18=>6|19=>7|n=>n⟩
theorem Sv.laysC172:Go.Proofs.LaysC.n172 Tryz.prog Sv.Rj:={
 mixed:=by kernel_rfl
 f129:=Tryz.func253.trans (congrArg some zk)
 f171:=Tryz.func403.trans (congrArg some zk)
 f172:=Tryz.func402.trans (congrArg some zk)
 f205:=Tryz.func427.trans (congrArg some zk)
 f243:=Tryz.func416.trans (congrArg some zk)
 f244:=Tryz.func414.trans (congrArg some zk)
 f245:=Tryz.func415.trans (congrArg some zk)
 f246:=Tryz.func424.trans (congrArg some zk)
 f247:=Tryz.func419.trans (congrArg some zk)
 f279:=Tryz.func420.trans (congrArg some zk)
 f280:=Tryz.func421.trans (congrArg some zk)
 f281:=Tryz.func422.trans (congrArg some zk)
 f282:=Tryz.func423.trans (congrArg some zk)
 f283:=Tryz.func428.trans (congrArg some zk)
 f284:=Tryz.func429.trans (congrArg some zk)
 f285:=Tryz.func430.trans (congrArg some zk)
 f286:=Tryz.func431.trans (congrArg some zk)
 f287:=Tryz.func425.trans (congrArg some zk)
 f316:=Tryz.func426.trans (congrArg some zk)
 f317:=Tryz.func434.trans (congrArg some zk)
 f318:=Tryz.func435.trans (congrArg some zk)
 f319:=Tryz.func436.trans (congrArg some zk)
 f320:=Tryz.func437.trans (congrArg some zk)
 f321:=Tryz.func432.trans (congrArg some zk)
 f322:=Tryz.func433.trans (congrArg some zk)
 f337:=Tryz.func438.trans (congrArg some zk)
 f338:=Tryz.func439.trans (congrArg some zk)
 t0:=Tryz.underlying0
 a0:=Tryz.isAgg0
 z0:=Tryz.sizeOf0
 v0:=Tryz.zeroValue0
 t2:=Tryz.underlying2
 a2:=Tryz.isAgg2
 z2:=Tryz.sizeOf2
 v2:=Tryz.zeroValue2
 t3:=Tryz.underlying3
 a3:=Tryz.isAgg3
 z3:=Tryz.sizeOf3
 v3:=Tryz.zeroValue3
 t4:=Tryz.underlying4
 a4:=Tryz.isAgg4
 z4:=Tryz.sizeOf4
 v4:=Tryz.zeroValue4
 t5:=Tryz.underlying5
 a5:=Tryz.isAgg5
 z5:=Tryz.sizeOf5
 v5:=Tryz.zeroValue5
 t9:=Tryz.underlying9
 a9:=Tryz.isAgg9
 z9:=Tryz.sizeOf9
 v9:=Tryz.zeroValue9
 t20:=Tryz.underlying20
 a20:=Tryz.isAgg20
 z20:=Tryz.sizeOf20
 v20:=Tryz.zeroValue20
 t21:=Tryz.underlying21
 a21:=Tryz.isAgg21
 z21:=Tryz.sizeOf21
 v21:=Tryz.zeroValue21
 t37:=Tryz.underlying52
 a37:=Tryz.isAgg52
 z37:=Tryz.sizeOf52
 v37:=Tryz.zeroValue52
 t46:=Tryz.underlying239
 a46:=Tryz.isAgg239
 z46:=Tryz.sizeOf239
 v46:=Tryz.zeroValue239
 t51:=Tryz.underlying288
 a51:=Tryz.isAgg288
 z51:=Tryz.sizeOf288
 v51:=Tryz.zeroValue288
 t53:=Tryz.underlying290
 a53:=Tryz.isAgg290
 z53:=Tryz.sizeOf290
 v53:=Tryz.zeroValue290
 t75:=Tryz.underlying397
 a75:=Tryz.isAgg397
 z75:=Tryz.sizeOf397
 v75:=Tryz.zeroValue397
 t76:=Tryz.underlying398
 a76:=Tryz.isAgg398
 z76:=Tryz.sizeOf398
 v76:=Tryz.zeroValue398
 t85:=Tryz.underlying411
 a85:=Tryz.isAgg411
 z85:=Tryz.sizeOf411
 v85:=Tryz.zeroValue411
 t127:=Tryz.underlying428
 a127:=Tryz.isAgg428
 z127:=Tryz.sizeOf428
 v127:=Tryz.zeroValue428
 t143:=Tryz.underlying429
 a143:=Tryz.isAgg429
 z143:=Tryz.sizeOf429
 v143:=Tryz.zeroValue429
 t145:=Tryz.underlying431
 a145:=Tryz.isAgg431
 z145:=Tryz.sizeOf431
 v145:=Tryz.zeroValue431
 t167:=Tryz.underlying410
 a167:=Tryz.isAgg410
 z167:=Tryz.sizeOf410
 v167:=Tryz.zeroValue410
 t168:=Tryz.underlying413
 a168:=Tryz.isAgg413
 z168:=Tryz.sizeOf413
 v168:=Tryz.zeroValue413
 t171:=Tryz.underlying423
 a171:=Tryz.isAgg423
 z171:=Tryz.sizeOf423
 v171:=Tryz.zeroValue423
 t173:=Tryz.underlying425
 a173:=Tryz.isAgg425
 z173:=Tryz.sizeOf425
 v173:=Tryz.zeroValue425
 t175:=Tryz.underlying417
 a175:=Tryz.isAgg417
 z175:=Tryz.sizeOf417
 v175:=Tryz.zeroValue417
 t210:=Tryz.underlying421
 a210:=Tryz.isAgg421
 z210:=Tryz.sizeOf421
 v210:=Tryz.zeroValue421
 t212:=Tryz.underlying433
 a212:=Tryz.isAgg433
 z212:=Tryz.sizeOf433
 v212:=Tryz.zeroValue433
 t213:=Tryz.underlying434
 a213:=Tryz.isAgg434
 z213:=Tryz.sizeOf434
 t232:=Tryz.underlying435
 a232:=Tryz.isAgg435
 z232:=Tryz.sizeOf435
 v232:=Tryz.zeroValue435
 t233:=Tryz.underlying436
 a233:=Tryz.isAgg436
 z233:=Tryz.sizeOf436
 v233:=Tryz.zeroValue436
 g15:=by kernel_rfl
 g16:=by kernel_rfl
 g17:=by kernel_rfl
 g18:=by kernel_rfl
 g19:=by kernel_rfl
 t80:=Tryz.underlying437
 a80:=Tryz.isAgg437
 z80:=Tryz.sizeOf437
 v80:=Tryz.zeroValue437
 i0:=by kernel_rfl
 i2:=by kernel_rfl
 i3:=by kernel_rfl
 i4:=by kernel_rfl
 i5:=by kernel_rfl
 i9:=by kernel_rfl
 i20:=by kernel_rfl
 i21:=by kernel_rfl
 i37:=by kernel_rfl
 i46:=by kernel_rfl
 i51:=by kernel_rfl
 i53:=by kernel_rfl
 i75:=by kernel_rfl
 i76:=by kernel_rfl
 i80:=by kernel_rfl
 i85:=by kernel_rfl
 i127:=by kernel_rfl
 i143:=by kernel_rfl
 i145:=by kernel_rfl
 i167:=by kernel_rfl
 i168:=by kernel_rfl
 i171:=by kernel_rfl
 i173:=by kernel_rfl
 i175:=by kernel_rfl
 i210:=by kernel_rfl
 i212:=by kernel_rfl
 i232:=by kernel_rfl
 i233:=by kernel_rfl
 m15:=by kernel_rfl
 m16:=by kernel_rfl
 m17:=by kernel_rfl
 m18:=by kernel_rfl
 m19:=by kernel_rfl
 c0:=by kernel_rfl
 c2:=by kernel_rfl
 c3:=by kernel_rfl
 c4:=by kernel_rfl
 c5:=by kernel_rfl
 c9:=by kernel_rfl
 c20:=by kernel_rfl
 c21:=by kernel_rfl
 c37:=by kernel_rfl
 c46:=by kernel_rfl
 c51:=by kernel_rfl
 c53:=by kernel_rfl
 c75:=by kernel_rfl
 c76:=by kernel_rfl
 c80:=by kernel_rfl
 c85:=by kernel_rfl
 c127:=by kernel_rfl
 c143:=by kernel_rfl
 c145:=by kernel_rfl
 c167:=by kernel_rfl
 c168:=by kernel_rfl
 c171:=by kernel_rfl
 c173:=by kernel_rfl
 c175:=by kernel_rfl
 c210:=by kernel_rfl
 c212:=by kernel_rfl
 c213:=by kernel_rfl
 c232:=by kernel_rfl
 c233:=by kernel_rfl}
def Sv.Rk:Go.Shelf.Ren:=⟨fun |171=>403|243=>416|246=>424|283=>428|284=>429|285=>430|286=>431|129=>253|317=>434|318=>435|319=>436|320=>437|337=>438|338=>439|n=>n,fun |3=>3|9=>9|2=>2|4=>4|171=>423|0=>0|53=>290|37=>52|5=>5|173=>425|212=>433|51=>288|20=>20|213=>434|46=>239|232=>435|233=>436|n=>n,fun |17=>5|18=>6|19=>7|n=>n⟩
theorem Sv.laysM171:Go.Proofs.LaysM.n171 Tryz.prog Sv.Rk:={
 mixed:=by kernel_rfl
 f129:=Tryz.func253.trans (congrArg some zk)
 f171:=Tryz.func403.trans (congrArg some zk)
 f243:=Tryz.func416.trans (congrArg some zk)
 f246:=Tryz.func424.trans (congrArg some zk)
 f283:=Tryz.func428.trans (congrArg some zk)
 f284:=Tryz.func429.trans (congrArg some zk)
 f285:=Tryz.func430.trans (congrArg some zk)
 f286:=Tryz.func431.trans (congrArg some zk)
 f317:=Tryz.func434.trans (congrArg some zk)
 f318:=Tryz.func435.trans (congrArg some zk)
 f319:=Tryz.func436.trans (congrArg some zk)
 f320:=Tryz.func437.trans (congrArg some zk)
 f337:=Tryz.func438.trans (congrArg some zk)
 f338:=Tryz.func439.trans (congrArg some zk)
 t0:=Tryz.underlying0
 a0:=Tryz.isAgg0
 z0:=Tryz.sizeOf0
 v0:=Tryz.zeroValue0
 t2:=Tryz.underlying2
 a2:=Tryz.isAgg2
 z2:=Tryz.sizeOf2
 v2:=Tryz.zeroValue2
 t3:=Tryz.underlying3
 a3:=Tryz.isAgg3
 z3:=Tryz.sizeOf3
 v3:=Tryz.zeroValue3
 t4:=Tryz.underlying4
 a4:=Tryz.isAgg4
 z4:=Tryz.sizeOf4
 v4:=Tryz.zeroValue4
 t5:=Tryz.underlying5
 a5:=Tryz.isAgg5
 z5:=Tryz.sizeOf5
 v5:=Tryz.zeroValue5
 t9:=Tryz.underlying9
 a9:=Tryz.isAgg9
 z9:=Tryz.sizeOf9
 v9:=Tryz.zeroValue9
 t20:=Tryz.underlying20
 a20:=Tryz.isAgg20
 z20:=Tryz.sizeOf20
 v20:=Tryz.zeroValue20
 t37:=Tryz.underlying52
 a37:=Tryz.isAgg52
 z37:=Tryz.sizeOf52
 v37:=Tryz.zeroValue52
 t46:=Tryz.underlying239
 a46:=Tryz.isAgg239
 z46:=Tryz.sizeOf239
 v46:=Tryz.zeroValue239
 t51:=Tryz.underlying288
 a51:=Tryz.isAgg288
 z51:=Tryz.sizeOf288
 v51:=Tryz.zeroValue288
 t53:=Tryz.underlying290
 a53:=Tryz.isAgg290
 z53:=Tryz.sizeOf290
 v53:=Tryz.zeroValue290
 t171:=Tryz.underlying423
 a171:=Tryz.isAgg423
 z171:=Tryz.sizeOf423
 v171:=Tryz.zeroValue423
 t173:=Tryz.underlying425
 a173:=Tryz.isAgg425
 z173:=Tryz.sizeOf425
 v173:=Tryz.zeroValue425
 t212:=Tryz.underlying433
 a212:=Tryz.isAgg433
 z212:=Tryz.sizeOf433
 v212:=Tryz.zeroValue433
 t213:=Tryz.underlying434
 a213:=Tryz.isAgg434
 z213:=Tryz.sizeOf434
 t232:=Tryz.underlying435
 a232:=Tryz.isAgg435
 z232:=Tryz.sizeOf435
 v232:=Tryz.zeroValue435
 t233:=Tryz.underlying436
 a233:=Tryz.isAgg436
 z233:=Tryz.sizeOf436
 v233:=Tryz.zeroValue436
 g17:=by kernel_rfl
 g18:=by kernel_rfl
 g19:=by kernel_rfl
 i0:=by kernel_rfl
 i2:=by kernel_rfl
 i3:=by kernel_rfl
 i4:=by kernel_rfl
 i5:=by kernel_rfl
 i9:=by kernel_rfl
 i20:=by kernel_rfl
 i37:=by kernel_rfl
 i46:=by kernel_rfl
 i51:=by kernel_rfl
 i53:=by kernel_rfl
 i171:=by kernel_rfl
 i173:=by kernel_rfl
 i212:=by kernel_rfl
 i232:=by kernel_rfl
 i233:=by kernel_rfl
 m17:=by kernel_rfl
 m18:=by kernel_rfl
 m19:=by kernel_rfl}
def Sv.UJ:Go.Shelf.Ren:=⟨fun |143=>256|219=>325|217=>365|225=>366|224=>367|267=>368|266=>399|314=>400|n=>n,fun |9=>9|3=>3|4=>4|5=>5|46=>239|146=>393|51=>288|n=>n,fun |1=>0|n=>n⟩
theorem Sv.lays143:Go.Proofs.Lays.n143 Tryz.prog Sv.UJ:={
 mixed:=by kernel_rfl
 f143:=Tryz.func256.trans (congrArg some zk)
 f217:=Tryz.func365.trans (congrArg some zk)
 f219:=Tryz.func325.trans (congrArg some zk)
 f224:=Tryz.func367.trans (congrArg some zk)
 f225:=Tryz.func366.trans (congrArg some zk)
 f266:=Tryz.func399.trans (congrArg some zk)
 f267:=Tryz.func368.trans (congrArg some zk)
 f314:=Tryz.func400.trans (congrArg some zk)
 t3:=Tryz.underlying3
 a3:=Tryz.isAgg3
 z3:=Tryz.sizeOf3
 v3:=Tryz.zeroValue3
 t4:=Tryz.underlying4
 a4:=Tryz.isAgg4
 z4:=Tryz.sizeOf4
 v4:=Tryz.zeroValue4
 t5:=Tryz.underlying5
 a5:=Tryz.isAgg5
 z5:=Tryz.sizeOf5
 v5:=Tryz.zeroValue5
 t9:=Tryz.underlying9
 a9:=Tryz.isAgg9
 z9:=Tryz.sizeOf9
 v9:=Tryz.zeroValue9
 t46:=Tryz.underlying239
 a46:=Tryz.isAgg239
 z46:=Tryz.sizeOf239
 v46:=Tryz.zeroValue239
 t51:=Tryz.underlying288
 a51:=Tryz.isAgg288
 z51:=Tryz.sizeOf288
 v51:=Tryz.zeroValue288
 t146:=Tryz.underlying393
 a146:=Tryz.isAgg393
 z146:=Tryz.sizeOf393
 v146:=Tryz.zeroValue393
 g1:=by kernel_rfl}
def Sv.CJ:Go.Shelf.Ren:=⟨fun |122=>235|215=>315|n=>n,fun |3=>3|4=>4|n=>n,fun |n=>n⟩
theorem Sv.QN:Go.Proofs.Lays.n122 Tryz.prog Sv.CJ:={
 mixed:=by kernel_rfl
 f122:=Tryz.func235.trans (congrArg some zk)
 f215:=Tryz.func315.trans (congrArg some zk)
 t3:=Tryz.underlying3
 a3:=Tryz.isAgg3
 z3:=Tryz.sizeOf3
 v3:=Tryz.zeroValue3
 t4:=Tryz.underlying4
 a4:=Tryz.isAgg4
 z4:=Tryz.sizeOf4
 v4:=Tryz.zeroValue4}
theorem Sv.strconv_Atoi_ok(s:ByteArray)(hmax:s.size<=9223372036854775806)(v:Int)(h:Lib.atoiAll s.data.toList= .ok v)(w:World):Calls Tryz.prog 402 #[.string s] w fun e w'=>e= .returned (.tuple #[.int .i64 v,.nilIface])/\(w'=w\/ ∃t,w'=Lib.bytesWorld w 5 t):=Any.strconv_Atoi_ok Sv.laysC172 s hmax v h w
theorem Sv.Je(s:ByteArray)(hlim:s.size<=281474976710656)(h:Lib.atoiAll s.data.toList=Lib.atoiAll [])(tp:TypeId)(p:Value)(w:World)(hvar:w.var? Tryz.prog "strconv.ErrSyntax" =some #[.iface tp p]):Calls Tryz.prog 402 #[.string s] w fun e w'=> ∃N,e= .returned (.tuple #[.int .i64 0,.iface 413 (.pointer (some ⟨N,0,none⟩))])/\w.heap.size<=N/\w'.heap[N]? =some (.cells #[.string ⟨#[65,116,111,105]⟩,.string s,.iface tp p] 421 (0,0))/\Below w.heap.size w w':=Any.strconv_Atoi_syntax_var Sv.laysC172 s hlim h tp p w hvar
theorem Sv.strconv_Atoi_range_var(s:ByteArray)(hlim:s.size<=281474976710656)(h:Lib.atoiAll s.data.toList= .range)(tp:TypeId)(p:Value)(w:World)(hvar:w.var? Tryz.prog "strconv.ErrRange" =some #[.iface tp p]):Calls Tryz.prog 402 #[.string s] w fun e w'=> ∃N,e= .returned (.tuple #[.int .i64 (Lib.atoiSat s.data.toList),.iface 413 (.pointer (some ⟨N,0,none⟩))])/\w.heap.size<=N/\w'.heap[N]? =some (.cells #[.string ⟨#[65,116,111,105]⟩,.string s,.iface tp p] 421 (0,0))/\Below w.heap.size w w':=Any.strconv_Atoi_range_var Sv.laysC172 s hlim h tp p w hvar
theorem Sv.strconv_Itoa(n:Int)(h0: -9223372036854775808<=n)(h1:n<=9223372036854775807)(w:World)(htab:Lib.TabIs Tryz.prog w "internal/strconv.uint64pow10" .u64 Lib.pow10Tab):Calls Tryz.prog 403 #[.int .i64 n] w fun e w'=>e= .returned (.string ⟨(Lib.itoa n).toArray⟩)/\∃k os,w'=grow (w.drewN k) os:=Any.strconv_Itoa Sv.laysM171 n h0 h1 w htab
theorem Sv.strings_Index_one(s:ByteArray)(c:UInt8)(w:World):Calls Tryz.prog 256 #[.string s,.string ⟨#[c]⟩] w fun e w'=>e= .returned (.int .i64 (Lib.indexByte s.data.toList c))/\w'=w:=Any.strings_Index_one Sv.lays143 s c w
theorem Sv.cmp_Compare_int(x y:Int)(w:World):Calls Tryz.prog 235 #[.int .i64 x,.int .i64 y] w fun e w'=>e= .returned (.int .i64 (Lib.compareInt x y))/\w'=w:=Any.cmp_Compare_int Sv.QN x y w
end Go.Proofs.YtdmmebjjojimiaaGreatDoor
namespace Go.Proofs
theorem zCu{p:Prop}(h:p:=by
 subst hres
 clear jd
 go_wp2_with (go_at_call 175;refine(HN.out _ _).mono ?_;rintro e w' ⟨rfl,rfl⟩)
 go_ret
 exact⟨rfl,rfl⟩):p:=h
theorem zFM{p:Prop}(h:p:=by
 refine UK (p:=4) rfl rfl rfl rfl (setRow_heap _ _ _ _ _ _ HW.out) ?_
 exact⟨rfl,UL.out.trans (lS _ _ _) (fun k hk=>.inr zBk)⟩):p:=h
end Go.Proofs
namespace Go.Proofs.YtdmmebjjojimiaaGreatDoor
open Go.RowKit
open Vn (YM L9 kY iZ numeral fZ)
structure Part where
 rank:Nat
 num:Nat
 word:Str
def Me(_:Nat)(_:World)(cs:List Value)(p:Part):Prop:=cs=[.int .i64 (p.rank:Int),.int .i64 (p.num:Int),.string p.word]/\p.rank<=2/\p.num<=999999999/\okS p.word
theorem Me.keep:Keeps Me:=fun _ _ _ _ _ h _=>h
def endP:Part:=⟨1,0,⟨#[]⟩⟩
def partOf(a:List UInt8):Part:=⟨iZ a,numeral a,⟨(fZ a).toArray⟩⟩
def Part.val(p:Part):Array Value:= #[.int .i64 (p.rank:Int),.int .i64 (p.num:Int),.string p.word]
section
variable {w w':World} {B:Nat}
theorem EF{fn:Func}{p:Tmp}{ty:TypeId}(h:fn.results= #[.cell p ty])(tmps:Array Value)(P:Program)(w:World):(results fn tmps).run P w=((asAddr (tmps.getD p undef)).run P w).andThen fun a w₁=>(loadVar ty a).run P w₁:=by simp only[results,h];simp[Sem.run_bind,Result.andThen]
theorem lS(w:World)(g:Nat)(cs:Array Value):Only (fun k=>k=g) w (w.setRow g cs):=
 ⟨rfl,rfl,rfl,by simp[World.setRow],fun k hk hn=>by
  unfold World.setRow
  simp only[Array.getElem?_modify]
  rw[if_neg (fun e=>hn e.symm)]⟩
theorem UK{fn:Func}{p:Tmp}{Q:Ending->World->Prop}{a:Act}{W:World}{B:Nat}{cs:Array Value}(hf:fn.results= #[.cell p 355])(hp:a.tmps.getD p undef= .pointer (some ⟨B,0,none⟩))(hd:a.defers=[])(hs:cs.size=3)(hg:W.heap[B]? =some (.cells cs 355 (0,0)))(h:Q (.returned (.agg cs)) W):bodyPost Tryz.prog fn Q Exit.ret a W:=by refine bodyPost_ret (v:=.agg cs) ?_ hd h;rw[EF hf,hp];simp only[asAddr,Sem.run_pure,Result.andThen_ok];exact run_loadVar_row W B 355 355 cs (0,0) _ hg Tryz.underlying355 rfl (by rw[hs];kernel_rfl)
theorem ak8{v:Value}{l:List Part}(h:aQ 3 Me B w v l)(i:Nat)(hi:i<=1000000000)(t:Part)(ht:l.getD i endP=t):Calls Tryz.prog 338 #[v,.int .i64 (i:Int)] w (fun e w'=>e= .returned (.agg t.val)/\O0 w w'):=by
 obtain⟨ao,cap,rfl,g1,g2⟩:=h.shape;obtain⟨n,hn⟩:=ze l.length;have HW:=zh (show(w.alloc (.cells #[.int .i64 0,.int .i64 0,.string ⟨#[]⟩] 355)).heap[w.heap.size]? =some (.cells #[.int .i64 0,.int .i64 0,.string ⟨#[]⟩] 355 (0,0)) from qL _ _);have UL:=zh (show O0 w (w.alloc (.cells #[.int .i64 0,.int .i64 0,.string ⟨#[]⟩] 355)) from zr.alloc _);by_cases ci:i<l.length;·obtain⟨y,hx⟩:=zG l i ci;rw[qC,hx]at ht;have ht':y=t:=ht;subst ht';obtain⟨b,off,cs,rfl,hb,hB,-,hr,hC⟩:=h.placed hx;obtain⟨rfl,-,-,-⟩:=hC;have hr2:=dO hr hb hB (Kp.iI UL.out);have p0:=hr2 0 _ rfl;have p1:=hr2 1 _ rfl;have p2:=hr2 2 _ rfl;obtain⟨yr,yn,yw⟩:=y;dsimp only at p0 p1 p2;rw[qF]at p0;rw[hn]at ci g1⊢;clear hr hr2 hx h hn ht hb hB;unfold Part.val;go_enter Tryz.func338,Tryz.ntmps338;go_wp2_with (refine wpList_store_row rfl 355 (.tmp 4) (.tmp 12) rfl w.heap.size #[.int .i64 yr,.int .i64 yn,.string yw] rfl rfl 355 #[.int .i64 0,.int .i64 0,.string ⟨#[]⟩] HW.out zk rfl zk ?_);exact zFM
 rw[qC,List.getElem?_eq_none zBk]at ht;have ht':endP=t:=ht;subst ht';rw[hn]at ci g1⊢;clear h hn ht;unfold Part.val endP;go_enter Tryz.func338,Tryz.ntmps338;go_wp2_with (refine wpList_store_row rfl 355 (.tmp 4) (.tmp 13) rfl w.heap.size #[.int .i64 1,.int .i64 0,.string ⟨#[]⟩] rfl rfl 355 #[.int .i64 0,.int .i64 0,.string ⟨#[]⟩] HW.out zk rfl zk ?_);exact zFM
def Rl(a b:List UInt8):Int:=if a<b then -1 else if b<a then 1 else 0
theorem acG(a b:Str):Calls Tryz.prog 95 #[.string a,.string b] w (fun e w'=>e= .returned (.int .i64 (Rl a.toList b.toList))/\w'=w):=by
 obtain⟨r,hr⟩:=ze (Rl a.toList b.toList);have h1:=JF a.toList b.toList;obtain⟨b1,e1⟩:∃x,decide (a.toList<b.toList)=x:=⟨_,rfl⟩;obtain⟨b2,h2⟩:∃x,(a.toList==b.toList)=x:=⟨_,rfl⟩;rw[e1]at h1;rw[hr];have hr2:(if b1=true then (-1:Int)else if b2=true then 0 else 1)=r:=by
  rw[<-hr,<-e1,<-h2];unfold Rl;simp only[yP,beq_iff_eq];by_cases c1:a.toList<b.toList;·rw[if_pos c1,if_pos c1]
  rw[if_neg c1,if_neg c1];by_cases c2:a.toList=b.toList;·rw[if_pos c2,if_neg (fun h=>by rw[c2]at h;exact Vn.ZV _ h)]
  rw[if_neg c2,if_pos ((Vn.acD c2).resolve_left c1)]
 clear hr e1;have HN:Hid (∀(s:Str) (W:World),Calls Tryz.prog 175 #[.string s] W (fun e w'=>e= .returned (.bool false)/\w'=W)):=fun s W=>by go_enter Tryz.func175,Tryz.ntmps175;go_wp2;go_ret;exact⟨by simp,rfl⟩
 have jd:=zh hr2;clear hr2;go_enter Tryz.func95,Tryz.ntmps95;cases b1 with
 |true=>have hres:(-1:Int)=r:=jd.out;exact zCu
 |false=>
  cases b2 with
  |true=>have hres:(0:Int)=r:=jd.out;exact zCu
  |false=>have hres:(1:Int)=r:=jd.out;exact zCu
end
end Go.Proofs.YtdmmebjjojimiaaGreatDoor
namespace Go.Proofs.YtdmmebjjojimiaaGreatDoor
open Go.RowKit
open Vn (YM L9 isLt kY iZ numeral fZ)
structure Laid (w:World):Prop where
 syn:∃t p,w.var? Tryz.prog "strconv.ErrSyntax" =some #[.iface t p]
 rng:∃t p,w.var? Tryz.prog "strconv.ErrRange" =some #[.iface t p]
 tab:Lib.TabIs Tryz.prog w "internal/strconv.uint64pow10" .u64 Lib.pow10Tab
theorem MB{P:Program}{w w':World}{n:String}{cs:Array Value}(h:w.var? P n=some cs)(ho:O0 w w'):w'.var? P n=some cs:=by
 unfold World.var? at h⊢;cases hg:P.globalNamed n with
 |none=>rw[hg]at h;cases h
 |some g=>
  rw[hg]at h;simp only[Option.bind_some]at h⊢;cases hb:w.heap[g]? with
  |none=>rw[hb]at h;cases h
  |some o=>rw[ho.block g (yA.1 hb).1 (fun f=>f),hb];rw[hb]at h;exact h
theorem Laid.only{w w':World}(h:Laid w)(ho:O0 w w'):Laid w':=by obtain⟨⟨t,p,h1⟩,⟨t2,p2,h2⟩,h3⟩:=h;exact⟨⟨t,p,MB h1 ho⟩,⟨t2,p2,MB h2 ho⟩,MB h3 ho⟩
theorem Xp(w:World)(k:Nat)(os:Array Obj):O0 w (Go.Sort.grow (w.drewN k) os):=
 ⟨rfl,rfl,rfl,by simp[Go.Sort.grow,World.drewN],fun j hj _=>by
  show(w.heap++os)[j]? =_
  rw[Array.getElem?_append_left hj]⟩
theorem AQ{w w':World}(h:Below w.heap.size w w'):O0 w w':=(Only.of_below h).trans' fun i hi=>hi
section
variable {w w':World} {B:Nat}
theorem ahN(s:Str)(hs:s.size<=1000000)(hL:Laid w):Calls Tryz.prog 402 #[.string s] w (fun e w'=> ∃(n:Int) (er:Value),e= .returned (.tuple #[.int .i64 n,er])/\((er= .nilIface/\Lib.atoiAll s.toList= .ok n)\/((∃t p,er= .iface t p)/\∀v,Lib.atoiAll s.toList≠ .ok v))/\O0 w w'):=by
 rw[ByteArray.toList_eq];cases h:Lib.atoiAll s.data.toList with
 |ok v=>
  refine(Sv.strconv_Atoi_ok s zBk v h w).mono ?_;rintro e w1 ⟨rfl,hw⟩;refine⟨v,_,rfl,.inl ⟨rfl,rfl⟩,?_⟩;rcases hw with rfl| ⟨t,rfl⟩;·exact Only.refl _ _
  exact AQ (Lib.bytesWorld_below _ _ _)
 |range=>obtain⟨t,p,h1⟩:=hL.rng;refine(Sv.strconv_Atoi_range_var s zBk h t p w h1).mono ?_;rintro e w1 ⟨N,rfl,-,-,hb⟩;exact⟨_,_,rfl,.inr ⟨⟨_,_,rfl⟩,fun v hv=>by cases hv⟩,AQ hb⟩
 |_=>obtain⟨t,p,h1⟩:=hL.syn;refine(Sv.Je s zBk (h.trans rfl) t p w h1).mono ?_;rintro e w1 ⟨N,rfl,-,-,hb⟩;exact⟨0,_,rfl,.inr ⟨⟨_,_,rfl⟩,fun v hv=>by cases hv⟩,AQ hb⟩
theorem ahO(n:Int)(h0:0<=n)(h9:n<=999999999)(hL:Laid w):Calls Tryz.prog 403 #[.int .i64 n] w (fun e w'=>e= .returned (.string ⟨(Lib.itoa n).toArray⟩)/\O0 w w'):=by refine(Sv.strconv_Itoa n zAC zBk w hL.tab).mono ?_;rintro e w1 ⟨rfl,k,os,rfl⟩;exact⟨rfl,Xp _ _ _⟩
theorem xC{fn:Func}{p u:Tmp}{Q:Ending->World->Prop}{a:Act}{W:World}{B:Nat}{cs:Array Value}{b:Value}(hf:fn.results= #[.cell p 355,.tmp u])(hp:a.tmps.getD p undef= .pointer (some ⟨B,0,none⟩))(hu:a.tmps.getD u undef=b)(hd:a.defers=[])(hs:cs.size=3)(hg:W.heap[B]? =some (.cells cs 355 (0,0)))(h:Q (.returned (.tuple #[.agg cs,b])) W):bodyPost Tryz.prog fn Q Exit.ret a W:=by refine bodyPost_ret (v:=.tuple #[.agg cs,b]) ?_ hd h;rw[results_cell_tmp hf,hp,hu];simp only[asAddr,Sem.run_pure,Result.andThen_ok];rw[run_loadVar_row W B 355 355 cs (0,0) _ hg Tryz.underlying355 rfl (by rw[hs];kernel_rfl)];rfl
def uG(s:Str)(w w':World)(e:Ending):Prop:= ∃(x y:Int) (t:Str) (ok:Bool),e= .returned (.tuple #[.agg #[.int .i64 x,.int .i64 y,.string t],.bool ok])/\kY s.toList=ok/\
 (ok=true->x=(iZ s.toList:Int)/\y=(numeral s.toList:Int)/\t.toList=fZ s.toList)/\O0 w w'
theorem uG.mk{s:Str}{w w':World}{e:Ending}(x y:Int)(t:Str)(ok:Bool)(he:e= .returned (.tuple #[.agg #[.int .i64 x,.int .i64 y,.string t],.bool ok]))(h1:kY s.toList=ok)(h2:ok=true->x=(iZ s.toList:Int)/\y=(numeral s.toList:Int)/\t.toList=fZ s.toList)(ho:O0 w w'):uG s w w' e:=⟨x,y,t,ok,he,h1,h2,ho⟩
end
end Go.Proofs.YtdmmebjjojimiaaGreatDoor
namespace Go.Proofs
theorem zBU{p:Prop}(h:p:=by first|rfl|trivial):p:=h
theorem zE9{p:Prop}(h:p:=by
 refine xC (p:=2) (u:=3) rfl rfl rfl rfl rfl (setRow_heap _ _ _ _ _ _ HB1.out) ?_
 exact uG.mk _ _ _ _ rfl HP.out (fun h=>by cases h) (bM.out.trans (lS _ _ _) (fun k hk=>.inr zBk))):p:=h
theorem zEq{p:Prop}(h:p:=by
 rw[<-HR2.out]
 exact all_false ci (by rw[hb];unfold isLt;rw[qP];omega)):p:=h
theorem zFS{p:Prop}(h:p:=by
 have hrf:r=false:=by
  exact zEq
 subst hrf
 clear HR2
 go_wp2_with (refine wpList_store_row rfl 355 (.tmp 2) (.tmp 43) rfl w.heap.size #[.int .i64 0,.int .i64 0,.string ⟨#[]⟩] rfl rfl 355 #[.int .i64 0,.int .i64 0,.string ⟨#[]⟩] HB1.out zk rfl zk ?_)
 exact zE9):p:=h
theorem zFU{p:Prop}(h:p:=by
 have HP:=zh hpn
 clear hpn HPN
 go_wp2_with (refine wpList_store_row rfl 355 (.tmp 2) (.tmp 15) rfl w.heap.size #[.int .i64 2,.int .i64 n,.string ⟨#[]⟩] rfl rfl 355 #[.int .i64 0,.int .i64 0,.string ⟨#[]⟩] HB1.out zk rfl zk ?_)
 exact zE9):p:=h
end Go.Proofs
namespace Go.Proofs.YtdmmebjjojimiaaGreatDoor
open Go.RowKit
open Vn (YM L9 isLt kY iZ numeral fZ)
section
variable {w w':World} {B:Nat}
theorem ahP(s:Str)(hs:s.size<=1000000)(hL:Laid w):Calls Tryz.prog 370 #[.string s] w (fun e w'=>uG s w w' e):=by
 have HW:=zh (show(w.alloc (.cells #[.int .i64 0,.int .i64 0,.string ⟨#[]⟩] 355)).heap[w.heap.size]? =some (.cells #[.int .i64 0,.int .i64 0,.string ⟨#[]⟩] 355 (0,0)) from qL _ _);have UL:=zh (show O0 w (w.alloc (.cells #[.int .i64 0,.int .i64 0,.string ⟨#[]⟩] 355)) from zr.alloc _);have HA:=zh (ahN s hs (hL.only UL.out));have Tj:w.heap.size<(w.alloc (.cells #[.int .i64 0,.int .i64 0,.string ⟨#[]⟩] 355)).heap.size:=zAM;have HLT:=zh Tj;have HLd:=zh hL;clear hL Tj;go_enter Tryz.func370,Tryz.ntmps370;go_wp2_with fail;refine HA.out.mono ?_;rintro e w1 ⟨n,er,rfl,hcase,O1⟩;have bM:=zh (UL.out.same O1);have HB1:=zh ((O1.block _ HLT.out (fun f=>f)).trans HW.out);have HSZ:Hid (w.heap.size<w1.heap.size):=Nat.lt_of_lt_of_le HLT.out O1.size;clear O1 HA HW UL HLT;rcases hcase with⟨rfl,hok⟩| ⟨⟨t,p,rfl⟩,hno⟩
 ·have hpn:=Vn.ZW hok;have HPN:=zh (Vn.acE hok);clear hok;by_cases c1:0<=n
  ·by_cases c2:n<=999999999
   ·have HI:=zh (ahO (w:=w1) n c1 c2 (HLd.out.only bM.out));obtain⟨z,hz⟩:∃z:Str,(⟨(Lib.itoa n).toArray⟩:ByteArray)=z:=⟨_,rfl⟩;rw[hz]at HI;have hz2:Lib.itoa n=z.toList:=by rw[<-hz,ByteArray.toList_eq]
    rw[qX c1,qX c2,yR,yR,hz2]at hpn;obtain⟨b,hb⟩:∃b,(z.toList==s.toList)=b:=⟨_,rfl⟩;have hpb:kY s.toList=b:=by rw[hpn,<-hb];rw[Bool.eq_iff_iff];simp
    have HP:=zh hpb;clear hz hz2 hpn hpb;go_wp2_with fail;refine HI.out.mono ?_;rintro e w2 ⟨rfl,O2⟩;have fK:=zh (bM.out.same O2);have HB2:=zh ((O2.block _ HSZ.out (fun f=>f)).trans HB1.out);clear O2 HI;go_wp2_with (refine wpList_store_row rfl 355 (.tmp 2) (.tmp 15) rfl w.heap.size #[.int .i64 2,.int .i64 n,.string ⟨#[]⟩] rfl rfl 355 #[.int .i64 0,.int .i64 0,.string ⟨#[]⟩] HB2.out zk rfl zk ?_);refine xC (p:=2) (u:=3) rfl rfl rfl rfl rfl (setRow_heap _ _ _ _ _ _ HB2.out) ?_;refine uG.mk _ _ _ _ rfl HP.out (fun h=>?_) (fK.out.trans (lS _ _ _) (fun k hk=>.inr zBk));have hq:=HPN.out (HP.out.trans h);exact⟨by rw[hq.1];rfl,hq.2.1.symm,by rw[hq.2.2,ByteArray.toList_eq]⟩
   rw[qP c2,Bool.and_false,yQ]at hpn;exact zFU
  rw[qP c1,yQ,yQ]at hpn;exact zFU
 obtain⟨r,hr⟩:=ze (kY s.toList);have HP:=zh hr;have HPW:Hid (r=true->iZ s.toList=0/\numeral s.toList=0/\fZ s.toList=s.toList):=fun h=>Vn.ZX (by rw[<-Vn.Md hno,hr];exact h);rw[Vn.Md hno]at hr;unfold L9 at hr;rw[isE]at hr;have jd:=zh hr;clear hno hr;by_cases h0:s.size=0
 ·have hrf:r=false:=by rw[<-jd.out,qX h0,Bool.not_true,Bool.and_false]
  subst hrf;obtain rfl:=Dz h0;clear jd h0;go_wp2_with fail;go_loopw [30] (fun vi wr=>Hid (w1=wr)/\vi= .int .i64 0) (fun _ _=>0);case atStart=>exact⟨rfl,rfl⟩
  case round=>obtain⟨hw,rfl⟩:=hrel;obtain rfl:=hw.out;go_wp2_with (refine wpList_store_row rfl 355 (.tmp 2) (.tmp 46) rfl w.heap.size #[.int .i64 0,.int .i64 0,.string ⟨#[]⟩] rfl rfl 355 #[.int .i64 0,.int .i64 0,.string ⟨#[]⟩] HB1.out zk rfl zk ?_);exact zE9
 have hemp:s.toList.isEmpty=false:=by rw[isE,qP h0]
 have HR2:Hid (s.toList.all isLt=r):=by rw[<-jd.out,qP h0,Bool.not_false,Bool.and_true];exact rfl
 clear jd;have hs2:s.size<=9223372036854775807:=zBk;go_wp2_with fail;go_loopw [30] (fun vi wr=>Hid (w1=wr)/\∃i:Nat,vi= .int .i64 i/\i<=s.size/\Hid ((s.toList.take i).all isLt=true)) (fun v _=>s.size-(RowKit.intOf v).toNat);case atStart=>exact⟨rfl,0,rfl,qE _,show Hid _ from by simp[Hid]⟩
 case round=>
  obtain⟨hw,i,rfl,hi,HA⟩:=hrel;obtain rfl:=hw.out;by_cases ci:i<s.size
  ·have jh:=zw (i+1);obtain⟨b,hb⟩:∃b:UInt8,s[i]=b:=⟨_,rfl⟩;by_cases c1:b.toNat<97;·exact zFS
   by_cases c2:122<b.toNat;·exact zFS
   have HA2:Hid ((s.toList.take (i+1)).all isLt=true):=by rw[Hid,OG ci,HA.out,hb,yR];unfold isLt;rw[yP];omega
   go_wp2_with fail;go_roundw;case rel=>exact⟨by first|exact rfl|exact trivial,i+1,by first|rfl|go_num,by omega,HA2⟩
   case measure=>simp[RowKit.intOf]<;>omega
  obtain rfl:i=s.size:=by omega
  have hrt:r=true:=by rw[<-HR2.out,<-HA.out,take_size]
  subst hrt;clear HR2 HA;go_wp2_with (refine wpList_store_row rfl 355 (.tmp 2) (.tmp 46) rfl w.heap.size #[.int .i64 0,.int .i64 0,.string s] rfl rfl 355 #[.int .i64 0,.int .i64 0,.string ⟨#[]⟩] HB1.out zk rfl zk ?_);refine xC (p:=2) (u:=3) rfl rfl rfl rfl rfl (setRow_heap _ _ _ _ _ _ HB1.out) ?_;refine uG.mk _ _ _ _ rfl HP.out (fun h=>?_) (bM.out.trans (lS _ _ _) (fun k hk=>.inr zBk));have hq:=HPW.out zBU;exact⟨by rw[hq.1];rfl,by rw[hq.2.1];rfl,hq.2.2.symm⟩
end
end Go.Proofs.YtdmmebjjojimiaaGreatDoor
