/- The library under package version: strconv.Atoi, Itoa, strings.Index, cmp.Compare, off the; Wv1 Wv2, in one text. -/
import Derived.Test.YtdmmebjjojimiaaGreatDoorG08
import Derived.Shelf.Strconv.Itoa3
import Derived.Shelf.Strconv.ErrVarAll
import Derived.Shelf.Strings.Search3
import Derived.Laws.Cover1
import Derived.LaidMore
import Derived.Deep.DeepWitnessRowRef
import Derived.RangeFuncNested
set_option maxRecDepth 100000
set_option maxHeartbeats 8000000
set_option linter.all false
namespace Go.Proofs.YtdmmebjjojimiaaGreatDoor
open Go.Shelf Go.RowKit Go.Lib Go.Sort
def Sv.Ue:Go.Shelf.Ren:=⟨fun |172=>402|244=>414|245=>415|247=>419|279=>420|280=>421|281=>422|282=>423|287=>425|316=>426|171=>403|205=>427|321=>432|322=>433|243=>416|246=>424|283=>428|284=>429|285=>430|286=>431|129=>253|317=>434|318=>435|319=>436|320=>437|337=>438|338=>439|n=>n,fun |9=>9|3=>3|75=>397|76=>398|4=>4|5=>5|167=>410|37=>52|0=>0|85=>411|2=>2|168=>413|53=>290|175=>417|46=>239|210=>421|127=>428|145=>431|143=>429|21=>21|171=>423|173=>425|212=>433|51=>288|20=>20|213=>434|232=>435|233=>436|80=>437|n=>n,fun |15=>3|16=>4|17=>5|18=>6|19=>7|n=>n⟩
theorem Sv.laysC172:Go.Proofs.LaysC.n172 Tryz.prog Sv.Ue:={
 mixed:=by kernel_rfl
 f129:=Tryz.func253.trans (congrArg some zk)
 f171:=Tryz.func403.trans (congrArg some zk)
 f172:=Tryz.func402.trans (congrArg some zk)
 f205:=Tryz.func427.trans (congrArg some zk)
 f243:=Tryz.func416.trans (congrArg some zk)
 f244:=Tryz.func414.trans (congrArg some zk)
 f245:=Tryz.func415.trans (congrArg some zk)
 f246:=Tryz.func424.trans (congrArg some zk)
 f247:=Tryz.func419.trans (congrArg some zk)
 f279:=Tryz.func420.trans (congrArg some zk)
 f280:=Tryz.func421.trans (congrArg some zk)
 f281:=Tryz.func422.trans (congrArg some zk)
 f282:=Tryz.func423.trans (congrArg some zk)
 f283:=Tryz.func428.trans (congrArg some zk)
 f284:=Tryz.func429.trans (congrArg some zk)
 f285:=Tryz.func430.trans (congrArg some zk)
 f286:=Tryz.func431.trans (congrArg some zk)
 f287:=Tryz.func425.trans (congrArg some zk)
 f316:=Tryz.func426.trans (congrArg some zk)
 f317:=Tryz.func434.trans (congrArg some zk)
 f318:=Tryz.func435.trans (congrArg some zk)
 f319:=Tryz.func436.trans (congrArg some zk)
 f320:=Tryz.func437.trans (congrArg some zk)
 f321:=Tryz.func432.trans (congrArg some zk)
 f322:=Tryz.func433.trans (congrArg some zk)
 f337:=Tryz.func438.trans (congrArg some zk)
 f338:=Tryz.func439.trans (congrArg some zk)
 t0:=Tryz.underlying0
 a0:=Tryz.isAgg0
 z0:=Tryz.sizeOf0
 v0:=Tryz.zeroValue0
 t2:=Tryz.underlying2
 a2:=Tryz.isAgg2
 z2:=Tryz.sizeOf2
 v2:=Tryz.zeroValue2
 t3:=Tryz.underlying3
 a3:=Tryz.isAgg3
 z3:=Tryz.sizeOf3
 v3:=Tryz.zeroValue3
 t4:=Tryz.underlying4
 a4:=Tryz.isAgg4
 z4:=Tryz.sizeOf4
 v4:=Tryz.zeroValue4
 t5:=Tryz.underlying5
 a5:=Tryz.isAgg5
 z5:=Tryz.sizeOf5
 v5:=Tryz.zeroValue5
 t9:=Tryz.underlying9
 a9:=Tryz.isAgg9
 z9:=Tryz.sizeOf9
 v9:=Tryz.zeroValue9
 t20:=Tryz.underlying20
 a20:=Tryz.isAgg20
 z20:=Tryz.sizeOf20
 v20:=Tryz.zeroValue20
 t21:=Tryz.underlying21
 a21:=Tryz.isAgg21
 z21:=Tryz.sizeOf21
 v21:=Tryz.zeroValue21
 t37:=Tryz.underlying52
 a37:=Tryz.isAgg52
 z37:=Tryz.sizeOf52
 v37:=Tryz.zeroValue52
 t46:=Tryz.underlying239
 a46:=Tryz.isAgg239
 z46:=Tryz.sizeOf239
 v46:=Tryz.zeroValue239
 t51:=Tryz.underlying288
 a51:=Tryz.isAgg288
 z51:=Tryz.sizeOf288
 v51:=Tryz.zeroValue288
 t53:=Tryz.underlying290
 a53:=Tryz.isAgg290
 z53:=Tryz.sizeOf290
 v53:=Tryz.zeroValue290
 t75:=Tryz.underlying397
 a75:=Tryz.isAgg397
 z75:=Tryz.sizeOf397
 v75:=Tryz.zeroValue397
 t76:=Tryz.underlying398
 a76:=Tryz.isAgg398
 z76:=Tryz.sizeOf398
 v76:=Tryz.zeroValue398
 t85:=Tryz.underlying411
 a85:=Tryz.isAgg411
 z85:=Tryz.sizeOf411
 v85:=Tryz.zeroValue411
 t127:=Tryz.underlying428
 a127:=Tryz.isAgg428
 z127:=Tryz.sizeOf428
 v127:=Tryz.zeroValue428
 t143:=Tryz.underlying429
 a143:=Tryz.isAgg429
 z143:=Tryz.sizeOf429
 v143:=Tryz.zeroValue429
 t145:=Tryz.underlying431
 a145:=Tryz.isAgg431
 z145:=Tryz.sizeOf431
 v145:=Tryz.zeroValue431
 t167:=Tryz.underlying410
 a167:=Tryz.isAgg410
 z167:=Tryz.sizeOf410
 v167:=Tryz.zeroValue410
 t168:=Tryz.underlying413
 a168:=Tryz.isAgg413
 z168:=Tryz.sizeOf413
 v168:=Tryz.zeroValue413
 t171:=Tryz.underlying423
 a171:=Tryz.isAgg423
 z171:=Tryz.sizeOf423
 v171:=Tryz.zeroValue423
 t173:=Tryz.underlying425
 a173:=Tryz.isAgg425
 z173:=Tryz.sizeOf425
 v173:=Tryz.zeroValue425
 t175:=Tryz.underlying417
 a175:=Tryz.isAgg417
 z175:=Tryz.sizeOf417
 v175:=Tryz.zeroValue417
 t210:=Tryz.underlying421
 a210:=Tryz.isAgg421
 z210:=Tryz.sizeOf421
 v210:=Tryz.zeroValue421
 t212:=Tryz.underlying433
 a212:=Tryz.isAgg433
 z212:=Tryz.sizeOf433
 v212:=Tryz.zeroValue433
 t213:=Tryz.underlying434
 a213:=Tryz.isAgg434
 z213:=Tryz.sizeOf434
 t232:=Tryz.underlying435
 a232:=Tryz.isAgg435
 z232:=Tryz.sizeOf435
 v232:=Tryz.zeroValue435
 t233:=Tryz.underlying436
 a233:=Tryz.isAgg436
 z233:=Tryz.sizeOf436
 v233:=Tryz.zeroValue436
 g15:=by kernel_rfl
 g16:=by kernel_rfl
 g17:=by kernel_rfl
 g18:=by kernel_rfl
 g19:=by kernel_rfl
 t80:=Tryz.underlying437
 a80:=Tryz.isAgg437
 z80:=Tryz.sizeOf437
 v80:=Tryz.zeroValue437
 i0:=by kernel_rfl
 i2:=by kernel_rfl
 i3:=by kernel_rfl
 i4:=by kernel_rfl
 i5:=by kernel_rfl
 i9:=by kernel_rfl
 i20:=by kernel_rfl
 i21:=by kernel_rfl
 i37:=by kernel_rfl
 i46:=by kernel_rfl
 i51:=by kernel_rfl
 i53:=by kernel_rfl
 i75:=by kernel_rfl
 i76:=by kernel_rfl
 i80:=by kernel_rfl
 i85:=by kernel_rfl
 i127:=by kernel_rfl
 i143:=by kernel_rfl
 i145:=by kernel_rfl
 i167:=by kernel_rfl
 i168:=by kernel_rfl
 i171:=by kernel_rfl
 i173:=by kernel_rfl
 i175:=by kernel_rfl
 i210:=by kernel_rfl
 i212:=by kernel_rfl
 i232:=by kernel_rfl
 i233:=by kernel_rfl
 m15:=by kernel_rfl
 m16:=by kernel_rfl
 m17:=by kernel_rfl
 m18:=by kernel_rfl
 m19:=by kernel_rfl
 c0:=by kernel_rfl
 c2:=by kernel_rfl
 c3:=by kernel_rfl
 c4:=by kernel_rfl
 c5:=by kernel_rfl
 c9:=by kernel_rfl
 c20:=by kernel_rfl
 c21:=by kernel_rfl
 c37:=by kernel_rfl
 c46:=by kernel_rfl
 c51:=by kernel_rfl
 c53:=by kernel_rfl
 c75:=by kernel_rfl
 c76:=by kernel_rfl
 c80:=by kernel_rfl
 c85:=by kernel_rfl
 c127:=by kernel_rfl
 c143:=by kernel_rfl
 c145:=by kernel_rfl
 c167:=by kernel_rfl
 c168:=by kernel_rfl
 c171:=by kernel_rfl
 c173:=by kernel_rfl
 c175:=by kernel_rfl
 c210:=by kernel_rfl
 c212:=by kernel_rfl
 c213:=by kernel_rfl
 c232:=by kernel_rfl
 c233:=by kernel_rfl}
def Sv.Uf:Go.Shelf.Ren:=⟨fun |171=>403|243=>416|246=>424|283=>428|284=>429|285=>430|286=>431|129=>253|317=>434|318=>435|319=>436|320=>437|337=>438|338=>439|n=>n,fun |3=>3|9=>9|2=>2|4=>4|171=>423|0=>0|53=>290|37=>52|5=>5|173=>425|212=>433|51=>288|20=>20|213=>434|46=>239|232=>435|233=>436|n=>n,fun |17=>5|18=>6|19=>7|n=>n⟩
theorem Sv.laysM171:Go.Proofs.LaysM.n171 Tryz.prog Sv.Uf:={
 mixed:=by kernel_rfl
 f129:=Tryz.func253.trans (congrArg some zk)
 f171:=Tryz.func403.trans (congrArg some zk)
 f243:=Tryz.func416.trans (congrArg some zk)
 f246:=Tryz.func424.trans (congrArg some zk)
 f283:=Tryz.func428.trans (congrArg some zk)
 f284:=Tryz.func429.trans (congrArg some zk)
 f285:=Tryz.func430.trans (congrArg some zk)
 f286:=Tryz.func431.trans (congrArg some zk)
 f317:=Tryz.func434.trans (congrArg some zk)
 f318:=Tryz.func435.trans (congrArg some zk)
 f319:=Tryz.func436.trans (congrArg some zk)
 f320:=Tryz.func437.trans (congrArg some zk)
 f337:=Tryz.func438.trans (congrArg some zk)
 f338:=Tryz.func439.trans (congrArg some zk)
 t0:=Tryz.underlying0
 a0:=Tryz.isAgg0
 z0:=Tryz.sizeOf0
 v0:=Tryz.zeroValue0
 t2:=Tryz.underlying2
 a2:=Tryz.isAgg2
 z2:=Tryz.sizeOf2
 v2:=Tryz.zeroValue2
 t3:=Tryz.underlying3
 a3:=Tryz.isAgg3
 z3:=Tryz.sizeOf3
 v3:=Tryz.zeroValue3
 t4:=Tryz.underlying4
 a4:=Tryz.isAgg4
 z4:=Tryz.sizeOf4
 v4:=Tryz.zeroValue4
 t5:=Tryz.underlying5
 a5:=Tryz.isAgg5
 z5:=Tryz.sizeOf5
 v5:=Tryz.zeroValue5
 t9:=Tryz.underlying9
 a9:=Tryz.isAgg9
 z9:=Tryz.sizeOf9
 v9:=Tryz.zeroValue9
 t20:=Tryz.underlying20
 a20:=Tryz.isAgg20
 z20:=Tryz.sizeOf20
 v20:=Tryz.zeroValue20
 t37:=Tryz.underlying52
 a37:=Tryz.isAgg52
 z37:=Tryz.sizeOf52
 v37:=Tryz.zeroValue52
 t46:=Tryz.underlying239
 a46:=Tryz.isAgg239
 z46:=Tryz.sizeOf239
 v46:=Tryz.zeroValue239
 t51:=Tryz.underlying288
 a51:=Tryz.isAgg288
 z51:=Tryz.sizeOf288
 v51:=Tryz.zeroValue288
 t53:=Tryz.underlying290
 a53:=Tryz.isAgg290
 z53:=Tryz.sizeOf290
 v53:=Tryz.zeroValue290
 t171:=Tryz.underlying423
 a171:=Tryz.isAgg423
 z171:=Tryz.sizeOf423
 v171:=Tryz.zeroValue423
 t173:=Tryz.underlying425
 a173:=Tryz.isAgg425
 z173:=Tryz.sizeOf425
 v173:=Tryz.zeroValue425
 t212:=Tryz.underlying433
 a212:=Tryz.isAgg433
 z212:=Tryz.sizeOf433
 v212:=Tryz.zeroValue433
 t213:=Tryz.underlying434
 a213:=Tryz.isAgg434
 z213:=Tryz.sizeOf434
 t232:=Tryz.underlying435
 a232:=Tryz.isAgg435
 z232:=Tryz.sizeOf435
 v232:=Tryz.zeroValue435
 t233:=Tryz.underlying436
 a233:=Tryz.isAgg436
 z233:=Tryz.sizeOf436
 v233:=Tryz.zeroValue436
 g17:=by kernel_rfl
 g18:=by kernel_rfl
 g19:=by kernel_rfl
 i0:=by kernel_rfl
 i2:=by kernel_rfl
 i3:=by kernel_rfl
 i4:=by kernel_rfl
 i5:=by kernel_rfl
 i9:=by kernel_rfl
 i20:=by kernel_rfl
 i37:=by kernel_rfl
 i46:=by kernel_rfl
 i51:=by kernel_rfl
 i53:=by kernel_rfl
 i171:=by kernel_rfl
 i173:=by kernel_rfl
 i212:=by kernel_rfl
 i232:=by kernel_rfl
 i233:=by kernel_rfl
 m17:=by kernel_rfl
 m18:=by kernel_rfl
 m19:=by kernel_rfl}
def Sv.Wh:Go.Shelf.Ren:=⟨fun |143=>256|219=>325|217=>365|225=>366|224=>367|267=>368|266=>399|314=>400|n=>n,fun |9=>9|3=>3|4=>4|5=>5|46=>239|146=>393|51=>288|n=>n,fun |1=>0|n=>n⟩
theorem Sv.lays143:Go.Proofs.Lays.n143 Tryz.prog Sv.Wh:={
 mixed:=by kernel_rfl
 f143:=Tryz.func256.trans (congrArg some zk)
 f217:=Tryz.func365.trans (congrArg some zk)
 f219:=Tryz.func325.trans (congrArg some zk)
 f224:=Tryz.func367.trans (congrArg some zk)
 f225:=Tryz.func366.trans (congrArg some zk)
 f266:=Tryz.func399.trans (congrArg some zk)
 f267:=Tryz.func368.trans (congrArg some zk)
 f314:=Tryz.func400.trans (congrArg some zk)
 t3:=Tryz.underlying3
 a3:=Tryz.isAgg3
 z3:=Tryz.sizeOf3
 v3:=Tryz.zeroValue3
 t4:=Tryz.underlying4
 a4:=Tryz.isAgg4
 z4:=Tryz.sizeOf4
 v4:=Tryz.zeroValue4
 t5:=Tryz.underlying5
 a5:=Tryz.isAgg5
 z5:=Tryz.sizeOf5
 v5:=Tryz.zeroValue5
 t9:=Tryz.underlying9
 a9:=Tryz.isAgg9
 z9:=Tryz.sizeOf9
 v9:=Tryz.zeroValue9
 t46:=Tryz.underlying239
 a46:=Tryz.isAgg239
 z46:=Tryz.sizeOf239
 v46:=Tryz.zeroValue239
 t51:=Tryz.underlying288
 a51:=Tryz.isAgg288
 z51:=Tryz.sizeOf288
 v51:=Tryz.zeroValue288
 t146:=Tryz.underlying393
 a146:=Tryz.isAgg393
 z146:=Tryz.sizeOf393
 v146:=Tryz.zeroValue393
 g1:=by kernel_rfl}
def Sv.EJ:Go.Shelf.Ren:=⟨fun |122=>235|215=>315|n=>n,fun |3=>3|4=>4|n=>n,fun |n=>n⟩
theorem Sv.TM:Go.Proofs.Lays.n122 Tryz.prog Sv.EJ:={
 mixed:=by kernel_rfl
 f122:=Tryz.func235.trans (congrArg some zk)
 f215:=Tryz.func315.trans (congrArg some zk)
 t3:=Tryz.underlying3
 a3:=Tryz.isAgg3
 z3:=Tryz.sizeOf3
 v3:=Tryz.zeroValue3
 t4:=Tryz.underlying4
 a4:=Tryz.isAgg4
 z4:=Tryz.sizeOf4
 v4:=Tryz.zeroValue4}
theorem Sv.strconv_Atoi_ok(s:ByteArray)(hmax:s.size<=9223372036854775806)(v:Int)(h:Lib.atoiAll s.data.toList= .ok v)(w:World):Calls Tryz.prog 402 #[.string s] w fun e w'=>e= .returned (.tuple #[.int .i64 v,.nilIface])/\(w'=w\/ ∃t,w'=Lib.bytesWorld w 5 t):=Any.strconv_Atoi_ok Sv.laysC172 s hmax v h w
theorem Sv.JZ(s:ByteArray)(hlim:s.size<=281474976710656)(h:Lib.atoiAll s.data.toList=Lib.atoiAll [])(tp:TypeId)(p:Value)(w:World)(hvar:w.var? Tryz.prog "strconv.ErrSyntax" =some #[.iface tp p]):Calls Tryz.prog 402 #[.string s] w fun e w'=> ∃N,e= .returned (.tuple #[.int .i64 0,.iface 413 (.pointer (some ⟨N,0,none⟩))])/\w.heap.size<=N/\w'.heap[N]? =some (.cells #[.string ⟨#[65,116,111,105]⟩,.string s,.iface tp p] 421 (0,0))/\Below w.heap.size w w':=Any.strconv_Atoi_syntax_var Sv.laysC172 s hlim h tp p w hvar
theorem Sv.strconv_Atoi_range_var(s:ByteArray)(hlim:s.size<=281474976710656)(h:Lib.atoiAll s.data.toList= .range)(tp:TypeId)(p:Value)(w:World)(hvar:w.var? Tryz.prog "strconv.ErrRange" =some #[.iface tp p]):Calls Tryz.prog 402 #[.string s] w fun e w'=> ∃N,e= .returned (.tuple #[.int .i64 (Lib.atoiSat s.data.toList),.iface 413 (.pointer (some ⟨N,0,none⟩))])/\w.heap.size<=N/\w'.heap[N]? =some (.cells #[.string ⟨#[65,116,111,105]⟩,.string s,.iface tp p] 421 (0,0))/\Below w.heap.size w w':=Any.strconv_Atoi_range_var Sv.laysC172 s hlim h tp p w hvar
theorem Sv.strconv_Itoa(n:Int)(h0: -9223372036854775808<=n)(h1:n<=9223372036854775807)(w:World)(htab:Lib.TabIs Tryz.prog w "internal/strconv.uint64pow10" .u64 Lib.pow10Tab):Calls Tryz.prog 403 #[.int .i64 n] w fun e w'=>e= .returned (.string ⟨(Lib.itoa n).toArray⟩)/\∃k os,w'=grow (w.drewN k) os:=Any.strconv_Itoa Sv.laysM171 n h0 h1 w htab
theorem Sv.strings_Index_one(s:ByteArray)(c:UInt8)(w:World):Calls Tryz.prog 256 #[.string s,.string ⟨#[c]⟩] w fun e w'=>e= .returned (.int .i64 (Lib.indexByte s.data.toList c))/\w'=w:=Any.strings_Index_one Sv.lays143 s c w
theorem Sv.cmp_Compare_int(x y:Int)(w:World):Calls Tryz.prog 235 #[.int .i64 x,.int .i64 y] w fun e w'=>e= .returned (.int .i64 (Lib.compareInt x y))/\w'=w:=Any.cmp_Compare_int Sv.TM x y w
end Go.Proofs.YtdmmebjjojimiaaGreatDoor
namespace Go.Proofs
theorem zEs{p:Prop}(h:p:=by
 subst hres
 clear aZ
 go_wp2_with (go_at_call 175;refine(HN.out _ _).mono ?_;rintro e w' ⟨rfl,rfl⟩)
 go_ret
 exact⟨rfl,rfl⟩):p:=h
theorem zF9{p:Prop}(h:p:=by
 refine Wi (p:=4) rfl rfl rfl rfl (setRow_heap _ _ _ _ _ _ HW.out) ?_
 exact⟨rfl,HOA.out.trans (lX _ _ _) (fun k hk=>.inr zAA)⟩):p:=h
end Go.Proofs
namespace Go.Proofs.YtdmmebjjojimiaaGreatDoor
open Go.RowKit
open Vn (GZ xJ gI Yx fU numeral eU)
structure Part where
 rank:Nat
 num:Nat
 word:Str
def NT(_:Nat)(_:World)(cs:List Value)(p:Part):Prop:=cs=[.int .i64 (p.rank:Int),.int .i64 (p.num:Int),.string p.word]/\p.rank<=2/\p.num<=999999999/\okS p.word
theorem NT.keep:Keeps NT:=fun _ _ _ _ _ h _=>h
def endP:Part:=⟨1,0,⟨#[]⟩⟩
def partOf(a:List UInt8):Part:=⟨fU a,numeral a,⟨(eU a).toArray⟩⟩
def Part.val(p:Part):Array Value:= #[.int .i64 (p.rank:Int),.int .i64 (p.num:Int),.string p.word]
section
variable {w w':World} {B:Nat}
theorem Qz{fn:Func}{p:Tmp}{ty:TypeId}(h:fn.results= #[.cell p ty])(tmps:Array Value)(P:Program)(w:World):(results fn tmps).run P w=((asAddr (tmps.getD p undef)).run P w).andThen fun a w₁=>(loadVar ty a).run P w₁:=by simp only[results,h];simp[Sem.run_bind,Result.andThen]
theorem lX(w:World)(g:Nat)(cs:Array Value):Only (fun k=>k=g) w (w.setRow g cs):=
 ⟨rfl,rfl,rfl,by simp[World.setRow],fun k hk hn=>by
  unfold World.setRow
  simp only[Array.getElem?_modify]
  rw[if_neg (fun e=>hn e.symm)]⟩
theorem Wi{fn:Func}{p:Tmp}{Q:Ending->World->Prop}{a:Act}{W:World}{B:Nat}{cs:Array Value}(hf:fn.results= #[.cell p 355])(hp:a.tmps.getD p undef= .pointer (some ⟨B,0,none⟩))(hd:a.defers=[])(hs:cs.size=3)(hg:W.heap[B]? =some (.cells cs 355 (0,0)))(h:Q (.returned (.agg cs)) W):bodyPost Tryz.prog fn Q Exit.ret a W:=by refine bodyPost_ret (v:=.agg cs) ?_ hd h;rw[Qz hf,hp];simp only[asAddr,Sem.run_pure,Result.andThen_ok];exact run_loadVar_row W B 355 355 cs (0,0) _ hg Tryz.underlying355 rfl (by rw[hs];kernel_rfl)
theorem alb{v:Value}{l:List Part}(h:aS 3 NT B w v l)(i:Nat)(hi:i<=1000000000)(t:Part)(ht:l.getD i endP=t):Calls Tryz.prog 338 #[v,.int .i64 (i:Int)] w (fun e w'=>e= .returned (.agg t.val)/\O0 w w'):=by
 obtain⟨ao,cap,rfl,g1,g2⟩:=h.shape;obtain⟨n,hn⟩:=ze l.length;have HW:=zh (show(w.alloc (.cells #[.int .i64 0,.int .i64 0,.string ⟨#[]⟩] 355)).heap[w.heap.size]? =some (.cells #[.int .i64 0,.int .i64 0,.string ⟨#[]⟩] 355 (0,0)) from qL _ _);have HOA:=zh (show O0 w (w.alloc (.cells #[.int .i64 0,.int .i64 0,.string ⟨#[]⟩] 355)) from zr.alloc _);by_cases ci:i<l.length;·obtain⟨y,hx⟩:=zG l i ci;rw[qC,hx]at ht;have ht':y=t:=ht;subst ht';obtain⟨b,off,cs,rfl,hb,hB,-,hr,hC⟩:=h.placed hx;obtain⟨rfl,-,-,-⟩:=hC;have hr2:=gq hr hb hB (Kp.dV HOA.out);have p0:=hr2 0 _ rfl;have p1:=hr2 1 _ rfl;have p2:=hr2 2 _ rfl;obtain⟨yr,yn,yw⟩:=y;dsimp only at p0 p1 p2;rw[qF]at p0;rw[hn]at ci g1⊢;clear hr hr2 hx h hn ht hb hB;unfold Part.val;go_enter Tryz.func338,Tryz.ntmps338;go_wp2_with (refine wpList_store_row rfl 355 (.tmp 4) (.tmp 12) rfl w.heap.size #[.int .i64 yr,.int .i64 yn,.string yw] rfl rfl 355 #[.int .i64 0,.int .i64 0,.string ⟨#[]⟩] HW.out zk rfl zk ?_);exact zF9
 rw[qC,List.getElem?_eq_none zAA]at ht;have ht':endP=t:=ht;subst ht';rw[hn]at ci g1⊢;clear h hn ht;unfold Part.val endP;go_enter Tryz.func338,Tryz.ntmps338;go_wp2_with (refine wpList_store_row rfl 355 (.tmp 4) (.tmp 13) rfl w.heap.size #[.int .i64 1,.int .i64 0,.string ⟨#[]⟩] rfl rfl 355 #[.int .i64 0,.int .i64 0,.string ⟨#[]⟩] HW.out zk rfl zk ?_);exact zF9
def Ug(a b:List UInt8):Int:=if a<b then -1 else if b<a then 1 else 0
theorem adH(a b:Str):Calls Tryz.prog 95 #[.string a,.string b] w (fun e w'=>e= .returned (.int .i64 (Ug a.toList b.toList))/\w'=w):=by
 obtain⟨r,hr⟩:=ze (Ug a.toList b.toList);have h1:=iD a.toList b.toList;obtain⟨b1,e1⟩:∃x,decide (a.toList<b.toList)=x:=⟨_,rfl⟩;obtain⟨b2,h2⟩:∃x,(a.toList==b.toList)=x:=⟨_,rfl⟩;rw[e1]at h1;rw[hr];have hr2:(if b1=true then (-1:Int)else if b2=true then 0 else 1)=r:=by
  rw[<-hr,<-e1,<-h2];unfold Ug;simp only[yP,beq_iff_eq];by_cases c1:a.toList<b.toList;·rw[if_pos c1,if_pos c1]
  rw[if_neg c1,if_neg c1];by_cases c2:a.toList=b.toList;·rw[if_pos c2,if_neg (fun h=>by rw[c2]at h;exact Vn.JV _ h)]
  rw[if_neg c2,if_pos ((Vn.VW c2).resolve_left c1)]
 clear hr e1;have HN:Hid (∀(s:Str) (W:World),Calls Tryz.prog 175 #[.string s] W (fun e w'=>e= .returned (.bool false)/\w'=W)):=fun s W=>by go_enter Tryz.func175,Tryz.ntmps175;go_wp2;go_ret;exact⟨by simp,rfl⟩
 have aZ:=zh hr2;clear hr2;go_enter Tryz.func95,Tryz.ntmps95;cases b1 with
 |true=>have hres:(-1:Int)=r:=aZ.out;exact zEs
 |false=>
  cases b2 with
  |true=>have hres:(0:Int)=r:=aZ.out;exact zEs
  |false=>have hres:(1:Int)=r:=aZ.out;exact zEs
end
end Go.Proofs.YtdmmebjjojimiaaGreatDoor
namespace Go.Proofs.YtdmmebjjojimiaaGreatDoor
open Go.RowKit
open Vn (GZ xJ isLt gI Yx fU numeral eU)
structure Laid (w:World):Prop where
 syn:∃t p,w.var? Tryz.prog "strconv.ErrSyntax" =some #[.iface t p]
 rng:∃t p,w.var? Tryz.prog "strconv.ErrRange" =some #[.iface t p]
 tab:Lib.TabIs Tryz.prog w "internal/strconv.uint64pow10" .u64 Lib.pow10Tab
theorem NU{P:Program}{w w':World}{n:String}{cs:Array Value}(h:w.var? P n=some cs)(ho:O0 w w'):w'.var? P n=some cs:=by
 unfold World.var? at h⊢;cases hg:P.globalNamed n with
 |none=>rw[hg]at h;cases h
 |some g=>
  rw[hg]at h;simp only[Option.bind_some]at h⊢;cases hb:w.heap[g]? with
  |none=>rw[hb]at h;cases h
  |some o=>rw[ho.block g (yA.1 hb).1 (fun f=>f),hb];rw[hb]at h;exact h
theorem Laid.only{w w':World}(h:Laid w)(ho:O0 w w'):Laid w':=by obtain⟨⟨t,p,h1⟩,⟨t2,p2,h2⟩,h3⟩:=h;exact⟨⟨t,p,NU h1 ho⟩,⟨t2,p2,NU h2 ho⟩,NU h3 ho⟩
theorem YH(w:World)(k:Nat)(os:Array Obj):O0 w (Go.Sort.grow (w.drewN k) os):=
 ⟨rfl,rfl,rfl,by simp[Go.Sort.grow,World.drewN],fun j hj _=>by
  show(w.heap++os)[j]? =_
  rw[Array.getElem?_append_left hj]⟩
theorem Dk{w w':World}(h:Below w.heap.size w w'):O0 w w':=(Only.of_below h).trans' fun i hi=>hi
section
variable {w w':World} {B:Nat}
theorem aiK(s:Str)(hs:s.size<=1000000)(hL:Laid w):Calls Tryz.prog 402 #[.string s] w (fun e w'=> ∃(n:Int) (er:Value),e= .returned (.tuple #[.int .i64 n,er])/\((er= .nilIface/\Lib.atoiAll s.toList= .ok n)\/((∃t p,er= .iface t p)/\∀v,Lib.atoiAll s.toList≠ .ok v))/\O0 w w'):=by
 rw[ByteArray.toList_eq];cases h:Lib.atoiAll s.data.toList with
 |ok v=>
  refine(Sv.strconv_Atoi_ok s zAA v h w).mono ?_;rintro e w1 ⟨rfl,hw⟩;refine⟨v,_,rfl,.inl ⟨rfl,rfl⟩,?_⟩;rcases hw with rfl| ⟨t,rfl⟩;·exact Only.refl _ _
  exact Dk (Lib.bytesWorld_below _ _ _)
 |range=>obtain⟨t,p,h1⟩:=hL.rng;refine(Sv.strconv_Atoi_range_var s zAA h t p w h1).mono ?_;rintro e w1 ⟨N,rfl,-,-,hb⟩;exact⟨_,_,rfl,.inr ⟨⟨_,_,rfl⟩,fun v hv=>by cases hv⟩,Dk hb⟩
 |_=>obtain⟨t,p,h1⟩:=hL.syn;refine(Sv.JZ s zAA (h.trans rfl) t p w h1).mono ?_;rintro e w1 ⟨N,rfl,-,-,hb⟩;exact⟨0,_,rfl,.inr ⟨⟨_,_,rfl⟩,fun v hv=>by cases hv⟩,Dk hb⟩
theorem aiL(n:Int)(h0:0<=n)(h9:n<=999999999)(hL:Laid w):Calls Tryz.prog 403 #[.int .i64 n] w (fun e w'=>e= .returned (.string ⟨(Lib.itoa n).toArray⟩)/\O0 w w'):=by refine(Sv.strconv_Itoa n zCj zAA w hL.tab).mono ?_;rintro e w1 ⟨rfl,k,os,rfl⟩;exact⟨rfl,YH _ _ _⟩
theorem zI{fn:Func}{p u:Tmp}{Q:Ending->World->Prop}{a:Act}{W:World}{B:Nat}{cs:Array Value}{b:Value}(hf:fn.results= #[.cell p 355,.tmp u])(hp:a.tmps.getD p undef= .pointer (some ⟨B,0,none⟩))(hu:a.tmps.getD u undef=b)(hd:a.defers=[])(hs:cs.size=3)(hg:W.heap[B]? =some (.cells cs 355 (0,0)))(h:Q (.returned (.tuple #[.agg cs,b])) W):bodyPost Tryz.prog fn Q Exit.ret a W:=by refine bodyPost_ret (v:=.tuple #[.agg cs,b]) ?_ hd h;rw[results_cell_tmp hf,hp,hu];simp only[asAddr,Sem.run_pure,Result.andThen_ok];rw[run_loadVar_row W B 355 355 cs (0,0) _ hg Tryz.underlying355 rfl (by rw[hs];kernel_rfl)];rfl
def wL(s:Str)(w w':World)(e:Ending):Prop:= ∃(x y:Int) (t:Str) (ok:Bool),e= .returned (.tuple #[.agg #[.int .i64 x,.int .i64 y,.string t],.bool ok])/\gI s.toList=ok/\
 (ok=true->x=(fU s.toList:Int)/\y=(numeral s.toList:Int)/\t.toList=eU s.toList)/\O0 w w'
theorem wL.mk{s:Str}{w w':World}{e:Ending}(x y:Int)(t:Str)(ok:Bool)(he:e= .returned (.tuple #[.agg #[.int .i64 x,.int .i64 y,.string t],.bool ok]))(h1:gI s.toList=ok)(h2:ok=true->x=(fU s.toList:Int)/\y=(numeral s.toList:Int)/\t.toList=eU s.toList)(ho:O0 w w'):wL s w w' e:=⟨x,y,t,ok,he,h1,h2,ho⟩
end
end Go.Proofs.YtdmmebjjojimiaaGreatDoor
namespace Go.Proofs
theorem zCA{p:Prop}(h:p:=by first|rfl|trivial):p:=h
theorem zDr{p:Prop}(h:p:=by
 refine zI (p:=2) (u:=3) rfl rfl rfl rfl rfl (setRow_heap _ _ _ _ _ _ HB1.out) ?_
 exact wL.mk _ _ _ _ rfl HP.out (fun h=>by cases h) (aI.out.trans (lX _ _ _) (fun k hk=>.inr zAA))):p:=h
theorem zE5{p:Prop}(h:p:=by
 have hrf:r=false:=by
  rw[<-HR2.out]
  exact all_false ci zBs
 subst hrf
 clear HR2
 go_wp2_with (refine wpList_store_row rfl 355 (.tmp 2) (.tmp 43) rfl w.heap.size #[.int .i64 0,.int .i64 0,.string ⟨#[]⟩] rfl rfl 355 #[.int .i64 0,.int .i64 0,.string ⟨#[]⟩] HB1.out zk rfl zk ?_)
 exact zDr):p:=h
theorem zFA{p:Prop}(h:p:=by
 have HP:=zh hpn
 clear hpn HPN
 go_wp2_with (refine wpList_store_row rfl 355 (.tmp 2) (.tmp 15) rfl w.heap.size #[.int .i64 2,.int .i64 n,.string ⟨#[]⟩] rfl rfl 355 #[.int .i64 0,.int .i64 0,.string ⟨#[]⟩] HB1.out zk rfl zk ?_)
 exact zDr):p:=h
end Go.Proofs
namespace Go.Proofs.YtdmmebjjojimiaaGreatDoor
open Go.RowKit
open Vn (GZ xJ isLt gI Yx fU numeral eU)
section
variable {w w':World} {B:Nat}
theorem aiM(s:Str)(hs:s.size<=1000000)(hL:Laid w):Calls Tryz.prog 370 #[.string s] w (fun e w'=>wL s w w' e):=by
 have HW:=zh (show(w.alloc (.cells #[.int .i64 0,.int .i64 0,.string ⟨#[]⟩] 355)).heap[w.heap.size]? =some (.cells #[.int .i64 0,.int .i64 0,.string ⟨#[]⟩] 355 (0,0)) from qL _ _);have HOA:=zh (show O0 w (w.alloc (.cells #[.int .i64 0,.int .i64 0,.string ⟨#[]⟩] 355)) from zr.alloc _);have HA:=zh (aiK s hs (hL.only HOA.out));have QA:w.heap.size<(w.alloc (.cells #[.int .i64 0,.int .i64 0,.string ⟨#[]⟩] 355)).heap.size:=zAP;have HLT:=zh QA;have NV:=zh hL;clear hL QA;go_enter Tryz.func370,Tryz.ntmps370;go_wp2_with fail;refine HA.out.mono ?_;rintro e w1 ⟨n,er,rfl,hcase,O1⟩;have aI:=zh (HOA.out.same O1);have HB1:=zh ((O1.block _ HLT.out (fun f=>f)).trans HW.out);have HSZ:Hid (w.heap.size<w1.heap.size):=Nat.lt_of_lt_of_le HLT.out O1.size;clear O1 HA HW HOA HLT;rcases hcase with⟨rfl,hok⟩| ⟨⟨t,p,rfl⟩,hno⟩
 ·have hpn:=Vn.aa3 hok;have HPN:=zh (Vn.adv hok);clear hok;by_cases c1:0<=n
  ·by_cases c2:n<=999999999
   ·have HI:=zh (aiL (w:=w1) n c1 c2 (NV.out.only aI.out));obtain⟨z,hz⟩:∃z:Str,(⟨(Lib.itoa n).toArray⟩:ByteArray)=z:=⟨_,rfl⟩;rw[hz]at HI;have hz2:Lib.itoa n=z.toList:=by rw[<-hz,ByteArray.toList_eq]
    rw[qX c1,qX c2,yR,yR,hz2]at hpn;obtain⟨b,hb⟩:∃b,(z.toList==s.toList)=b:=⟨_,rfl⟩;have hpb:gI s.toList=b:=by rw[hpn,<-hb];rw[Bool.eq_iff_iff];simp
    have HP:=zh hpb;clear hz hz2 hpn hpb;go_wp2_with fail;refine HI.out.mono ?_;rintro e w2 ⟨rfl,O2⟩;have eF:=zh (aI.out.same O2);have HB2:=zh ((O2.block _ HSZ.out (fun f=>f)).trans HB1.out);clear O2 HI;go_wp2_with (refine wpList_store_row rfl 355 (.tmp 2) (.tmp 15) rfl w.heap.size #[.int .i64 2,.int .i64 n,.string ⟨#[]⟩] rfl rfl 355 #[.int .i64 0,.int .i64 0,.string ⟨#[]⟩] HB2.out zk rfl zk ?_);refine zI (p:=2) (u:=3) rfl rfl rfl rfl rfl (setRow_heap _ _ _ _ _ _ HB2.out) ?_;refine wL.mk _ _ _ _ rfl HP.out (fun h=>?_) (eF.out.trans (lX _ _ _) (fun k hk=>.inr zAA));have hq:=HPN.out (HP.out.trans h);exact⟨by rw[hq.1];rfl,hq.2.1.symm,by rw[hq.2.2,ByteArray.toList_eq]⟩
   rw[qP c2,Bool.and_false,yQ]at hpn;exact zFA
  rw[qP c1,yQ,yQ]at hpn;exact zFA
 obtain⟨r,hr⟩:=ze (gI s.toList);have HP:=zh hr;have HPW:Hid (r=true->fU s.toList=0/\numeral s.toList=0/\eU s.toList=s.toList):=fun h=>Vn.aa4 (by rw[<-Vn.NG hno,hr];exact h);rw[Vn.NG hno]at hr;unfold xJ at hr;rw[isE]at hr;have aZ:=zh hr;clear hno hr;by_cases h0:s.size=0
 ·have hrf:r=false:=by exact zGj
  subst hrf;obtain rfl:=wB h0;clear aZ h0;go_wp2_with fail;go_loopw [30] (fun vi wr=>Hid (w1=wr)/\vi= .int .i64 0) (fun _ _=>0);case atStart=>exact⟨rfl,rfl⟩
  case round=>obtain⟨hw,rfl⟩:=hrel;obtain rfl:=hw.out;go_wp2_with (refine wpList_store_row rfl 355 (.tmp 2) (.tmp 46) rfl w.heap.size #[.int .i64 0,.int .i64 0,.string ⟨#[]⟩] rfl rfl 355 #[.int .i64 0,.int .i64 0,.string ⟨#[]⟩] HB1.out zk rfl zk ?_);exact zDr
 have hemp:s.toList.isEmpty=false:=by rw[isE,qP h0]
 have HR2:Hid (s.toList.all isLt=r):=by exact zGL
 clear aZ;have hs2:s.size<=9223372036854775807:=zAA;go_wp2_with fail;go_loopw [30] (fun vi wr=>Hid (w1=wr)/\∃i:Nat,vi= .int .i64 i/\i<=s.size/\Hid ((s.toList.take i).all isLt=true)) (fun v _=>s.size-(RowKit.intOf v).toNat);case atStart=>exact⟨rfl,0,rfl,qE _,show Hid _ from by simp[Hid]⟩
 case round=>
  obtain⟨hw,i,rfl,hi,HA⟩:=hrel;obtain rfl:=hw.out;by_cases ci:i<s.size
  ·have iE:=zw (i+1);obtain⟨b,hb⟩:∃b:UInt8,s[i]=b:=⟨_,rfl⟩;by_cases c1:b.toNat<97;·exact zE5
   by_cases c2:122<b.toNat;·exact zE5
   have HA2:Hid ((s.toList.take (i+1)).all isLt=true):=by rw[Hid,kK ci,HA.out,hb,yR];unfold isLt;rw[yP];omega
   go_wp2_with fail;go_roundw;case rel=>exact⟨by first|exact rfl|exact trivial,i+1,by first|rfl|go_num,by omega,HA2⟩
   case measure=>simp[RowKit.intOf]<;>omega
  obtain rfl:i=s.size:=by omega
  have hrt:r=true:=by rw[<-HR2.out,<-HA.out,take_size]
  subst hrt;clear HR2 HA;go_wp2_with (refine wpList_store_row rfl 355 (.tmp 2) (.tmp 46) rfl w.heap.size #[.int .i64 0,.int .i64 0,.string s] rfl rfl 355 #[.int .i64 0,.int .i64 0,.string ⟨#[]⟩] HB1.out zk rfl zk ?_);refine zI (p:=2) (u:=3) rfl rfl rfl rfl rfl (setRow_heap _ _ _ _ _ _ HB1.out) ?_;refine wL.mk _ _ _ _ rfl HP.out (fun h=>?_) (aI.out.trans (lX _ _ _) (fun k hk=>.inr zAA));have hq:=HPW.out zCA;exact⟨by rw[hq.1];rfl,by rw[hq.2.1];rfl,hq.2.2.symm⟩
end
end Go.Proofs.YtdmmebjjojimiaaGreatDoor
namespace Go.Proofs
theorem zGE{p:Prop}(h:p:=by
 obtain⟨_,u,v,e,-⟩:=iface_of_trod Tryz.underlying397 h4
 exact⟨u,v,by rw[h3];congr 1;apply Array.ext';exact e⟩):p:=h
end Go.Proofs
namespace Go.Proofs.YtdmmebjjojimiaaGreatDoor
open Go.RowKit
noncomputable def XY:List (String×DataW Unit):=[("math/bits.deBruijn32tab",Rows.laid_math_bits_deBruijn32tab),("math/bits.deBruijn64tab",Rows.laid_math_bits_deBruijn64tab),("internal/strconv.uint64pow10",Rows.laid_internal_strconv_uint64pow10),("unicode/utf8.acceptRanges",Rows.laid_unicode_utf8_acceptRanges),("strconv.ErrRange",Rows.laid_strconv_ErrRange),("strconv.ErrSyntax",Rows.laid_strconv_ErrSyntax),("unicode/utf8.first",Rows.laid_unicode_utf8_first)]
theorem Jw{P:Program}{w:World}:∀{l:List (String×DataW Unit)} {ps:List MemPlace},DataW.LaidVars P w l ps->∀n d,(n,d)∈l->∃g t cs fuel p,P.globalNamed n=some g/\(P.globals[g]?).map (·.type)=some t/\w.var? P n=some cs/\DataW.trod (fun _=>()) P w 0 (fun _=>true) false fuel t cs.toList=some (d,p)
 | [],_,_,_,_,hm=>by cases hm
 | (n',d')::r,ps,h,n,d,hm=>by
  obtain⟨g,t,cs,fuel,p,q,h1,h2,h3,h4,h5,_⟩:=h
  rcases qY.1 hm with e|e
  ·cases e
   exact⟨g,t,cs,fuel,p,h1,h2,h3,h4⟩
  ·exact Jw h5 n d e
theorem amI:Tryz.prog.globalNamed "strconv.ErrSyntax" =some 3:=by kernel_rfl
theorem amJ:Tryz.prog.globalNamed "strconv.ErrRange" =some 4:=by kernel_rfl
theorem ap3:Tryz.prog.globalNamed "internal/strconv.uint64pow10" =some 5:=by kernel_rfl
theorem amK:(Tryz.prog.globals[3]?).map (·.type)=some 397:=by kernel_rfl
theorem amL:(Tryz.prog.globals[4]?).map (·.type)=some 397:=by kernel_rfl
theorem ap4:(Tryz.prog.globals[5]?).map (·.type)=some 433:=by kernel_rfl
theorem afT:(Rows.laid_internal_strconv_uint64pow10:DataW Unit)=Lib.tabData .u64 Lib.pow10Tab:=by kernel_rfl
theorem ahG{W:World}(h:laidMetH Tryz.prog XY W):Laid W:=by
 rw[MakeChecks.laidMetH_plain _ _ _ zk]at h;obtain⟨ps,hv,-⟩:=h;refine⟨?_,?_,?_⟩;·obtain⟨g,t,cs,fuel,p,h1,h2,h3,h4⟩:=Jw hv "strconv.ErrSyntax" Rows.laid_strconv_ErrSyntax (by simp[XY]);obtain rfl:=Option.some.inj (amI.symm.trans h1);obtain rfl:=Option.some.inj (amK.symm.trans h2);exact zGE
 ·obtain⟨g,t,cs,fuel,p,h1,h2,h3,h4⟩:=Jw hv "strconv.ErrRange" Rows.laid_strconv_ErrRange (by simp[XY]);obtain rfl:=Option.some.inj (amJ.symm.trans h1);obtain rfl:=Option.some.inj (amL.symm.trans h2);exact zGE
 obtain⟨g,t,cs,fuel,p,h1,h2,h3,h4⟩:=Jw hv "internal/strconv.uint64pow10" Rows.laid_internal_strconv_uint64pow10 (by simp[XY]);obtain rfl:=Option.some.inj (ap3.symm.trans h1);obtain rfl:=Option.some.inj (ap4.symm.trans h2);rw[afT]at h4;unfold Lib.TabIs;rw[h3,<-Lib.cells_of_tab Tryz.underlying433 Tryz.underlying290 zk zk h4]
noncomputable def afU (os:Os):World:=
 let w0:=World.doorLaid Tryz.prog 4000 os
 {w0 with heap:=w0.heap.modify 1 fun
  | .cells _ t f=>.cells (Pinned.utf8FirstZ.map fun(z:Nat)=>Value.int .u8 (z:Int)).toArray t f
  |o=>o}
theorem acN(os:Os)(args:Array Value):laidMetH Tryz.prog XY ((afU os).forCall (fun _ _=>0) ⟨#[],args,[]⟩).memory:=by rw[MakeChecks.laidMetH_plain _ _ _ zk];exact laidMet_of_run' 8 zk zk
end Go.Proofs.YtdmmebjjojimiaaGreatDoor
namespace Go.Proofs
theorem zBl{p:Prop}(h:p:=by have:=hC k hc;omega):p:=h
theorem zC3{p:Prop}(h:p:=by rw[<-hWb];exact(World.putObj_heap_other zAA).trans hk):p:=h
theorem zC8{p:Prop}(h:p:=by omega):p:=h
theorem zDL{p:Prop}(h:p:=by
 refine⟨w.heap.size+1,[{target:=.collected w.heap.size,args:= #[]}],W1,{target:=.fn (.func gf) lb,args:= #[.func (.yield (w.heap.size+1)) #[] #[]]},W1,gf,
  #[.func (.yield (w.heap.size+1)) #[] #[]]++lb,W1,?_,?_,?_,?_,fun _=>h1,?_⟩
 ·rw[<-hW1,hrec];exact run_enterLoop_outer _ _ _ _ _
 ·simp only[resolve,hg]
  simp[go_sem]
 ·intro f' hf';simp[Target.leads]at hf';subst hf';exact hFg
 ·simp[invoke,go_sem,eg]
 ·refine(hseq (w.heap.size+1)
   (fun pre W=>I pre W/\W.heap[w.heap.size+1]? =some (.loop (rec .ready none))/\W.heap[w.heap.size]? =some (.deferred (some [])))
   (fun pre W=>Ir pre W/\W.heap[w.heap.size+1]? =some (.loop (rec .done (some .ret)))/\W.heap[w.heap.size]? =some (.deferred (some [])))
   W1 (hw0.trans fun k hk=>hO1.block k (hC k hk) (fun f=>f)) (qR hsz hO1.size)
   (fun s A B hs ho=>⟨hI s A B hs.1 (hcw ho),(ho.block _ (yA.1 hs.2.1).1 (hnc _ zC8)).trans hs.2.1,(ho.block _ (yA.1 hs.2.2).1 (hnc _ zAA)).trans hs.2.2⟩)
   (fun s A B hs ho=>⟨hIr s A B hs.1 (hcw ho),(ho.block _ (yA.1 hs.2.1).1 (hnc _ zC8)).trans hs.2.1,(ho.block _ (yA.1 hs.2.2).1 (hnc _ zAA)).trans hs.2.2⟩)
   ?_ ⟨hI [] w W1 h0 (hO1.mono fun _ f=>f.elim),hL1,hK1⟩).mono ?_
  ·rintro pre x suf W ⟨hi,hl,hk⟩ hx
   have hlt:w.heap.size+1<W.heap.size:=(yA.1 hl).1
   have hy:=run_yield (P:=P) (args:= #[enc x]) hl (by rw[hrec];exact hps.symm)
   rw[hrec]at hy
   refine⟨fn,_,assign,body,hy,roundIn_of_wpIn hfn (hassign _ x W _ ⟨_,run_beginRound hl (by rw[hrec]),?_⟩)⟩
   obtain⟨Wb,hWb⟩:∃Wb,W.putObj (w.heap.size+1) (.loop {rec .ready none with state:=.busy})=Wb:=⟨_,rfl⟩
   rw[hWb]
   have hl2:Wb.heap[w.heap.size+1]? =some (.loop {rec .ready none with state:=.busy}):=by rw[<-hWb];exact World.putObj_heap_same hlt
   have hk2:Wb.heap[w.heap.size]? =some (.deferred (some [])):=zC3
   have hsb:Wb.heap.size=W.heap.size:=by rw[<-hWb];simp
   have hib:I pre Wb:=by rw[<-hWb];exact hI _ _ _ hi (hput _ _)
   have hcb:Dl C W Wb:=fun k hc=>by rw[<-hWb];exact World.putObj_heap_other zBl
   refine wpIn_mono (hbody _ pre x suf _ zAA hib hx) ?_
   have fin:∀(jump:Option Code) (W3:World),Only G Wb W3->
     (Instr.endRound (w.heap.size+1) jump).run P W3= .ok (.bool jump.isNone) (W3.putObj (w.heap.size+1) (.loop (rec (if jump.isNone then .ready else .done) jump)))/\
     (W3.putObj (w.heap.size+1) (.loop (rec (if jump.isNone then .ready else .done) jump))).heap[w.heap.size+1]? =some (.loop (rec (if jump.isNone then .ready else .done) jump))/\
     (W3.putObj (w.heap.size+1) (.loop (rec (if jump.isNone then .ready else .done) jump))).heap[w.heap.size]? =some (.deferred (some []))/\
     Dl C Wb (W3.putObj (w.heap.size+1) (.loop (rec (if jump.isNone then .ready else .done) jump))):=fun jump W3 ho=>by
    have hl3:=(ho.block _ zAA (fun g=>(hG _ g).2.2 rfl)).trans hl2
    have hk3:=(ho.block _ zAA (fun g=>(hG _ g).2.1 rfl)).trans hk2
    have:=run_endRound (P:=P) jump hl3
    rw[hrec]at this⊢
    exact⟨this,World.putObj_heap_same (yA.1 hl3).1,(World.putObj_heap_other zAA).trans hk3,
     fun k hc=>(World.putObj_heap_other (by have:=hC k hc;omega)).trans (ho.block k zBl (fun g=>(hG k g).1 hc))⟩
   rintro e a3 W3 hp
   cases e with
   |normal=>
    obtain⟨ho3,hi3⟩:=hp
    obtain⟨hr,hl4,hk4,hc4⟩:=fin none W3 ho3
    exact⟨_,_,hr,.inl ⟨rfl,⟨hI _ _ _ hi3 (hput _ _),hl4,hk4⟩,hcb.trans hc4,by simp;have:=ho3.size;omega⟩⟩
   |ret=>
    obtain⟨ho3,hi3⟩:=hp
    obtain⟨hr,hl4,hk4,hc4⟩:=fin (some .ret) W3 ho3
    exact⟨_,_,hr,.inr ⟨rfl,hIr _ _ _ hi3 (hput _ _),hl4,hk4⟩⟩
   |exit id=>exact hp.elim
   |goto t=>exact hp.elim
   |panic ch=>exact hp.elim
   |outgrown=>exact hp.elim
  ·rintro e W2 ⟨⟨v,rfl⟩,(⟨hi,hl,hk⟩| ⟨pre,hSp,hi,hl,hk⟩)⟩
   ·exact⟨none,_,by have:=run_endLoop (P:=P) hl (by rw[hrec];simp);rw[hrec]at this;exact this,hdone _ (hI _ _ _ hi (hput _ _)) ((World.putObj_heap_other zAA).trans hk)⟩
   ·exact⟨some .ret,_,by have:=run_endLoop (P:=P) hl (by rw[hrec];simp);rw[hrec]at this;exact this,hstop pre _ hSp (hIr _ _ _ hi (hput _ _)) ((World.putObj_heap_other zAA).trans hk)⟩):p:=h
theorem zGB{p:Prop}(h:p:=by rw[<-hW1];have:=World.alloc_heap_new (w.alloc (.deferred (some []))) (.loop (rec .ready none));rwa[World.size_alloc]at this):p:=h
theorem zHF{p:Prop}(h:p:=by rw[<-hW1];exact(Below.heap_alloc _ _ _ zAP).trans (World.alloc_heap_new w _)):p:=h
end Go.Proofs
namespace Go.Proofs.YtdmmebjjojimiaaGreatDoor
open Go.RowKit
def Dl(C:Nat->Prop)(W W':World):Prop:= ∀k,C k->W'.heap[k]? =W.heap[k]?
theorem Dl.refl(C:Nat->Prop)(W:World):Dl C W W:=fun _ _=>rfl
theorem Dl.trans{C:Nat->Prop}{X Y Z:World}(h:Dl C X Y)(k:Dl C Y Z):Dl C X Z:=fun i hi=>(k i hi).trans (h i hi)
def AbC{β:Type}(C:Nat->Prop)(J:β->World->Prop):Prop:= ∀s W W',J s W->Only C W W'->J s W'
def alc{α:Type}(F:Fence)(n:Nat)(P:Program)(g:Nat)(lb:Array Value)(enc:α->Value)(C:Nat->Prop)(xs:List α)(w:World):Prop:=
 ∀(l:Nat) (J Jx:List α->World->Prop) (W:World),Dl C w W->w.heap.size<=W.heap.size->AbC C J->AbC C Jx->
  (∀pre x suf W1,J pre W1->xs=pre++x::suf->YieldAt F (n-1) P l #[enc x] W1 fun e W'=>
   (e= .returned (.bool true)/\J (pre++[x]) W'/\Dl C W1 W'/\W1.heap.size<=W'.heap.size)\/(e= .returned (.bool false)/\Jx (pre++[x]) W'))->
  J [] W->
  CallsIn F n P g (#[.func (.yield l) #[] #[]]++lb) W fun e W'=>(∃v,e= .returned v)/\(J xs W'\/ ∃pre,pre<+:xs/\Jx pre W')
def aak{α:Type}(G:Nat->Prop)(I Ir:List α->World->Prop)(xs:List α)(W:World):Exit->Act->World->Prop
 | .normal,_,W'=>Only G W W'/\I xs W'
 | .ret,_,W'=>Only G W W'/\Ir xs W'
 | .exit _,_,_=>False
 | .goto _,_,_=>False
 | .panic _,_,_=>False
 | .outgrown,_,_=>False
variable {F:Fence} {n:Nat} {P:Program}
theorem abe{α:Type}{g:Operand}{ps:Array Tmp}{assign body:Code}{Q:Exit->Act->World->Prop}{a:Act}{w:World}
  (hro:F.round=none) (h1:1<=n) {gf:Nat} {lb:Array Value} (hg:a.eval g= .func (.func gf) #[] lb) (hFg:F.fn gf) (eg:∀args w,(callFunc gf args).run P w= .ok (.enter gf args) w)
  {enc:α->Value} {C:Nat->Prop} {xs:List α} {w0:World} (hseq:alc F (n-1) P gf lb enc C xs w0)
  (hC:∀k,C k->k<w.heap.size) (hw0:Dl C w0 w) (hsz:w0.heap.size<=w.heap.size) (hps:ps.size=1)
  (G:Nat->Prop) (hG:∀k,G k->¬C k/\k≠w.heap.size/\k≠w.heap.size+1)
  (I Ir:List α->World->Prop)
  (hI:∀s W W',I s W->Only (fun k=>C k\/k=w.heap.size\/k=w.heap.size+1) W W'->I s W')
  (hIr:∀s W W',Ir s W->Only (fun k=>C k\/k=w.heap.size\/k=w.heap.size+1) W W'->Ir s W')
  (h0:I [] w) (a₁:α->Act)
  (hassign:∀(l:Nat) (x:α) (W:World) (K:Act->World->Prop),K (a₁ x) W->
   assign.wpIn (F.inRound l) (n-1-1) P (Exit.then K (fun _ _ _=>False)) {tmps:=(ps.zip #[enc x]).foldl (fun t (p,v)=>t.setIfInBounds p v) a.tmps,defers:=[]} W)
  (hbody:∀(l:Nat) (pre:List α) (x:α) (suf:List α) (W:World),w.heap.size+2<=W.heap.size->I pre W->xs=pre++x::suf->body.wpIn (F.inRound l) (n-1-1) P (aak G I Ir (pre++[x]) W) (a₁ x) W)
  (hdone:∀(W:World),I xs W->W.heap[w.heap.size]? =some (.deferred (some []))->Q .normal {a with defers:={target:=.collected w.heap.size,args:= #[]}::a.defers} W)
  (hstop:∀(pre:List α) (W:World),pre<+:xs->Ir pre W->W.heap[w.heap.size]? =some (.deferred (some []))->Code.ret.wpIn F n P Q {a with defers:={target:=.collected w.heap.size,args:= #[]}::a.defers} W):
  (Code.rangeFunc g ps assign body).wpIn F n P Q a w:=by
 refine wpIn_rangeFunc ?_
 intro fn hfn
 rw[hro]
 obtain⟨rec,hrec⟩:∃rec:LoopState->Option Code->Loop,rec=fun st pe=>{state:=st,pending:=pe,fn,tmps:=a.tmps,params:=ps,assign,body,defers:=w.heap.size}:=⟨_,rfl⟩
 obtain⟨W1,hW1⟩:=ze ((w.alloc (.deferred (some []))).alloc (.loop (rec .ready none)))
 have hL1:W1.heap[w.heap.size+1]? =some (.loop (rec .ready none)):=by
  exact zGB
 have hK1:W1.heap[w.heap.size]? =some (.deferred (some [])):=by
  exact zHF
 have hO1:O0 w W1:=by rw[<-hW1];exact((Only.refl _ w).alloc _).alloc _
 have hS1:W1.heap.size=w.heap.size+2:=by rw[<-hW1];simp
 have hput:∀(W:World) (o:Obj),Only (fun k=>C k\/k=w.heap.size\/k=w.heap.size+1) W (W.putObj (w.heap.size+1) o):=fun W o=>
  ⟨rfl,rfl,rfl,by simp,fun k _ hn=>World.putObj_heap_other (fun e=>hn (.inr (.inr e)))⟩
 have hcw:∀{W W':World},Only C W W'->Only (fun k=>C k\/k=w.heap.size\/k=w.heap.size+1) W W':=fun h=>h.mono fun _ hk=>.inl hk
 have hnc:∀k,w.heap.size<=k->¬C k:=fun k hk hc=>by have:=hC k hc;omega
 exact zDL
end Go.Proofs.YtdmmebjjojimiaaGreatDoor
