/- Package graph, exact: name. Printed by gen_gw8.py.; The library under package lock: strings.Split, Cut, CutPrefix, (*strings.Builder).String,  -/
import Derived.Test.YtdmmebjjojimiaaGreatDoorG30
import Derived.Shelf.Strings.SplitShaped
import Derived.Shelf.Strings.Shaped
set_option maxRecDepth 100000
set_option maxHeartbeats 8000000
set_option linter.all false
namespace Go.Proofs
theorem zAQ{p:Prop}(h:p:=by(intro w hSw;(try dsimp only at hSw);obtain⟨k0,k1,k2,k3⟩:=aF.out w hSw;obtain⟨p0,p1,p2,p3⟩:=oZ.out w hSw;have hrm:=(Jl.out w hSw).1;have Aa:=hrm 0 _ rfl;rw[qF]at Aa;clear hrm;go_simp<;>(try with_reducible rfl))):p:=h
theorem zAm{p:Prop}(h:p:=by(intro w hSw;(try dsimp only at hSw);obtain⟨k0,k1,k2,k3⟩:=aF.out w hSw;obtain⟨p0,p1,p2,p3⟩:=oZ.out w hSw;go_simp<;>(try with_reducible rfl))):p:=h
end Go.Proofs
namespace Go.Proofs.YtdmmebjjojimiaaGreatDoor
open Go.RowKit
section
variable {w w':World} {B:Nat}
attribute [local irreducible] wpQuiet
theorem ahd{bp:Nat}{x:aQ}{q:dD}{g:List aC}(hc:lH B w bp x q g){zQ:List Value}{n:aC}(hn:dH B w zQ n)(i:Nat)(hi:i<g.length):Calls Tryz.prog 110 #[.pointer (some ⟨bp,0,none⟩),.int .i64 (i:Int),.agg zQ.toArray] w fun e w'=>e= .returned (.bool (jH x g i n))/\O0 w w':=by
 obtain⟨a1,n1,c1,a2,n2,c2,a3,n3,c3,a4,n4,c4,-,-,N4,-,-,g4,Xu,HX0,-,-,-,-,HR0⟩:=hc.open;obtain⟨v5,v6,rfl,-,-,r5,r6⟩:=hn;obtain⟨a5,c5,rfl,-,-⟩:=r5.shape;obtain⟨a6,c6,rfl,-,-⟩:=r6.shape;obtain⟨n5,h5⟩:=ze n.sets.length;obtain⟨n6,h6⟩:=ze n.needs.length;rw[h5]at r5⊢;rw[h6]at r6⊢;have hn4:n4<=9223372036854775807:=by obtain⟨_,_,_,hb1,hb2⟩:=(HR0.out w zr).shape;rw[<-N4.out];omega
 rw[N4.out]at hi;obtain⟨W0,hW0,aV,jK,aF⟩:=QN w (.string n.name) (.string n.version) (.slice a5 n5 c5) (.slice a6 n6 c6) 83;have oZ:Hid (∀W,O0 W0 W->W.cell? ⟨bp,0,none⟩=some (.slice a1 n1 c1)/\W.cell? ⟨bp,1,none⟩=some (.slice a2 n2 c2)/\W.cell? ⟨bp,2,none⟩=some (.slice a3 n3 c3)/\W.cell? ⟨bp,3,none⟩=some (.slice a4 n4 c4)):=fun W hW=>Xu.out W (aV.out.same hW);have MH:Hid (∀W,O0 W0 W->aS 4 dH B W (.slice a4 n4 c4) g):=fun W hW=>HR0.out W (aV.out.same hW);obtain⟨f,hf⟩:=ze (x.find n.name);have HF:Hid (∀W,O0 W0 W->Calls Tryz.prog 182 #[.agg #[.slice a1 n1 c1,.slice a2 n2 c2],.string n.name] W fun e w'=>e= .returned (.int .i64 f)/\O0 W w'):=fun W hW=>by rw[<-hf];exact rX (HX0.out W (aV.out.same hW)) _
 have hnw:jH x g i n=(decide (f<0)||(decide (0<i)&& !decide ((nodeAt g (i-1)).name.toList<n.name.toList))):=by unfold jH;rw[hf]
 have hW0':=hW0.symm;clear r5 r6 h5 h6 hc Xu HX0 HR0 hW0 hf;by_cases h0:f<0
 ·have d0:decide (f<0)=true:=qX h0;rw[d0,Bool.true_or]at hnw;rw[hnw];clear hnw;go_enter Tryz.func110,Tryz.ntmps110;go_wp2_with fail;clear hW0';refine aU (fun w'=>O0 W0 w') zk zk zA2 ?_;iterate 3 refine qV ?_
  refine qV ?_ (hy:=zAm);refine qV ?_;refine qV ?_ (hy:=zAm);refine bF (v:=.int .i64 f) (f:=182) (args:= #[.agg #[.slice a1 n1 c1,.slice a2 n2 c2],.string n.name]) (by rfl) ?_ ?_ ?_;·exact zDQ
  ·exact zDj
  try simp only[Act.put,fA,fD,fB,dW,dX,dY]
  iterate 2 refine qV ?_
  iterate 17 refine qS ?_
  iterate 2 refine qV ?_
  exact zDb
 have d0:decide (f<0)=false:=qP h0;rw[d0,Bool.false_or]at hnw;cases i with
 |zero=>
  have ae9:jH x g 0 n=false:=by rw[hnw];rfl
  rw[ae9];clear hnw ae9;go_enter Tryz.func110,Tryz.ntmps110;go_wp2_with fail;clear hW0';refine aU (fun w'=>O0 W0 w') zk zk zA2 ?_;iterate 3 refine qV ?_
  refine qV ?_ (hy:=zAm);refine qV ?_;refine qV ?_ (hy:=zAm);refine bF (v:=.int .i64 f) (f:=182) (args:= #[.agg #[.slice a1 n1 c1,.slice a2 n2 c2],.string n.name]) (by rfl) ?_ ?_ ?_;·exact zDQ
  ·exact zDj
  try simp only[Act.put,fA,fD,fB,dW,dX,dY]
  iterate 5 refine qV ?_
  iterate 13 refine qS ?_
  iterate 3 refine qV ?_
  exact zDb
 |succ i=>
  have ew:IntKind.i64.wrap (i:Int)=(i:Int):=zBR;have ci:i<n4:=zAA;obtain⟨ym,hxm⟩:=zG g i zCH;obtain⟨bkm,alV,am1,nm1,cm1,am2,nm2,cm2,hem,ae2,ae3,alW,alX,Xq⟩:=jf (MH.out W0 zr) hxm;first|subst hem| (simp only[qG,qO,and_true]at hem;obtain⟨rfl,rfl⟩:=hem)
  have Jl:=zh Xq;have HXm:=zh hxm;clear Xq hxm ae2 ae3;obtain⟨b1,e1⟩:=ze (Op.bytesLess ym.name.toList n.name.toList);have hlt:decide (ym.name.toList<n.name.toList)=b1:=by rw[<-iD];exact e1
  have ae9:jH x g (i+1) n= !b1:=by rw[hnw,Nat.add_sub_cancel,jU HXm.out,hlt,qX (show 0<i+1 by omega)];rfl
  rw[ae9];clear hnw ae9 hlt;go_enter Tryz.func110,Tryz.ntmps110;go_wp2_with fail;clear hW0';refine aU (fun w'=>O0 W0 w') zk zk zA2 ?_;iterate 3 refine qV ?_
  refine qV ?_ (hy:=zAQ);refine qV ?_;refine qV ?_ (hy:=zAQ);refine bF (v:=.int .i64 f) (f:=182) (args:= #[.agg #[.slice a1 n1 c1,.slice a2 n2 c2],.string n.name]) (by rfl) ?_ ?_ ?_;·exact zDQ
  ·exact zDj
  try simp only[Act.put,fA,fD,fB,dW,dX,dY]
  iterate 9 refine qV ?_
  refine qV ?_ (hy:=zAQ);iterate 4 refine qV ?_
  refine qV ?_ (hy:=zAQ);refine qV ?_;refine qV ?_ (hy:=zAQ);iterate 4 refine qV ?_
  exact zDb
end
end Go.Proofs.YtdmmebjjojimiaaGreatDoor
namespace Go.Proofs.YtdmmebjjojimiaaGreatDoor
open Go.Shelf Go.RowKit Go.Lib Go.Sort
def Sl.Vd:Go.Shelf.Ren:=⟨fun |146=>101|221=>178|268=>254|138=>255|143=>256|195=>322|197=>323|218=>324|219=>325|260=>364|217=>365|225=>366|224=>367|267=>368|266=>399|314=>400|n=>n,fun |9=>9|31=>81|3=>3|4=>4|0=>0|105=>339|21=>21|5=>5|46=>239|119=>389|139=>392|138=>391|146=>393|51=>288|n=>n,fun |1=>0|3=>1|4=>2|n=>n⟩
theorem Sl.laysM146:Go.Proofs.LaysM.n146 Tryz.prog Sl.Vd:={
 mixed:=by kernel_rfl
 f138:=Tryz.func255.trans (congrArg some zk)
 f143:=Tryz.func256.trans (congrArg some zk)
 f146:=Tryz.func101.trans (congrArg some zk)
 f195:=Tryz.func322.trans (congrArg some zk)
 f197:=Tryz.func323.trans (congrArg some zk)
 f217:=Tryz.func365.trans (congrArg some zk)
 f218:=Tryz.func324.trans (congrArg some zk)
 f219:=Tryz.func325.trans (congrArg some zk)
 f221:=Tryz.func178.trans (congrArg some zk)
 f224:=Tryz.func367.trans (congrArg some zk)
 f225:=Tryz.func366.trans (congrArg some zk)
 f260:=Tryz.func364.trans (congrArg some zk)
 f266:=Tryz.func399.trans (congrArg some zk)
 f267:=Tryz.func368.trans (congrArg some zk)
 f268:=Tryz.func254.trans (congrArg some zk)
 f314:=Tryz.func400.trans (congrArg some zk)
 t0:=Tryz.underlying0
 a0:=Tryz.isAgg0
 z0:=Tryz.sizeOf0
 v0:=Tryz.zeroValue0
 t3:=Tryz.underlying3
 a3:=Tryz.isAgg3
 z3:=Tryz.sizeOf3
 v3:=Tryz.zeroValue3
 t4:=Tryz.underlying4
 a4:=Tryz.isAgg4
 z4:=Tryz.sizeOf4
 v4:=Tryz.zeroValue4
 t5:=Tryz.underlying5
 a5:=Tryz.isAgg5
 z5:=Tryz.sizeOf5
 v5:=Tryz.zeroValue5
 t9:=Tryz.underlying9
 a9:=Tryz.isAgg9
 z9:=Tryz.sizeOf9
 v9:=Tryz.zeroValue9
 t21:=Tryz.underlying21
 a21:=Tryz.isAgg21
 z21:=Tryz.sizeOf21
 v21:=Tryz.zeroValue21
 t31:=Tryz.underlying81
 a31:=Tryz.isAgg81
 z31:=Tryz.sizeOf81
 v31:=Tryz.zeroValue81
 t46:=Tryz.underlying239
 a46:=Tryz.isAgg239
 z46:=Tryz.sizeOf239
 v46:=Tryz.zeroValue239
 t51:=Tryz.underlying288
 a51:=Tryz.isAgg288
 z51:=Tryz.sizeOf288
 v51:=Tryz.zeroValue288
 t105:=Tryz.underlying339
 a105:=Tryz.isAgg339
 z105:=Tryz.sizeOf339
 v105:=Tryz.zeroValue339
 t119:=Tryz.underlying389
 a119:=Tryz.isAgg389
 z119:=Tryz.sizeOf389
 t138:=Tryz.underlying391
 a138:=Tryz.isAgg391
 z138:=Tryz.sizeOf391
 v138:=Tryz.zeroValue391
 t139:=Tryz.underlying392
 a139:=Tryz.isAgg392
 z139:=Tryz.sizeOf392
 v139:=Tryz.zeroValue392
 t146:=Tryz.underlying393
 a146:=Tryz.isAgg393
 z146:=Tryz.sizeOf393
 v146:=Tryz.zeroValue393
 g1:=by kernel_rfl
 g3:=by kernel_rfl
 g4:=by kernel_rfl
 i0:=by kernel_rfl
 i3:=by kernel_rfl
 i4:=by kernel_rfl
 i5:=by kernel_rfl
 i9:=by kernel_rfl
 i21:=by kernel_rfl
 i31:=by kernel_rfl
 i46:=by kernel_rfl
 i51:=by kernel_rfl
 i105:=by kernel_rfl
 i138:=by kernel_rfl
 i139:=by kernel_rfl
 i146:=by kernel_rfl
 m1:=by kernel_rfl
 s1_3:=fun w h=>Go.Proofs.cell_of_shapedOpen_int (zero:= #[.int .i64 0]) (t:=3) h (of_decide_eq_true zk) zk rfl zk zk Tryz.underlying3
 m3:=by kernel_rfl
 m4:=by kernel_rfl}
def Sl.Ve:Go.Shelf.Ren:=⟨fun |145=>330|220=>371|219=>325|217=>365|225=>366|224=>367|267=>368|266=>399|314=>400|n=>n,fun |9=>9|4=>4|59=>345|3=>3|5=>5|46=>239|146=>393|51=>288|n=>n,fun |1=>0|n=>n⟩
theorem Sl.afa:Go.Proofs.LaysM.n145 Tryz.prog Sl.Ve:={
 mixed:=by kernel_rfl
 f145:=Tryz.func330.trans (congrArg some zk)
 f217:=Tryz.func365.trans (congrArg some zk)
 f219:=Tryz.func325.trans (congrArg some zk)
 f220:=Tryz.func371.trans (congrArg some zk)
 f224:=Tryz.func367.trans (congrArg some zk)
 f225:=Tryz.func366.trans (congrArg some zk)
 f266:=Tryz.func399.trans (congrArg some zk)
 f267:=Tryz.func368.trans (congrArg some zk)
 f314:=Tryz.func400.trans (congrArg some zk)
 t3:=Tryz.underlying3
 a3:=Tryz.isAgg3
 z3:=Tryz.sizeOf3
 v3:=Tryz.zeroValue3
 t4:=Tryz.underlying4
 a4:=Tryz.isAgg4
 z4:=Tryz.sizeOf4
 v4:=Tryz.zeroValue4
 t5:=Tryz.underlying5
 a5:=Tryz.isAgg5
 z5:=Tryz.sizeOf5
 v5:=Tryz.zeroValue5
 t9:=Tryz.underlying9
 a9:=Tryz.isAgg9
 z9:=Tryz.sizeOf9
 v9:=Tryz.zeroValue9
 t46:=Tryz.underlying239
 a46:=Tryz.isAgg239
 z46:=Tryz.sizeOf239
 v46:=Tryz.zeroValue239
 t51:=Tryz.underlying288
 a51:=Tryz.isAgg288
 z51:=Tryz.sizeOf288
 v51:=Tryz.zeroValue288
 t59:=Tryz.underlying345
 a59:=Tryz.isAgg345
 z59:=Tryz.sizeOf345
 v59:=Tryz.zeroValue345
 t146:=Tryz.underlying393
 a146:=Tryz.isAgg393
 z146:=Tryz.sizeOf393
 v146:=Tryz.zeroValue393
 g1:=by kernel_rfl
 i3:=by kernel_rfl
 i4:=by kernel_rfl
 i5:=by kernel_rfl
 i9:=by kernel_rfl
 i46:=by kernel_rfl
 i51:=by kernel_rfl
 i59:=by kernel_rfl
 i146:=by kernel_rfl
 m1:=by kernel_rfl
 s1_3:=fun w h=>Go.Proofs.cell_of_shapedOpen_int (zero:= #[.int .i64 0]) (t:=3) h (of_decide_eq_true zk) zk rfl zk zk Tryz.underlying3}
def Sl.Xw:Go.Shelf.Ren:=⟨fun |103=>179|210=>257|206=>326|n=>n,fun |9=>9|4=>4|24=>243|3=>3|n=>n,fun |n=>n⟩
theorem Sl.ahe:Go.Proofs.Lays.n103 Tryz.prog Sl.Xw:={
 mixed:=by kernel_rfl
 f103:=Tryz.func179.trans (congrArg some zk)
 f206:=Tryz.func326.trans (congrArg some zk)
 f210:=Tryz.func257.trans (congrArg some zk)
 t3:=Tryz.underlying3
 a3:=Tryz.isAgg3
 z3:=Tryz.sizeOf3
 v3:=Tryz.zeroValue3
 t4:=Tryz.underlying4
 a4:=Tryz.isAgg4
 z4:=Tryz.sizeOf4
 v4:=Tryz.zeroValue4
 t9:=Tryz.underlying9
 a9:=Tryz.isAgg9
 z9:=Tryz.sizeOf9
 v9:=Tryz.zeroValue9
 t24:=Tryz.underlying243
 a24:=Tryz.isAgg243
 z24:=Tryz.sizeOf243
 v24:=Tryz.zeroValue243}
theorem Sl.strings_CutPrefix(s p:ByteArray)(w:World):Calls Tryz.prog 179 #[.string s,.string p] w fun e w'=>e= .returned (.tuple #[.string ⟨(Lib.trimPrefix s.data.toList p.data.toList).toArray⟩,.bool (Lib.hasPrefix s.data.toList p.data.toList)])/\w'=w:=Any.strings_CutPrefix Sl.ahe s p w
end Go.Proofs.YtdmmebjjojimiaaGreatDoor
namespace Go.Proofs.YtdmmebjjojimiaaGreatDoor
open Go.RowKit
end Go.Proofs.YtdmmebjjojimiaaGreatDoor
namespace Go.Proofs
theorem zAF{p:Prop}(h:p:=by first|kernel_rfl|rfl|simp[Value.oneCell']):p:=h
theorem zBN{p:Prop}(h:p:=by rw[<-hw0];exact zr.alloc _):p:=h
end Go.Proofs
namespace Go.Proofs.YtdmmebjjojimiaaGreatDoor
open Go.RowKit
open Vn (GZ xJ ku isLt gI wW)
open Lk (nameB gW pF cutAt AA)
section
variable {w w':World} {B:Nat}
structure vK (w:World):Prop where
 laid:Laid w
 max:∃m,w.cell? ⟨0,0,none⟩=some (.int .i64 m)
theorem vK.only(h:vK w)(ho:O0 w w'):vK w':=by obtain⟨m,hm⟩:=h.max;exact⟨h.laid.only ho,m,by rw[World.cell?_of_block (w:=w) (ho.block _ (World.block_lt_of_cell? _ _ hm) (fun f=>f))];exact hm⟩
theorem vK.of(h:Laid w)(hs:w.ShapedOpen Tryz.prog):vK w:=⟨h,Sl.laysM146.s1_3 w hs⟩
theorem toList_data(s:Str):s.toList=s.data.toList:=ByteArray.toList_eq s
theorem Hy{c:UInt8}:∀(l:List UInt8),∀a∈dZ c l,a.length<=l.length
 | [],a,ha=>by unfold dZ at ha;rw[yJ.1 ha];exact qH _
 |b::r,a,ha=>by
  have ih:=Hy (c:=c) r
  unfold dZ at ha
  by_cases h:b=c
  ·rw[if_pos h]at ha
   rcases qY.1 ha with rfl|ha
   ·simp
   ·have:=ih a ha;simp;omega
  ·rw[if_neg h]at ha
   cases hc:dZ c r with
   |nil=>exact absurd hc (Au c r)
   |cons x t=>
    rw[hc]at ha ih
    rcases qY.1 ha with rfl|ha
    ·have:=ih x qQ;simp;omega
    ·have:=ih a (yE _ ha);simp;omega
theorem aaH(s:Str)(hs:s.size<4294967281)(c:UInt8)(hM:vK w):Calls Tryz.prog 101 #[.string s,.string ⟨#[c]⟩] w (fun e w'=> ∃l:List Str,l.map ByteArray.toList=dZ c s.toList/\e= .returned (.slice (some ⟨w.heap.size,0,none⟩) l.length l.length)/\w'=w.alloc (.cells (l.map Value.string).toArray 9)/\aS 1 bU w'.heap.size w' (.slice (some ⟨w.heap.size,0,none⟩) l.length l.length) l/\(∀x∈l,x.size<=s.size)/\l.length<=s.size+1):=by
 obtain⟨m,hm⟩:=hM.max;have hone:1<=(⟨#[c]⟩:ByteArray).size:=qH 1;have hc:Calls Tryz.prog 101 #[.string s,.string ⟨#[c]⟩] w fun e w'=>e= .returned (.slice (some ⟨w.heap.size,0,none⟩) (Lib.countB s ⟨#[c]⟩+1) (Lib.countB s ⟨#[c]⟩+1))/\w'=w.alloc (.cells ((Lib.splitB ⟨#[c]⟩ 0 (Lib.countB s ⟨#[c]⟩) s).map Value.string).toArray 9):=Any.strings_Split {Sl.laysM146 with} Sl.laysM146.i9 s ⟨#[c]⟩ m w hs hm hone;refine hc.mono ?_;rintro e w' ⟨rfl,rfl⟩;have hl:=Lib.splitB_all ⟨#[c]⟩ hone 0 _ s rfl;have hmap:(Lib.splitB ⟨#[c]⟩ 0 (Lib.countB s ⟨#[c]⟩) s).map ByteArray.toList=dZ c s.toList:=by
  have:=Lib.splitB_data ⟨#[c]⟩ 0 (Lib.countB s ⟨#[c]⟩) s;have e1:(fun x:ByteArray=>x.data.toList)=ByteArray.toList:=by funext x;rw[toList_data]
  rw[e1]at this;rw[this,toList_data];exact Lk.RI c s.data.toList
 have hsz:∀x∈Lib.splitB ⟨#[c]⟩ 0 (Lib.countB s ⟨#[c]⟩) s,x.size<=s.size:=fun x hx=>by have:=Hy (c:=c) s.toList x.toList (by rw[<-hmap];exact List.mem_map_of_mem hx);rw[bC,bC]at this;exact this
 have hcl:=Lib.countB_le ⟨#[c]⟩ hone s.size s (qH _);refine⟨Lib.splitB ⟨#[c]⟩ 0 (Lib.countB s ⟨#[c]⟩) s,hmap,by rw[hl],rfl,?_,hsz,by rw[hl];omega⟩;refine oO rfl ?_ fun x hx=>by have:=hsz x hx;unfold okS maxLen;omega
 have:=World.ownsRow_lit (base:=0) (e:=9) (size:=1) w ((Lib.splitB ⟨#[c]⟩ 0 (Lib.countB s ⟨#[c]⟩) s).map Value.string).toArray (Lib.splitB ⟨#[c]⟩ 0 (Lib.countB s ⟨#[c]⟩) s).length (qE _) (by rw[hl];unfold maxLen;omega) zAP;simpa[bZ]using this
abbrev txt(l:List UInt8):Str:=⟨l.toArray⟩
theorem Zr(l:List UInt8):(txt l).toList=l:=by rw[toList_data]
theorem OX(l:List UInt8):(txt l).size=l.length:=by rw[<-bC,Zr]
theorem ahf(s:Str)(hs:s.size<4294967281)(hM:vK w):Calls Tryz.prog 330 #[.string s,.string ⟨#[61]⟩] w (fun e w'=> ∃a b:Str,∃ok:Bool,e= .returned (.tuple #[.string a,.string b,.bool ok])/\(match cutAt 61 s.toList with|none=>ok=false|some p=>ok=true/\a.toList=p.1/\b.toList=p.2)/\a.size<=s.size/\b.size<=s.size/\O0 w w'):=by
 obtain⟨m,hm⟩:=hM.max;refine(Any.strings_Cut {Sl.afa with} s ⟨#[61]⟩ m w hs hm).mono ?_;rintro e w' ⟨rfl,n,rfl⟩;have h:=Lk.adP 61 s.toList;rw[toList_data]at h;refine⟨_,_,_,rfl,?_,?_,?_,zr.drewN n⟩
 ·have e1:(⟨#[61]⟩:ByteArray).data.toList=[61]:=rfl;rw[e1,h,toList_data];cases hc:cutAt 61 s.data.toList with
  |none=>rfl
  |some p=>exact⟨rfl,by rw[toList_data],by rw[toList_data]⟩
 ·have e1:(⟨#[61]⟩:ByteArray).data.toList=[61]:=rfl;rw[e1,h,OX,<-bC,toList_data];cases hc:cutAt 61 s.data.toList with
  |none=>exact qH _
  |some p=>have:=congrArg List.length (Lk.Dh hc);simp at this⊢;omega
 have e1:(⟨#[61]⟩:ByteArray).data.toList=[61]:=rfl;rw[e1,h,OX,<-bC,toList_data];cases hc:cutAt 61 s.data.toList with
 |none=>exact qE _
 |some p=>have:=congrArg List.length (Lk.Dh hc);simp at this⊢;omega
theorem Xx(s p:Str):Calls Tryz.prog 179 #[.string s,.string p] w (fun e w'=> ∃r:Str,e= .returned (.tuple #[.string r,.bool (p.toList.isPrefixOf s.toList)])/\(p.toList.isPrefixOf s.toList=true->r.toList=s.toList.drop p.toList.length)/\r.size<=s.size/\w'=w):=by
 refine(Sl.strings_CutPrefix s p w).mono ?_;rintro e w' ⟨rfl,rfl⟩;refine⟨_,by rw[toList_data p,toList_data s];rfl,fun h=>?_,?_,rfl⟩;·rw[toList_data]at h⊢;rw[toList_data,toList_data];unfold Lib.trimPrefix Lib.hasPrefix;rw[toList_data]at h;rw[if_pos h]
 rw[OX,<-bC,toList_data];unfold Lib.trimPrefix;split;·simp
 exact qH _
def SY(l:List UInt8)(d:dM)(ok:Bool):Prop:=match cutAt 61 l with|none=>ok=false|some p=>ok=AA p/\d.toB=p
def OY(s:Str)(w w':World)(e:Ending):Prop:= ∃(d:dM) (ok:Bool),e= .returned (.tuple #[.agg #[.string d.name,.string d.value],.bool ok])/\SY s.toList d ok/\okS d.name/\okS d.value/\O0 w w'
theorem S9(s:Str)(hs:s.size<4294967281)(hM:vK w):Calls Tryz.prog 261 #[.string s] w (fun e w'=>OY s w w' e):=by
 have HC:=zh (ahf (w:=w.alloc (.cells #[.string ⟨#[]⟩,.string ⟨#[]⟩] 117)) s hs (hM.only (zr.alloc _)));have HS:=zh hs;clear hM hs;have hb0:(w.alloc (.cells #[.string ⟨#[]⟩,.string ⟨#[]⟩] 117)).heap[w.heap.size]? =some (.cells #[.string ⟨#[]⟩,.string ⟨#[]⟩] 117 (0,0)):=qL _ _;obtain⟨w0,hw0⟩:=ze (w.alloc (.cells #[.string ⟨#[]⟩,.string ⟨#[]⟩] 117));have jW:Hid (O0 w w0):=zBN;obtain⟨P,hP⟩:=ze w.heap.size;rw[hw0]at HC hb0;rw[hP]at hb0;have HP:=zh hP;have HB0:=zh hb0;clear hb0;go_enter Tryz.func261,Tryz.ntmps261;go_wp2_with fail;refine HC.out.mono ?_;rintro e w1 ⟨a,b,ok,rfl,hc,ha,hb,O1⟩;have hka:okS a:=by have:=HS.out;unfold okS maxLen;omega
 have hkb:okS b:=by have:=HS.out;unfold okS maxLen;omega
 have HKa:=zh hka;have HKb:=zh hkb;have HCu:=zh hc;have hblk:w1.heap[P]? =some (.cells #[.string ⟨#[]⟩,.string ⟨#[]⟩] 117 (0,0)):=(O1.block P (yA.1 HB0.out).1 (fun f=>f)).trans HB0.out;have aI:=zh (jW.out.same O1);obtain⟨na,hna⟩:=ze (nameB a.toList);obtain⟨vb,hvb⟩:=ze (gW b.toList);have HN:Hid (∀W,Calls Tryz.prog 258 #[.string a] W (fun e w'=>e= .returned (.bool na)/\O0 W w')):=fun W=>IW a HKa.out na hna;have HV:Hid (∀W,Calls Tryz.prog 331 #[.string b] W (fun e w'=>e= .returned (.bool vb)/\O0 W w')):=fun W=>Wq b HKb.out vb hvb;have NI:=zh hna;have HVb:=zh hvb;have QO:=zh hblk;clear hka hkb hc ha hb O1 HC hna hvb hblk;have fin:∀(W:World) (r:Bool) (T:Act),O0 w1 W->T.tmps.getD 2 undef= .pointer (some ⟨P,0,none⟩)->T.tmps.getD 3 undef= .bool r->T.defers=[]->(ok&&na&&vb)=r->
   bodyPost Tryz.prog Tryz.f261 (fun e w'=>OY s w w' e) Exit.ret T (W.setRow P #[.string a,.string b]):=by
  intro W r T hO h2 h3 hd hr
  have hb1:W.heap[P]? =some (.cells #[.string ⟨#[]⟩,.string ⟨#[]⟩] 117 (0,0)):=(hO.block P (yA.1 QO.out).1 (fun f=>f)).trans QO.out
  have hb2:=setRow_heap W P #[.string ⟨#[]⟩,.string ⟨#[]⟩] #[.string a,.string b] 117 (0,0) hb1
  refine bodyPost_ret (v:=.tuple #[.agg #[.string a,.string b],.bool r]) ?_ hd ?_
  ·rw[results_cell_tmp rfl,h2,h3]
   simp only[asAddr,Sem.run_pure,Result.andThen_ok]
   rw[run_loadVar_row _ P 117 117 #[.string a,.string b] (0,0) _ hb2 Tryz.underlying117 rfl zk]
   rfl
  ·refine⟨⟨a,b⟩,r,rfl,?_,HKa.out,HKb.out,(aI.out.same hO).trans (cZ _ _ _) (fun k hk=>.inr (by rw[HP.out];omega))⟩
   have h:=HCu.out
   unfold SY
   cases hcc:cutAt 61 s.toList with
   |none=>rw[hcc]at h;simp only at h;rw[<-hr,h];rfl
   |some p=>
    rw[hcc]at h
    simp only at h
    obtain⟨h1,h4,h5⟩:=h
    refine⟨?_,by simp[dM.toB,h4,h5]⟩
    rw[<-hr,h1,<-NI.out,<-HVb.out,h4,h5]
    unfold AA
    rw[yR]
 have HFin:=zh fin;clear fin;cases ok with
 |false=>go_wp2_with (refine wpList_store_row rfl 117 (.tmp 2) (.tmp 15) rfl P #[.string a,.string b] rfl rfl 117 #[.string ⟨#[]⟩,.string ⟨#[]⟩] QO.out zk rfl zAF ?_);refine HFin.out _ false _ zr ?_ ?_ ?_ ?_<;>rfl
 |true=>
  have Oy:=zh (HN.out w1);go_wp2_with fail;refine Oy.out.mono ?_;rintro e w2 ⟨rfl,O2⟩;have eF:=zh O2;have HB2:=zh ((O2.block P (yA.1 QO.out).1 (fun f=>f)).trans QO.out);clear O2 HN Oy;cases na with
  |false=>go_wp2_with (refine wpList_store_row rfl 117 (.tmp 2) (.tmp 15) rfl P #[.string a,.string b] rfl rfl 117 #[.string ⟨#[]⟩,.string ⟨#[]⟩] HB2.out zk rfl zAF ?_);refine HFin.out _ false _ eF.out ?_ ?_ ?_ ?_<;>rfl
  |true=>
   have GU:=zh (HV.out w2);go_wp2_with fail;refine GU.out.mono ?_;rintro e w3 ⟨rfl,O3⟩;have kD:=zh (eF.out.same O3);have HB3:=zh ((O3.block P (yA.1 HB2.out).1 (fun f=>f)).trans HB2.out);clear O3 HV GU;go_wp2_with (refine wpList_store_row rfl 117 (.tmp 2) (.tmp 15) rfl P #[.string a,.string b] rfl rfl 117 #[.string ⟨#[]⟩,.string ⟨#[]⟩] HB3.out zk rfl zAF ?_);refine HFin.out _ vb _ kD.out ?_ ?_ ?_ ?_;·rfl
   ·rfl
   ·rfl
   cases vb<;>rfl
end
end Go.Proofs.YtdmmebjjojimiaaGreatDoor
namespace Go.Proofs.YtdmmebjjojimiaaGreatDoor
open Go.RowKit
open Lk (sG uZ mO rG BL tq sH joinL Aw Df)
section
variable {w w':World} {B:Nat}
def Hz(n:aC):Prop:=n.name.size<=100/\n.version.size<=100/\n.sets.length<=50/\(∀s∈n.sets,s.name.size<=100/\s.value.size<=100)/\n.needs.length<=50/\∀s∈n.needs,s.size<=100
def H7(g:List aC):Prop:=g.length<=30/\∀n∈g,Hz n
theorem toList_append(a b:Str):(a++b).toList=a.toList++b.toList:=by rw[toList_data,toList_data,toList_data,ByteArray.data_append];simp
theorem Hz.len{n:aC}(h:Hz n):(joinL (tq n.toB)).length<=20000:=by
 obtain⟨h1,h2,h3,h4,h5,h6⟩:=h;have hs:∀l:List dM,(∀s∈l,s.name.size<=100/\s.value.size<=100)->((l.map dM.toB).flatMap fun s=>32::Df s).length<=l.length*202:=by
  intro l
  induction l with
  |nil=>intro _;simp
  |cons s l ih=>
   intro h
   have:=ih fun x hx=>h x (yE _ hx)
   have hs:=h s qQ
   simp only[List.map_cons,List.flatMap_cons,qK,qN,Df,dM.toB,bC]at this⊢
   omega
 have hn:∀l:List Str,(∀s∈l,s.size<=100)->(joinL ((l.map ByteArray.toList).map BL)).length<=l.length*109:=by
  intro l
  induction l with
  |nil=>intro _;simp[joinL]
  |cons s l ih=>
   intro h
   have:=ih fun x hx=>h x (yE _ hx)
   have hs:=h s qQ
   simp only[joinL,List.map_cons,List.flatMap_cons,qK,qN,List.length_nil,BL,uZ,bC]at this⊢
   omega
 have a1:=hs n.sets h4;have a2:=hn n.needs h6;have e1:(joinL (tq n.toB))=rG n.toB++[10]++joinL ((n.needs.map ByteArray.toList).map BL):=by simp[joinL,tq,aC.toB]
 have e2:(rG n.toB).length=5+n.name.size+1+n.version.size+((n.sets.map dM.toB).flatMap fun s=>32::Df s).length:=by simp only[rG,sG,aC.toB,qK,qN,List.length_nil,bC];omega
 rw[e1,qK,qK,e2];simp only[qN,List.length_nil];have:n.sets.length*202<=50*202:=Nat.mul_le_mul_right _ h3;have:n.needs.length*109<=50*109:=Nat.mul_le_mul_right _ h5;omega
def xu(g:List aC)(i:Nat):List UInt8:=joinL (mO::sH (fM (g.take i)))
theorem OZ{g:List aC}{i:Nat}{x:aC}(hx:g[i]? =some x):xu g (i+1)=xu g i++joinL (tq x.toB):=by
 unfold xu;have e:g.take (i+1)=g.take i++[x]:=by rw[List.take_add_one,hx];rfl
 rw[e];simp[fM,sH,joinL]
theorem Gp{g:List aC}(h:H7 g):∀i,i<=g.length->(xu g i).length<=7+i*20000
 |0,_=>by simp[xu,fM,sH,joinL,mO]
 |i+1,hi=>by
  have ih:=Gp h i zAA
  have hx:g[i]? =some g[i]:=qA zAA
  rw[OZ hx,qK]
  have:=(h.2 _ (qT hx)).len
  omega
def Ac(x:aC)(k:Nat):List UInt8:=sG++x.name.toList++32::x.version.toList++((x.sets.take k).map dM.toB).flatMap fun s=>32::Df s
theorem LD{x:aC}{k:Nat}{s:dM}(hs:x.sets[k]? =some s):Ac x (k+1)=Ac x k++(32::s.name.toList++61::s.value.toList):=by
 unfold Ac;have e:x.sets.take (k+1)=x.sets.take k++[s]:=by rw[List.take_add_one,hs];rfl
 rw[e];simp[Df,dM.toB]
theorem H8{x:aC}(h:Hz x):∀k,k<=x.sets.length->(Ac x k).length<=206+k*202
 |0,_=>by
  have:=h.1;have:=h.2.1
  simp only[Ac,List.take_zero,List.map_nil,List.flatMap_nil,List.append_nil,sG,qK,qN,List.length_nil,bC];omega
 |k+1,hk=>by
  have ih:=H8 h k zAA
  have hs:x.sets[k]? =some x.sets[k]:=qA zAA
  rw[LD hs]
  have:=h.2.2.2.1 _ (qT hs)
  simp only[qK,qN,bC];omega
theorem Zt{x:aC}{k:Nat}(h:x.sets.length<=k):Ac x k=rG x.toB:=by unfold Ac rG aC.toB;rw[qI h]
def Ad(x:aC)(k:Nat):List UInt8:=joinL (((x.needs.take k).map ByteArray.toList).map BL)
theorem LG{x:aC}{k:Nat}{s:Str}(hs:x.needs[k]? =some s):Ad x (k+1)=Ad x k++(uZ++s.toList++[10]):=by
 unfold Ad;have e:x.needs.take (k+1)=x.needs.take k++[s]:=by rw[List.take_add_one,hs];rfl
 rw[e];simp[joinL,BL]
theorem Pg{x:aC}(h:Hz x):∀k,k<=x.needs.length->(Ad x k).length<=k*109
 |0,_=>by simp[Ad,joinL]
 |k+1,hk=>by
  have ih:=Pg h k zAA
  have hs:x.needs[k]? =some x.needs[k]:=qA zAA
  rw[LG hs]
  have:=h.2.2.2.2.2 _ (qT hs)
  simp only[qK,qN,List.length_nil,uZ,bC];omega
theorem aci{x:aC}:joinL (tq x.toB)=rG x.toB++[10]++Ad x x.needs.length:=by unfold Ad;rw[qI (qH _)];simp[joinL,tq,aC.toB]
end
end Go.Proofs.YtdmmebjjojimiaaGreatDoor
namespace Go.Proofs
theorem zFr{p:Prop}(h:p:=by
 have p0:=(HE.out wr zr).1 0 _ rfl
 have p1:=(HE.out wr zr).1 1 _ rfl
 rw[qF]at p0
 go_wp2_with fail
 go_ret
 exact Ia.mk _ HO.out (fun h=>by cases h)):p:=h
theorem zGt{p:Prop}(h:p:=by exact⟨by rw[aj e1];rfl,by rw[aj e1];rfl,by rw[aj e1];rfl,by rw[aj e1];rfl⟩):p:=h
theorem zHH{p:Prop}(h:p:=by
 go_wp2_with fail
 go_ret
 exact wQ.mk _ (Ik.out.same xK.out) (fun h=>by cases h)):p:=h
end Go.Proofs
namespace Go.Proofs.YtdmmebjjojimiaaGreatDoor
open Go.RowKit
section
variable {w w':World} {B:Nat}
def afb(l:List dM):Prop:=l.length<=50/\∀s∈l,s.name.size<=100/\s.value.size<=100
def Ia(l:List dM)(w w':World)(e:Ending):Prop:= ∃b,e= .returned (.bool b)/\O0 w w'/\(b=false->afb l)
theorem Ia.mk{l:List dM}(b:Bool){w w':World}(ho:O0 w w')(h:b=false->afb l):Ia l w w' (.returned (.bool b)):=⟨b,rfl,ho,h⟩
theorem Cc{α:Type}{p:α->Prop}{l:List α}{i:Nat}{x:α}(h:∀s∈l.take i,p s)(hx:l[i]? =some x)(hp:p x):∀s∈l.take (i+1),p s:=by
 intro s hs;rw[List.take_add_one,hx]at hs;rcases qW.1 hs with h1|h1;·exact h s h1
 simp only[Option.toList_some,yJ]at h1;rw[h1];exact hp
theorem afc{v:Value}{l:List dM}(h:aS 2 dO B w v l):Calls Tryz.prog 48 #[v] w (fun e w'=>Ia l w w' e):=by
 have H:=zh h;obtain⟨ao,cap,rfl,k1,k2⟩:=h.shape;obtain⟨n,hn⟩:=ze l.length;have HN:=zh hn;rw[hn]at H k1⊢;clear h hn;by_cases c0:50<n;·go_enter Tryz.func48,Tryz.ntmps48;go_wp2_with fail;go_ret;exact Ia.mk _ zr (fun h=>by cases h)
 go_enter Tryz.func48,Tryz.ntmps48;go_wp2_with fail;go_loopw [3,9] (fun _ vi wr=>Hid (O0 w wr)/\∃i:Nat,vi= .int .i64 i/\i<=n/\Hid (∀s∈l.take i,s.name.size<=100/\s.value.size<=100)) (fun _ v _=>n-(RowKit.intOf v).toNat);case atStart=>exact⟨Only.refl _ _,0,rfl,qE _,fun s hs=>by simp at hs⟩
 case round=>
  obtain⟨HO,i,rfl,hi,HA⟩:=hrel;by_cases ci:i<n
  ·have iE:=zw (i+1);obtain⟨x,hx⟩:=zG l i zAe;obtain⟨b1,o1,he1,kx1,kx2,hE1⟩:=uO (H.out.keep dO.keep (Kp.dV HO.out)) hx;subst he1;have HX:=zh hx;have HE:=zh hE1;clear hx hE1;by_cases c1:100<x.name.size;·exact zFr
   by_cases c2:100<x.value.size;·exact zFr
   have p0:=(HE.out wr zr).1 0 _ rfl;have p1:=(HE.out wr zr).1 1 _ rfl;rw[qF]at p0;have HA2:=zh (Cc HA.out HX.out ⟨Nat.le_of_not_lt c1,Nat.le_of_not_lt c2⟩);go_wp2_with fail;go_roundw;case rel=>exact⟨show Hid _ from HO.out,i+1,by first|rfl|go_num,by omega,HA2⟩
   case measure=>simp[RowKit.intOf]<;>omega
  obtain rfl:i=n:=by omega
  go_wp2_with fail;go_ret;exact Ia.mk _ HO.out (fun _=>⟨by rw[HN.out];omega,by have h:=HA.out;rw[qI (yG HN.out)]at h;exact h⟩)
def wQ(g:List aC)(w w':World)(e:Ending):Prop:= ∃b,e= .returned (.bool b)/\O0 w w'/\(b=false->H7 g)
theorem wQ.mk{g:List aC}(b:Bool){w w':World}(ho:O0 w w')(h:b=false->H7 g):wQ g w w' (.returned (.bool b)):=⟨b,rfl,ho,h⟩
theorem afd{v:Value}{g:List aC}(h:aS 4 dH B w v g):Calls Tryz.prog 9 #[.agg #[v]] w (fun e w'=>wQ g w w' e):=by
 have H:=zh h;obtain⟨ao,cap,rfl,k1,k2⟩:=h.shape;obtain⟨n,hn⟩:=ze g.length;have HN:=zh hn;rw[hn]at H k1⊢;clear h hn;obtain⟨w0,hw0⟩:=ze (w.alloc (.cells #[.slice ao n cap] 31));have ho0:O0 w w0:=zBN;have hb0:w0.heap[w.heap.size]? =some (.cells #[.slice ao n cap] 31 (0,0)):=by rw[<-hw0];exact qL _ _
 have jW:=zh ho0;have q0:w0.cell? ⟨w.heap.size,0,none⟩=some (.slice ao n cap):=by rw[aj hb0];rfl
 clear ho0 hb0;by_cases c0:30<n;·go_enter Tryz.func9,Tryz.ntmps9;go_wp2_with fail;go_ret;exact wQ.mk _ jW.out (fun h=>by cases h)
 have hdn:decide (30<n)=false:=qP c0;have hdi:decide (30<(n:Int))=false:=qP zAA;go_enter Tryz.func9,Tryz.ntmps9;go_wp2_with fail;go_loopw [4,6,14] (fun _ _ vi wr=>Hid (O0 w0 wr)/\∃i:Nat,vi= .int .i64 i/\i<=n/\Hid (∀s∈g.take i,Hz s)) (fun _ _ v _=>n-(RowKit.intOf v).toNat);case atStart=>exact⟨Only.refl _ _,0,rfl,qE _,fun s hs=>by simp at hs⟩
 case round=>
  obtain⟨HO,i,rfl,hi,HA⟩:=hrel;by_cases ci:i<n
  ·have iE:=zw (i+1);obtain⟨x,hx⟩:=zG g i zAe;obtain⟨b,off,le,ca,p1,d1,p2,d2,he1,-,-,-,-,l3,l4,-,hE1⟩:=Dt (H.out.keep dH.keep (Kp.dV (jW.out.same HO.out))) hx;cases he1;obtain⟨N5,hN5⟩:=ze wr.heap.size;obtain⟨s1,hs1⟩:=ze x.sets.length;obtain⟨s2,hs2⟩:=ze x.needs.length;have HS2:=zh hs2;rw[hs1,hs2]at hE1;rw[hs2]at l3;have A1:=hE1 wr zr;have q0:=A1.1 0 _ rfl;have q1:=A1.1 1 _ rfl;have q2:=A1.1 2 _ rfl;have q3:=A1.1 3 _ rfl;rw[qF]at q0;obtain⟨wn,hwn⟩:=ze (wr.alloc (.cells #[.string x.name,.string x.version,.slice p1 s1 d1,.slice p2 s2 d2] 83));have hbn:wn.heap[N5]? =some (.cells #[.string x.name,.string x.version,.slice p1 s1 d1,.slice p2 s2 d2] 83 (0,0)):=by rw[<-hwn,<-hN5];exact qL _ _
   have on:O0 wr wn:=by rw[<-hwn];exact zr.alloc _
   have HCm:Hid (∀W,O0 wn W->W.cell? ⟨N5,0,none⟩=some (.string x.name)/\W.cell? ⟨N5,1,none⟩=some (.string x.version)/\W.cell? ⟨N5,2,none⟩=some (.slice p1 s1 d1)/\W.cell? ⟨N5,3,none⟩=some (.slice p2 s2 d2)):=fun W o=>by have e1:=aA hbn o (fun f=>f);exact zGt
   have Ik:=zh (jW.out.same (HO.out.same on));have HOm:=zh (HO.out.same on);have HE1:Hid (∀W,O0 wn W->aS 2 dO B W (.slice p1 s1 d1) x.sets/\aS 1 bU B W (.slice p2 s2 d2) x.needs):=fun W o=>(hE1 W (on.same o)).2;have HX:=zh hx;obtain⟨n0,n1',n2',n3'⟩:=HCm.out wn zr;clear hx hE1 A1 on hbn hs1 hs2;by_cases c1:100<x.name.size;·go_wp2_with fail;go_ret;exact wQ.mk _ Ik.out (fun h=>by cases h)
   by_cases c2:100<x.version.size;·go_wp2_with fail;go_ret;exact wQ.mk _ Ik.out (fun h=>by cases h)
   have t1:decide (100<x.name.size)=false:=qP c1;have t2:decide (100<(x.name.size:Int))=false:=qP zAA;have t3:decide (100<x.version.size)=false:=qP c2;have t4:decide (100<(x.version.size:Int))=false:=qP zAA;go_wp2_with fail;refine(afc (HE1.out _ zr).1).mono ?_;rintro e w5 ⟨gb,rfl,O5,hgb⟩;have xK:=zh O5;have HGb:=zh hgb;obtain⟨m0,m1,m2,m3⟩:=HCm.out w5 O5;clear O5 hgb;cases gb with
   |true=>exact zHH
   |false=>
    by_cases c3:50<s2;·exact zHH
    have t5:decide (50<s2)=false:=qP c3;have t6:decide (50<(s2:Int))=false:=qP zAA;go_wp2_with fail;go_loopw [6,42] (fun _ vi wq=>Hid (O0 w5 wq)/\∃j:Nat,vi= .int .i64 j/\j<=s2/\Hid (∀s∈x.needs.take j,s.size<=100)) (fun _ v _=>s2-(RowKit.intOf v).toNat);case atStart=>exact⟨Only.refl _ _,0,rfl,qE _,fun s hs=>by simp at hs⟩
    case round=>
     obtain⟨GK,j,rfl,hj,HB⟩:=hrel;by_cases cj:j<s2
     ·have ewj:=zw (j+1);obtain⟨y,hy⟩:=zG x.needs j (by rw[HS2.out];exact cj);obtain⟨b2,o2,he2,ky,hE2⟩:=iR ((HE1.out _ xK.out).2.keep bU.keep (Kp.dV GK.out)) hy;subst he2;have y0:=(hE2 _ zr).1 0 _ rfl;rw[qF,yH]at y0;have HY:=zh hy;clear hy hE2;by_cases c4:100<y.size;·go_wp2_with fail;go_ret;exact wQ.mk _ (Ik.out.same (xK.out.same GK.out)) (fun h=>by cases h)
      have HB2:=zh (Cc HB.out HY.out (Nat.le_of_not_lt c4));go_wp2_with fail;go_roundw;case rel=>exact⟨GK,j+1,by first|rfl|go_num,by omega,HB2⟩
      case measure=>simp[RowKit.intOf]<;>omega
     obtain rfl:j=s2:=by omega
     have hall:Hz x:=⟨Nat.le_of_not_lt c1,Nat.le_of_not_lt c2,(HGb.out (by trivial)).1,(HGb.out (by trivial)).2,by rw[HS2.out];omega,by have h:=HB.out;rw[qI (yG HS2.out)]at h;exact h⟩;have HA2:=zh (Cc HA.out HX.out hall);have pz:=zh (HOm.out.same (xK.out.same GK.out));clear hall;go_wp2_with fail;go_roundw;case rel=>exact⟨pz,i+1,by first|rfl|go_num,by omega,HA2⟩
     case measure=>simp[RowKit.intOf]<;>omega
  obtain rfl:i=n:=by omega
  go_wp2_with fail;go_ret;exact wQ.mk _ (jW.out.same HO.out) (fun _=>⟨by rw[HN.out];omega,by have h:=HA.out;rw[qI (yG HN.out)]at h;exact h⟩)
end
section
variable {w w':World} {B:Nat}
theorem Xy{P:Nat}{ao:Option Addr}{cap:Nat}(hc:w.cell? ⟨P,0,none⟩=some (.slice ao 0 cap)):Calls Tryz.prog 260 #[.pointer (some ⟨P,0,none⟩)] w (fun e w'=>e= .returned (.pointer none)/\O0 w w'):=by go_enter Tryz.func260,Tryz.ntmps260;exact zDo
theorem Tc{P g n cap:Nat}(hc:w.cell? ⟨P,0,none⟩=some (.slice (some ⟨g,0,none⟩) (n+1) cap))(hn:n<=1000000):Calls Tryz.prog 260 #[.pointer (some ⟨P,0,none⟩)] w (fun e w'=>e= .returned (.pointer (some ⟨g,n*4,none⟩))/\O0 w w'):=by have ew:IntKind.i64.wrap (((n+1:Nat):Int)-1)=(n:Int):=zBR;have ew2:IntKind.i64.wrap ((n:Int)+1-1)=(n:Int):=zBR;have h0:¬((n:Int)+1=0):=zAA;have h1:n<n+1:=Nat.lt_succ_self n;go_enter Tryz.func260,Tryz.ntmps260;go_wp2_with fail;go_quiet (fail);trace_state;go_wp2_with fail;go_ret;exact⟨rfl,zr.drewN _⟩
end
end Go.Proofs.YtdmmebjjojimiaaGreatDoor
