/- Wv1 Wv2, in one text.; Package version: read, walked. -/
import Derived.Test.YtdmmebjjojimiaaGreatDoorG16
import Derived.Laws.Cover1
import Derived.LaidMore
import Derived.Deep.DeepWitnessRowRef
import Derived.RangeFuncNested
set_option maxRecDepth 100000
set_option maxHeartbeats 8000000
set_option linter.all false
namespace Go.Proofs
theorem zCs{p:Prop}(h:p:=by
 subst hres
 clear bD
 go_wp2_with (go_at_call 175;refine(HN.out _ _).mono ?_;rintro e w' ⟨rfl,rfl⟩)
 go_ret
 exact⟨rfl,rfl⟩):p:=h
theorem zDy{p:Prop}(h:p:=by
 refine Ug (p:=4) rfl rfl rfl rfl (setRow_heap _ _ _ _ _ _ HW.out) ?_
 exact⟨rfl,Uh.out.trans (jU _ _ _) (fun k hk=>.inr zAB)⟩):p:=h
end Go.Proofs
namespace Go.Proofs.YtdmmebjjojimiaaGreatDoor
open Go.RowKit
open Vn (Qu JC jI gJ numeral dS)
structure Part where
 rank:Nat
 num:Nat
 word:Str
def KU(_:Nat)(_:World)(cs:List Value)(p:Part):Prop:=cs=[.int .i64 (p.rank:Int),.int .i64 (p.num:Int),.string p.word]/\p.rank<=2/\p.num<=999999999/\okS p.word
theorem KU.keep:Keeps KU:=fun _ _ _ _ _ h _=>h
def endP:Part:=⟨1,0,⟨#[]⟩⟩
def partOf(a:List UInt8):Part:=⟨gJ a,numeral a,⟨(dS a).toArray⟩⟩
def Part.val(p:Part):Array Value:= #[.int .i64 (p.rank:Int),.int .i64 (p.num:Int),.string p.word]
section
variable {w w':World} {B:Nat}
theorem NR{fn:Func}{p:Tmp}{ty:TypeId}(h:fn.results= #[.cell p ty])(tmps:Array Value)(P:Program)(w:World):(results fn tmps).run P w=((asAddr (tmps.getD p undef)).run P w).andThen fun a w₁=>(loadVar ty a).run P w₁:=by simp only[results,h];simp[Sem.run_bind,Result.andThen]
theorem jU(w:World)(g:Nat)(cs:Array Value):Only (fun k=>k=g) w (w.setRow g cs):=
 ⟨rfl,rfl,rfl,by simp[World.setRow],fun k hk hn=>by
  unfold World.setRow
  simp only[Array.getElem?_modify]
  rw[if_neg (fun e=>hn e.symm)]⟩
theorem Ug{fn:Func}{p:Tmp}{Q:Ending->World->Prop}{a:Act}{W:World}{B:Nat}{cs:Array Value}(hf:fn.results= #[.cell p 355])(hp:a.tmps.getD p undef= .pointer (some ⟨B,0,none⟩))(hd:a.defers=[])(hs:cs.size=3)(hg:W.heap[B]? =some (.cells cs 355 (0,0)))(h:Q (.returned (.agg cs)) W):bodyPost Tryz.prog fn Q Exit.ret a W:=by refine bodyPost_ret (v:=.agg cs) ?_ hd h;rw[NR hf,hp];simp only[asAddr,Sem.run_pure,Result.andThen_ok];exact run_loadVar_row W B 355 355 cs (0,0) _ hg Tryz.underlying355 rfl (by rw[hs];kernel_rfl)
theorem ald{v:Value}{l:List Part}(h:aQ 3 KU B w v l)(i:Nat)(hi:i<=1000000000)(t:Part)(ht:l.getD i endP=t):Calls Tryz.prog 338 #[v,.int .i64 (i:Int)] w (fun e w'=>e= .returned (.agg t.val)/\O0 w w'):=by
 obtain⟨ao,cap,rfl,g1,g2⟩:=h.shape;obtain⟨n,hn⟩:=ze l.length;have HW:=zh (show(w.alloc (.cells #[.int .i64 0,.int .i64 0,.string ⟨#[]⟩] 355)).heap[w.heap.size]? =some (.cells #[.int .i64 0,.int .i64 0,.string ⟨#[]⟩] 355 (0,0)) from qL _ _);have Uh:=zh (show O0 w (w.alloc (.cells #[.int .i64 0,.int .i64 0,.string ⟨#[]⟩] 355)) from zr.alloc _);by_cases ci:i<l.length;·obtain⟨y,hx⟩:=zG l i ci;rw[qC,hx]at ht;have ht':y=t:=ht;subst ht';obtain⟨b,off,cs,rfl,hb,hB,-,hr,hC⟩:=h.placed hx;obtain⟨rfl,-,-,-⟩:=hC;have hr2:=dI hr hb hB (Kp.gV Uh.out);have p0:=hr2 0 _ rfl;have p1:=hr2 1 _ rfl;have p2:=hr2 2 _ rfl;obtain⟨yr,yn,yw⟩:=y;dsimp only at p0 p1 p2;rw[qF]at p0;rw[hn]at ci g1⊢;clear hr hr2 hx h hn ht hb hB;unfold Part.val;go_enter Tryz.func338,Tryz.ntmps338;go_wp2_with (refine wpList_store_row rfl 355 (.tmp 4) (.tmp 12) rfl w.heap.size #[.int .i64 yr,.int .i64 yn,.string yw] rfl rfl 355 #[.int .i64 0,.int .i64 0,.string ⟨#[]⟩] HW.out zk rfl zk ?_);exact zDy
 rw[qC,List.getElem?_eq_none zAB]at ht;have ht':endP=t:=ht;subst ht';rw[hn]at ci g1⊢;clear h hn ht;unfold Part.val endP;go_enter Tryz.func338,Tryz.ntmps338;go_wp2_with (refine wpList_store_row rfl 355 (.tmp 4) (.tmp 13) rfl w.heap.size #[.int .i64 1,.int .i64 0,.string ⟨#[]⟩] rfl rfl 355 #[.int .i64 0,.int .i64 0,.string ⟨#[]⟩] HW.out zk rfl zk ?_);exact zDy
def KW(a b:List UInt8):Int:=if a<b then -1 else if b<a then 1 else 0
theorem Ui(a b:Str):Calls Tryz.prog 95 #[.string a,.string b] w (fun e w'=>e= .returned (.int .i64 (KW a.toList b.toList))/\w'=w):=by
 obtain⟨r,hr⟩:=ze (KW a.toList b.toList);have h1:=Bq a.toList b.toList;obtain⟨b1,e1⟩:∃x,decide (a.toList<b.toList)=x:=⟨_,rfl⟩;obtain⟨b2,h2⟩:∃x,(a.toList==b.toList)=x:=⟨_,rfl⟩;rw[e1]at h1;rw[hr];have hr2:(if b1=true then (-1:Int)else if b2=true then 0 else 1)=r:=by
  rw[<-hr,<-e1,<-h2];unfold KW;simp only[yP,beq_iff_eq];by_cases c1:a.toList<b.toList;·rw[if_pos c1,if_pos c1]
  rw[if_neg c1,if_neg c1];by_cases c2:a.toList=b.toList;·rw[if_pos c2,if_neg (fun h=>by rw[c2]at h;exact Vn.Z8 _ h)]
  rw[if_neg c2,if_pos ((Vn.acI c2).resolve_left c1)]
 clear hr e1;have HN:Hid (∀(s:Str) (W:World),Calls Tryz.prog 175 #[.string s] W (fun e w'=>e= .returned (.bool false)/\w'=W)):=fun s W=>by go_enter Tryz.func175,Tryz.ntmps175;go_wp2;go_ret;exact⟨by simp,rfl⟩
 have bD:=zh hr2;clear hr2;go_enter Tryz.func95,Tryz.ntmps95;cases b1 with
 |true=>have hres:(-1:Int)=r:=bD.out;exact zCs
 |false=>
  cases b2 with
  |true=>have hres:(0:Int)=r:=bD.out;exact zCs
  |false=>have hres:(1:Int)=r:=bD.out;exact zCs
end
end Go.Proofs.YtdmmebjjojimiaaGreatDoor
namespace Go.Proofs.YtdmmebjjojimiaaGreatDoor
open Go.RowKit
open Vn (Qu JC isLt jI gJ numeral dS)
structure Laid (w:World):Prop where
 syn:∃t p,w.var? Tryz.prog "strconv.ErrSyntax" =some #[.iface t p]
 rng:∃t p,w.var? Tryz.prog "strconv.ErrRange" =some #[.iface t p]
 tab:Lib.TabIs Tryz.prog w "internal/strconv.uint64pow10" .u64 Lib.pow10Tab
theorem KX{P:Program}{w w':World}{n:String}{cs:Array Value}(h:w.var? P n=some cs)(ho:O0 w w'):w'.var? P n=some cs:=by
 unfold World.var? at h⊢;cases hg:P.globalNamed n with
 |none=>rw[hg]at h;cases h
 |some g=>
  rw[hg]at h;simp only[Option.bind_some]at h⊢;cases hb:w.heap[g]? with
  |none=>rw[hb]at h;cases h
  |some o=>rw[ho.block g (yA.1 hb).1 (fun f=>f),hb];rw[hb]at h;exact h
theorem Laid.only{w w':World}(h:Laid w)(ho:O0 w w'):Laid w':=by obtain⟨⟨t,p,h1⟩,⟨t2,p2,h2⟩,h3⟩:=h;exact⟨⟨t,p,KX h1 ho⟩,⟨t2,p2,KX h2 ho⟩,KX h3 ho⟩
theorem Xn(w:World)(k:Nat)(os:Array Obj):O0 w (Go.Sort.grow (w.drewN k) os):=
 ⟨rfl,rfl,rfl,by simp[Go.Sort.grow,World.drewN],fun j hj _=>by
  show(w.heap++os)[j]? =_
  rw[Array.getElem?_append_left hj]⟩
theorem zU{w w':World}(h:Below w.heap.size w w'):O0 w w':=(Only.of_below h).trans' fun i hi=>hi
section
variable {w w':World} {B:Nat}
theorem ah3(s:Str)(hs:s.size<=1000000)(hL:Laid w):Calls Tryz.prog 402 #[.string s] w (fun e w'=> ∃(n:Int) (er:Value),e= .returned (.tuple #[.int .i64 n,er])/\((er= .nilIface/\Lib.atoiAll s.toList= .ok n)\/((∃t p,er= .iface t p)/\∀v,Lib.atoiAll s.toList≠ .ok v))/\O0 w w'):=by
 rw[ByteArray.toList_eq];cases h:Lib.atoiAll s.data.toList with
 |ok v=>
  refine(Sv.strconv_Atoi_ok s zAB v h w).mono ?_;rintro e w1 ⟨rfl,hw⟩;refine⟨v,_,rfl,.inl ⟨rfl,rfl⟩,?_⟩;rcases hw with rfl| ⟨t,rfl⟩;·exact Only.refl _ _
  exact zU (Lib.bytesWorld_below _ _ _)
 |range=>obtain⟨t,p,h1⟩:=hL.rng;refine(Sv.strconv_Atoi_range_var s zAB h t p w h1).mono ?_;rintro e w1 ⟨N,rfl,-,-,hb⟩;exact⟨_,_,rfl,.inr ⟨⟨_,_,rfl⟩,fun v hv=>by cases hv⟩,zU hb⟩
 |_=>obtain⟨t,p,h1⟩:=hL.syn;refine(Sv.Ht s zAB (h.trans rfl) t p w h1).mono ?_;rintro e w1 ⟨N,rfl,-,-,hb⟩;exact⟨0,_,rfl,.inr ⟨⟨_,_,rfl⟩,fun v hv=>by cases hv⟩,zU hb⟩
theorem ah4(n:Int)(h0:0<=n)(h9:n<=999999999)(hL:Laid w):Calls Tryz.prog 403 #[.int .i64 n] w (fun e w'=>e= .returned (.string ⟨(Lib.itoa n).toArray⟩)/\O0 w w'):=by refine(Sv.strconv_Itoa n zBU zAB w hL.tab).mono ?_;rintro e w1 ⟨rfl,k,os,rfl⟩;exact⟨rfl,Xn _ _ _⟩
theorem wJ{fn:Func}{p u:Tmp}{Q:Ending->World->Prop}{a:Act}{W:World}{B:Nat}{cs:Array Value}{b:Value}(hf:fn.results= #[.cell p 355,.tmp u])(hp:a.tmps.getD p undef= .pointer (some ⟨B,0,none⟩))(hu:a.tmps.getD u undef=b)(hd:a.defers=[])(hs:cs.size=3)(hg:W.heap[B]? =some (.cells cs 355 (0,0)))(h:Q (.returned (.tuple #[.agg cs,b])) W):bodyPost Tryz.prog fn Q Exit.ret a W:=by refine bodyPost_ret (v:=.tuple #[.agg cs,b]) ?_ hd h;rw[results_cell_tmp hf,hp,hu];simp only[asAddr,Sem.run_pure,Result.andThen_ok];rw[run_loadVar_row W B 355 355 cs (0,0) _ hg Tryz.underlying355 rfl (by rw[hs];kernel_rfl)];rfl
def tq(s:Str)(w w':World)(e:Ending):Prop:= ∃(x y:Int) (t:Str) (ok:Bool),e= .returned (.tuple #[.agg #[.int .i64 x,.int .i64 y,.string t],.bool ok])/\jI s.toList=ok/\
 (ok=true->x=(gJ s.toList:Int)/\y=(numeral s.toList:Int)/\t.toList=dS s.toList)/\O0 w w'
theorem tq.mk{s:Str}{w w':World}{e:Ending}(x y:Int)(t:Str)(ok:Bool)(he:e= .returned (.tuple #[.agg #[.int .i64 x,.int .i64 y,.string t],.bool ok]))(h1:jI s.toList=ok)(h2:ok=true->x=(gJ s.toList:Int)/\y=(numeral s.toList:Int)/\t.toList=dS s.toList)(ho:O0 w w'):tq s w w' e:=⟨x,y,t,ok,he,h1,h2,ho⟩
end
end Go.Proofs.YtdmmebjjojimiaaGreatDoor
namespace Go.Proofs
theorem zBG{p:Prop}(h:p:=by first|rfl|trivial):p:=h
theorem zCA{p:Prop}(h:p:=by
 refine wJ (p:=2) (u:=3) rfl rfl rfl rfl rfl (setRow_heap _ _ _ _ _ _ HB1.out) ?_
 exact tq.mk _ _ _ _ rfl HP.out (fun h=>by cases h) (aW.out.trans (jU _ _ _) (fun k hk=>.inr zAB))):p:=h
theorem zE4{p:Prop}(h:p:=by
 rw[<-HR2.out]
 exact all_false ci (by rw[hb];unfold isLt;rw[qP];omega)):p:=h
theorem zE7{p:Prop}(h:p:=by
 have hrf:r=false:=by
  exact zE4
 subst hrf
 clear HR2
 go_wp2_with (refine wpList_store_row rfl 355 (.tmp 2) (.tmp 43) rfl w.heap.size #[.int .i64 0,.int .i64 0,.string ⟨#[]⟩] rfl rfl 355 #[.int .i64 0,.int .i64 0,.string ⟨#[]⟩] HB1.out zk rfl zk ?_)
 exact zCA):p:=h
theorem zE9{p:Prop}(h:p:=by
 have HP:=zh hpn
 clear hpn HPN
 go_wp2_with (refine wpList_store_row rfl 355 (.tmp 2) (.tmp 15) rfl w.heap.size #[.int .i64 2,.int .i64 n,.string ⟨#[]⟩] rfl rfl 355 #[.int .i64 0,.int .i64 0,.string ⟨#[]⟩] HB1.out zk rfl zk ?_)
 exact zCA):p:=h
end Go.Proofs
namespace Go.Proofs.YtdmmebjjojimiaaGreatDoor
open Go.RowKit
open Vn (Qu JC isLt jI gJ numeral dS)
section
variable {w w':World} {B:Nat}
theorem ah5(s:Str)(hs:s.size<=1000000)(hL:Laid w):Calls Tryz.prog 370 #[.string s] w (fun e w'=>tq s w w' e):=by
 have HW:=zh (show(w.alloc (.cells #[.int .i64 0,.int .i64 0,.string ⟨#[]⟩] 355)).heap[w.heap.size]? =some (.cells #[.int .i64 0,.int .i64 0,.string ⟨#[]⟩] 355 (0,0)) from qL _ _);have Uh:=zh (show O0 w (w.alloc (.cells #[.int .i64 0,.int .i64 0,.string ⟨#[]⟩] 355)) from zr.alloc _);have HA:=zh (ah3 s hs (hL.only Uh.out));have HLt:w.heap.size<(w.alloc (.cells #[.int .i64 0,.int .i64 0,.string ⟨#[]⟩] 355)).heap.size:=zAF;have HLT:=zh HLt;have HLd:=zh hL;clear hL HLt;go_enter Tryz.func370,Tryz.ntmps370;go_wp2_with fail;refine HA.out.mono ?_;rintro e w1 ⟨n,er,rfl,hcase,O1⟩;have aW:=zh (Uh.out.same O1);have HB1:=zh ((O1.block _ HLT.out (fun f=>f)).trans HW.out);have HSZ:Hid (w.heap.size<w1.heap.size):=Nat.lt_of_lt_of_le HLT.out O1.size;clear O1 HA HW Uh HLT;rcases hcase with⟨rfl,hok⟩| ⟨⟨t,p,rfl⟩,hno⟩
 ·have hpn:=Vn.Z9 hok;have HPN:=zh (Vn.acJ hok);clear hok;by_cases c1:0<=n
  ·by_cases c2:n<=999999999
   ·have HI:=zh (ah4 (w:=w1) n c1 c2 (HLd.out.only aW.out));obtain⟨z,hz⟩:∃z:Str,(⟨(Lib.itoa n).toArray⟩:ByteArray)=z:=⟨_,rfl⟩;rw[hz]at HI;have hz2:Lib.itoa n=z.toList:=by rw[<-hz,ByteArray.toList_eq]
    rw[qX c1,qX c2,yR,yR,hz2]at hpn;obtain⟨b,hb⟩:∃b,(z.toList==s.toList)=b:=⟨_,rfl⟩;have hpb:jI s.toList=b:=by rw[hpn,<-hb];rw[Bool.eq_iff_iff];simp
    have HP:=zh hpb;clear hz hz2 hpn hpb;go_wp2_with fail;refine HI.out.mono ?_;rintro e w2 ⟨rfl,O2⟩;have iO:=zh (aW.out.same O2);have HB2:=zh ((O2.block _ HSZ.out (fun f=>f)).trans HB1.out);clear O2 HI;go_wp2_with (refine wpList_store_row rfl 355 (.tmp 2) (.tmp 15) rfl w.heap.size #[.int .i64 2,.int .i64 n,.string ⟨#[]⟩] rfl rfl 355 #[.int .i64 0,.int .i64 0,.string ⟨#[]⟩] HB2.out zk rfl zk ?_);refine wJ (p:=2) (u:=3) rfl rfl rfl rfl rfl (setRow_heap _ _ _ _ _ _ HB2.out) ?_;refine tq.mk _ _ _ _ rfl HP.out (fun h=>?_) (iO.out.trans (jU _ _ _) (fun k hk=>.inr zAB));have hq:=HPN.out (HP.out.trans h);exact⟨by rw[hq.1];rfl,hq.2.1.symm,by rw[hq.2.2,ByteArray.toList_eq]⟩
   rw[qP c2,Bool.and_false,yQ]at hpn;exact zE9
  rw[qP c1,yQ,yQ]at hpn;exact zE9
 obtain⟨r,hr⟩:=ze (jI s.toList);have HP:=zh hr;have HPW:Hid (r=true->gJ s.toList=0/\numeral s.toList=0/\dS s.toList=s.toList):=fun h=>Vn.aac (by rw[<-Vn.KR hno,hr];exact h);rw[Vn.KR hno]at hr;unfold JC at hr;rw[isE]at hr;have bD:=zh hr;clear hno hr;by_cases h0:s.size=0
 ·have hrf:r=false:=by rw[<-bD.out,qX h0,Bool.not_true,Bool.and_false]
  subst hrf;obtain rfl:=BX h0;clear bD h0;go_wp2_with fail;go_loopw [30] (fun vi wr=>Hid (w1=wr)/\vi= .int .i64 0) (fun _ _=>0);case atStart=>exact⟨rfl,rfl⟩
  case round=>obtain⟨hw,rfl⟩:=hrel;obtain rfl:=hw.out;go_wp2_with (refine wpList_store_row rfl 355 (.tmp 2) (.tmp 46) rfl w.heap.size #[.int .i64 0,.int .i64 0,.string ⟨#[]⟩] rfl rfl 355 #[.int .i64 0,.int .i64 0,.string ⟨#[]⟩] HB1.out zk rfl zk ?_);exact zCA
 have hemp:s.toList.isEmpty=false:=by rw[isE,qP h0]
 have HR2:Hid (s.toList.all isLt=r):=by rw[<-bD.out,qP h0,Bool.not_false,Bool.and_true];exact rfl
 clear bD;have hs2:s.size<=9223372036854775807:=zAB;go_wp2_with fail;go_loopw [30] (fun vi wr=>Hid (w1=wr)/\∃i:Nat,vi= .int .i64 i/\i<=s.size/\Hid ((s.toList.take i).all isLt=true)) (fun v _=>s.size-(RowKit.intOf v).toNat);case atStart=>exact⟨rfl,0,rfl,qE _,show Hid _ from by simp[Hid]⟩
 case round=>
  obtain⟨hw,i,rfl,hi,HA⟩:=hrel;obtain rfl:=hw.out;by_cases ci:i<s.size
  ·have iG:=zw (i+1);obtain⟨b,hb⟩:∃b:UInt8,s[i]=b:=⟨_,rfl⟩;by_cases c1:b.toNat<97;·exact zE7
   by_cases c2:122<b.toNat;·exact zE7
   have HA2:Hid ((s.toList.take (i+1)).all isLt=true):=by rw[Hid,jY ci,HA.out,hb,yR];unfold isLt;rw[yP];omega
   go_wp2_with fail;go_roundw;case rel=>exact⟨by first|exact rfl|exact trivial,i+1,by first|rfl|go_num,by omega,HA2⟩
   case measure=>simp[RowKit.intOf]<;>omega
  obtain rfl:i=s.size:=by omega
  have hrt:r=true:=by rw[<-HR2.out,<-HA.out,take_size]
  subst hrt;clear HR2 HA;go_wp2_with (refine wpList_store_row rfl 355 (.tmp 2) (.tmp 46) rfl w.heap.size #[.int .i64 0,.int .i64 0,.string s] rfl rfl 355 #[.int .i64 0,.int .i64 0,.string ⟨#[]⟩] HB1.out zk rfl zk ?_);refine wJ (p:=2) (u:=3) rfl rfl rfl rfl rfl (setRow_heap _ _ _ _ _ _ HB1.out) ?_;refine tq.mk _ _ _ _ rfl HP.out (fun h=>?_) (aW.out.trans (jU _ _ _) (fun k hk=>.inr zAB));have hq:=HPW.out zBG;exact⟨by rw[hq.1];rfl,by rw[hq.2.1];rfl,hq.2.2.symm⟩
end
end Go.Proofs.YtdmmebjjojimiaaGreatDoor
namespace Go.Proofs
theorem zD2{p:Prop}(h:p:=by
 obtain⟨_,u,v,e,-⟩:=iface_of_trod Tryz.underlying397 h4
 exact⟨u,v,by rw[h3];congr 1;apply Array.ext';exact e⟩):p:=h
end Go.Proofs
namespace Go.Proofs.YtdmmebjjojimiaaGreatDoor
open Go.RowKit
noncomputable def VI:List (String×DataW Unit):=[("math/bits.deBruijn32tab",Rows.laid_math_bits_deBruijn32tab),("math/bits.deBruijn64tab",Rows.laid_math_bits_deBruijn64tab),("internal/strconv.uint64pow10",Rows.laid_internal_strconv_uint64pow10),("unicode/utf8.acceptRanges",Rows.laid_unicode_utf8_acceptRanges),("strconv.ErrRange",Rows.laid_strconv_ErrRange),("strconv.ErrSyntax",Rows.laid_strconv_ErrSyntax),("unicode/utf8.first",Rows.laid_unicode_utf8_first)]
theorem Gv{P:Program}{w:World}:∀{l:List (String×DataW Unit)} {ps:List MemPlace},DataW.LaidVars P w l ps->∀n d,(n,d)∈l->∃g t cs fuel p,P.globalNamed n=some g/\(P.globals[g]?).map (·.type)=some t/\w.var? P n=some cs/\DataW.trod (fun _=>()) P w 0 (fun _=>true) false fuel t cs.toList=some (d,p)
 | [],_,_,_,_,hm=>by cases hm
 | (n',d')::r,ps,h,n,d,hm=>by
  obtain⟨g,t,cs,fuel,p,q,h1,h2,h3,h4,h5,_⟩:=h
  rcases qY.1 hm with e|e
  ·cases e
   exact⟨g,t,cs,fuel,p,h1,h2,h3,h4⟩
  ·exact Gv h5 n d e
theorem ank:Tryz.prog.globalNamed "strconv.ErrSyntax" =some 3:=by kernel_rfl
theorem anl:Tryz.prog.globalNamed "strconv.ErrRange" =some 4:=by kernel_rfl
theorem aq6:Tryz.prog.globalNamed "internal/strconv.uint64pow10" =some 5:=by kernel_rfl
theorem anm:(Tryz.prog.globals[3]?).map (·.type)=some 397:=by kernel_rfl
theorem ano:(Tryz.prog.globals[4]?).map (·.type)=some 397:=by kernel_rfl
theorem aq7:(Tryz.prog.globals[5]?).map (·.type)=some 433:=by kernel_rfl
theorem aeF:(Rows.laid_internal_strconv_uint64pow10:DataW Unit)=Lib.tabData .u64 Lib.pow10Tab:=by kernel_rfl
theorem agF{W:World}(h:laidMetH Tryz.prog VI W):Laid W:=by
 rw[MakeChecks.laidMetH_plain _ _ _ zk]at h;obtain⟨ps,hv,-⟩:=h;refine⟨?_,?_,?_⟩;·obtain⟨g,t,cs,fuel,p,h1,h2,h3,h4⟩:=Gv hv "strconv.ErrSyntax" Rows.laid_strconv_ErrSyntax (by simp[VI]);obtain rfl:=Option.some.inj (ank.symm.trans h1);obtain rfl:=Option.some.inj (anm.symm.trans h2);exact zD2
 ·obtain⟨g,t,cs,fuel,p,h1,h2,h3,h4⟩:=Gv hv "strconv.ErrRange" Rows.laid_strconv_ErrRange (by simp[VI]);obtain rfl:=Option.some.inj (anl.symm.trans h1);obtain rfl:=Option.some.inj (ano.symm.trans h2);exact zD2
 obtain⟨g,t,cs,fuel,p,h1,h2,h3,h4⟩:=Gv hv "internal/strconv.uint64pow10" Rows.laid_internal_strconv_uint64pow10 (by simp[VI]);obtain rfl:=Option.some.inj (aq6.symm.trans h1);obtain rfl:=Option.some.inj (aq7.symm.trans h2);rw[aeF]at h4;unfold Lib.TabIs;rw[h3,<-Lib.cells_of_tab Tryz.underlying433 Tryz.underlying290 zk zk h4]
noncomputable def aeG (os:Os):World:=
 let w0:=World.doorLaid Tryz.prog 4000 os
 {w0 with heap:=w0.heap.modify 1 fun
  | .cells _ t f=>.cells (Pinned.utf8FirstZ.map fun(z:Nat)=>Value.int .u8 (z:Int)).toArray t f
  |o=>o}
theorem aa8(os:Os)(args:Array Value):laidMetH Tryz.prog VI ((aeG os).forCall (fun _ _=>0) ⟨#[],args,[]⟩).memory:=by rw[MakeChecks.laidMetH_plain _ _ _ zk];exact laidMet_of_run' 8 zk zk
end Go.Proofs.YtdmmebjjojimiaaGreatDoor
namespace Go.Proofs
theorem zAs{p:Prop}(h:p:=by have:=hC k hc;omega):p:=h
theorem zBj{p:Prop}(h:p:=by rw[<-hWb];exact(World.putObj_heap_other zAB).trans hk):p:=h
theorem zB2{p:Prop}(h:p:=by
 refine⟨w.heap.size+1,[{target:=.collected w.heap.size,args:= #[]}],W1,{target:=.fn (.func gf) lb,args:= #[.func (.yield (w.heap.size+1)) #[] #[]]},W1,gf,
  #[.func (.yield (w.heap.size+1)) #[] #[]]++lb,W1,?_,?_,?_,?_,fun _=>h1,?_⟩
 ·rw[<-hW1,hrec];exact run_enterLoop_outer _ _ _ _ _
 ·simp only[resolve,hg]
  simp[go_sem]
 ·intro f' hf';simp[Target.leads]at hf';subst hf';exact hFg
 ·simp[invoke,go_sem,eg]
 ·refine(hseq (w.heap.size+1)
   (fun pre W=>I pre W/\W.heap[w.heap.size+1]? =some (.loop (rec .ready none))/\W.heap[w.heap.size]? =some (.deferred (some [])))
   (fun pre W=>Ir pre W/\W.heap[w.heap.size+1]? =some (.loop (rec .done (some .ret)))/\W.heap[w.heap.size]? =some (.deferred (some [])))
   W1 (hw0.trans fun k hk=>TD.block k (hC k hk) (fun f=>f)) (qR hsz TD.size)
   (fun s A B hs ho=>⟨hI s A B hs.1 (hcw ho),(ho.block _ (yA.1 hs.2.1).1 (hnc _ zBU)).trans hs.2.1,(ho.block _ (yA.1 hs.2.2).1 (hnc _ zAB)).trans hs.2.2⟩)
   (fun s A B hs ho=>⟨hIr s A B hs.1 (hcw ho),(ho.block _ (yA.1 hs.2.1).1 (hnc _ zBU)).trans hs.2.1,(ho.block _ (yA.1 hs.2.2).1 (hnc _ zAB)).trans hs.2.2⟩)
   ?_ ⟨hI [] w W1 h0 (TD.mono fun _ f=>f.elim),hL1,hK1⟩).mono ?_
  ·rintro pre x suf W ⟨hi,hl,hk⟩ hx
   have hlt:w.heap.size+1<W.heap.size:=(yA.1 hl).1
   have hy:=run_yield (P:=P) (args:= #[enc x]) hl (by rw[hrec];exact hps.symm)
   rw[hrec]at hy
   refine⟨fn,_,assign,body,hy,roundIn_of_wpIn hfn (hassign _ x W _ ⟨_,run_beginRound hl (by rw[hrec]),?_⟩)⟩
   obtain⟨Wb,hWb⟩:∃Wb,W.putObj (w.heap.size+1) (.loop {rec .ready none with state:=.busy})=Wb:=⟨_,rfl⟩
   rw[hWb]
   have hl2:Wb.heap[w.heap.size+1]? =some (.loop {rec .ready none with state:=.busy}):=by rw[<-hWb];exact World.putObj_heap_same hlt
   have hk2:Wb.heap[w.heap.size]? =some (.deferred (some [])):=zBj
   have hsb:Wb.heap.size=W.heap.size:=by rw[<-hWb];simp
   have hib:I pre Wb:=by rw[<-hWb];exact hI _ _ _ hi (hput _ _)
   have hcb:zV C W Wb:=fun k hc=>by rw[<-hWb];exact World.putObj_heap_other zAs
   refine wpIn_mono (hbody _ pre x suf _ zAB hib hx) ?_
   have fin:∀(jump:Option Code) (W3:World),Only G Wb W3->
     (Instr.endRound (w.heap.size+1) jump).run P W3= .ok (.bool jump.isNone) (W3.putObj (w.heap.size+1) (.loop (rec (if jump.isNone then .ready else .done) jump)))/\
     (W3.putObj (w.heap.size+1) (.loop (rec (if jump.isNone then .ready else .done) jump))).heap[w.heap.size+1]? =some (.loop (rec (if jump.isNone then .ready else .done) jump))/\
     (W3.putObj (w.heap.size+1) (.loop (rec (if jump.isNone then .ready else .done) jump))).heap[w.heap.size]? =some (.deferred (some []))/\
     zV C Wb (W3.putObj (w.heap.size+1) (.loop (rec (if jump.isNone then .ready else .done) jump))):=fun jump W3 ho=>by
    have hl3:=(ho.block _ zAB (fun g=>(hG _ g).2.2 rfl)).trans hl2
    have hk3:=(ho.block _ zAB (fun g=>(hG _ g).2.1 rfl)).trans hk2
    have:=run_endRound (P:=P) jump hl3
    rw[hrec]at this⊢
    exact⟨this,World.putObj_heap_same (yA.1 hl3).1,(World.putObj_heap_other zAB).trans hk3,
     fun k hc=>(World.putObj_heap_other (by have:=hC k hc;omega)).trans (ho.block k zAs (fun g=>(hG k g).1 hc))⟩
   rintro e a3 W3 hp
   cases e with
   |normal=>
    obtain⟨ho3,hi3⟩:=hp
    obtain⟨hr,hl4,hk4,hc4⟩:=fin none W3 ho3
    exact⟨_,_,hr,.inl ⟨rfl,⟨hI _ _ _ hi3 (hput _ _),hl4,hk4⟩,hcb.trans hc4,by simp;have:=ho3.size;omega⟩⟩
   |ret=>
    obtain⟨ho3,hi3⟩:=hp
    obtain⟨hr,hl4,hk4,hc4⟩:=fin (some .ret) W3 ho3
    exact⟨_,_,hr,.inr ⟨rfl,hIr _ _ _ hi3 (hput _ _),hl4,hk4⟩⟩
   |exit id=>exact hp.elim
   |goto t=>exact hp.elim
   |panic ch=>exact hp.elim
   |outgrown=>exact hp.elim
  ·rintro e W2 ⟨⟨v,rfl⟩,(⟨hi,hl,hk⟩| ⟨pre,hSp,hi,hl,hk⟩)⟩
   ·exact⟨none,_,by have:=run_endLoop (P:=P) hl (by rw[hrec];simp);rw[hrec]at this;exact this,hdone _ (hI _ _ _ hi (hput _ _)) ((World.putObj_heap_other zAB).trans hk)⟩
   ·exact⟨some .ret,_,by have:=run_endLoop (P:=P) hl (by rw[hrec];simp);rw[hrec]at this;exact this,hstop pre _ hSp (hIr _ _ _ hi (hput _ _)) ((World.putObj_heap_other zAB).trans hk)⟩):p:=h
theorem zD0{p:Prop}(h:p:=by rw[<-hW1];have:=World.alloc_heap_new (w.alloc (.deferred (some []))) (.loop (rec .ready none));rwa[World.size_alloc]at this):p:=h
theorem zEv{p:Prop}(h:p:=by rw[<-hW1];exact(Below.heap_alloc _ _ _ zAF).trans (World.alloc_heap_new w _)):p:=h
end Go.Proofs
namespace Go.Proofs.YtdmmebjjojimiaaGreatDoor
open Go.RowKit
def zV(C:Nat->Prop)(W W':World):Prop:= ∀k,C k->W'.heap[k]? =W.heap[k]?
theorem zV.refl(C:Nat->Prop)(W:World):zV C W W:=fun _ _=>rfl
theorem zV.trans{C:Nat->Prop}{X Y Z:World}(h:zV C X Y)(k:zV C Y Z):zV C X Z:=fun i hi=>(k i hi).trans (h i hi)
def AbC{β:Type}(C:Nat->Prop)(J:β->World->Prop):Prop:= ∀s W W',J s W->Only C W W'->J s W'
def ale{α:Type}(F:Fence)(n:Nat)(P:Program)(g:Nat)(lb:Array Value)(enc:α->Value)(C:Nat->Prop)(xs:List α)(w:World):Prop:=
 ∀(l:Nat) (J Jx:List α->World->Prop) (W:World),zV C w W->w.heap.size<=W.heap.size->AbC C J->AbC C Jx->
  (∀pre x suf W1,J pre W1->xs=pre++x::suf->YieldAt F (n-1) P l #[enc x] W1 fun e W'=>
   (e= .returned (.bool true)/\J (pre++[x]) W'/\zV C W1 W'/\W1.heap.size<=W'.heap.size)\/(e= .returned (.bool false)/\Jx (pre++[x]) W'))->
  J [] W->
  CallsIn F n P g (#[.func (.yield l) #[] #[]]++lb) W fun e W'=>(∃v,e= .returned v)/\(J xs W'\/ ∃pre,pre<+:xs/\Jx pre W')
def YO{α:Type}(G:Nat->Prop)(I Ir:List α->World->Prop)(xs:List α)(W:World):Exit->Act->World->Prop
 | .normal,_,W'=>Only G W W'/\I xs W'
 | .ret,_,W'=>Only G W W'/\Ir xs W'
 | .exit _,_,_=>False
 | .goto _,_,_=>False
 | .panic _,_,_=>False
 | .outgrown,_,_=>False
variable {F:Fence} {n:Nat} {P:Program}
theorem aad{α:Type}{g:Operand}{ps:Array Tmp}{assign body:Code}{Q:Exit->Act->World->Prop}{a:Act}{w:World}
  (hro:F.round=none) (h1:1<=n) {gf:Nat} {lb:Array Value} (hg:a.eval g= .func (.func gf) #[] lb) (hFg:F.fn gf) (eg:∀args w,(callFunc gf args).run P w= .ok (.enter gf args) w)
  {enc:α->Value} {C:Nat->Prop} {xs:List α} {w0:World} (hseq:ale F (n-1) P gf lb enc C xs w0)
  (hC:∀k,C k->k<w.heap.size) (hw0:zV C w0 w) (hsz:w0.heap.size<=w.heap.size) (hps:ps.size=1)
  (G:Nat->Prop) (hG:∀k,G k->¬C k/\k≠w.heap.size/\k≠w.heap.size+1)
  (I Ir:List α->World->Prop)
  (hI:∀s W W',I s W->Only (fun k=>C k\/k=w.heap.size\/k=w.heap.size+1) W W'->I s W')
  (hIr:∀s W W',Ir s W->Only (fun k=>C k\/k=w.heap.size\/k=w.heap.size+1) W W'->Ir s W')
  (h0:I [] w) (a₁:α->Act)
  (hassign:∀(l:Nat) (x:α) (W:World) (K:Act->World->Prop),K (a₁ x) W->
   assign.wpIn (F.inRound l) (n-1-1) P (Exit.then K (fun _ _ _=>False)) {tmps:=(ps.zip #[enc x]).foldl (fun t (p,v)=>t.setIfInBounds p v) a.tmps,defers:=[]} W)
  (hbody:∀(l:Nat) (pre:List α) (x:α) (suf:List α) (W:World),w.heap.size+2<=W.heap.size->I pre W->xs=pre++x::suf->body.wpIn (F.inRound l) (n-1-1) P (YO G I Ir (pre++[x]) W) (a₁ x) W)
  (hdone:∀(W:World),I xs W->W.heap[w.heap.size]? =some (.deferred (some []))->Q .normal {a with defers:={target:=.collected w.heap.size,args:= #[]}::a.defers} W)
  (hstop:∀(pre:List α) (W:World),pre<+:xs->Ir pre W->W.heap[w.heap.size]? =some (.deferred (some []))->Code.ret.wpIn F n P Q {a with defers:={target:=.collected w.heap.size,args:= #[]}::a.defers} W):
  (Code.rangeFunc g ps assign body).wpIn F n P Q a w:=by
 refine wpIn_rangeFunc ?_
 intro fn hfn
 rw[hro]
 obtain⟨rec,hrec⟩:∃rec:LoopState->Option Code->Loop,rec=fun st pe=>{state:=st,pending:=pe,fn,tmps:=a.tmps,params:=ps,assign,body,defers:=w.heap.size}:=⟨_,rfl⟩
 obtain⟨W1,hW1⟩:=ze ((w.alloc (.deferred (some []))).alloc (.loop (rec .ready none)))
 have hL1:W1.heap[w.heap.size+1]? =some (.loop (rec .ready none)):=by
  exact zD0
 have hK1:W1.heap[w.heap.size]? =some (.deferred (some [])):=by
  exact zEv
 have TD:O0 w W1:=by rw[<-hW1];exact((Only.refl _ w).alloc _).alloc _
 have hS1:W1.heap.size=w.heap.size+2:=by rw[<-hW1];simp
 have hput:∀(W:World) (o:Obj),Only (fun k=>C k\/k=w.heap.size\/k=w.heap.size+1) W (W.putObj (w.heap.size+1) o):=fun W o=>
  ⟨rfl,rfl,rfl,by simp,fun k _ hn=>World.putObj_heap_other (fun e=>hn (.inr (.inr e)))⟩
 have hcw:∀{W W':World},Only C W W'->Only (fun k=>C k\/k=w.heap.size\/k=w.heap.size+1) W W':=fun h=>h.mono fun _ hk=>.inl hk
 have hnc:∀k,w.heap.size<=k->¬C k:=fun k hk hc=>by have:=hC k hc;omega
 exact zB2
end Go.Proofs.YtdmmebjjojimiaaGreatDoor
