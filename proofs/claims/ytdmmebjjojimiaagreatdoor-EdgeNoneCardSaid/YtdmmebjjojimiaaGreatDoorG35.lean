/- Law 14's example: the walk. -/
import Derived.Test.YtdmmebjjojimiaaGreatDoorG34
set_option maxRecDepth 100000
set_option maxHeartbeats 8000000
set_option linter.all false
namespace Go.Proofs
theorem zEO{p:Prop}(h:p:=by
 match i,hi with
 |0,_=>exact⟨[.string (bs [49]),.bool false],rfl,rfl,rfl,Q5 _ zAG⟩):p:=h
theorem zEU{p:Prop}(h:p:=by
 rcases dI HFc.out h with h|h
 ·have:=HB2.out h;cases this
 ·rw[<-hr2,h];simp):p:=h
end Go.Proofs
namespace Go.Proofs.YtdmmebjjojimiaaGreatDoor
open Go.RowKit
section
variable {w w':World} {B:Nat}
theorem aea{tZ Iy:List Value}{x:aH}{q:fV}(hx:jl B w tZ x)(hq:mV B w Iy q):∀s∈x.names q,okS s:=by
 intro s hs;have h:=aH.aaM hs;unfold aH.sees at h;have h:=(List.mem_filter.1 h).1;rcases qW.1 h with h|h;·unfold fV.names at h;obtain⟨r,hr,rfl⟩:=yD.1 h;obtain⟨v3,-,h3⟩:=hq;obtain⟨cs,q1,-,hS,-⟩:=h3.all r hr;obtain⟨v1,v2,-,hk,-⟩:=hS;exact hk
 obtain⟨p,hp,h⟩:=List.mem_flatMap.1 h;obtain⟨d,hd,rfl⟩:=yD.1 h;obtain⟨v1,v2,-,h1,-⟩:=hx;have hm:=aH.iW ((aH.lH.1 hp).lt);obtain⟨cs,u1,u2,u3,u4,u5,u6,-,-,-,-,-,-,h4,-⟩:=h1.all _ hm;obtain⟨cs2,c1,c2,-,hS,-⟩:=h4.all d hd;obtain⟨v3,v4,-,hk,-⟩:=hS;exact hk
theorem JV(hLd:Laid w):Calls Tryz.prog 20 #[] w fun e w'=>e= .returned (.bool true)/\O0 w w':=by
 have HLd:=zh hLd;clear hLd;go_enter Tryz.func20,Tryz.ntmps20;go_wp2_with fail;generalize hW:World.alloc _ _=W;have hsz:W.heap.size=w.heap.size+7:=by rw[<-hW];simp
 have b0:W.heap[w.heap.size]? =some (.cells #[.string (bs []),.string (bs [])] 128):=by rw[<-hW];exact dw (dw (dw (dw (dw (dw (alloc_at rfl) _) _) _) _) _) _
 have b1:W.heap[w.heap.size+1]? =some (.cells #[.string (bs [49]),.bool false] 130):=by rw[<-hW];exact dw (dw (dw (dw (dw (alloc_at zAM) _) _) _) _) _
 have b2:W.heap[w.heap.size+1+1]? =some (.cells #[.string (bs [98]),.slice (some ⟨w.heap.size,0,none⟩) 1 1,bP,.string (bs []),.slice (some ⟨w.heap.size,0,none⟩) 1 1,bP,.int .i64 0] 132):=by rw[<-hW];exact dw (dw (dw (dw (alloc_at zAM) _) _) _) _
 have b3:W.heap[w.heap.size+1+1+1]? =some (.cells #[.string (bs [49]),.bool false] 130):=by rw[<-hW];exact dw (dw (dw (alloc_at zAM) _) _) _
 have b4:W.heap[w.heap.size+1+1+1+1]? =some (.cells #[.string (bs [97]),.int .i64 0,.slice (some ⟨w.heap.size+1,0,none⟩) 1 1,bP,bP,.slice (some ⟨w.heap.size+1+1,0,none⟩) 1 1,bP,bP,.string (bs [98]),.int .i64 0,.slice (some ⟨w.heap.size+1+1+1,0,none⟩) 1 1,bP,bP,bP,bP,bP] 101):=by rw[<-hW];exact dw (dw (alloc_at zAM) _) _
 have b5:W.heap[w.heap.size+1+1+1+1+1]? =some (.cells #[.slice (some ⟨w.heap.size+1+1+1+1,0,none⟩) 2 2,bP] 25):=by rw[<-hW];exact dw (alloc_at zAM) _
 have b6:W.heap[w.heap.size+1+1+1+1+1+1]? =some (.cells #[.string (bs [97]),.slice (some ⟨w.heap.size,0,none⟩) 1 1,bP,.int .i64 0] 110):=by rw[<-hW];exact alloc_at zAM
 have hO:O0 w W:=by rw[<-hW];exact((((((zr.alloc _).alloc _).alloc _).alloc _).alloc _).alloc _).alloc _
 have hsp:aQ 2 gq W.heap.size W (.slice (some ⟨w.heap.size,0,none⟩) 1 1) JU:=
  aQ.lit b0 zBk (qH _) rfl zB1 zBl fun i hi=>by
   match i,hi with
   |0,_=>exact⟨[.string (bs []),.string (bs [])],rfl,rfl,rfl,Q5 _ zBl,Q5 _ zAG⟩
 have ag1:aQ 2 uZ W.heap.size W (.slice (some ⟨w.heap.size+1,0,none⟩) 1 1) [⟨bs [49],false⟩]:=
  aQ.lit b1 zBk (qH _) rfl zB1 zBl fun i hi=>by
   exact zEO
 have Uo:aQ 2 uZ W.heap.size W (.slice (some ⟨w.heap.size+1+1+1,0,none⟩) 1 1) [⟨bs [49],false⟩]:=
  aQ.lit b3 zBk (qH _) rfl zB1 zBl fun i hi=>by
   exact zEO
 have am1:aQ 7 nC W.heap.size W (.slice (some ⟨w.heap.size+1+1,0,none⟩) 1 1) [⟨⟨bs [98],JU,[]⟩,⟨bs [],JU,[]⟩,0⟩]:=
  aQ.lit b2 zBk (qH _) rfl zB1 zBl fun i hi=>by
   match i,hi with
   |0,_=>exact⟨[.string (bs [98]),.slice (some ⟨w.heap.size,0,none⟩) 1 1,bP,.string (bs []),.slice (some ⟨w.heap.size,0,none⟩) 1 1,bP,.int .i64 0],rfl,rfl,[.string (bs [98]),.slice (some ⟨w.heap.size,0,none⟩) 1 1,bP],[.string (bs []),.slice (some ⟨w.heap.size,0,none⟩) 1 1,bP],rfl,⟨_,_,rfl,Q5 _ zBl,hsp,aQ.nilRow⟩,⟨_,_,rfl,Q5 _ zAG,hsp,aQ.nilRow⟩,z64⟩
 have hrec:jl W.heap.size W [.slice (some ⟨w.heap.size+1+1+1+1,0,none⟩) 2 2,bP] oD:=by
  refine⟨_,_,rfl,aQ.lit b4 zBk (qH _) rfl zB1 zBl fun i hi=>?_,aQ.nilRow⟩
  match i,hi with
  |0,_=>exact⟨[.string (bs [97]),.int .i64 0,.slice (some ⟨w.heap.size+1,0,none⟩) 1 1,bP,bP,.slice (some ⟨w.heap.size+1+1,0,none⟩) 1 1,bP,bP],rfl,rfl,_,_,_,_,_,_,rfl,Q5 _ zAG,z64,ag1,aQ.nilRow,aQ.nilRow,am1,aQ.nilRow,aQ.nilRow⟩
  |1,_=>exact⟨[.string (bs [98]),.int .i64 0,.slice (some ⟨w.heap.size+1+1+1,0,none⟩) 1 1,bP,bP,bP,bP,bP],rfl,rfl,_,_,_,_,_,_,rfl,Q5 _ zAG,z64,Uo,aQ.nilRow,aQ.nilRow,aQ.nilRow,aQ.nilRow,aQ.nilRow⟩
 have am2:mV W.heap.size W [.slice (some ⟨w.heap.size+1+1+1+1+1+1,0,none⟩) 1 1] lU:=by
  refine⟨_,rfl,aQ.lit b6 zBk (qH _) rfl zB1 zBl fun i hi=>?_⟩
  match i,hi with
  |0,_=>exact⟨[.string (bs [97]),.slice (some ⟨w.heap.size,0,none⟩) 1 1,bP,.int .i64 0],rfl,rfl,[.string (bs [97]),.slice (some ⟨w.heap.size,0,none⟩) 1 1,bP],rfl,⟨_,_,rfl,Q5 _ zAG,hsp,aQ.nilRow⟩,z64⟩
 have arI:Hid (Laid W):=HLd.out.only hO;clear hW b0 b1 b2 b3 b4 b5 b6 hsp ag1 Uo am1;refine(ab9 hrec am2 (qH _) Zl.sm zBl 1000 ⟨by decide,by decide⟩ 1000 zAG).mono ?_;rintro e W1 ⟨ca,bta,bba,gta,gba,Ga,Bsa,rfl,hG,hx',hq',hI',hR',hM,hLb,hB3,hBc,hB5,O4⟩;have hX1:DV W1 gta gba ca bta bba Ga Bsa (VP oD lU) (T14,xA.B0):=⟨hG,hx',hq',hI',hLb,hR',hM,hB5,((zY.of arI.out (qH _)).more hB3).keep (Kp.iI O4),fun j hj=>by have:j<0:=hj;omega⟩;have HEd:=zh (Zk hX1 (Zl.edq (by rw[NH];intro s hs;cases hs)));have bM:Hid (O0 w W1):=hO.same O4;have YE:Hid (∀k,Mine gta k\/Mine gba k->w.heap.size<=k):=fun k hk=>by have:=hM k hk;have:=hO.size;omega
 clear hrec am2 hG hx' hq' hI' hR' hM hLb hB3 hBc hB5 O4 hX1 hO hsz;go_wp2_with fail;refine HEd.out.mono ?_;rintro e w2 ⟨rfl,vM,vN,hX4,hA4,hB4,O4⟩;have fK:Hid (O0 w w2):=bM.out.trans O4 fun k hk=>.inr (YE.out k hk);have hGt:=hX4.gr;have eS:TB.edges (T14,xA.B0) (VP oD lU).x (VP oD lU).q (VP oD lU).l (VP oD lU).names (VP oD lU).rs=TB.edges (T14,xA.B0) oD lU [0,1] [] SY:=by show TB.edges (T14,xA.B0) oD lU (oD.closure lU.names) (oD.names lU) (dV oD lU (oD.closure lU.names))=_;rw[Ig,NH,Ye]
 rw[eS]at hGt;obtain⟨S,hS⟩:=ze (TB.edges (T14,xA.B0) oD lU [0,1] [] SY);rw[hS]at hGt;have HG:=zh hGt;have hT:S.1.l=QD:=by rw[<-hS,amT]
 have am6:=amU;rw[hS]at am6;obtain⟨f1,f2,hf1,hf2,hm1,hm2⟩:=am6;have ZG:=zh hf1;have HF2:=zh hf2;have HM1:=zh hm1;have HM2:=zh hm2;have HTb:Hid (∀W,O0 w2 W->Calls Tryz.prog 66 #[.pointer (some ⟨ca,0,none⟩)] W fun e w'=>e= .returned (.pointer (some ⟨bta,0,none⟩))/\w'=W):=fun W hW=>wY (HG.out.aN hW);have HLk:Hid (∀W,O0 w2 W->∀a:At,sD a->∀r:Int,(numOf QD a:Int)=r->Calls Tryz.prog 67 #[.pointer (some ⟨bta,0,none⟩),jS a] W fun e w'=>e= .returned (.int .i64 r)/\O0 W w'):=fun W hW a ha r hr=>by obtain⟨V,hV⟩:=(HG.out.aN hW).tab;exact wW hV ha r (by rw[hT];exact hr)
 have HL1:Hid (∀W,O0 w2 W->Calls Tryz.prog 67 #[.pointer (some ⟨bta,0,none⟩),.agg #[.int .u8 4,.int .i64 0,.int .i64 0,.int .i64 0]] W fun e w'=>e= .returned (.int .i64 4)/\O0 W w'):=fun W hW=>HLk.out W hW (lW 0 0) ⟨by decide,⟨by decide,by decide⟩,⟨by decide,by decide⟩,⟨by decide,by decide⟩⟩ 4 (by rw[Yf.1];rfl);have HL2:Hid (∀W,O0 w2 W->Calls Tryz.prog 67 #[.pointer (some ⟨bta,0,none⟩),.agg #[.int .u8 5,.int .i64 0,.int .i64 1,.int .i64 0]] W fun e w'=>e= .returned (.int .i64 9)/\O0 W w'):=fun W hW=>HLk.out W hW (lC 0 1) ⟨by decide,⟨by decide,by decide⟩,⟨by decide,by decide⟩,⟨by decide,by decide⟩⟩ 9 (by rw[Yf.2.1];rfl);have HL3:Hid (∀W,O0 w2 W->Calls Tryz.prog 67 #[.pointer (some ⟨bta,0,none⟩),.agg #[.int .u8 10,.int .i64 1,.int .i64 1,.int .i64 1]] W fun e w'=>e= .returned (.int .i64 7)/\O0 W w'):=fun W hW=>HLk.out W hW (dU 1 1 1) ⟨by decide,⟨by decide,by decide⟩,⟨by decide,by decide⟩,⟨by decide,by decide⟩⟩ 7 (by rw[Yf.2.2];rfl);have HBu:Hid (∀W,O0 w2 W->Calls Tryz.prog 28 #[.pointer (some ⟨ca,0,none⟩)] W fun e w'=>e= .returned (.pointer (some ⟨bba,0,none⟩))/\w'=W):=fun W hW=>pW (HG.out.aN hW);have Qi:Hid (∀W,O0 w2 W->Calls Tryz.prog 29 #[.pointer (some ⟨bba,0,none⟩)] W fun e w'=> ∃v us,e= .returned v/\CG W w' v us S.2.cls/\O0 W w'):=fun W hW=>by obtain⟨V,hV⟩:=(HG.out.aN hW).Jy;exact CS hV
 clear hX4 hA4 hB4 O4 hGt eS hS hT hf1 hf2 hm1 hm2 HEd HLk YE bM;go_wp2_with fail;refine(HTb.out w2 zr).mono ?_;rintro e w3 ⟨rfl,e3⟩;have mO:Hid (O0 w2 w3):=by rw[e3];exact Only.refl _ _
 clear e3;go_wp2_with fail;refine(HL1.out w3 mO.out).mono ?_;rintro e w4 ⟨rfl,O4⟩;have xw:=zh (mO.out.same O4);clear O4;go_wp2_with fail;refine(HTb.out w4 xw.out).mono ?_;rintro e w5 ⟨rfl,e5⟩;have FI:Hid (O0 w2 w5):=by rw[e5];exact xw.out
 clear e5;go_wp2_with fail;refine(HL2.out w5 FI.out).mono ?_;rintro e w6 ⟨rfl,O6⟩;have Xw:=zh (FI.out.same O6);clear O6;go_wp2_with fail;refine(HTb.out w6 Xw.out).mono ?_;rintro e w7 ⟨rfl,e7⟩;have yx:Hid (O0 w2 w7):=by rw[e7];exact Xw.out
 clear e7;go_wp2_with fail;refine(HL3.out w7 yx.out).mono ?_;rintro e w8 ⟨rfl,O8⟩;have Iu:=zh (yx.out.same O8);clear O8;go_wp2_with fail;refine(HBu.out w8 Iu.out).mono ?_;rintro e w9 ⟨rfl,e9⟩;have rY:Hid (O0 w2 w9):=by rw[e9];exact Iu.out
 clear e9;go_wp2_with fail;refine(Qi.out w9 rY.out).mono ?_;rintro e w10 ⟨vc,us,rfl,hOw,O10⟩;have RD:=zh (rY.out.same O10);have hCs:=hOw.Uf;obtain⟨acl,ccl,rfl,FM,gc2⟩:=hCs.shape;obtain⟨cls,hcls⟩:=ze S.2.cls;rw[hcls]at hCs FM HM1 HM2⊢;obtain⟨nc,hnc⟩:=ze cls.length;have YF:=zh hnc;have hfw:nc<=262144:=by obtain⟨V,hV⟩:=HG.out.Jy;rw[<-hnc,<-hcls];exact hV.few
 rw[hnc]at hCs FM⊢;have HCs:=zh hCs;clear O10 hOw hCs hnc hcls HTb HL1 HL2 HL3 HBu Qi mO xw FI Xw yx Iu rY;have e4:IntKind.i64.wrap (-4)= -4:=zAG;go_wp2_with fail;go_loopw [7,8,56] (fun v7 v8 vi dG=>Hid (O0 w10 dG)/\∃i:Nat,vi= .int .i64 i/\i<=nc/\∃b1 b2:Bool,v7= .bool b1/\v8= .bool b2/\Hid (f1∈cls.take i->b1=true)/\Hid (f2∈cls.take i->b2=true)) (fun _ _ v _=>nc-(RowKit.intOf v).toNat);case atStart=>exact⟨show Hid _ from Only.refl _ _,0,rfl,qE _,false,false,rfl,rfl,(fun h=>by cases h),(fun h=>by cases h)⟩
 case round=>
  obtain⟨dG,rfl⟩:=zB wr;obtain⟨gV,i,rfl,hi,b1,b2,rfl,rfl,HB1,HB2⟩:=hrel;by_cases ci:i<nc
  ·have jh:=zw (i+1);obtain⟨bcl,ocl,vcl,ecl,-,hcell,hIc⟩:=(HCs.out.aN gV.out).at (k:=i) (by rw[YF.out];exact ci);subst ecl;obtain⟨fc,hfc⟩:=zG cls i (by rw[YF.out];exact ci);have am7:cls.getD i []=fc:=by rw[qC,hfc];rfl
   rw[am7]at hIc;have HFc:=zh hfc;obtain⟨avc,cvc,rfl,-,-⟩:=hIc.shape;obtain⟨nvc,ad3⟩:=ze fc.length;rw[ad3]at hIc hcell;have am8:=zh hIc;clear hfc am7 ad3 hIc;have am9:Calls Tryz.prog 68 #[.slice (some ⟨dG.heap.size,0,none⟩) 2 2] (dG.alloc (.cells #[.int .i64 (-4),.int .i64 9] 3)) fun e w'=> ∃v,e= .returned (.tuple #[v,.bool true])/\Ints w' v f1/\O0 (dG.alloc (.cells #[.int .i64 (-4),.int .i64 9] 3)) w':=by
    refine(QF (xs:=[-4,9]) (MQ (xs:=[-4,9]) (qL _ _) zBl) zAG).mono ?_;intro e w' h;unfold wG at h;rw[ZG.out]at h;obtain⟨v,he,hr,-,ho⟩:=h;refine⟨v,he,Ints.fH hr fun z hz=>?_,ho⟩;have:=(iE.lD [-4,9] z).1 (by
     have h9:=ZG.out
     unfold iE.form at h9
     split at h9
     ·cases h9
     ·split at h9
      ·cases h9
      ·cases h9;exact hz)
    simp at this;unfold bU;omega
   have ana:=zh am9;clear am9;go_wp2_with fail;refine ana.out.mono ?_;rintro e wa ⟨v1,rfl,hI1,O1⟩;have HOa:Hid (O0 w10 wa):=(gV.out.alloc _).same O1;have arM:Hid (O0 dG wa):=(zr.alloc _).same O1;have HI1:=zh hI1;obtain⟨ap1,cp1,rfl,-,-⟩:=hI1.shape;clear hI1 O1 ana;have anb:Calls Tryz.prog 68 #[.slice (some ⟨wa.heap.size,0,none⟩) 2 2] (wa.alloc (.cells #[.int .i64 (-4),.int .i64 7] 3)) fun e w'=> ∃v,e= .returned (.tuple #[v,.bool true])/\Ints w' v f2/\O0 (wa.alloc (.cells #[.int .i64 (-4),.int .i64 7] 3)) w':=by
    refine(QF (xs:=[-4,7]) (MQ (xs:=[-4,7]) (qL _ _) zBl) zAG).mono ?_;intro e w' h;unfold wG at h;rw[HF2.out]at h;obtain⟨v,he,hr,-,ho⟩:=h;refine⟨v,he,Ints.fH hr fun z hz=>?_,ho⟩;have:=(iE.lD [-4,7] z).1 (by
     have h9:=HF2.out
     unfold iE.form at h9
     split at h9
     ·cases h9
     ·split at h9
      ·cases h9
      ·cases h9;exact hz)
    simp at this;unfold bU;omega
   have anc:=zh anb;clear anb;go_wp2_with fail;refine anc.out.mono ?_;rintro e wb ⟨v2,rfl,hI2,O2⟩;have HOb:Hid (O0 w10 wb):=(HOa.out.alloc _).same O2;have Sz:Hid (O0 wa wb):=(zr.alloc _).same O2;have HI2:=zh hI2;obtain⟨ap2,cp2,rfl,-,-⟩:=hI2.shape;clear hI2 O2 anc;have RN:Hid (∀W,O0 wb W->Ints W (.slice avc nvc cvc) fc):=fun W h=>am8.out.aN ((arM.out.same Sz.out).same h);have arN:Hid (∀W,O0 wb W->Ints W (.slice ap1 f1.length cp1) f1):=fun W h=>HI1.out.aN (Sz.out.same h);have ane:Hid (∀W,O0 wb W->Ints W (.slice ap2 f2.length cp2) f2):=fun W h=>HI2.out.aN h;have Vy:Hid (O0 wb wb):=Only.refl _ _;clear HI1 HI2 am8;cases b1 with
   |true=>
    cases b2 with
    |true=>
     go_wp2_with fail;go_roundw;case rel=>exact⟨HOb,i+1,by first|rfl|go_num,by omega,true,true,rfl,rfl,(show Hid _ from fun _=>rfl),(show Hid _ from fun _=>rfl)⟩
     case measure=>simp[RowKit.intOf]<;>omega
    |false=>
     have Yh:=zh (LD (RN.out wb Vy.out) (ane.out wb Vy.out));obtain⟨r2,hr2⟩:∃r,(fc==f2)=r:=⟨_,rfl⟩;rw[hr2]at Yh;have ajj:Hid (f2∈cls.take (i+1)->r2=true):=fun h=>by exact zEU
     clear hr2;go_wp2_with fail;refine Yh.out.mono ?_;rintro e ws2 ⟨rfl,Os2⟩;have ajk:=zh (Vy.out.same Os2);clear Os2 Yh;go_wp2_with fail;go_roundw;case rel=>exact⟨show Hid _ from HOb.out.same ajk.out,i+1,by first|rfl|go_num,by omega,true,r2,rfl,rfl,(show Hid _ from fun _=>rfl),ajj⟩
     case measure=>simp[RowKit.intOf]<;>omega
   |false=>
    have ajl:=zh (LD (RN.out wb Vy.out) (arN.out wb Vy.out));obtain⟨r1,hr1⟩:∃r,(fc==f1)=r:=⟨_,rfl⟩;rw[hr1]at ajl;have ang:Hid (f1∈cls.take (i+1)->r1=true):=fun h=>by
     rcases dI HFc.out h with h|h;·have:=HB1.out h;cases this
     rw[<-hr1,h];simp
    clear hr1;go_wp2_with fail;refine ajl.out.mono ?_;rintro e ws1 ⟨rfl,Os1⟩;have af8:=zh (Vy.out.same Os1);clear Os1 ajl;cases b2 with
    |true=>
     go_wp2_with fail;go_roundw;case rel=>exact⟨show Hid _ from HOb.out.same af8.out,i+1,by first|rfl|go_num,by omega,r1,true,rfl,rfl,ang,(show Hid _ from fun _=>rfl)⟩
     case measure=>simp[RowKit.intOf]<;>omega
    |false=>
     have Yh:=zh (LD (RN.out ws1 af8.out) (ane.out ws1 af8.out));obtain⟨r2,hr2⟩:∃r,(fc==f2)=r:=⟨_,rfl⟩;rw[hr2]at Yh;have ajj:Hid (f2∈cls.take (i+1)->r2=true):=fun h=>by exact zEU
     clear hr2;go_wp2_with fail;refine Yh.out.mono ?_;rintro e ws2 ⟨rfl,Os2⟩;have ajk:=zh (af8.out.same Os2);clear Os2 Yh;go_wp2_with fail;go_roundw;case rel=>exact⟨show Hid _ from HOb.out.same ajk.out,i+1,by first|rfl|go_num,by omega,r1,r2,rfl,rfl,ang,ajj⟩
     case measure=>simp[RowKit.intOf]<;>omega
  obtain rfl:nc=i:=by omega
  obtain rfl:b1=true:=HB1.out (by rw[qI (yG YF.out)];exact HM1.out);obtain rfl:b2=true:=HB2.out (by rw[qI (yG YF.out)];exact HM2.out);go_wp2_with fail;go_ret;exact⟨rfl,fK.out.same (RD.out.same gV.out)⟩
end
end Go.Proofs.YtdmmebjjojimiaaGreatDoor
