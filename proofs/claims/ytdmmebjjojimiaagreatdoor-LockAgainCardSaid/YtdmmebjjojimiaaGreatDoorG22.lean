/- The document's checks, exact: prefer. Printed by gen_rx3.py.; The document's checks, exact: Recipe. Printed by gen_rx4.py. -/
import Derived.Test.YtdmmebjjojimiaaGreatDoorG21
set_option maxRecDepth 100000
set_option maxHeartbeats 8000000
set_option linter.all false
namespace Go.Proofs
theorem zAh{p:Prop}(h:p:=by(intro w hSw;(try dsimp only at hSw);obtain⟨k0,k1⟩:=aF.out w (aI.out.same hSw);obtain⟨d0,d1,d2⟩:=y5.out w hSw;have hrs:=(x9.out w (aI.out.same hSw)).1;have gs0:=hrs 0 _ rfl;rw[qF]at gs0;rw[yH]at gs0;clear hrs;go_simp<;>(try with_reducible rfl))):p:=h
theorem zAn{p:Prop}(h:p:=by(intro w hSw;(try dsimp only at hSw);obtain⟨k0,k1⟩:=aF.out w (aI.out.same hSw);obtain⟨d0,d1,d2⟩:=y5.out w hSw;have oK:=(Ho.out w (aI.out.same hSw)).1;have gv4:=oK 4 _ rfl;clear oK;go_simp<;>(try with_reducible rfl))):p:=h
end Go.Proofs
namespace Go.Proofs.YtdmmebjjojimiaaGreatDoor
open Go.RowKit
section
variable {w w':World} {B:Nat}
attribute [local irreducible] wpQuiet
theorem UY{α:Type}{p:α->Bool}{l:List α}{k i:Nat}{t:α}(ht:l[k]? =some t)(hk:k<i)(hp:p t=true):(l.take i).any p=true:=by refine yU.2 ⟨t,?_,hp⟩;exact qT (show(l.take i)[k]? =some t by rw[List.getElem?_take,if_pos hk];exact ht)
theorem eY{α:Type}{p:α->Bool}{l:List α}{k:Nat}{t:α}(ht:l[k]? =some t)(h:(l.take k).any p=false)(hn:p t=false):(l.take (k+1)).any p=false:=by rw[iZ ht,h,hn];rfl
theorem abS{lC:List Value}{x:aQ}(hx:fO B w lC x)(hlen:x.packs.length<=1000000){i:Nat}(hi:i<x.fV.length):Calls Tryz.prog 55 #[.agg lC.toArray,.int .i64 (i:Int)] w fun e w'=>e= .returned (.bool (x.wY i))/\O0 w w':=by
 obtain⟨aP,ak,aJ,aO,aG,aH,rfl,fF,fG,dP,dQ,aB,bJ,mY⟩:=open_rec hx;clear hx;try rw[aB.out]
 obtain⟨W0,hW0,aV,jK,aF⟩:=LW w (.slice aP ak aJ) (.slice aO aG aH) 25;obtain⟨eX,bK,bT⟩:=mY W0 aV.out;clear mY;rw[aB.out]at hlen;rw[bJ.out]at hi;obtain⟨yy,hxy⟩:=zG x.fV i zBW;obtain⟨AY,mF,og,jo,oh,oq,kF,yh,Ef,je⟩:=zl (bT.out W0 zr) hxy;first|subst oq| (simp only[qG,qO,and_true]at oq;obtain⟨rfl,rfl⟩:=oq)
 have Kq:=zh kF;have jq:=zh je;have xR:=zh hxy;clear je hxy kF;have xH:Hid (∀W,O0 W0 W->aS 1 bU B W (.slice og jo oh) yy.names):=fun W ho=>(jq.out W ho).2.1;obtain⟨r,hr⟩:=ze (x.wY i);rw[hr];have aZ:Hid (r=(x.nZ yy.virtual&& !((x.fV.take i).any (fun g:xQ=>decide (g.virtual=yy.virtual)))&&eu yy.names&& !(yy.names.any (fun n=> !(decide (0<=x.find n)&&iC (x.pack (x.find n).toNat).provides yy.virtual))))):=by
  have hpy:x.fV.getD i default=yy:=by rw[qC,xR.out];rfl
  show _=_;rw[<-hr];unfold aQ.wY;rw[hpy]
 clear hr;have hbn:jo<=9223372036854775807:=by obtain⟨_,_,_,g1,g2⟩:=(xH.out W0 zr).shape;rw[Kq.out]at g1;omega
 have fJ:=zh (jq.out W0 zr).1;obtain⟨W1,hW1⟩:=zB (W0.alloc (.cells #[.string yy.virtual,.slice og jo oh,.int .i64 yy.line] 103));have aI:Hid (O0 W0 W1):=zB1;have y5:Hid (∀W,O0 W1 W->W.cell? ⟨(w.heap.size+1),0,none⟩=some (.string yy.virtual)/\W.cell? ⟨(w.heap.size+1),1,none⟩=some (.slice og jo oh)/\W.cell? ⟨(w.heap.size+1),2,none⟩=some (.int .i64 yy.line)):=fun W ho=>by have b0:W1.heap[(w.heap.size+1)]? =some (.cells #[.string yy.virtual,.slice og jo oh,.int .i64 yy.line] 103):=zBg;have b1:=aA b0 ho (fun f=>f);exact⟨by rw[aj b1];rfl,by rw[aj b1];rfl,by rw[aj b1];rfl⟩
 rw[hW0]at fJ;go_enter Tryz.func55,Tryz.ntmps55;go_wp2_with (refine wpList_load_mid rfl 103 (.tmp 12) rfl AY (mF+i*3) rfl _ _ fJ.out Tryz.underlying103 rfl zk ?_);rw[<-hW0,<-hW1];clear hW0 hW1 fJ;have fQ:Hid (O0 W1 W1):=Only.refl _ _;go_wp2_with fail;go_loopw [6] (fun vk iJ=>Hid (O0 W1 iJ)/\∃k:Nat,vk= .int .i64 k/\k<=i/\Hid ((x.fV.take k).any (fun g:xQ=>decide (g.virtual=yy.virtual))=false)) (fun v _=>i-(RowKit.intOf v).toNat);case atStart=>exact⟨fQ,0,rfl,qE _,show Hid _ from rfl⟩
 case round=>
  obtain⟨iJ,rfl⟩:=zB wr;clear fQ;obtain⟨tu,k,rfl,hk,EG⟩:=hrel;obtain⟨k0,k1⟩:=aF.out iJ (aI.out.same tu.out);obtain⟨d0,d1,d2⟩:=y5.out iJ tu.out;by_cases ck:k<i
  ·have iE:=zw (k+1);obtain⟨yz,hxz⟩:=zG x.fV k zBW;obtain⟨JD,vP,vW,vX,vY,qc,wC,AX,NC,jM⟩:=zl (bT.out W0 zr) hxz;first|subst qc| (simp only[qG,qO,and_true]at qc;obtain⟨rfl,rfl⟩:=qc)
   have jd:=zh jM;have vS:=zh hxz;clear jM hxz wC;have hrz:=(jd.out iJ (aI.out.same tu.out)).1;have nY:=hrz 0 _ rfl;rw[qF]at nY;clear hrz;have hbd:=fP yz.virtual yy.virtual;obtain⟨bb,hbb⟩:∃b,decide (yz.virtual=yy.virtual)=b:=⟨_,rfl⟩;have D6:=zh hbb;rw[hbb]at hbd;clear hbb;go_wp2_with fail;go_quiet (fail);cases bb with
   |true=>
    obtain rfl:r=false:=by rw[aZ.out];rw[show(x.fV.take i).any (fun g:xQ=>decide (g.virtual=yy.virtual))=true from UY (p:=(fun g:xQ=>decide (g.virtual=yy.virtual))) vS.out ck D6.out];simp
    go_wp2_with fail;go_ret;exact⟨rfl,aV.out.same (aI.out.same (tu.out.drewN _))⟩
   |false=>
    have pI:Hid ((x.fV.take (k+1)).any (fun g:xQ=>decide (g.virtual=yy.virtual))=false):=eY (p:=(fun g:xQ=>decide (g.virtual=yy.virtual))) vS.out EG.out D6.out;go_wp2_with fail;go_roundw;case rel=>exact⟨show Hid _ from(tu.out.drewN _),k+1,by first|rfl|go_num,by omega,pI⟩
    case measure=>simp[RowKit.intOf]<;>omega
  obtain rfl:i=k:=by omega
  have fQ:=tu;go_wp2_with fail;clear k0 k1 d0 d1 d2;go_loopw [31] (fun vm CQ=>Hid (O0 W1 CQ)/\∃m:Nat,vm= .int .i64 m/\m<=jo/\Hid ((yy.names.take m).any (fun n=> !(decide (0<=x.find n)&&iC (x.pack (x.find n).toNat).provides yy.virtual))=false)) (fun v _=>jo-(RowKit.intOf v).toNat);case atStart=>exact⟨fQ,0,rfl,qE _,show Hid _ from rfl⟩
  case round=>
   obtain⟨CQ,rfl⟩:=zB wr;clear fQ;obtain⟨Lr,m,rfl,hm,HQm⟩:=hrel;obtain⟨k0,k1⟩:=aF.out CQ (aI.out.same Lr.out);obtain⟨d0,d1,d2⟩:=y5.out CQ Lr.out;by_cases cm:m<jo
   ·have iE:=zw (m+1);obtain⟨ys,hxs⟩:=zG yy.names m zB2;obtain⟨X5,Gv,hes,Iy,uS⟩:=iR (xH.out W0 zr) hxs;first|subst hes| (simp only[qG,qO,and_true]at hes;obtain⟨rfl,rfl⟩:=hes)
    have x9:=zh uS;have AV:=zh hxs;clear uS hxs;obtain⟨f,hf⟩:=ze (x.find ys);have Gw:=x.uM ys;rw[hf,aB.out]at Gw;have HF:Hid (∀W,O0 W0 W->Calls Tryz.prog 38 #[.agg #[.slice aP ak aJ,.slice (some ⟨AY,mF,none⟩) aG aH],.string ys] W fun e w'=>e= .returned (.int .i64 f)/\O0 W w'):=fun W hW=>by rw[<-hf];exact lI (eX.out W hW) ys
    have HFx:Hid (x.find ys=f):=hf;clear hf;go_wp2_with fail;clear k0 k1 d0 d1 d2;refine aU (fun w'=>O0 W1 w') zk zk (by exact(Lr.out).drew) ?_;refine qV ?_ (hy:=zAh);refine qV ?_;refine qV ?_ (hy:=zAh);iterate 2 refine qV ?_
    refine qV ?_ (hy:=zAh);refine bF (v:=.int .i64 f) (f:=38) (args:= #[.agg #[.slice aP ak aJ,.slice (some ⟨AY,mF,none⟩) aG aH],.string ys]) (by rfl) ?_ ?_ ?_;·exact zDQ
    ·(intro w hSw;exact(HF.out w (aI.out.same hSw)).mono fun _ _ ⟨he,ho⟩=>⟨he,hSw.same ho⟩)
    try simp only[Act.put,fA,fD,fB,dW,dX,dY]
    refine qV ?_;refine wpQuiet_nil ?_;(intro w9 dR;have fK:=zh dR;clear dR);clear HF;go_wp2_with fail;by_cases fl:f<0
    ·refine aU (fun w'=>O0 W1 w') zk zk (by exact(fK.out).drew) ?_;iterate 3 refine qV ?_
     iterate 10 refine qS ?_
     refine qV ?_;refine wpQuiet_nil ?_;(intro w8 hw8;have uH:=zh hw8;clear hw8);obtain rfl:r=false:=by rw[aZ.out];rw[show yy.names.any (fun n=> !(decide (0<=x.find n)&&iC (x.pack (x.find n).toNat).provides yy.virtual))=true from yU.2 ⟨ys,qT AV.out,by rw[HFx.out,qP (show¬(0:Int)<=f by omega)];rfl⟩];simp
     go_wp2_with fail;go_ret;exact⟨rfl,aV.out.same (aI.out.same uH.out)⟩
    obtain⟨fn,rfl⟩:∃i:Nat,f=i:=⟨f.toNat,by omega⟩;obtain⟨yv,hxv⟩:=zG x.packs fn zAt;obtain⟨bkv,UK,Y6,UL,Y7,av2,nv2,cv2,av3,nv3,cv3,av4,nv4,cv4,av5,nv5,cv5,av6,nv6,cv6,hev,WX,aee,aef,aeg,aeh,aei,aji,inv1,I9⟩:=jy (bK.out W0 zr) hxv;first|subst hev| (simp only[qG,qO,and_true]at hev;obtain⟨rfl,rfl⟩:=hev)
    have Ho:=zh I9;have Yb:=zh hxv;clear I9 hxv WX aee aef aeg aeh aei;have aos:Hid (∀W,O0 W0 W->aS 1 bU B W (.slice av3 nv3 cv3) yv.provides):=fun W ho=>(Ho.out W ho).2.2.2.1;obtain⟨hb,hhb⟩:=ze (iC yv.provides yy.virtual);have hpk:x.pack fn=yv:=by unfold aQ.pack;rw[qC,Yb.out];rfl
    have HHb:Hid ((!(decide (0<=x.find ys)&&iC (x.pack (x.find ys).toNat).provides yy.virtual))= !hb):=by rw[Hid,HFx.out,qX (show(0:Int)<=(fn:Int) by omega),yT,hpk,hhb];rfl
    clear hpk;have adg:Hid (∀W,O0 W0 W->Calls Tryz.prog 128 #[.slice av3 nv3 cv3,.string yy.virtual] W fun e w'=>e= .returned (.bool hb)/\O0 W w'):=fun W hW=>by rw[<-hhb];exact EK (aos.out W hW) _
    clear hhb;refine aU (fun w'=>O0 W1 w') zk zk (by exact(fK.out).drew) ?_;iterate 4 refine qV ?_
    refine qV ?_ (hy:=zAn);iterate 3 refine qV ?_
    refine qV ?_ (hy:=zAn);refine qV ?_;refine qV ?_ (hy:=zAn);refine bF (v:=.bool hb) (f:=128) (args:= #[.slice av3 nv3 cv3,.string yy.virtual]) (by rfl) ?_ ?_ ?_;·exact zDQ
    ·(intro w hSw;exact(adg.out w (aI.out.same hSw)).mono fun _ _ ⟨he,ho⟩=>⟨he,hSw.same ho⟩)
    try simp only[Act.put,fA,fD,fB,dW,dX,dY]
    iterate 2 refine qV ?_
    refine wpQuiet_nil ?_;(intro w8 hw8;have uH:=zh hw8;clear hw8);cases hb with
    |true=>
     have aot:Hid ((yy.names.take (m+1)).any (fun n=> !(decide (0<=x.find n)&&iC (x.pack (x.find n).toNat).provides yy.virtual))=false):=eY (p:=(fun n=> !(decide (0<=x.find n)&&iC (x.pack (x.find n).toNat).provides yy.virtual))) AV.out HQm.out HHb.out;go_wp2_with fail;go_roundw;case rel=>exact⟨uH,m+1,by first|rfl|go_num,by omega,aot⟩
     case measure=>simp[RowKit.intOf]<;>omega
    |false=>
     obtain rfl:r=false:=by rw[aZ.out];rw[show yy.names.any (fun n=> !(decide (0<=x.find n)&&iC (x.pack (x.find n).toNat).provides yy.virtual))=true from yU.2 ⟨ys,qT AV.out,by rw[HHb.out];rfl⟩];simp
     go_wp2_with fail;go_ret;exact⟨rfl,aV.out.same (aI.out.same uH.out)⟩
   obtain rfl:jo=m:=by omega
   obtain⟨vb,hvb⟩:=ze (x.nZ yy.virtual);have HVt:Hid (∀W,O0 W0 W->Calls Tryz.prog 129 #[.agg #[.slice aP ak aJ,.slice (some ⟨AY,mF,none⟩) aG aH],.string yy.virtual] W fun e w'=>e= .returned (.bool vb)/\O0 W w'):=fun W hW=>by rw[<-hvb];exact xZ (eX.out W hW) zAg yy.virtual
   have HVb:Hid (x.nZ yy.virtual=vb):=hvb;clear hvb;go_wp2_with fail;refine(HVt.out CQ (aI.out.same Lr.out)).mono ?_;rintro e w2 ⟨rfl,O2⟩;have HP2:=zh (Lr.out.same O2);clear O2 HVt;clear k0 k1 d0 d1 d2;obtain⟨k0,k1⟩:=aF.out w2 (aI.out.same HP2.out);obtain⟨d0,d1,d2⟩:=y5.out w2 HP2.out;cases vb with
   |false=>
    obtain rfl:r=false:=by rw[aZ.out];rw[HVb.out];rfl
    exact zF5
   |true=>
    obtain⟨tw,htw⟩:=ze (eu yy.names);have HTw:=zh htw;have HTc:Hid (Calls Tryz.prog 125 #[.slice og jo oh] w2 fun e w'=>e= .returned (.bool (!tw))/\O0 w2 w'):=by rw[<-htw];exact Jc (xH.out w2 (aI.out.same HP2.out))
    clear htw;go_wp2_with fail;refine HTc.out.mono ?_;rintro e w3 ⟨rfl,O3⟩;have kV:=zh (HP2.out.same O3);clear O3;have hn1:(x.fV.take i).any (fun g:xQ=>decide (g.virtual=yy.virtual))=false:=EG.out;have hn2:yy.names.any (fun n=> !(decide (0<=x.find n)&&iC (x.pack (x.find n).toNat).provides yy.virtual))=false:=by have h:=HQm.out;rw[qI (yG Kq.out)]at h;exact h
    cases tw with
    |false=>
     obtain rfl:r=false:=by rw[aZ.out];rw[HTw.out];simp
     exact zF8
    |true=>
     obtain rfl:r=true:=by rw[aZ.out];rw[HVb.out,hn1,hn2,HTw.out];rfl
     exact zF8
end
end Go.Proofs.YtdmmebjjojimiaaGreatDoor
namespace Go.Proofs
theorem zAZ{p:Prop}(h:p:=by(intro w hSw;obtain⟨k0,k1⟩:=aF.out w (aI.out.same hSw);have oK:=(Ho.out w (aI.out.same hSw)).1;have Xh:=oK 0 _ rfl;have gv1:=oK 1 _ rfl;have gv2:=oK 2 _ rfl;have gv3:=oK 3 _ rfl;have gv4:=oK 4 _ rfl;have gv5:=oK 5 _ rfl;have gv6:=oK 6 _ rfl;have gv7:=oK 7 _ rfl;rw[qF]at Xh;go_simp<;>(try with_reducible rfl))):p:=h
theorem zBt{p:Prop}(h:p:=by first|exact qL _ _| (have hb:=qL gV.drew (.cells #[.int .u8 0,.int .i64 0] 43);exact aA hb o5 (fun f=>f))):p:=h
theorem zDf{p:Prop}(h:p:=by
 have OC:Hid (∀V,O0 W3 V->V.cell? ⟨g,0,none⟩=some (.int .u8 c)/\V.cell? ⟨g,1,none⟩=some (.int .i64 l)):=fun V ho=>by
  have b1:=aA hg3 ho (fun f=>f)
  exact⟨by rw[aj b1];rfl,by rw[aj b1];rfl⟩
 clear ho3 hg3 hHeld
 obtain⟨r0,r1⟩:=OC.out W3 zr
 obtain⟨k0,k1⟩:=aF.out W3 (aI.out.same kV.out)
 by_cases c0:c=0
 ·subst c0
  have ajx:Hid (∀p∈x.packs.take (j+1),(jE x p).1=0):=fun p hp=>by
   rcases bH Yb.out hp with h|rfl
   ·exact HZb.out p h
   ·rw[HCL.out]
  go_wp2_with fail
  go_roundw
  case rel=>exact⟨kV,j+1,by first|rfl|go_num,by omega,ajx⟩
  case measure=>simp[RowKit.intOf]<;>omega
 ·have c1:((c:Int)==0)=false:=by rw[yC];exact c0
  have uI:Hid (x.okB=false):=Ot (qT Yb.out) (by rw[HCL.out];exact c0)
  go_wp2_with (refine wpList_store_row rfl 43 (.tmp 2) (.tmp 64) rfl (w.heap.size+1) #[.int .u8 c,.int .i64 l] rfl rfl 43 #[.int .u8 0,.int .i64 0] (oG.out W3 kV.out) zk rfl zk ?_)
  refine dS (p:=2) rfl rfl rfl rfl (setRow_heap _ _ _ _ _ _ (oG.out W3 kV.out)) ?_
  exact iL.mk _ _ rfl zCs ((aV.out.same (aI.out.same kV.out)).trans (aK _ _ _) (fun k hk=>.inr zAA))):p:=h
end Go.Proofs
namespace Go.Proofs.YtdmmebjjojimiaaGreatDoor
open Go.RowKit
section
variable {w w':World} {B:Nat}
attribute [local irreducible] wpQuiet
theorem abT{lC:List Value}{x:aQ}(hx:fO B w lC x)(hlen:x.packs.length<=1000000):Calls Tryz.prog 13 #[.agg lC.toArray] w fun e w'=>iL x.okB w w' e:=by
 obtain⟨aP,ak,aJ,aO,aG,aH,rfl,fF,fG,dP,dQ,aB,bJ,mY⟩:=open_rec hx;clear hx;try rw[aB.out]
 obtain⟨W0,hW0,aV,jK,aF⟩:=LW w (.slice aP ak aJ) (.slice aO aG aH) 25;obtain⟨eX,bK,bT⟩:=mY W0 aV.out;clear mY;rw[aB.out]at hlen;obtain⟨W1,hW1⟩:=zB (W0.alloc (.cells #[.int .u8 0,.int .i64 0] 43));have aI:Hid (O0 W0 W1):=zB1;have oG:Hid (∀W,O0 W1 W->W.heap[w.heap.size+1]? =some (.cells #[.int .u8 0,.int .i64 0] 43)):=fun W ho=>by have b0:W1.heap[w.heap.size+1]? =some (.cells #[.int .u8 0,.int .i64 0] 43):=zBg;exact zEG
 have wZ:Hid (O0 W1 W1):=Only.refl _ _;by_cases q1:24<ak
 ·obtain⟨yy,hxy⟩:=zG x.packs 24 zAt;obtain⟨AY,mF,og,jo,oh,sO,sQ,sS,xE,uT,xG,yc,uG,yg,EN,AZ,EO,CV,zA,CW,oq,kF,nP,rQ,qB,uU,uV,yh,Ef,je⟩:=jy (bK.out W0 zr) hxy;first|subst oq| (simp only[qG,qO,and_true]at oq;obtain⟨rfl,rfl⟩:=oq)
  have Kq:=zh kF;have Ny2:=zh nP;have Ny3:=zh rQ;have Ny4:=zh qB;have Ny5:=zh uU;have Ny6:=zh uV;have jq:=zh je;have xR:=zh hxy;clear je hxy kF nP rQ qB uU uV;have xH:Hid (∀W,O0 W0 W->aS 2 pR B W (.slice og jo oh) yy.jc):=fun W ho=>(jq.out W ho).2.1;have IB:Hid (∀W,O0 W0 W->aS 2 l9 B W (.slice sO sQ sS) yy.vars):=fun W ho=>(jq.out W ho).2.2.1;have UJ:Hid (∀W,O0 W0 W->aS 1 bU B W (.slice xE uT xG) yy.provides):=fun W ho=>(jq.out W ho).2.2.2.1;have Qs:Hid (∀W,O0 W0 W->aS 7 wz B W (.slice yc uG yg) yy.deps):=fun W ho=>(jq.out W ho).2.2.2.2.1;have ajh:Hid (∀W,O0 W0 W->aS 7 vO B W (.slice EN AZ EO) yy.cons):=fun W ho=>(jq.out W ho).2.2.2.2.2.1;have Y5:Hid (∀W,O0 W0 W->aS 1 bU B W (.slice CV zA CW) yy.files):=fun W ho=>(jq.out W ho).2.2.2.2.2.2.1;have Z7:Hid (∀W,O0 W0 W->gY B W [.string yy.name,.int .i64 yy.line,.slice og jo oh,.slice sO sQ sS,.slice xE uT xG,.slice yc uG yg,.slice EN AZ EO,.slice CV zA CW] yy):=fun W ho=>(jq.out W ho).2.2.2.2.2.2.2;have fJ:=(jq.out W1 aI.out).1;have Qr:=fJ 1 _ rfl;clear fJ;obtain⟨k0,k1⟩:=aF.out W1 (aI.out.same wZ.out);have hz:=oG.out W1 wZ.out;rw[hW1,hW0]at Qr k0 k1 hz;go_enter Tryz.func13,Tryz.ntmps13;go_wp2_with (refine wpList_store_row rfl 43 (.tmp 2) (.tmp 17) rfl (w.heap.size+1) #[.int .u8 1,.int .i64 yy.line] rfl rfl 43 #[.int .u8 0,.int .i64 0] hz zk rfl zk ?_);refine dS (p:=2) rfl rfl rfl rfl (setRow_heap _ _ _ _ _ _ hz) ?_;rw[<-hW0,<-hW1];exact zFx
 by_cases q2:8<aG
 ·obtain⟨yz,hxz⟩:=zG x.fV 8 zBW;obtain⟨JD,vP,vW,vX,vY,qc,wC,AX,NC,jM⟩:=zl (bT.out W0 zr) hxz;first|subst qc| (simp only[qG,qO,and_true]at qc;obtain⟨rfl,rfl⟩:=qc)
  have jd:=zh jM;clear jM hxz wC;have hrz:=(jd.out W1 aI.out).1;have gz2:=hrz 2 _ rfl;clear hrz;obtain⟨k0,k1⟩:=aF.out W1 (aI.out.same wZ.out);have hz:=oG.out W1 wZ.out;rw[hW1,hW0]at gz2 k0 k1 hz;go_enter Tryz.func13,Tryz.ntmps13;go_wp2_with (refine wpList_store_row rfl 43 (.tmp 2) (.tmp 27) rfl (w.heap.size+1) #[.int .u8 1,.int .i64 yz.line] rfl rfl 43 #[.int .u8 0,.int .i64 0] hz zk rfl zk ?_);refine dS (p:=2) rfl rfl rfl rfl (setRow_heap _ _ _ _ _ _ hz) ?_;rw[<-hW0,<-hW1];exact zFw
 go_enter Tryz.func13,Tryz.ntmps13;go_wp2_with fail;rw[<-hW0,<-hW1];clear hW0 hW1;have fQ:=wZ;go_loopw [31] (fun vi bD=>Hid (O0 W1 bD)/\∃i:Nat,vi= .int .i64 i/\i<=ak/\Hid (∀k,k<i->x.ou k=true)) (fun v _=>ak-(RowKit.intOf v).toNat);case atStart=>exact⟨fQ,0,rfl,qE _,show Hid _ from fun k hk=>by omega⟩
 case round=>
  obtain⟨bD,rfl⟩:=zB wr;clear fQ;obtain⟨jD,i,rfl,hi,HZ⟩:=hrel;obtain⟨k0,k1⟩:=aF.out bD (aI.out.same jD.out);by_cases ci:i<ak
  ·have iE:=zw (i+1);have HAl:=zh (aeG (eX.out bD (aI.out.same jD.out)) zAg zC1);go_wp2_with fail;refine HAl.out.mono ?_;rintro e w2 ⟨c,rfl,hcr,hcf,O2⟩;have HP2:=zh (jD.out.same O2);clear O2 HAl k0 k1;obtain⟨k0,k1⟩:=aF.out w2 (aI.out.same HP2.out);by_cases c0:c=0
   ·subst c0;have hok:x.ou i=true:=by rw[<-hcf];rfl
    have HZ2:Hid (∀k,k<i+1->x.ou k=true):=fun k hk=>by
     rcases yK k i with h|h;·exact HZ.out k h
     obtain rfl:k=i:=by omega
     exact hok
    clear hcf hok;go_wp2_with fail;go_roundw;case rel=>exact⟨HP2,i+1,by first|rfl|go_num,by omega,HZ2⟩
    case measure=>simp[RowKit.intOf]<;>omega
   have c1:((c:Int)==0)=false:=by rw[yC];exact c0
   have uI:Hid (x.okB=false):=WV (i:=i) zC1 (by rw[<-hcf];exact qP c0);clear hcf;obtain⟨yy,hxy⟩:=zG x.packs i zAt;obtain⟨AY,mF,og,jo,oh,sO,sQ,sS,xE,uT,xG,yc,uG,yg,EN,AZ,EO,CV,zA,CW,oq,kF,nP,rQ,qB,uU,uV,yh,Ef,je⟩:=jy (bK.out W0 zr) hxy;first|subst oq| (simp only[qG,qO,and_true]at oq;obtain⟨rfl,rfl⟩:=oq)
   have Kq:=zh kF;have Ny2:=zh nP;have Ny3:=zh rQ;have Ny4:=zh qB;have Ny5:=zh uU;have Ny6:=zh uV;have jq:=zh je;have xR:=zh hxy;clear je hxy kF nP rQ qB uU uV;have xH:Hid (∀W,O0 W0 W->aS 2 pR B W (.slice og jo oh) yy.jc):=fun W ho=>(jq.out W ho).2.1;have IB:Hid (∀W,O0 W0 W->aS 2 l9 B W (.slice sO sQ sS) yy.vars):=fun W ho=>(jq.out W ho).2.2.1;have UJ:Hid (∀W,O0 W0 W->aS 1 bU B W (.slice xE uT xG) yy.provides):=fun W ho=>(jq.out W ho).2.2.2.1;have Qs:Hid (∀W,O0 W0 W->aS 7 wz B W (.slice yc uG yg) yy.deps):=fun W ho=>(jq.out W ho).2.2.2.2.1;have ajh:Hid (∀W,O0 W0 W->aS 7 vO B W (.slice EN AZ EO) yy.cons):=fun W ho=>(jq.out W ho).2.2.2.2.2.1;have Y5:Hid (∀W,O0 W0 W->aS 1 bU B W (.slice CV zA CW) yy.files):=fun W ho=>(jq.out W ho).2.2.2.2.2.2.1;have Z7:Hid (∀W,O0 W0 W->gY B W [.string yy.name,.int .i64 yy.line,.slice og jo oh,.slice sO sQ sS,.slice xE uT xG,.slice yc uG yg,.slice EN AZ EO,.slice CV zA CW] yy):=fun W ho=>(jq.out W ho).2.2.2.2.2.2.2;have fJ:=(jq.out w2 (aI.out.same HP2.out)).1;have Qr:=fJ 1 _ rfl;clear fJ;go_wp2_with (refine wpList_store_row rfl 43 (.tmp 2) (.tmp 46) rfl (w.heap.size+1) #[.int .u8 c,.int .i64 yy.line] rfl rfl 43 #[.int .u8 0,.int .i64 0] (oG.out w2 HP2.out) zk rfl zk ?_);refine dS (p:=2) rfl rfl rfl rfl (setRow_heap _ _ _ _ _ _ (oG.out w2 HP2.out)) ?_;exact iL.mk _ _ rfl zCs ((aV.out.same (aI.out.same HP2.out)).trans (aK _ _ _) (fun k hk=>.inr zAA))
  obtain rfl:ak=i:=by omega
  have fQ:=jD;go_wp2_with fail;clear k0 k1;go_loopw [51] (fun vj gV=>Hid (O0 W1 gV)/\∃j:Nat,vj= .int .i64 j/\j<=ak/\Hid (∀p∈x.packs.take j,(jE x p).1=0)) (fun v _=>ak-(RowKit.intOf v).toNat);case atStart=>exact⟨fQ,0,rfl,qE _,show Hid _ from fun v hv=>by simp at hv⟩
  case round=>
   obtain⟨gV,rfl⟩:=zB wr;clear fQ;obtain⟨CY,j,rfl,hj,HZb⟩:=hrel;obtain⟨k0,k1⟩:=aF.out gV (aI.out.same CY.out);by_cases cj:j<ak
   ·have iE:=zw (j+1);obtain⟨yv,hxv⟩:=zG x.packs j zAt;obtain⟨bkv,UK,Y6,UL,Y7,av2,nv2,cv2,av3,nv3,cv3,av4,nv4,cv4,av5,nv5,cv5,av6,nv6,cv6,hev,WX,aee,aef,aeg,aeh,aei,aji,inv1,I9⟩:=jy (bK.out W0 zr) hxv;first|subst hev| (simp only[qG,qO,and_true]at hev;obtain⟨rfl,rfl⟩:=hev)
    have Ho:=zh I9;have Yb:=zh hxv;clear I9 hxv WX aee aef aeg aeh aei;have HCv:Hid (∀W,O0 W0 W->gY B W [.string yv.name,.int .i64 yv.line,.slice Y6 UL Y7,.slice av2 nv2 cv2,.slice av3 nv3 cv3,.slice av4 nv4 cv4,.slice av5 nv5 cv5,.slice av6 nv6 cv6] yv):=fun W ho=>(Ho.out W ho).2.2.2.2.2.2.2;obtain⟨c,l,hcl⟩:∃c l:Int,jE x yv=(c,l):=⟨_,_,rfl⟩;have HRl:Hid (∀W,O0 W1 W->Calls Tryz.prog 54 #[.agg #[.slice (some ⟨bkv,UK,none⟩) ak aJ,.slice aO aG aH],.agg #[.string yv.name,.int .i64 yv.line,.slice Y6 UL Y7,.slice av2 nv2 cv2,.slice av3 nv3 cv3,.slice av4 nv4 cv4,.slice av5 nv5 cv5,.slice av6 nv6 cv6]] W fun e w'=>e= .returned (.agg #[.int .u8 c,.int .i64 l])/\O0 W w'):=fun W hW=>by have:=Yq (eX.out W (aI.out.same hW)) (HCv.out W (aI.out.same hW)) zAg;rw[hcl]at this;exact this
    have HCL:Hid (jE x yv=(c,l)):=hcl;clear hcl;go_wp2_with fail;clear k0 k1;refine dn (n:=9) (E:=fun k=>k=8) (S:=fun W=>O0 W1 W) zk rfl (by exact CY.out.drew) (fun hHeld=>?_);refine tK 0 ?_ (hy:=zAZ);refine tW 1 ?_;refine tK 2 ?_ (hy:=zAZ);refine tW 3 ?_;refine tW 4 ?_;refine tK 5 ?_ (hy:=zAZ);refine dN (rs:=[6,7]) zk zAP ?_;refine bI.cons (i:=6) rfl (fun K hK=>?_) ?_
    ·(go_simp;refine(HRl.out _ hHeld).mono ?_;rintro e w5 ⟨rfl,o5⟩;try go_wp2_with fail);refine hK.out _ _ ?_ (fun hHeld=>?_);·exact zD8
     clear hK K;try simp only[Act.put,fA,fD,fB,dW,dX,dY]
     refine tO 7 fun K hK=>?_;go_simp;refine hK.out _ _ ?_ (fun hHeld=>?_);·(try dsimp only)<;>(exact hHeld.alloc _)
     clear hK K;try simp only[Act.put,fA,fD,fB,dW,dX,dY]
     refine dN (rs:=[8]) zk zAP ?_;refine bI.late (i:=8) rfl zk (fun K hK=>?_) ?_
     ·(rw[if_pos zk];refine mG 43 (.tmp 6) (.tmp 60) rfl _ #[.int .u8 c,.int .i64 l] rfl rfl 43 #[.int .u8 0,.int .i64 0] zBt zk rfl zk ?_;intro W3 hg3 ho3);refine hK.out _ _ ?_;clear hK K;try simp only[Act.put,fA,fD,fB,dW,dX,dY]
      refine bV zk ?_ _;generalize hgg:w5.heap.size=g at*;have kV:Hid (O0 W1 W3):=hHeld.trans ho3 (fun k hk=>.inr (by have:=((‹O0 W1 w5› :O0 W1 w5)).size;(try simp at hgg);omega));exact zDf
     exact bI.nil
    refine bI.cons (i:=7) rfl (fun K hK=>?_) ?_
    ·go_simp;refine hK.out _ _ ?_ (fun hHeld=>?_);·(try dsimp only)<;>(exact hHeld.alloc _)
     clear hK K;try simp only[Act.put,fA,fD,fB,dW,dX,dY]
     refine tO 6 fun K hK=>?_;(go_simp;refine(HRl.out _ hHeld).mono ?_;rintro e w5 ⟨rfl,o5⟩;try go_wp2_with fail);refine hK.out _ _ ?_ (fun hHeld=>?_);·exact zD8
     clear hK K;try simp only[Act.put,fA,fD,fB,dW,dX,dY]
     refine dN (rs:=[8]) zk zAP ?_;refine bI.late (i:=8) rfl zk (fun K hK=>?_) ?_
     ·(rw[if_pos zk];refine mG 43 (.tmp 6) (.tmp 60) rfl _ #[.int .u8 c,.int .i64 l] rfl rfl 43 #[.int .u8 0,.int .i64 0] zBt zk rfl zk ?_;intro W3 hg3 ho3);refine hK.out _ _ ?_;clear hK K;try simp only[Act.put,fA,fD,fB,dW,dX,dY]
      refine bV zk ?_ _;generalize hgg:gV.heap.size=g at*;have kV:Hid (O0 W1 W3):=hHeld.trans ho3 (fun k hk=>.inr (by have:=(CY.out).size;(try simp at hgg);omega));exact zDf
     exact bI.nil
    exact bI.nil
   obtain rfl:ak=j:=by omega
   have aou:Hid (∀p∈x.packs,(jE x p).1=0):=fun d hd=>HZb.out d (by
    rw[qI (yG aB.out)]
    exact hd)
   have fQ:=CY;go_wp2_with fail;clear k0 k1;go_loopw [69] (fun vm CQ=>Hid (O0 W1 CQ)/\∃m:Nat,vm= .int .i64 m/\m<=aG/\Hid (∀k,k<m->x.wY k=true)) (fun v _=>aG-(RowKit.intOf v).toNat);case atStart=>exact⟨fQ,0,rfl,qE _,show Hid _ from fun k hk=>by omega⟩
   case round=>
    obtain⟨CQ,rfl⟩:=zB wr;clear fQ;obtain⟨Lr,m,rfl,hm,HZm⟩:=hrel;obtain⟨k0,k1⟩:=aF.out CQ (aI.out.same Lr.out);by_cases cm:m<aG
    ·have iE:=zw (m+1);have HPf:=zh (abS (eX.out CQ (aI.out.same Lr.out)) zAg zC0);obtain⟨bb,hbb⟩:=ze (x.wY m);have D6:=zh hbb;rw[hbb]at HPf;clear hbb;go_wp2_with fail;refine HPf.out.mono ?_;rintro e w2 ⟨rfl,O2⟩;have HP2:=zh (Lr.out.same O2);clear O2 HPf k0 k1;obtain⟨k0,k1⟩:=aF.out w2 (aI.out.same HP2.out);cases bb with
     |true=>
      have aov:Hid (∀k,k<m+1->x.wY k=true):=fun k hk=>by exact zGp
      go_wp2_with fail;go_roundw;case rel=>exact⟨HP2,m+1,by first|rfl|go_num,by omega,aov⟩
      case measure=>simp[RowKit.intOf]<;>omega
     |false=>
      have uI:Hid (x.okB=false):=WW (i:=m) zC0 D6.out;obtain⟨yf,hxf⟩:=zG x.fV m zBW;obtain⟨bkf,ajk,af1,nf1,cf1,hef,ajl,aod,aoe,aek⟩:=zl (bT.out W0 zr) hxf;first|subst hef| (simp only[qG,qO,and_true]at hef;obtain⟨rfl,rfl⟩:=hef)
      have HEf:=zh aek;clear aek hxf ajl;have hrf:=(HEf.out w2 (aI.out.same HP2.out)).1;have gf2:=hrf 2 _ rfl;clear hrf;go_wp2_with (refine wpList_store_row rfl 43 (.tmp 2) (.tmp 82) rfl (w.heap.size+1) #[.int .u8 10,.int .i64 yf.line] rfl rfl 43 #[.int .u8 0,.int .i64 0] (oG.out w2 HP2.out) zk rfl zk ?_);refine dS (p:=2) rfl rfl rfl rfl (setRow_heap _ _ _ _ _ _ (oG.out w2 HP2.out)) ?_;exact iL.mk _ _ rfl (by rw[uI.out];rfl) ((aV.out.same (aI.out.same HP2.out)).trans (aK _ _ _) (fun k hk=>.inr zAA))
    obtain rfl:aG=m:=by omega
    have Fb:Hid (x.okB=true):=aay zAt (by rw[bJ.out];omega) (fun k hk=>HZ.out k (by rw[aB.out]at hk;exact hk)) aou.out (fun k hk=>HZm.out k (by rw[bJ.out]at hk;exact hk));go_wp2_with (refine wpList_store_row rfl 43 (.tmp 2) (.tmp 84) rfl (w.heap.size+1) #[.int .u8 0,.int .i64 0] rfl rfl 43 #[.int .u8 0,.int .i64 0] (oG.out CQ Lr.out) zk rfl zk ?_);exact zFY
end
end Go.Proofs.YtdmmebjjojimiaaGreatDoor
namespace Go.Proofs
theorem zAj{p:Prop}(h:p:=by(intro w hSw;(try dsimp only at hSw);obtain⟨k0,k1,k2⟩:=aF.out w (aI.out.same hSw);have fJ:=(jq.out w (aI.out.same hSw)).1;have Bv:=fJ 0 _ rfl;have Qr:=fJ 1 _ rfl;have gy2:=fJ 2 _ rfl;rw[qF]at Bv;clear fJ;go_simp<;>(try with_reducible rfl))):p:=h
end Go.Proofs
namespace Go.Proofs.YtdmmebjjojimiaaGreatDoor
open Go.RowKit
section
variable {w w':World} {B:Nat}
attribute [local irreducible] wpQuiet
theorem Zd{lC:List Value}{x:aQ}(hx:fO B w lC x){Ba:List Value}{q:dD}(hq:mg B w Ba q)(hlen:x.packs.length<=1000000):Calls Tryz.prog 14 #[.agg lC.toArray,.agg Ba.toArray] w fun e w'=>iL (q.okB x) w w' e:=by
 obtain⟨aP,ak,aJ,aO,aG,aH,rfl,fF,fG,dP,dQ,aB,bJ,mY⟩:=open_rec hx;clear hx;try rw[aB.out]
 obtain⟨dw,aY,dA,rfl,oU,oV,bQ,E8⟩:=lM hq;clear hq;try rw[bQ.out]
 obtain⟨W0,hW0,aV,jK,aF⟩:=G9 w (.slice aP ak aJ) (.slice aO aG aH) (.slice dw aY dA) 25 28;obtain⟨eX,bK,bT⟩:=mY W0 aV.out;clear mY;obtain⟨zL,gu⟩:=E8 W0 aV.out;clear E8;rw[aB.out]at hlen;obtain⟨W1,hW1⟩:=zB (W0.alloc (.cells #[.int .u8 0,.int .i64 0] 43));have aI:Hid (O0 W0 W1):=zB1;have oG:Hid (∀W,O0 W1 W->W.heap[w.heap.size+2]? =some (.cells #[.int .u8 0,.int .i64 0] 43)):=fun W ho=>by exact zGm
 have wZ:Hid (O0 W1 W1):=Only.refl _ _;by_cases z1:aY=0;·subst z1;obtain⟨k0,k1,k2⟩:=aF.out W1 (aI.out.same wZ.out);have hz:=oG.out W1 wZ.out;rw[hW1,hW0]at k0 k1 k2 hz;go_enter Tryz.func14,Tryz.ntmps14;go_wp2_with (refine wpList_store_row rfl 43 (.tmp 4) (.tmp 11) rfl (w.heap.size+2) #[.int .u8 11,.int .i64 0] rfl rfl 43 #[.int .u8 0,.int .i64 0] hz zk rfl zk ?_);refine dS (p:=4) rfl rfl rfl rfl (setRow_heap _ _ _ _ _ _ hz) ?_;rw[<-hW0,<-hW1];exact zF7
 have z3:((aY:Int)==0)=false:=by rw[yC];omega
 by_cases q1:8<aY
 ·obtain⟨yy,hxy⟩:=zG q.roots 8 zBE;obtain⟨AY,mF,og,jo,oh,sO,sQ,sS,oq,kF,nP,yh,Ef,je⟩:=pU (gu.out W0 zr) hxy;first|subst oq| (simp only[qG,qO,and_true]at oq;obtain⟨rfl,rfl⟩:=oq)
  have Kq:=zh kF;have Ny2:=zh nP;have jq:=zh je;have xR:=zh hxy;clear je hxy kF nP;have xH:Hid (∀W,O0 W0 W->aS 2 fE B W (.slice og jo oh) yy.spec.spans):=fun W ho=>(jq.out W ho).2.1;have IB:Hid (∀W,O0 W0 W->aS 2 dO B W (.slice sO sQ sS) yy.spec.sets):=fun W ho=>(jq.out W ho).2.2.1;have Z7:Hid (∀W,O0 W0 W->mM B W [.string yy.spec.name,.slice og jo oh,.slice sO sQ sS,.int .i64 yy.line] yy):=fun W ho=>(jq.out W ho).2.2.2;have fJ:=(jq.out W1 aI.out).1;have gy3:=fJ 3 _ rfl;clear fJ;obtain⟨k0,k1,k2⟩:=aF.out W1 (aI.out.same wZ.out);have hz:=oG.out W1 wZ.out;rw[hW1,hW0]at k0 k1 k2 hz gy3;go_enter Tryz.func14,Tryz.ntmps14;go_wp2_with (refine wpList_store_row rfl 43 (.tmp 4) (.tmp 21) rfl (w.heap.size+2) #[.int .u8 1,.int .i64 yy.line] rfl rfl 43 #[.int .u8 0,.int .i64 0] hz zk rfl zk ?_);refine dS (p:=4) rfl rfl rfl rfl (setRow_heap _ _ _ _ _ _ hz) ?_;rw[<-hW0,<-hW1];exact zGi
 go_enter Tryz.func14,Tryz.ntmps14;go_wp2_with fail;rw[<-hW0,<-hW1];clear hW0 hW1;have fQ:=wZ;go_loopw [25] (fun vi bD=>Hid (O0 W1 bD)/\∃i:Nat,vi= .int .i64 i/\i<=aY/\Hid (∀r∈q.roots.take i,x.wish r.spec=0)) (fun v _=>aY-(RowKit.intOf v).toNat);case atStart=>exact⟨fQ,0,rfl,qE _,show Hid _ from fun v hv=>by simp at hv⟩
 case round=>
  obtain⟨bD,rfl⟩:=zB wr;clear fQ;obtain⟨jD,i,rfl,hi,HZ⟩:=hrel;obtain⟨k0,k1,k2⟩:=aF.out bD (aI.out.same jD.out);by_cases ci:i<aY
  ·have iE:=zw (i+1);obtain⟨yy,hxy⟩:=zG q.roots i zBE;obtain⟨AY,mF,og,jo,oh,sO,sQ,sS,oq,kF,nP,yh,Ef,je⟩:=pU (gu.out W0 zr) hxy;first|subst oq| (simp only[qG,qO,and_true]at oq;obtain⟨rfl,rfl⟩:=oq)
   have Kq:=zh kF;have Ny2:=zh nP;have jq:=zh je;have xR:=zh hxy;clear je hxy kF nP;have xH:Hid (∀W,O0 W0 W->aS 2 fE B W (.slice og jo oh) yy.spec.spans):=fun W ho=>(jq.out W ho).2.1;have IB:Hid (∀W,O0 W0 W->aS 2 dO B W (.slice sO sQ sS) yy.spec.sets):=fun W ho=>(jq.out W ho).2.2.1;have Z7:Hid (∀W,O0 W0 W->mM B W [.string yy.spec.name,.slice og jo oh,.slice sO sQ sS,.int .i64 yy.line] yy):=fun W ho=>(jq.out W ho).2.2.2;obtain⟨c,hc⟩:=ze (x.wish yy.spec);have HWs:Hid (∀W,O0 W1 W->Calls Tryz.prog 56 #[.agg #[.slice aP ak aJ,.slice aO aG aH],.agg #[.string yy.spec.name,.slice og jo oh,.slice sO sQ sS]] W fun e w'=>e= .returned (.int .u8 c)/\O0 W w'):=fun W hW=>by rw[<-hc];exact Ns (eX.out W (aI.out.same hW)) (⟨_,_,rfl,yh,xH.out W (aI.out.same hW),IB.out W (aI.out.same hW)⟩:dJ B W [.string yy.spec.name,.slice og jo oh,.slice sO sQ sS] yy.spec) zAg
   have HC:Hid (x.wish yy.spec=c):=hc;clear hc;go_wp2_with fail;clear k0 k1 k2;refine aU (fun w'=>O0 W1 w') zk zk (by exact(jD.out).drew) ?_;refine qV ?_ (hy:=zAj);refine qV ?_;refine qV ?_ (hy:=zAj);iterate 3 refine qV ?_
   refine qV ?_ (hy:=zAj);refine bF (v:=.int .u8 c) (f:=56) (args:= #[.agg #[.slice aP ak aJ,.slice aO aG aH],.agg #[.string yy.spec.name,.slice og jo oh,.slice sO sQ sS]]) (by rfl) ?_ ?_ ?_;·exact zDQ
   ·(intro w hSw;exact(HWs.out w hSw).mono fun _ _ ⟨he,ho⟩=>⟨he,hSw.same ho⟩)
   try simp only[Act.put,fA,fD,fB,dW,dX,dY]
   refine qV ?_;refine wpQuiet_nil ?_;(intro w9 dR;have fK:=zh dR;clear dR);have jZ:=fK;obtain⟨k0,k1,k2⟩:=aF.out w9 (aI.out.same jZ.out);by_cases c0:c=0
   ·subst c0;have HZ2:Hid (∀r∈q.roots.take (i+1),x.wish r.spec=0):=fun r hr=>by
     rcases bH xR.out hr with h|rfl;·exact HZ.out r h
     exact HC.out
    go_wp2_with fail;go_roundw;case rel=>exact⟨jZ,i+1,by first|rfl|go_num,by omega,HZ2⟩
    case measure=>simp[RowKit.intOf]<;>omega
   have c1:((c:Int)==0)=false:=by rw[yC];exact c0
   have uI:Hid (q.okB x=false):=aaz (qT xR.out) (by rw[HC.out];exact c0);have fJ:=(jq.out w9 (aI.out.same jZ.out)).1;have gy3:=fJ 3 _ rfl;clear fJ;go_wp2_with (refine wpList_store_row rfl 43 (.tmp 4) (.tmp 45) rfl (w.heap.size+2) #[.int .u8 c,.int .i64 yy.line] rfl rfl 43 #[.int .u8 0,.int .i64 0] (oG.out w9 jZ.out) zk rfl zk ?_);refine dS (p:=4) rfl rfl rfl rfl (setRow_heap _ _ _ _ _ _ (oG.out w9 jZ.out)) ?_;exact zGh
  obtain rfl:aY=i:=by omega
  have Fb:Hid (q.okB x=true):=aaA (by rw[bQ.out];omega) zBE (fun r hr=>HZ.out r (by
   rw[qI (yG bQ.out)]
   exact hr))
  go_wp2_with (refine wpList_store_row rfl 43 (.tmp 4) (.tmp 47) rfl (w.heap.size+2) #[.int .u8 0,.int .i64 0] rfl rfl 43 #[.int .u8 0,.int .i64 0] (oG.out bD jD.out) zk rfl zk ?_);exact zFX
end
end Go.Proofs.YtdmmebjjojimiaaGreatDoor
namespace Go.Proofs.YtdmmebjjojimiaaGreatDoor
theorem OD{a b:List UInt8}(h:¬b<a)(hn:a≠b):a<b:=by
 by_cases hc:a<b;·exact hc
 exact absurd (List.le_antisymm (show a<=b from h) (show b<=a from hc)) hn
theorem SB{x:aQ}(h:x.okB=true){p:Nat}(hp:p<x.packs.length):x.find (x.pack p).name=p:=by unfold aQ.okB at h;simp only[Bool.and_eq_true,List.all_eq_true,yI]at h;have h1:=h.1.1.2 p hp;unfold aQ.ou at h1;simp only[Bool.and_eq_true,yP]at h1;exact h1.1.1.1.1.1.1.1
end Go.Proofs.YtdmmebjjojimiaaGreatDoor
