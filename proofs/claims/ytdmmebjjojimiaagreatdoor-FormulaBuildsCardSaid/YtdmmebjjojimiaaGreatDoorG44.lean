/- The document's checks, exact: Recipe. Printed by gen_rx4.py.; The document's checks, exact: Request. Printed by gen_rx5.py. -/
import Derived.Test.YtdmmebjjojimiaaGreatDoorG43
import Derived.Test.YtdmmebjjojimiaaGreatDoorG42
set_option maxRecDepth 100000
set_option maxHeartbeats 8000000
set_option linter.all false
namespace Go.Proofs
theorem zAL{p:Prop}(h:p:=by(intro w hSw;obtain⟨k0,k1⟩:=aU.out w (aW.out.same hSw);have xU:=(HEv.out w (aW.out.same hSw)).1;have gv0:=xU 0 _ rfl;have gv1:=xU 1 _ rfl;have gv2:=xU 2 _ rfl;have gv3:=xU 3 _ rfl;have gv4:=xU 4 _ rfl;have gv5:=xU 5 _ rfl;have gv6:=xU 6 _ rfl;have gv7:=xU 7 _ rfl;rw[qF]at gv0;go_simp<;>(try with_reducible rfl))):p:=h
theorem zAx{p:Prop}(h:p:=by first|exact qL _ _| (have hb:=qL iJ.drew (.cells #[.int .u8 0,.int .i64 0] 43);exact aC hb o5 (fun f=>f))):p:=h
theorem zB4{p:Prop}(h:p:=by
 have HBr:Hid (∀V,O0 W3 V->V.cell? ⟨g,0,none⟩=some (.int .u8 c)/\V.cell? ⟨g,1,none⟩=some (.int .i64 l)):=fun V ho=>by
  have b1:=aC hg3 ho (fun f=>f)
  exact⟨by rw[aj b1];rfl,by rw[aj b1];rfl⟩
 clear ho3 hg3 hHeld
 obtain⟨r0,r1⟩:=HBr.out W3 zr
 obtain⟨k0,k1⟩:=aU.out W3 (aW.out.same rH.out)
 by_cases c0:c=0
 ·subst c0
  have ajB:Hid (∀p∈x.packs.take (j+1),(iU x p).1=0):=fun p hp=>by
   rcases bH HXv.out hp with h|rfl
   ·exact XD.out p h
   ·rw[HCL.out]
  go_wp2_with fail
  go_roundw
  case rel=>exact⟨rH,j+1,by first|rfl|go_num,by omega,ajB⟩
  case measure=>simp[RowKit.intOf]<;>omega
 ·have c1:((c:Int)==0)=false:=by rw[yC];exact c0
  have Cj:Hid (x.okB=false):=Me (qT HXv.out) (by rw[HCL.out];exact c0)
  go_wp2_with (refine wpList_store_row rfl 43 (.tmp 2) (.tmp 64) rfl (w.heap.size+1) #[.int .u8 c,.int .i64 l] rfl rfl 43 #[.int .u8 0,.int .i64 0] (lG.out W3 rH.out) zk rfl zk ?_)
  refine dn (p:=2) rfl rfl rfl rfl (setRow_heap _ _ _ _ _ _ (lG.out W3 rH.out)) ?_
  exact iE.mk _ _ rfl zBb ((bM.out.same (aW.out.same rH.out)).trans (aP _ _ _) (fun k hk=>.inr zAB))):p:=h
end Go.Proofs
namespace Go.Proofs.YtdmmebjjojimiaaGreatDoor
open Go.RowKit
section
variable {w w':World} {B:Nat}
attribute [local irreducible] wpQuiet
theorem Iy{pR:List Value}{x:aF}(hx:gy B w pR x)(hlen:x.packs.length<=1000000):Calls Tryz.prog 13 #[.agg pR.toArray] w fun e w'=>iE x.okB w w' e:=by
 obtain⟨aV,ak,aS,aT,aK,aO,rfl,fV,fZ,dQ,dR,aB,bJ,qo⟩:=open_rec hx;clear hx;try rw[aB.out]
 obtain⟨W0,hW0,bM,vC,aU⟩:=Nj w (.slice aV ak aS) (.slice aT aK aO) 25;obtain⟨gI,bK,bT⟩:=qo W0 bM.out;clear qo;rw[aB.out]at hlen;obtain⟨W1,hW1⟩:=zB (W0.alloc (.cells #[.int .u8 0,.int .i64 0] 43));have aW:Hid (O0 W0 W1):=zA3;have lG:Hid (∀W,O0 W1 W->W.heap[w.heap.size+1]? =some (.cells #[.int .u8 0,.int .i64 0] 43)):=fun W ho=>by have b0:W1.heap[w.heap.size+1]? =some (.cells #[.int .u8 0,.int .i64 0] 43):=zAr;exact aC b0 ho (fun f=>f)
 have Dj:Hid (O0 W1 W1):=Only.refl _ _;by_cases q1:24<ak
 ·obtain⟨yy,hxy⟩:=zG x.packs 24 zAV;obtain⟨Ah,kX,lD,iL,lF,pU,pV,pW,vN,rP,vO,wS,uq,wU,Dy,zH,Dz,Au,xq,Aw,nN,jX,ny,sN,sO,wF,wG,yV,Ed,jw⟩:=jH (bK.out W0 zr) hxy;first|subst nN| (simp only[qG,qO,and_true]at nN;obtain⟨rfl,rfl⟩:=nN)
  have Io:=zh jX;have Ny2:=zh ny;have Ny3:=zh sN;have Ny4:=zh sO;have Ny5:=zh wF;have Ny6:=zh wG;have jk:=zh jw;have xO:=zh hxy;clear jw hxy jX ny sN sO wF wG;have uK:Hid (∀W,O0 W0 W->aQ 2 oh B W (.slice lD iL lF) yy.aX):=fun W ho=>(jk.out W ho).2.1;have FH:Hid (∀W,O0 W0 W->aQ 2 jM B W (.slice pU pV pW) yy.vars):=fun W ho=>(jk.out W ho).2.2.1;have RH:Hid (∀W,O0 W0 W->aQ 1 dN B W (.slice vN rP vO) yy.provides):=fun W ho=>(jk.out W ho).2.2.2.1;have WX:Hid (∀W,O0 W0 W->aQ 7 nH B W (.slice wS uq wU) yy.deps):=fun W ho=>(jk.out W ho).2.2.2.2.1;have ajb:Hid (∀W,O0 W0 W->aQ 7 rF B W (.slice Dy zH Dz) yy.cons):=fun W ho=>(jk.out W ho).2.2.2.2.2.1;have X3:Hid (∀W,O0 W0 W->aQ 1 dN B W (.slice Au xq Aw) yy.files):=fun W ho=>(jk.out W ho).2.2.2.2.2.2.1;have HCy:Hid (∀W,O0 W0 W->fQ B W [.string yy.name,.int .i64 yy.line,.slice lD iL lF,.slice pU pV pW,.slice vN rP vO,.slice wS uq wU,.slice Dy zH Dz,.slice Au xq Aw] yy):=fun W ho=>(jk.out W ho).2.2.2.2.2.2.2;have fE:=(jk.out W1 aW.out).1;have NI:=fE 1 _ rfl;clear fE;obtain⟨k0,k1⟩:=aU.out W1 (aW.out.same Dj.out);have hz:=lG.out W1 Dj.out;rw[hW1,hW0]at NI k0 k1 hz;go_enter Tryz.func13,Tryz.ntmps13;go_wp2_with (refine wpList_store_row rfl 43 (.tmp 2) (.tmp 17) rfl (w.heap.size+1) #[.int .u8 1,.int .i64 yy.line] rfl rfl 43 #[.int .u8 0,.int .i64 0] hz zk rfl zk ?_);refine dn (p:=2) rfl rfl rfl rfl (setRow_heap _ _ _ _ _ _ hz) ?_;rw[<-hW0,<-hW1];exact zDk
 by_cases q2:8<aK
 ·obtain⟨yz,hxz⟩:=zG x.cO 8 zAn;obtain⟨NG,xM,VO,VP,VQ,wE,Eb,Ky,acn,mJ⟩:=wu (bT.out W0 zr) hxz;first|subst wE| (simp only[qG,qO,and_true]at wE;obtain⟨rfl,rfl⟩:=wE)
  have vM:=zh mJ;clear mJ hxz Eb;have hrz:=(vM.out W1 aW.out).1;have gz2:=hrz 2 _ rfl;clear hrz;obtain⟨k0,k1⟩:=aU.out W1 (aW.out.same Dj.out);have hz:=lG.out W1 Dj.out;rw[hW1,hW0]at gz2 k0 k1 hz;go_enter Tryz.func13,Tryz.ntmps13;go_wp2_with (refine wpList_store_row rfl 43 (.tmp 2) (.tmp 27) rfl (w.heap.size+1) #[.int .u8 1,.int .i64 yz.line] rfl rfl 43 #[.int .u8 0,.int .i64 0] hz zk rfl zk ?_);refine dn (p:=2) rfl rfl rfl rfl (setRow_heap _ _ _ _ _ _ hz) ?_;rw[<-hW0,<-hW1];exact zDj
 go_enter Tryz.func13,Tryz.ntmps13;go_wp2_with fail;rw[<-hW0,<-hW1];clear hW0 hW1;have ku:=Dj;go_loopw [31] (fun vi fM=>Hid (O0 W1 fM)/\∃i:Nat,vi= .int .i64 i/\i<=ak/\Hid (∀k,k<i->x.kL k=true)) (fun v _=>ak-(RowKit.intOf v).toNat);case atStart=>exact⟨ku,0,rfl,qE _,show Hid _ from fun k hk=>by omega⟩
 case round=>
  obtain⟨fM,rfl⟩:=zB wr;clear ku;obtain⟨yX,i,rfl,hi,HZ⟩:=hrel;obtain⟨k0,k1⟩:=aU.out fM (aW.out.same yX.out);by_cases ci:i<ak
  ·have iG:=zw (i+1);have HAl:=zh (aew (gI.out fM (aW.out.same yX.out)) zAN zBe);go_wp2_with fail;refine HAl.out.mono ?_;rintro e w2 ⟨c,rfl,hcr,hcf,O2⟩;have HP2:=zh (yX.out.same O2);clear O2 HAl k0 k1;obtain⟨k0,k1⟩:=aU.out w2 (aW.out.same HP2.out);by_cases c0:c=0
   ·subst c0;have hok:x.kL i=true:=by rw[<-hcf];rfl
    have HZ2:Hid (∀k,k<i+1->x.kL k=true):=fun k hk=>by
     rcases yK k i with h|h;·exact HZ.out k h
     obtain rfl:k=i:=by omega
     exact hok
    clear hcf hok;go_wp2_with fail;go_roundw;case rel=>exact⟨HP2,i+1,by first|rfl|go_num,by omega,HZ2⟩
    case measure=>simp[RowKit.intOf]<;>omega
   have c1:((c:Int)==0)=false:=by rw[yC];exact c0
   have Cj:Hid (x.okB=false):=Vo (i:=i) zBe (by rw[<-hcf];exact qP c0);clear hcf;obtain⟨yy,hxy⟩:=zG x.packs i zAV;obtain⟨Ah,kX,lD,iL,lF,pU,pV,pW,vN,rP,vO,wS,uq,wU,Dy,zH,Dz,Au,xq,Aw,nN,jX,ny,sN,sO,wF,wG,yV,Ed,jw⟩:=jH (bK.out W0 zr) hxy;first|subst nN| (simp only[qG,qO,and_true]at nN;obtain⟨rfl,rfl⟩:=nN)
   have Io:=zh jX;have Ny2:=zh ny;have Ny3:=zh sN;have Ny4:=zh sO;have Ny5:=zh wF;have Ny6:=zh wG;have jk:=zh jw;have xO:=zh hxy;clear jw hxy jX ny sN sO wF wG;have uK:Hid (∀W,O0 W0 W->aQ 2 oh B W (.slice lD iL lF) yy.aX):=fun W ho=>(jk.out W ho).2.1;have FH:Hid (∀W,O0 W0 W->aQ 2 jM B W (.slice pU pV pW) yy.vars):=fun W ho=>(jk.out W ho).2.2.1;have RH:Hid (∀W,O0 W0 W->aQ 1 dN B W (.slice vN rP vO) yy.provides):=fun W ho=>(jk.out W ho).2.2.2.1;have WX:Hid (∀W,O0 W0 W->aQ 7 nH B W (.slice wS uq wU) yy.deps):=fun W ho=>(jk.out W ho).2.2.2.2.1;have ajb:Hid (∀W,O0 W0 W->aQ 7 rF B W (.slice Dy zH Dz) yy.cons):=fun W ho=>(jk.out W ho).2.2.2.2.2.1;have X3:Hid (∀W,O0 W0 W->aQ 1 dN B W (.slice Au xq Aw) yy.files):=fun W ho=>(jk.out W ho).2.2.2.2.2.2.1;have HCy:Hid (∀W,O0 W0 W->fQ B W [.string yy.name,.int .i64 yy.line,.slice lD iL lF,.slice pU pV pW,.slice vN rP vO,.slice wS uq wU,.slice Dy zH Dz,.slice Au xq Aw] yy):=fun W ho=>(jk.out W ho).2.2.2.2.2.2.2;have fE:=(jk.out w2 (aW.out.same HP2.out)).1;have NI:=fE 1 _ rfl;clear fE;go_wp2_with (refine wpList_store_row rfl 43 (.tmp 2) (.tmp 46) rfl (w.heap.size+1) #[.int .u8 c,.int .i64 yy.line] rfl rfl 43 #[.int .u8 0,.int .i64 0] (lG.out w2 HP2.out) zk rfl zk ?_);refine dn (p:=2) rfl rfl rfl rfl (setRow_heap _ _ _ _ _ _ (lG.out w2 HP2.out)) ?_;exact iE.mk _ _ rfl zBb ((bM.out.same (aW.out.same HP2.out)).trans (aP _ _ _) (fun k hk=>.inr zAB))
  obtain rfl:ak=i:=by omega
  have ku:=yX;go_wp2_with fail;clear k0 k1;go_loopw [51] (fun vj iJ=>Hid (O0 W1 iJ)/\∃j:Nat,vj= .int .i64 j/\j<=ak/\Hid (∀p∈x.packs.take j,(iU x p).1=0)) (fun v _=>ak-(RowKit.intOf v).toNat);case atStart=>exact⟨ku,0,rfl,qE _,show Hid _ from fun v hv=>by simp at hv⟩
  case round=>
   obtain⟨iJ,rfl⟩:=zB wr;clear ku;obtain⟨Bh,j,rfl,hj,XD⟩:=hrel;obtain⟨k0,k1⟩:=aU.out iJ (aW.out.same Bh.out);by_cases cj:j<ak
   ·have iG:=zw (j+1);obtain⟨yv,hxv⟩:=zG x.packs j zAV;obtain⟨bkv,adV,av1,nv1,cv1,av2,nv2,cv2,av3,nv3,cv3,av4,nv4,cv4,av5,nv5,cv5,av6,nv6,cv6,hev,adW,adX,adY,adZ,ad1,ad2,amk,inv1,Vq⟩:=jH (bK.out W0 zr) hxv;first|subst hev| (simp only[qG,qO,and_true]at hev;obtain⟨rfl,rfl⟩:=hev)
    have HEv:=zh Vq;have HXv:=zh hxv;clear Vq hxv adW adX adY adZ ad1 ad2;have HCv:Hid (∀W,O0 W0 W->fQ B W [.string yv.name,.int .i64 yv.line,.slice av1 nv1 cv1,.slice av2 nv2 cv2,.slice av3 nv3 cv3,.slice av4 nv4 cv4,.slice av5 nv5 cv5,.slice av6 nv6 cv6] yv):=fun W ho=>(HEv.out W ho).2.2.2.2.2.2.2;obtain⟨c,l,hcl⟩:∃c l:Int,iU x yv=(c,l):=⟨_,_,rfl⟩;have HRl:Hid (∀W,O0 W1 W->Calls Tryz.prog 54 #[.agg #[.slice (some ⟨bkv,adV,none⟩) ak aS,.slice aT aK aO],.agg #[.string yv.name,.int .i64 yv.line,.slice av1 nv1 cv1,.slice av2 nv2 cv2,.slice av3 nv3 cv3,.slice av4 nv4 cv4,.slice av5 nv5 cv5,.slice av6 nv6 cv6]] W fun e w'=>e= .returned (.agg #[.int .u8 c,.int .i64 l])/\O0 W w'):=fun W hW=>by have:=WW (gI.out W (aW.out.same hW)) (HCv.out W (aW.out.same hW)) zAN;rw[hcl]at this;exact this
    have HCL:Hid (iU x yv=(c,l)):=hcl;clear hcl;go_wp2_with fail;clear k0 k1;refine bC (n:=9) (E:=fun k=>k=8) (S:=fun W=>O0 W1 W) zk rfl (by exact Bh.out.drew) (fun hHeld=>?_);refine tK 0 ?_ (hy:=zAL);refine tW 1 ?_;refine tK 2 ?_ (hy:=zAL);refine tW 3 ?_;refine tW 4 ?_;refine tK 5 ?_ (hy:=zAL);refine fF (rs:=[6,7]) zk zAF ?_;refine bQ.cons (i:=6) rfl (fun K hK=>?_) ?_
    ·(go_simp;refine(HRl.out _ hHeld).mono ?_;rintro e w5 ⟨rfl,o5⟩;try go_wp2_with fail);refine hK.out _ _ ?_ (fun hHeld=>?_);·exact zDW
     clear hK K;try simp only[Act.put,eF,fA,eG,dW,dX,dY]
     refine tO 7 fun K hK=>?_;go_simp;refine hK.out _ _ ?_ (fun hHeld=>?_);·(try dsimp only)<;>(exact hHeld.alloc _)
     clear hK K;try simp only[Act.put,eF,fA,eG,dW,dX,dY]
     refine fF (rs:=[8]) zk zAF ?_;refine bQ.late (i:=8) rfl zk (fun K hK=>?_) ?_
     ·(rw[if_pos zk];refine DI 43 (.tmp 6) (.tmp 60) rfl _ #[.int .u8 c,.int .i64 l] rfl rfl 43 #[.int .u8 0,.int .i64 0] zAx zk rfl zk ?_;intro W3 hg3 ho3);refine hK.out _ _ ?_;clear hK K;try simp only[Act.put,eF,fA,eG,dW,dX,dY]
      refine bf zk ?_ _;generalize hgg:w5.heap.size=g at*;have rH:Hid (O0 W1 W3):=hHeld.trans ho3 (fun k hk=>.inr (by have:=((‹O0 W1 w5› :O0 W1 w5)).size;(try simp at hgg);omega));exact zB4
     exact bQ.nil
    refine bQ.cons (i:=7) rfl (fun K hK=>?_) ?_
    ·go_simp;refine hK.out _ _ ?_ (fun hHeld=>?_);·(try dsimp only)<;>(exact hHeld.alloc _)
     clear hK K;try simp only[Act.put,eF,fA,eG,dW,dX,dY]
     refine tO 6 fun K hK=>?_;(go_simp;refine(HRl.out _ hHeld).mono ?_;rintro e w5 ⟨rfl,o5⟩;try go_wp2_with fail);refine hK.out _ _ ?_ (fun hHeld=>?_);·exact zDW
     clear hK K;try simp only[Act.put,eF,fA,eG,dW,dX,dY]
     refine fF (rs:=[8]) zk zAF ?_;refine bQ.late (i:=8) rfl zk (fun K hK=>?_) ?_
     ·(rw[if_pos zk];refine DI 43 (.tmp 6) (.tmp 60) rfl _ #[.int .u8 c,.int .i64 l] rfl rfl 43 #[.int .u8 0,.int .i64 0] zAx zk rfl zk ?_;intro W3 hg3 ho3);refine hK.out _ _ ?_;clear hK K;try simp only[Act.put,eF,fA,eG,dW,dX,dY]
      refine bf zk ?_ _;generalize hgg:iJ.heap.size=g at*;have rH:Hid (O0 W1 W3):=hHeld.trans ho3 (fun k hk=>.inr (by have:=(Bh.out).size;(try simp at hgg);omega));exact zB4
     exact bQ.nil
    exact bQ.nil
   obtain rfl:ak=j:=by omega
   have aqO:Hid (∀p∈x.packs,(iU x p).1=0):=fun d hd=>XD.out d (by
    rw[qI (yG aB.out)]
    exact hd)
   have ku:=Bh;go_wp2_with fail;clear k0 k1;go_loopw [69] (fun vm BL=>Hid (O0 W1 BL)/\∃m:Nat,vm= .int .i64 m/\m<=aK/\Hid (∀k,k<m->x.uG k=true)) (fun v _=>aK-(RowKit.intOf v).toNat);case atStart=>exact⟨ku,0,rfl,qE _,show Hid _ from fun k hk=>by omega⟩
   case round=>
    obtain⟨BL,rfl⟩:=zB wr;clear ku;obtain⟨Jr,m,rfl,hm,HZm⟩:=hrel;obtain⟨k0,k1⟩:=aU.out BL (aW.out.same Jr.out);by_cases cm:m<aK
    ·have iG:=zw (m+1);have HPf:=zh (aa4 (gI.out BL (aW.out.same Jr.out)) zAN zBd);obtain⟨bb,hbb⟩:=ze (x.uG m);have Jc:=zh hbb;rw[hbb]at HPf;clear hbb;go_wp2_with fail;refine HPf.out.mono ?_;rintro e w2 ⟨rfl,O2⟩;have HP2:=zh (Jr.out.same O2);clear O2 HPf k0 k1;obtain⟨k0,k1⟩:=aU.out w2 (aW.out.same HP2.out);cases bb with
     |true=>
      have aqP:Hid (∀k,k<m+1->x.uG k=true):=fun k hk=>by exact zEW
      go_wp2_with fail;go_roundw;case rel=>exact⟨HP2,m+1,by first|rfl|go_num,by omega,aqP⟩
      case measure=>simp[RowKit.intOf]<;>omega
     |false=>
      have Cj:Hid (x.okB=false):=Vp (i:=m) zBd Jc.out;obtain⟨yf,hxf⟩:=zG x.cO m zAn;obtain⟨bkf,ajd,af1,nf1,cf1,hef,aje,ap4,ap5,ad3⟩:=wu (bT.out W0 zr) hxf;first|subst hef| (simp only[qG,qO,and_true]at hef;obtain⟨rfl,rfl⟩:=hef)
      have HEf:=zh ad3;clear ad3 hxf aje;have hrf:=(HEf.out w2 (aW.out.same HP2.out)).1;have gf2:=hrf 2 _ rfl;clear hrf;go_wp2_with (refine wpList_store_row rfl 43 (.tmp 2) (.tmp 82) rfl (w.heap.size+1) #[.int .u8 10,.int .i64 yf.line] rfl rfl 43 #[.int .u8 0,.int .i64 0] (lG.out w2 HP2.out) zk rfl zk ?_);refine dn (p:=2) rfl rfl rfl rfl (setRow_heap _ _ _ _ _ _ (lG.out w2 HP2.out)) ?_;exact iE.mk _ _ rfl (by rw[Cj.out];rfl) ((bM.out.same (aW.out.same HP2.out)).trans (aP _ _ _) (fun k hk=>.inr zAB))
    obtain rfl:aK=m:=by omega
    have MB:Hid (x.okB=true):=Zk zAV (by rw[bJ.out];omega) (fun k hk=>HZ.out k (by rw[aB.out]at hk;exact hk)) aqO.out (fun k hk=>HZm.out k (by rw[bJ.out]at hk;exact hk));go_wp2_with (refine wpList_store_row rfl 43 (.tmp 2) (.tmp 84) rfl (w.heap.size+1) #[.int .u8 0,.int .i64 0] rfl rfl 43 #[.int .u8 0,.int .i64 0] (lG.out BL Jr.out) zk rfl zk ?_);exact zDG
end
end Go.Proofs.YtdmmebjjojimiaaGreatDoor
namespace Go.Proofs
theorem zAQ{p:Prop}(h:p:=by(intro w hSw;(try dsimp only at hSw);obtain⟨k0,k1,k2⟩:=aU.out w (aW.out.same hSw);have fE:=(jk.out w (aW.out.same hSw)).1;have Ee:=fE 0 _ rfl;have NI:=fE 1 _ rfl;have gy2:=fE 2 _ rfl;rw[qF]at Ee;clear fE;go_simp<;>(try with_reducible rfl))):p:=h
end Go.Proofs
namespace Go.Proofs.YtdmmebjjojimiaaGreatDoor
open Go.RowKit
section
variable {w w':World} {B:Nat}
attribute [local irreducible] wpQuiet
theorem Ez{pR:List Value}{x:aF}(hx:gy B w pR x){Rz:List Value}{q:dH}(hq:lW B w Rz q)(hlen:x.packs.length<=1000000):Calls Tryz.prog 14 #[.agg pR.toArray,.agg Rz.toArray] w fun e w'=>iE (q.okB x) w w' e:=by
 obtain⟨aV,ak,aS,aT,aK,aO,rfl,fV,fZ,dQ,dR,aB,bJ,qo⟩:=open_rec hx;clear hx;try rw[aB.out]
 obtain⟨jD,bZ,jE,rfl,zA,zC,dK,Vg⟩:=xY hq;clear hq;try rw[dK.out]
 obtain⟨W0,hW0,bM,vC,aU⟩:=GY w (.slice aV ak aS) (.slice aT aK aO) (.slice jD bZ jE) 25 28;obtain⟨gI,bK,bT⟩:=qo W0 bM.out;clear qo;obtain⟨BK,kU⟩:=Vg W0 bM.out;clear Vg;rw[aB.out]at hlen;obtain⟨W1,hW1⟩:=zB (W0.alloc (.cells #[.int .u8 0,.int .i64 0] 43));have aW:Hid (O0 W0 W1):=zA3;have lG:Hid (∀W,O0 W1 W->W.heap[w.heap.size+2]? =some (.cells #[.int .u8 0,.int .i64 0] 43)):=fun W ho=>by exact zEE
 have Dj:Hid (O0 W1 W1):=Only.refl _ _;by_cases z1:bZ=0;·subst z1;obtain⟨k0,k1,k2⟩:=aU.out W1 (aW.out.same Dj.out);have hz:=lG.out W1 Dj.out;rw[hW1,hW0]at k0 k1 k2 hz;go_enter Tryz.func14,Tryz.ntmps14;go_wp2_with (refine wpList_store_row rfl 43 (.tmp 4) (.tmp 11) rfl (w.heap.size+2) #[.int .u8 11,.int .i64 0] rfl rfl 43 #[.int .u8 0,.int .i64 0] hz zk rfl zk ?_);refine dn (p:=4) rfl rfl rfl rfl (setRow_heap _ _ _ _ _ _ hz) ?_;rw[<-hW0,<-hW1];exact zDu
 have z3:((bZ:Int)==0)=false:=by rw[yC];omega
 by_cases q1:8<bZ
 ·obtain⟨yy,hxy⟩:=zG q.roots 8 zAm;obtain⟨Ah,kX,lD,iL,lF,pU,pV,pW,nN,jX,ny,yV,Ed,jw⟩:=Ba (kU.out W0 zr) hxy;first|subst nN| (simp only[qG,qO,and_true]at nN;obtain⟨rfl,rfl⟩:=nN)
  have Io:=zh jX;have Ny2:=zh ny;have jk:=zh jw;have xO:=zh hxy;clear jw hxy jX ny;have uK:Hid (∀W,O0 W0 W->aQ 2 eY B W (.slice lD iL lF) yy.spec.spans):=fun W ho=>(jk.out W ho).2.1;have FH:Hid (∀W,O0 W0 W->aQ 2 ji B W (.slice pU pV pW) yy.spec.sets):=fun W ho=>(jk.out W ho).2.2.1;have HCy:Hid (∀W,O0 W0 W->lM B W [.string yy.spec.name,.slice lD iL lF,.slice pU pV pW,.int .i64 yy.line] yy):=fun W ho=>(jk.out W ho).2.2.2;have fE:=(jk.out W1 aW.out).1;have gy3:=fE 3 _ rfl;clear fE;obtain⟨k0,k1,k2⟩:=aU.out W1 (aW.out.same Dj.out);have hz:=lG.out W1 Dj.out;rw[hW1,hW0]at k0 k1 k2 hz gy3;go_enter Tryz.func14,Tryz.ntmps14;go_wp2_with (refine wpList_store_row rfl 43 (.tmp 4) (.tmp 21) rfl (w.heap.size+2) #[.int .u8 1,.int .i64 yy.line] rfl rfl 43 #[.int .u8 0,.int .i64 0] hz zk rfl zk ?_);refine dn (p:=4) rfl rfl rfl rfl (setRow_heap _ _ _ _ _ _ hz) ?_;rw[<-hW0,<-hW1];exact zES
 go_enter Tryz.func14,Tryz.ntmps14;go_wp2_with fail;rw[<-hW0,<-hW1];clear hW0 hW1;have ku:=Dj;go_loopw [25] (fun vi fM=>Hid (O0 W1 fM)/\∃i:Nat,vi= .int .i64 i/\i<=bZ/\Hid (∀r∈q.roots.take i,x.wish r.spec=0)) (fun v _=>bZ-(RowKit.intOf v).toNat);case atStart=>exact⟨ku,0,rfl,qE _,show Hid _ from fun v hv=>by simp at hv⟩
 case round=>
  obtain⟨fM,rfl⟩:=zB wr;clear ku;obtain⟨yX,i,rfl,hi,HZ⟩:=hrel;obtain⟨k0,k1,k2⟩:=aU.out fM (aW.out.same yX.out);by_cases ci:i<bZ
  ·have iG:=zw (i+1);obtain⟨yy,hxy⟩:=zG q.roots i zAm;obtain⟨Ah,kX,lD,iL,lF,pU,pV,pW,nN,jX,ny,yV,Ed,jw⟩:=Ba (kU.out W0 zr) hxy;first|subst nN| (simp only[qG,qO,and_true]at nN;obtain⟨rfl,rfl⟩:=nN)
   have Io:=zh jX;have Ny2:=zh ny;have jk:=zh jw;have xO:=zh hxy;clear jw hxy jX ny;have uK:Hid (∀W,O0 W0 W->aQ 2 eY B W (.slice lD iL lF) yy.spec.spans):=fun W ho=>(jk.out W ho).2.1;have FH:Hid (∀W,O0 W0 W->aQ 2 ji B W (.slice pU pV pW) yy.spec.sets):=fun W ho=>(jk.out W ho).2.2.1;have HCy:Hid (∀W,O0 W0 W->lM B W [.string yy.spec.name,.slice lD iL lF,.slice pU pV pW,.int .i64 yy.line] yy):=fun W ho=>(jk.out W ho).2.2.2;obtain⟨c,hc⟩:=ze (x.wish yy.spec);have HWs:Hid (∀W,O0 W1 W->Calls Tryz.prog 56 #[.agg #[.slice aV ak aS,.slice aT aK aO],.agg #[.string yy.spec.name,.slice lD iL lF,.slice pU pV pW]] W fun e w'=>e= .returned (.int .u8 c)/\O0 W w'):=fun W hW=>by rw[<-hc];exact Kz (gI.out W (aW.out.same hW)) (⟨_,_,rfl,yV,uK.out W (aW.out.same hW),FH.out W (aW.out.same hW)⟩:dB B W [.string yy.spec.name,.slice lD iL lF,.slice pU pV pW] yy.spec) zAN
   have HC:Hid (x.wish yy.spec=c):=hc;clear hc;go_wp2_with fail;clear k0 k1 k2;refine fO (fun w'=>O0 W1 w') zk zk (by exact(yX.out).drew) ?_;refine qV ?_ (hy:=zAQ);refine qV ?_;refine qV ?_ (hy:=zAQ);iterate 3 refine qV ?_
   refine qV ?_ (hy:=zAQ);refine gY (v:=.int .u8 c) (f:=56) (args:= #[.agg #[.slice aV ak aS,.slice aT aK aO],.agg #[.string yy.spec.name,.slice lD iL lF,.slice pU pV pW]]) (by rfl) ?_ ?_ ?_;·exact zB9
   ·(intro w hSw;exact(HWs.out w hSw).mono fun _ _ ⟨he,ho⟩=>⟨he,hSw.same ho⟩)
   try simp only[Act.put,eF,fA,eG,dW,dX,dY]
   refine qV ?_;refine wpQuiet_nil ?_;(intro w9 FD;have BZ:=zh FD;clear FD);have X4:=BZ;obtain⟨k0,k1,k2⟩:=aU.out w9 (aW.out.same X4.out);by_cases c0:c=0
   ·subst c0;have HZ2:Hid (∀r∈q.roots.take (i+1),x.wish r.spec=0):=fun r hr=>by
     rcases bH xO.out hr with h|rfl;·exact HZ.out r h
     exact HC.out
    go_wp2_with fail;go_roundw;case rel=>exact⟨X4,i+1,by first|rfl|go_num,by omega,HZ2⟩
    case measure=>simp[RowKit.intOf]<;>omega
   have c1:((c:Int)==0)=false:=by rw[yC];exact c0
   have Cj:Hid (q.okB x=false):=Zl (qT xO.out) (by rw[HC.out];exact c0);have fE:=(jk.out w9 (aW.out.same X4.out)).1;have gy3:=fE 3 _ rfl;clear fE;go_wp2_with (refine wpList_store_row rfl 43 (.tmp 4) (.tmp 45) rfl (w.heap.size+2) #[.int .u8 c,.int .i64 yy.line] rfl rfl 43 #[.int .u8 0,.int .i64 0] (lG.out w9 X4.out) zk rfl zk ?_);refine dn (p:=4) rfl rfl rfl rfl (setRow_heap _ _ _ _ _ _ (lG.out w9 X4.out)) ?_;exact zET
  obtain rfl:bZ=i:=by omega
  have MB:Hid (q.okB x=true):=Zm (by rw[dK.out];omega) zAm (fun r hr=>HZ.out r (by
   rw[qI (yG dK.out)]
   exact hr))
  go_wp2_with (refine wpList_store_row rfl 43 (.tmp 4) (.tmp 47) rfl (w.heap.size+2) #[.int .u8 0,.int .i64 0] rfl rfl 43 #[.int .u8 0,.int .i64 0] (lG.out fM yX.out) zk rfl zk ?_);exact zDF
end
section
variable {x:aF} {q:dH}
theorem PZ{n:Nat}(h:n<=8):3*n*n+3*n*n*n<=1728/\2*n*n+n*n*n<=640:=by have:n=0\/n=1\/n=2\/n=3\/n=4\/n=5\/n=6\/n=7\/n=8:=zAB;rcases this with rfl|rfl|rfl|rfl|rfl|rfl|rfl|rfl|rfl<;>decide
theorem eH.grM(h:eH x q)(M:Nat):Gr ((⟨[],M,0,false⟩:Tab),rJ.B0) (jK x q M) 18784 65536:=by
 have hl:=h.len;have hn:=h.names;have hr:=h.rules;have g1:Gr ((⟨[],M,0,false⟩:Tab),rJ.B0) (TB.choices ((⟨[],M,0,false⟩:Tab),rJ.B0) x (x.closure q.names)) 408 4440:=
  (Gr.choices x (x.closure q.names) ((⟨[],M,0,false⟩:Tab),rJ.B0) fun p hp=>by
   have ok:=h.ch.all _ (aF.iQ (h.lt p hp))
   exact⟨ok.aX,ok.vars.1,fun v hv=>by have:=(ok.vars.2 v hv).2;omega⟩).up zBU zAB
 have g2:=Gr.edges (TB.choices ((⟨[],M,0,false⟩:Tab),rJ.B0) x (x.closure q.names)) (x.closure q.names) (x.names q) (dZ x q (x.closure q.names)) h.sizes (C:=77) zBU zAB;have g3:=(Gr.orders ((TB.choices ((⟨[],M,0,false⟩:Tab),rJ.B0) x (x.closure q.names)).edges x q (x.closure q.names) (x.names q) (dZ x q (x.closure q.names))) (x.closure q.names)).up (PZ hl).1 (PZ hl).2;exact((g1.tr g2).tr g3).up zBU zAB
theorem eH.full(h:eH x q){M:Nat}(hM:18784<=M):(jK x q M).1.full=false/\(jK x q M).2.full=false:=by have g:=h.grM M;exact⟨g.full (by show 0+18784<=M;omega),g.Uo (by show 0+65536<=262144;omega)⟩
theorem eH.atoms(h:eH x q)(M:Nat):(jK x q M).1.l.length<=18784:=by have g:=(h.grM M).len;have e:(((⟨[],M,0,false⟩:Tab),rJ.B0):TB).1.l.length=0:=rfl;omega
theorem aey{S:TB}{a:At}(h:0<S.1.limit):0<(S.num a).1.1.l.length:=by
 unfold TB.num Tab.num;dsimp only;by_cases hm:a∈S.1.l;·rw[if_pos hm];exact List.length_pos_of_mem hm
 rw[if_neg hm];by_cases hl:S.1.limit<=S.1.l.length;·rw[if_pos hl];show 0<S.1.l.length;omega
 rw[if_neg hl];show 0<(S.1.l++[a]).length;rw[qK,List.length_singleton];omega
theorem agv(S:TB)(P:dO)(l:List Nat)(names:List Str)(r:Nat)(s:gZ):fD (S.num (fG r)).1.1 (ES.root (S,P) x l names r s).1.1:=by
 unfold ES.root;dsimp only;split;·exact(TB.QE _ _ _ _ _ _ _).tr (TB.tC _ _)
 split;·exact TB.tC _ _
 exact(TB.oJ _ _).tr (TB.tC _ _)
theorem P5(E:ES)(q:dH)(l:List Nat)(names:List Str)(rs:List bW):∀n,fD (E.rules x q l names rs 1).1.1 (E.rules x q l names rs (n+1)).1.1
 |0=>fD.rfl'
 |n+1=>(P5 E q l names rs n).tr ((Pr.rule (E.rules x q l names rs (n+1)).2 x q l names (n+1) (rs.getD (n+1) default)).gr (E.rules x q l names rs (n+1)).1)
theorem Yh(S:TB)(hS:0<S.1.limit)(l:List Nat)(names:List Str)(rs:List bW)(hr:0<rs.length)(hk:(rs.getD 0 default).kind=1):0<(S.edges x q l names rs).1.l.length:=by
 obtain⟨n,hn⟩:∃n,rs.length=n+1:=⟨rs.length-1,by omega⟩;have h0:0<(S.num (fG 0)).1.1.l.length:=aey hS;have h1:fD (S.num (fG 0)).1.1 (S.lg x q l names rs).1.1:=by unfold TB.lg;rw[hn];refine fD.tr ?_ (P5 _ q l names rs n);show fD (S.num (fG 0)).1.1 (ES.rule (S,⟨[],List.replicate names.length [],[]⟩) x q l names 0 (rs.getD 0 default)).1.1;unfold ES.rule;rw[if_pos hk];exact agv _ _ _ _ _ _
 have h2:fD (S.lg x q l names rs).1.1 (S.edges x q l names rs).1:=by unfold TB.edges;dsimp only;generalize S.lg x q l names rs=E;have g1:=(Pr.foldl (f:=fun B e=>BS.edge B E.2 e) (fun v e=>Pr.edge E.2 v e) E.2.edges []).gr E.1;generalize E.2.edges.foldl (fun B e=>BS.edge B E.2 e) (E.1,[])=B at g1⊢;exact(g1.tr ((Pr.wL (f:=fun S i=>TB.name S x E.2 i (names.getD i ByteArray.empty)) (fun i=>Pr.name x E.2 i _) (List.range names.length)).gr B.1)).tr ((Pr.wL (f:=fun S t=>TB.place S E.2 B.2 t) (fun t=>Pr.place E.2 B.2 t) l).gr _)
 obtain⟨⟨m,hm⟩,-⟩:=h1.tr h2;rw[hm,qK];omega
theorem Yi(h:eH x q)(hq:0<q.roots.length){M:Nat}(hM:0<M):0<(jK x q M).1.l.length:=by
 have g1:Gr ((⟨[],M,0,false⟩:Tab),rJ.B0) (TB.choices ((⟨[],M,0,false⟩:Tab),rJ.B0) x (x.closure q.names)) (51*(x.closure q.names).length) (555*(x.closure q.names).length):=
  Gr.choices x (x.closure q.names) ((⟨[],M,0,false⟩:Tab),rJ.B0) fun p hp=>by
   have ok:=h.ch.all _ (aF.iQ (h.lt p hp))
   exact⟨ok.aX,ok.vars.1,fun v hv=>by have:=(ok.vars.2 v hv).2;omega⟩
 have hS:0<(TB.choices ((⟨[],M,0,false⟩:Tab),rJ.B0) x (x.closure q.names)).1.limit:=by rw[g1.lim];exact hM
 obtain⟨k,hk⟩:∃k,q.roots.length=k+1:=⟨q.roots.length-1,by omega⟩;have hrs:dZ x q (x.closure q.names)=⟨1,-1,0,(q.roots.getD 0 default).line⟩::((iK q q.roots.length).drop 1++(x.closure q.names).flatMap (kK x)):=by unfold dZ iK;rw[hk,List.range_succ_eq_map,List.map_cons];rfl
 have h1:=Yh (x:=x) (q:=q) _ hS (x.closure q.names) (x.names q) (dZ x q (x.closure q.names)) (by rw[hrs];simp) (by rw[hrs];rfl);obtain⟨⟨m,hm⟩,-⟩:=(Pr.orders (x.closure q.names)).gr (TB.edges (TB.choices ((⟨[],M,0,false⟩:Tab),rJ.B0) x (x.closure q.names)) x q (x.closure q.names) (x.names q) (dZ x q (x.closure q.names)));have hm':(jK x q M).1.l=_:=hm;rw[hm',qK];omega
theorem MK(h:x.okB=true){p:Nat}(hp:p<x.packs.length):x.find (x.pack p).name=p:=by unfold aF.okB at h;simp only[Bool.and_eq_true,List.all_eq_true,yI]at h;have h1:=h.1.1.2 p hp;unfold aF.kL at h1;simp only[Bool.and_eq_true,yP]at h1;exact h1.1.1.1.1.1.1.1
theorem agw{n:Nat}{m:List Bool}(h:Gj n m=true)(hn:n<=65536):ig.WL (n:Int) m=true:=by
 unfold Gj at h;simp only[Bool.and_eq_true,yP]at h;obtain⟨⟨h1,h2⟩,h3⟩:=h;unfold ig.WL;have hw:ig.wr (n:Int)=false:=by unfold ig.wr ig.G6;simp;omega
 rw[hw,if_neg zBZ,if_neg zAB,Int.natAbs_natCast];exact h3
theorem aa5{a b:List UInt8}(h:¬b<a)(hn:a≠b):a<b:=by
 by_cases hc:a<b;·exact hc
 exact absurd (List.le_antisymm (show a<=b from h) (show b<=a from hc)) hn
theorem aez(hok:x.okB=true){l:List At}{m:List Bool}{ys:List FN}(hp:(ys.map FN.nv).Perm (Ak l (Dk x q) m (Dk x q).l.length))(hs:ys.Pairwise fun a b=>¬b.name.toList<a.name.toList):(∀y∈ys,∃p∈x.closure q.names,x.find y.name=p/\Gj (numOf l (aI p)) m=true)/\∀i a b,ys[i]? =some a->ys[i+1]? =some b->a.name.toList<b.name.toList:=by
 have hlt:∀p∈x.closure q.names,p<x.packs.length:=fun p hp=>(aF.jA.1 hp).lt;have hr:Ak l (Dk x q) m (Dk x q).l.length=((x.closure q.names).filter fun p=>Gj (numOf l (aI p)) m).map fun p=>((x.pack p).name,L8 l (x.pack p).aX m p):=by unfold Ak;rw[List.take_length];rfl
 rw[hr]at hp;have hnd:(ys.map FN.name).Nodup:=by
  have h1:(ys.map FN.name).Perm (((x.closure q.names).filter fun p=>Gj (numOf l (aI p)) m).map fun p=>(x.pack p).name):=by have:=hp.map Prod.fst;rw[List.map_map,List.map_map]at this;exact this
  rw[h1.nodup_iff];have h2:((x.closure q.names).filter fun p=>Gj (numOf l (aI p)) m).Nodup:=List.Pairwise.filter _ (by
   unfold aF.closure
   exact List.Pairwise.filter _ List.nodup_range)
  unfold List.Nodup at h2⊢;rw[List.pairwise_map];refine h2.imp_of_mem fun{a b} ha hb hne e=>hne ?_;have ea:=MK hok (hlt a (List.mem_filter.1 ha).1);have eb:=MK hok (hlt b (List.mem_filter.1 hb).1);rw[e,eb]at ea;omega
 refine⟨fun y hy=>?_,fun i a b ha hb=>?_⟩;·have h1:y.nv∈ys.map FN.nv:=List.mem_map_of_mem hy;obtain⟨p,hpm,e⟩:=yD.1 (hp.mem_iff.1 h1);obtain⟨hpc,hso⟩:=List.mem_filter.1 hpm;refine⟨p,hpc,?_,hso⟩;have e1:(x.pack p).name=y.name:=congrArg Prod.fst e;rw[<-e1];exact MK hok (hlt p hpc)
 obtain⟨hi,ea⟩:=qJ.1 ha;obtain⟨hj,eb⟩:=qJ.1 hb;have h1:=List.pairwise_iff_getElem.1 hs i (i+1) hi hj zAB;rw[ea,eb]at h1;refine aa5 h1 fun e=>?_;have h2:=List.pairwise_iff_getElem.1 hnd i (i+1) (by simpa using hi) (by simpa using hj) zAB;rw[List.getElem_map,List.getElem_map,ea,eb]at h2;exact h2 (toList_inj e)
theorem Yj(h:x.okB=true):∀p∈x.packs,Qj p:=by
 intro p hp;obtain⟨i,hi,rfl⟩:=List.getElem_of_mem hp;have e:x.pack i=x.packs[i]:=by unfold aF.pack;rw[qC,qA hi];rfl
 unfold aF.okB at h;simp only[Bool.and_eq_true,List.all_eq_true,yI]at h;have h1:=h.1.1.2 i hi;unfold aF.kL at h1;dsimp only at h1;rw[e]at h1;simp only[Bool.and_eq_true,yP]at h1;obtain⟨⟨⟨⟨⟨⟨⟨-,-⟩,h3⟩,⟨⟨⟨⟨h4,h5⟩,h6⟩,h7⟩,-⟩⟩,-⟩,hv⟩,-⟩,-⟩:=h1;refine⟨h3,h4,?_,h5,h6,h7⟩;unfold lI at hv;simp only[Bool.and_eq_true,yP,List.all_eq_true]at hv;refine⟨hv.1.2,fun v hm=>?_⟩;have h8:=hv.1.1 v hm;unfold lQ at h8;simp only[Bool.and_eq_true,yP]at h8;exact⟨h8.1.1.1.2,h8.1.1.2⟩
theorem aa6(h7:uj x)(h8:x.packs.length<=8)(hsp:∀z∈q.roots,gU z.spec)(h:x.okB=true/\q.okB x=true):eH x q:=by refine⟨h7,⟨h8,Yj h.1,?_⟩,hsp⟩;have h2:=h.2;unfold dH.okB at h2;simp only[Bool.and_eq_true,yP]at h2;exact h2.1.2
theorem aeA(h:q.okB x=true):0<q.roots.length:=by unfold dH.okB at h;simp only[Bool.and_eq_true,yP]at h;exact h.1.1
theorem VG(h:eH x q)(hq:0<q.roots.length)(n:Int){L:Nat}(hL:min (max n 0) 65536=(L:Int)):if ((jK x q 60000).1.l.length:Int)>n then (jK x q L).1.full=true else (jK x q L).1.full=false/\(jK x q L).2=(jK x q 60000).2/\(jK x q L).1.l=(jK x q 60000).1.l:=by
 have hf:=(h.full (show 18784<=60000 by decide)).1;have hs:=Yi h hq (show 0<60000 by decide);have ha:=h.atoms 60000;by_cases hc:L<=60000
 ·rcases YU L 60000 hc rJ.B0 (jK x q 60000) (jK x q L) rfl rfl hf with⟨h1,h2⟩|h1;·rw[if_pos zAB];exact h1
  rw[if_neg zAB,h1.1];exact⟨hf,rfl,rfl⟩
 rw[if_neg zAB];have hfL:=(h.full (show 18784<=L by omega)).1;rcases YU 60000 L zAB rJ.B0 (jK x q L) (jK x q 60000) rfl rfl hfL with⟨h1,h2⟩|h1;·rw[h1]at hf;cases hf
 rw[h1.1];exact⟨hfL,rfl,rfl⟩
end
end Go.Proofs.YtdmmebjjojimiaaGreatDoor
