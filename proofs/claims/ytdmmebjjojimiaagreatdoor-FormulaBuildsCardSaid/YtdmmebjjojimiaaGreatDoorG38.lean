/- Package check: Recipe, Request. Printed by gen_ck5.py.; Package edge: back's state: the part, and what goes into each place. -/
import Derived.Test.YtdmmebjjojimiaaGreatDoorG37
set_option maxRecDepth 100000
set_option maxHeartbeats 8000000
set_option linter.all false
namespace Go.Proofs
theorem zBb{p:Prop}(h:p:=by rw[Cj.out];exact qP c0):p:=h
theorem zBd{p:Prop}(h:p:=by rw[bJ.out];exact cm):p:=h
theorem zBe{p:Prop}(h:p:=by rw[aB.out];exact ci):p:=h
theorem zBh{p:Prop}(h:p:=by rw[Vs (x:=x) (q:=q) (by rw[dK.out];exact q1)];rfl):p:=h
theorem zBk{p:Prop}(h:p:=by rw[MB.out];rfl):p:=h
theorem zCf{p:Prop}(h:p:=by exact iE.mk _ _ rfl zBb ((bM.out.same (aW.out.same rH.out)).trans (aP _ _ _) (fun k hk=>.inr zAB))):p:=h
theorem zDD{p:Prop}(h:p:=by
 have z00:((0:Int) != 0)=false:=rfl
 go_wp2_with fail
 go_roundw
 case rel=>exact⟨rH,i+1,by first|rfl|go_num,by omega,HZ2⟩
 case measure=>simp[RowKit.intOf]<;>omega):p:=h
theorem zDF{p:Prop}(h:p:=by
 refine dn (p:=4) rfl rfl rfl rfl (setRow_heap _ _ _ _ _ _ (lG.out fM yX.out)) ?_
 exact iE.mk _ _ rfl zBk ((bM.out.same (aW.out.same yX.out)).trans (aP _ _ _) (fun k hk=>.inr zAB))):p:=h
theorem zDG{p:Prop}(h:p:=by
 refine dn (p:=2) rfl rfl rfl rfl (setRow_heap _ _ _ _ _ _ (lG.out BL Jr.out)) ?_
 exact iE.mk _ _ rfl zBk ((bM.out.same (aW.out.same Jr.out)).trans (aP _ _ _) (fun k hk=>.inr zAB))):p:=h
theorem zDj{p:Prop}(h:p:=by exact iE.mk _ _ rfl (by rw[PS (x:=x) (by rw[bJ.out];exact q2)];rfl) ((bM.out.same (aW.out.same Dj.out)).trans (aP _ _ _) (fun k hk=>.inr zAB))):p:=h
theorem zDk{p:Prop}(h:p:=by exact iE.mk _ _ rfl (by rw[PO (x:=x) (by rw[aB.out];exact q1)];rfl) ((bM.out.same (aW.out.same Dj.out)).trans (aP _ _ _) (fun k hk=>.inr zAB))):p:=h
theorem zDu{p:Prop}(h:p:=by exact iE.mk _ _ rfl (by rw[Vr (x:=x) (q:=q) dK.out];rfl) ((bM.out.same (aW.out.same Dj.out)).trans (aP _ _ _) (fun k hk=>.inr zAB))):p:=h
theorem zES{p:Prop}(h:p:=by exact iE.mk _ _ rfl zBh ((bM.out.same (aW.out.same Dj.out)).trans (aP _ _ _) (fun k hk=>.inr zAB))):p:=h
theorem zET{p:Prop}(h:p:=by exact iE.mk _ _ rfl zBb ((bM.out.same (aW.out.same X4.out)).trans (aP _ _ _) (fun k hk=>.inr zAB))):p:=h
theorem zEW{p:Prop}(h:p:=by
 rcases yK k m with h|h
 ·exact HZm.out k h
 ·obtain rfl:k=m:=by omega
  exact Jc.out):p:=h
end Go.Proofs
namespace Go.Proofs.YtdmmebjjojimiaaGreatDoor
open Go.RowKit
section
variable {w w':World} {B:Nat}
def aF.okB(x:aF):Bool:=decide (x.packs.length<=24)&&decide (x.cO.length<=8)&&(List.range x.packs.length).all x.kL&&x.packs.all (fun p=>decide ((iU x p).1=0))&&(List.range x.cO.length).all x.uG
def dH.okB(x:aF)(q:dH):Bool:=decide (0<q.roots.length)&&decide (q.roots.length<=8)&&q.roots.all fun r=>decide (x.wish r.spec=0)
theorem PO{x:aF}(h:24<x.packs.length):x.okB=false:=by unfold aF.okB;rw[qP zAB];simp
theorem PS{x:aF}(h:8<x.cO.length):x.okB=false:=by unfold aF.okB;rw[qP (show¬x.cO.length<=8 by omega)];simp
theorem Vo{x:aF}{i:Nat}(hi:i<x.packs.length)(h:x.kL i=false):x.okB=false:=by unfold aF.okB;have:(List.range x.packs.length).all x.kL=false:=List.all_eq_false.2 ⟨i,yI.2 hi,by rw[h];simp⟩;rw[this];simp
theorem Me{x:aF}{p:fP}(hp:p∈x.packs)(h:(iU x p).1≠0):x.okB=false:=by unfold aF.okB;have:x.packs.all (fun p=>decide ((iU x p).1=0))=false:=List.all_eq_false.2 ⟨p,hp,by rw[qP h];simp⟩;rw[this];simp
theorem Vp{x:aF}{i:Nat}(hi:i<x.cO.length)(h:x.uG i=false):x.okB=false:=by unfold aF.okB;have:(List.range x.cO.length).all x.uG=false:=List.all_eq_false.2 ⟨i,yI.2 hi,by rw[h];simp⟩;rw[this];simp
theorem Zk{x:aF}(h1:x.packs.length<=24)(h2:x.cO.length<=8)(h3:∀k,k<x.packs.length->x.kL k=true)(h4:∀p∈x.packs,(iU x p).1=0)(h5:∀k,k<x.cO.length->x.uG k=true):x.okB=true:=by unfold aF.okB;have e3:(List.range x.packs.length).all x.kL=true:=List.all_eq_true.2 fun k hk=>h3 k (yI.1 hk);have e4:x.packs.all (fun p=>decide ((iU x p).1=0))=true:=List.all_eq_true.2 fun p hp=>qX (h4 p hp);have e5:(List.range x.cO.length).all x.uG=true:=List.all_eq_true.2 fun k hk=>h5 k (yI.1 hk);rw[e3,e4,e5,qX h1,qX h2];rfl
def iE(ok:Bool)(w w':World)(e:Ending):Prop:= ∃c l:Int,e= .returned (.agg #[.int .u8 c,.int .i64 l])/\decide (c=0)=ok/\O0 w w'
theorem iE.mk{ok:Bool}(c l:Int){w w':World}{e:Ending}(he:e= .returned (.agg #[.int .u8 c,.int .i64 l]))(hf:decide (c=0)=ok)(ho:O0 w w'):iE ok w w' e:=⟨c,l,he,hf,ho⟩
theorem adU{pR:List Value}{x:aF}(hx:gy B w pR x)(hlen:x.packs.length<=1000000)(hsm:∀p∈x.packs,p.aX.length<=1000000/\p.vars.length<=1000000):Calls Tryz.prog 50 #[.agg pR.toArray] w fun e w'=>iE x.okB w w' e:=by
 obtain⟨aV,ak,aS,aT,aK,aO,rfl,fV,fZ,dQ,dR,aB,bJ,qo⟩:=open_rec hx;clear hx;try rw[aB.out]
 obtain⟨W0,hW0,bM,vC,aU⟩:=Nj w (.slice aV ak aS) (.slice aT aK aO) 25;obtain⟨gI,bK,bT⟩:=qo W0 bM.out;clear qo;rw[aB.out]at hlen;have HSm:=zh hsm;clear hsm;have hs:=vC.out;obtain⟨W1,hW1⟩:=ze (W0.alloc (.cells #[.int .u8 0,.int .i64 0] 43));have aW:Hid (O0 W0 W1):=zBO;have lG:Hid (∀W,O0 W1 W->W.heap[w.heap.size+1]? =some (.cells #[.int .u8 0,.int .i64 0] 43)):=fun W ho=>by have b0:W1.heap[w.heap.size+1]? =some (.cells #[.int .u8 0,.int .i64 0] 43):=zBB;exact aC b0 ho (fun f=>f)
 have Dj:Hid (O0 W1 W1):=Only.refl _ _;have hW0':=hW0.symm;clear hW0;by_cases q1:24<ak
 ·obtain⟨yy,hxy⟩:=zG x.packs 24 zAV;obtain⟨Ah,kX,lD,iL,lF,pU,pV,pW,vN,rP,vO,wS,uq,wU,Dy,zH,Dz,Au,xq,Aw,nN,jX,ny,sN,sO,wF,wG,yV,Ed,jw⟩:=jH (bK.out W0 zr) hxy;first|subst nN| (simp only[qG,qO,and_true]at nN;obtain⟨rfl,rfl⟩:=nN)
  have Io:=zh jX;have Ny2:=zh ny;have Ny3:=zh sN;have Ny4:=zh sO;have Ny5:=zh wF;have Ny6:=zh wG;have jk:=zh jw;have xO:=zh hxy;clear jw hxy jX ny sN sO wF wG;have uK:Hid (∀W,O0 W0 W->aQ 2 oh B W (.slice lD iL lF) yy.aX):=fun W ho=>(jk.out W ho).2.1;have FH:Hid (∀W,O0 W0 W->aQ 2 jM B W (.slice pU pV pW) yy.vars):=fun W ho=>(jk.out W ho).2.2.1;have RH:Hid (∀W,O0 W0 W->aQ 1 dN B W (.slice vN rP vO) yy.provides):=fun W ho=>(jk.out W ho).2.2.2.1;have WX:Hid (∀W,O0 W0 W->aQ 7 nH B W (.slice wS uq wU) yy.deps):=fun W ho=>(jk.out W ho).2.2.2.2.1;have ajb:Hid (∀W,O0 W0 W->aQ 7 rF B W (.slice Dy zH Dz) yy.cons):=fun W ho=>(jk.out W ho).2.2.2.2.2.1;have X3:Hid (∀W,O0 W0 W->aQ 1 dN B W (.slice Au xq Aw) yy.files):=fun W ho=>(jk.out W ho).2.2.2.2.2.2.1;have HCy:Hid (∀W,O0 W0 W->fQ B W [.string yy.name,.int .i64 yy.line,.slice lD iL lF,.slice pU pV pW,.slice vN rP vO,.slice wS uq wU,.slice Dy zH Dz,.slice Au xq Aw] yy):=fun W ho=>(jk.out W ho).2.2.2.2.2.2.2;have fE:=(jk.out W1 aW.out).1;have NI:=fE 1 _ rfl;clear fE;obtain⟨k0,k1⟩:=aU.out W1 (aW.out.same Dj.out);have hz:=lG.out W1 Dj.out;go_enter Tryz.func50,Tryz.ntmps50;go_wp2_with (refine wpList_store_row rfl 43 (.tmp 2) (.tmp 20) rfl (w.heap.size+1) #[.int .u8 1,.int .i64 yy.line] rfl rfl 43 #[.int .u8 0,.int .i64 0] hz zk rfl zk ?_);refine dn (p:=2) rfl rfl rfl rfl (setRow_heap _ _ _ _ _ _ hz) ?_;exact zDk
 by_cases q2:8<aK
 ·obtain⟨yz,hxz⟩:=zG x.cO 8 zAn;obtain⟨NG,xM,VO,VP,VQ,wE,Eb,Ky,acn,mJ⟩:=wu (bT.out W0 zr) hxz;first|subst wE| (simp only[qG,qO,and_true]at wE;obtain⟨rfl,rfl⟩:=wE)
  have vM:=zh mJ;clear mJ hxz Eb;have hrz:=(vM.out W1 aW.out).1;have gz2:=hrz 2 _ rfl;clear hrz;obtain⟨k0,k1⟩:=aU.out W1 (aW.out.same Dj.out);have hz:=lG.out W1 Dj.out;go_enter Tryz.func50,Tryz.ntmps50;go_wp2_with (refine wpList_store_row rfl 43 (.tmp 2) (.tmp 30) rfl (w.heap.size+1) #[.int .u8 1,.int .i64 yz.line] rfl rfl 43 #[.int .u8 0,.int .i64 0] hz zk rfl zk ?_);refine dn (p:=2) rfl rfl rfl rfl (setRow_heap _ _ _ _ _ _ hz) ?_;exact zDj
 obtain⟨k0,k1⟩:=aU.out W1 (aW.out.same Dj.out);go_enter Tryz.func50,Tryz.ntmps50;go_wp2_with fail;clear hW0' hW1 k0 k1;have ku:=Dj;go_loopw [34] (fun vi fM=>Hid (O0 W1 fM)/\∃i:Nat,vi= .int .i64 i/\i<=ak/\Hid (∀k,k<i->x.kL k=true)) (fun v _=>ak-(RowKit.intOf v).toNat);case atStart=>exact⟨ku,0,rfl,qE _,show Hid _ from fun k hk=>by omega⟩
 case round=>
  obtain⟨fM,rfl⟩:=zB wr;clear ku;obtain⟨yX,i,rfl,hi,HZ⟩:=hrel;obtain⟨k0,k1⟩:=aU.out fM (aW.out.same yX.out);by_cases ci:i<ak
  ·have iG:=zw (i+1);obtain⟨yy,hxy⟩:=zG x.packs i zAV;obtain⟨Ah,kX,lD,iL,lF,pU,pV,pW,vN,rP,vO,wS,uq,wU,Dy,zH,Dz,Au,xq,Aw,nN,jX,ny,sN,sO,wF,wG,yV,Ed,jw⟩:=jH (bK.out W0 zr) hxy;first|subst nN| (simp only[qG,qO,and_true]at nN;obtain⟨rfl,rfl⟩:=nN)
   have Io:=zh jX;have Ny2:=zh ny;have Ny3:=zh sN;have Ny4:=zh sO;have Ny5:=zh wF;have Ny6:=zh wG;have jk:=zh jw;have xO:=zh hxy;clear jw hxy jX ny sN sO wF wG;have uK:Hid (∀W,O0 W0 W->aQ 2 oh B W (.slice lD iL lF) yy.aX):=fun W ho=>(jk.out W ho).2.1;have FH:Hid (∀W,O0 W0 W->aQ 2 jM B W (.slice pU pV pW) yy.vars):=fun W ho=>(jk.out W ho).2.2.1;have RH:Hid (∀W,O0 W0 W->aQ 1 dN B W (.slice vN rP vO) yy.provides):=fun W ho=>(jk.out W ho).2.2.2.1;have WX:Hid (∀W,O0 W0 W->aQ 7 nH B W (.slice wS uq wU) yy.deps):=fun W ho=>(jk.out W ho).2.2.2.2.1;have ajb:Hid (∀W,O0 W0 W->aQ 7 rF B W (.slice Dy zH Dz) yy.cons):=fun W ho=>(jk.out W ho).2.2.2.2.2.1;have X3:Hid (∀W,O0 W0 W->aQ 1 dN B W (.slice Au xq Aw) yy.files):=fun W ho=>(jk.out W ho).2.2.2.2.2.2.1;have HCy:Hid (∀W,O0 W0 W->fQ B W [.string yy.name,.int .i64 yy.line,.slice lD iL lF,.slice pU pV pW,.slice vN rP vO,.slice wS uq wU,.slice Dy zH Dz,.slice Au xq Aw] yy):=fun W ho=>(jk.out W ho).2.2.2.2.2.2.2;have hpi:x.pack i=yy:=zAk;have hsz:=HSm.out yy (qT xO.out);have HAl:Hid (∀W,O0 W0 W->Calls Tryz.prog 104 #[.agg #[.slice (some ⟨Ah,kX,none⟩) ak aS,.slice aT aK aO],.int .i64 (i:Int)] W fun e w'=>eX (x.kL i) W w' e):=fun W hW=>ai3 (gI.out W hW) zAN zBe (by rw[hpi];exact hsz.1) (by rw[hpi];exact hsz.2);have fE:=zh (jk.out fM (aW.out.same yX.out)).1;obtain⟨Va,Zd⟩:=ze (fM.alloc (.cells #[.string ⟨#[]⟩,.int .i64 0,.slice none 0 0,.slice none 0 0,.slice none 0 0,.slice none 0 0,.slice none 0 0,.slice none 0 0] 101));have XO:Hid (Va.heap[fM.heap.size]? =some (.cells #[.string ⟨#[]⟩,.int .i64 0,.slice none 0 0,.slice none 0 0,.slice none 0 0,.slice none 0 0,.slice none 0 0,.slice none 0 0] 101)):=by rw[<-Zd];exact qL fM _
   obtain⟨W2,hW2⟩:=ze (Va.setRow fM.heap.size #[.string yy.name,.int .i64 yy.line,.slice lD iL lF,.slice pU pV pW,.slice vN rP vO,.slice wS uq wU,.slice Dy zH Dz,.slice Au xq Aw]);have adR:Hid (W2.heap[fM.heap.size]? =some (.cells #[.string yy.name,.int .i64 yy.line,.slice lD iL lF,.slice pU pV pW,.slice vN rP vO,.slice wS uq wU,.slice Dy zH Dz,.slice Au xq Aw] 101 (0,0))):=zAo;have HP2:Hid (O0 W1 W2):=by exact zDf
   have uM:Hid (∀W,O0 W2 W->W.cell? ⟨fM.heap.size,0,none⟩=some (.string yy.name)/\W.cell? ⟨fM.heap.size,1,none⟩=some (.int .i64 yy.line)/\W.cell? ⟨fM.heap.size,2,none⟩=some (.slice lD iL lF)/\W.cell? ⟨fM.heap.size,3,none⟩=some (.slice pU pV pW)/\W.cell? ⟨fM.heap.size,4,none⟩=some (.slice vN rP vO)/\W.cell? ⟨fM.heap.size,5,none⟩=some (.slice wS uq wU)/\W.cell? ⟨fM.heap.size,6,none⟩=some (.slice Dy zH Dz)/\W.cell? ⟨fM.heap.size,7,none⟩=some (.slice Au xq Aw)):=fun W ho=>by have b1:=aC adR.out ho (fun f=>f);exact zCK
   clear k0 k1;obtain⟨k0,k1⟩:=aU.out W2 (aW.out.same HP2.out);obtain⟨d0,d1,d2,d3,d4,d5,d6,d7⟩:=uM.out W2 zr;obtain⟨m0,m1⟩:=aU.out fM (aW.out.same yX.out);go_wp2_with (first
    | (refine wpList_load_mid rfl 101 (.tmp 37) rfl Ah (kX+i*8) rfl _ _ fE.out Tryz.underlying101 rfl zk ?_)
    | (refine wpList_store_row rfl 101 (.tmp 4) (.tmp 38) rfl fM.heap.size #[.string yy.name,.int .i64 yy.line,.slice lD iL lF,.slice pU pV pW,.slice vN rP vO,.slice wS uq wU,.slice Dy zH Dz,.slice Au xq Aw] rfl rfl 101 #[.string ⟨#[]⟩,.int .i64 0,.slice none 0 0,.slice none 0 0,.slice none 0 0,.slice none 0 0,.slice none 0 0,.slice none 0 0] XO.out zk rfl zk ?_))
   clear fE XO;clear m0 m1;refine(HAl.out W2 (aW.out.same HP2.out)).mono ?_;rintro e w3 ⟨c,rfl,-,hcd,O1⟩;have rH:=zh (HP2.out.same O1);have HQ3:=zh O1;clear O1 HAl k0 k1 d0 d1 d2 d3 d4 d5 d6 d7 Zd hW2;obtain⟨k0,k1⟩:=aU.out w3 (aW.out.same rH.out);obtain⟨d0,d1,d2,d3,d4,d5,d6,d7⟩:=uM.out w3 HQ3.out;by_cases c0:c=0
   ·subst c0;have HZ2:Hid (∀k,k<i+1->x.kL k=true):=fun k hk=>by
     rcases yK k i with h|h;·exact HZ.out k h
     obtain rfl:k=i:=by omega
     rw[<-hcd];rfl
    clear hcd hpi hsz;exact zDD
   have c1:((c:Int) != 0)=true:=by rw[bne_iff_ne];exact c0
   have Cj:Hid (x.okB=false):=Vo (i:=i) zBe (by rw[<-hcd];exact qP c0);clear hcd hpi hsz;go_wp2_with (refine wpList_store_row rfl 43 (.tmp 2) (.tmp 47) rfl (w.heap.size+1) #[.int .u8 c,.int .i64 yy.line] rfl rfl 43 #[.int .u8 0,.int .i64 0] (lG.out w3 rH.out) zk rfl zk ?_);refine dn (p:=2) rfl rfl rfl rfl (setRow_heap _ _ _ _ _ _ (lG.out w3 rH.out)) ?_;exact zCf
  obtain rfl:ak=i:=by omega
  have ku:=yX;go_wp2_with fail;clear k0 k1;go_loopw [52] (fun vj iJ=>Hid (O0 W1 iJ)/\∃j:Nat,vj= .int .i64 j/\j<=ak/\Hid (∀p∈x.packs.take j,(iU x p).1=0)) (fun v _=>ak-(RowKit.intOf v).toNat);case atStart=>exact⟨ku,0,rfl,qE _,show Hid _ from fun v hv=>by simp at hv⟩
  case round=>
   obtain⟨iJ,rfl⟩:=zB wr;clear ku;obtain⟨Bh,j,rfl,hj,RZ⟩:=hrel;obtain⟨k0,k1⟩:=aU.out iJ (aW.out.same Bh.out);by_cases cj:j<ak
   ·have iG:=zw (j+1);obtain⟨yv,hxv⟩:=zG x.packs j zAV;obtain⟨bkv,adV,av1,nv1,cv1,av2,nv2,cv2,av3,nv3,cv3,av4,nv4,cv4,av5,nv5,cv5,av6,nv6,cv6,hev,adW,adX,adY,adZ,ad1,ad2,amk,inv1,Vq⟩:=jH (bK.out W0 zr) hxv;first|subst hev| (simp only[qG,qO,and_true]at hev;obtain⟨rfl,rfl⟩:=hev)
    have HEv:=zh Vq;have HXv:=zh hxv;clear Vq hxv adW adX adY adZ ad1 ad2;have HCv:Hid (∀W,O0 W0 W->fQ B W [.string yv.name,.int .i64 yv.line,.slice av1 nv1 cv1,.slice av2 nv2 cv2,.slice av3 nv3 cv3,.slice av4 nv4 cv4,.slice av5 nv5 cv5,.slice av6 nv6 cv6] yv):=fun W ho=>(HEv.out W ho).2.2.2.2.2.2.2;obtain⟨c,l,hcl⟩:∃c l:Int,iU x yv=(c,l):=⟨_,_,rfl⟩;have HRl:Hid (∀W,O0 W0 W->Calls Tryz.prog 105 #[.agg #[.slice (some ⟨bkv,adV,none⟩) ak aS,.slice aT aK aO],.agg #[.string yv.name,.int .i64 yv.line,.slice av1 nv1 cv1,.slice av2 nv2 cv2,.slice av3 nv3 cv3,.slice av4 nv4 cv4,.slice av5 nv5 cv5,.slice av6 nv6 cv6]] W fun e w'=>e= .returned (.agg #[.int .u8 c,.int .i64 l])/\O0 W w'):=fun W hW=>by have:=adQ (gI.out W hW) (HCv.out W hW) zAN;rw[hcl]at this;exact this
    have HCL:=zh hcl;clear hcl;have xU:=zh (HEv.out iJ (aW.out.same Bh.out)).1;obtain⟨Vb,hVb⟩:=ze (iJ.alloc (.cells #[.string ⟨#[]⟩,.int .i64 0,.slice none 0 0,.slice none 0 0,.slice none 0 0,.slice none 0 0,.slice none 0 0,.slice none 0 0] 101));have H6b:Hid (Vb.heap[iJ.heap.size]? =some (.cells #[.string ⟨#[]⟩,.int .i64 0,.slice none 0 0,.slice none 0 0,.slice none 0 0,.slice none 0 0,.slice none 0 0,.slice none 0 0] 101)):=by rw[<-hVb];exact qL iJ _
    obtain⟨W4,JB⟩:=ze (Vb.setRow iJ.heap.size #[.string yv.name,.int .i64 yv.line,.slice av1 nv1 cv1,.slice av2 nv2 cv2,.slice av3 nv3 cv3,.slice av4 nv4 cv4,.slice av5 nv5 cv5,.slice av6 nv6 cv6]);have aja:Hid (W4.heap[iJ.heap.size]? =some (.cells #[.string yv.name,.int .i64 yv.line,.slice av1 nv1 cv1,.slice av2 nv2 cv2,.slice av3 nv3 cv3,.slice av4 nv4 cv4,.slice av5 nv5 cv5,.slice av6 nv6 cv6] 101 (0,0))):=by rw[<-JB];exact setRow_heap _ _ _ _ _ _ H6b.out
    have xu:Hid (O0 W1 W4):=by exact zEK
    have uM:Hid (∀W,O0 W4 W->W.cell? ⟨iJ.heap.size,0,none⟩=some (.string yv.name)/\W.cell? ⟨iJ.heap.size,1,none⟩=some (.int .i64 yv.line)/\W.cell? ⟨iJ.heap.size,2,none⟩=some (.slice av1 nv1 cv1)/\W.cell? ⟨iJ.heap.size,3,none⟩=some (.slice av2 nv2 cv2)/\W.cell? ⟨iJ.heap.size,4,none⟩=some (.slice av3 nv3 cv3)/\W.cell? ⟨iJ.heap.size,5,none⟩=some (.slice av4 nv4 cv4)/\W.cell? ⟨iJ.heap.size,6,none⟩=some (.slice av5 nv5 cv5)/\W.cell? ⟨iJ.heap.size,7,none⟩=some (.slice av6 nv6 cv6)):=fun W ho=>by have b1:=aC aja.out ho (fun f=>f);exact zCK
    clear k0 k1;obtain⟨k0,k1⟩:=aU.out W4 (aW.out.same xu.out);obtain⟨d0,d1,d2,d3,d4,d5,d6,d7⟩:=uM.out W4 zr;obtain⟨m0,m1⟩:=aU.out iJ (aW.out.same Bh.out);go_wp2_with (first
     | (refine wpList_load_mid rfl 101 (.tmp 54) rfl bkv (adV+j*8) rfl _ _ xU.out Tryz.underlying101 rfl zk ?_)
     | (refine wpList_store_row rfl 101 (.tmp 7) (.tmp 55) rfl iJ.heap.size #[.string yv.name,.int .i64 yv.line,.slice av1 nv1 cv1,.slice av2 nv2 cv2,.slice av3 nv3 cv3,.slice av4 nv4 cv4,.slice av5 nv5 cv5,.slice av6 nv6 cv6] rfl rfl 101 #[.string ⟨#[]⟩,.int .i64 0,.slice none 0 0,.slice none 0 0,.slice none 0 0,.slice none 0 0,.slice none 0 0,.slice none 0 0] H6b.out zk rfl zk ?_))
    clear xU H6b;clear m0 m1;refine(HRl.out W4 (aW.out.same xu.out)).mono ?_;rintro e w5 ⟨rfl,O1⟩;have CQ:=zh (xu.out.same O1);clear O1 HRl k0 k1 d0 d1 d2 d3 d4 d5 d6 d7 hVb JB;obtain⟨V9,hV9⟩:=ze (w5.alloc (.cells #[.int .u8 0,.int .i64 0] 43));have H69:Hid (V9.heap[w5.heap.size]? =some (.cells #[.int .u8 0,.int .i64 0] 43)):=by rw[<-hV9];exact qL w5 _
    obtain⟨W9,hW9⟩:=ze (V9.setRow w5.heap.size #[.int .u8 c,.int .i64 l]);have HB9:Hid (W9.heap[w5.heap.size]? =some (.cells #[.int .u8 c,.int .i64 l] 43 (0,0))):=by rw[<-hW9];exact setRow_heap _ _ _ _ _ _ H69.out
    have X4:Hid (O0 W1 W9):=by rw[<-hW9,<-hV9];exact(CQ.out.alloc _).trans (aP _ _ _) fun k hk=>.inr (by rw[hk];exact CQ.out.size)
    have r0:W9.cell? ⟨w5.heap.size,0,none⟩=some (.int .u8 c):=by rw[aj HB9.out];rfl
    have r1:W9.cell? ⟨w5.heap.size,1,none⟩=some (.int .i64 l):=by rw[aj HB9.out];rfl
    obtain⟨k0,k1⟩:=aU.out W9 (aW.out.same X4.out);by_cases c0:c=0
    ·subst c0;have HZ3:Hid (∀p∈x.packs.take (j+1),(iU x p).1=0):=fun p hp=>by
      rcases bH HXv.out hp with h|rfl;·exact RZ.out p h
      rw[HCL.out]
     have z00:((0:Int) != 0)=false:=rfl;go_wp2_with (refine wpList_store_row rfl 43 (.tmp 8) (.tmp 58) rfl w5.heap.size #[.int .u8 0,.int .i64 l] rfl rfl 43 #[.int .u8 0,.int .i64 0] H69.out zk rfl zk ?_);go_roundw;case rel=>exact⟨X4,j+1,by first|rfl|go_num,by omega,HZ3⟩
     case measure=>simp[RowKit.intOf]<;>omega
    have c1:((c:Int) != 0)=true:=by rw[bne_iff_ne];exact c0
    have Cj:Hid (x.okB=false):=Me (qT HXv.out) (by rw[HCL.out];exact c0);go_wp2_with (first
     | (refine wpList_store_row rfl 43 (.tmp 8) (.tmp 58) rfl w5.heap.size #[.int .u8 c,.int .i64 l] rfl rfl 43 #[.int .u8 0,.int .i64 0] H69.out zk rfl zk ?_)
     | (refine wpList_store_row rfl 43 (.tmp 2) (.tmp 62) rfl (w.heap.size+1) #[.int .u8 c,.int .i64 l] rfl rfl 43 #[.int .u8 0,.int .i64 0] (lG.out W9 X4.out) zk rfl zk ?_))
    refine dn (p:=2) rfl rfl rfl rfl (setRow_heap _ _ _ _ _ _ (lG.out W9 X4.out)) ?_;exact zET
   obtain rfl:ak=j:=by omega
   have XD:Hid (∀p∈x.packs,(iU x p).1=0):=fun p hp=>RZ.out p (by
    rw[qI (yG aB.out)]
    exact hp)
   have ku:=Bh;go_wp2_with fail;clear k0 k1;go_loopw [67] (fun vm BL=>Hid (O0 W1 BL)/\∃m:Nat,vm= .int .i64 m/\m<=aK/\Hid (∀k,k<m->x.uG k=true)) (fun v _=>aK-(RowKit.intOf v).toNat);case atStart=>exact⟨ku,0,rfl,qE _,show Hid _ from fun k hk=>by omega⟩
   case round=>
    obtain⟨BL,rfl⟩:=zB wr;clear ku;obtain⟨Jr,m,rfl,hm,HZm⟩:=hrel;obtain⟨k0,k1⟩:=aU.out BL (aW.out.same Jr.out);by_cases cm:m<aK
    ·have iG:=zw (m+1);obtain⟨yf,hxf⟩:=zG x.cO m zAn;obtain⟨bkf,ajd,af1,nf1,cf1,hef,aje,ap4,ap5,ad3⟩:=wu (bT.out W0 zr) hxf;first|subst hef| (simp only[qG,qO,and_true]at hef;obtain⟨rfl,rfl⟩:=hef)
     have HEf:=zh ad3;clear ad3 hxf aje;obtain⟨bb,hbb⟩:=ze (x.uG m);have HPf:Hid (∀W,O0 W0 W->Calls Tryz.prog 106 #[.agg #[.slice aV ak aS,.slice (some ⟨bkf,ajd,none⟩) aK aO],.int .i64 (m:Int)] W fun e w'=>e= .returned (.bool bb)/\O0 W w'):=fun W hW=>by rw[<-hbb];exact adT (gI.out W hW) zAN zBd
     have Jc:=zh hbb;clear hbb;have hrf:=zh (HEf.out BL (aW.out.same Jr.out)).1;obtain⟨Vc,hVc⟩:=ze (BL.alloc (.cells #[.string ⟨#[]⟩,.slice none 0 0,.int .i64 0] 103));have H6c:Hid (Vc.heap[BL.heap.size]? =some (.cells #[.string ⟨#[]⟩,.slice none 0 0,.int .i64 0] 103)):=by rw[<-hVc];exact qL BL _
     obtain⟨W6,hW6⟩:=ze (Vc.setRow BL.heap.size #[.string yf.virtual,.slice af1 nf1 cf1,.int .i64 yf.line]);have aqa:Hid (W6.heap[BL.heap.size]? =some (.cells #[.string yf.virtual,.slice af1 nf1 cf1,.int .i64 yf.line] 103 (0,0))):=by rw[<-hW6];exact setRow_heap _ _ _ _ _ _ H6c.out
     have DC:Hid (O0 W1 W6):=by rw[<-hW6,<-hVc];exact(Jr.out.alloc _).trans (aP _ _ _) fun k hk=>.inr (by rw[hk];exact Jr.out.size)
     have uM:Hid (∀W,O0 W6 W->W.cell? ⟨BL.heap.size,0,none⟩=some (.string yf.virtual)/\W.cell? ⟨BL.heap.size,1,none⟩=some (.slice af1 nf1 cf1)/\W.cell? ⟨BL.heap.size,2,none⟩=some (.int .i64 yf.line)):=fun W ho=>by have b1:=aC aqa.out ho (fun f=>f);exact⟨by rw[aj b1];rfl,by rw[aj b1];rfl,by rw[aj b1];rfl⟩
     clear k0 k1;obtain⟨k0,k1⟩:=aU.out W6 (aW.out.same DC.out);obtain⟨d0,d1,d2⟩:=uM.out W6 zr;obtain⟨n0,n1⟩:=aU.out BL (aW.out.same Jr.out);go_wp2_with (first
      | (refine wpList_load_mid rfl 103 (.tmp 70) rfl bkf (ajd+m*3) rfl _ _ hrf.out Tryz.underlying103 rfl zk ?_)
      | (refine wpList_store_row rfl 103 (.tmp 10) (.tmp 71) rfl BL.heap.size #[.string yf.virtual,.slice af1 nf1 cf1,.int .i64 yf.line] rfl rfl 103 #[.string ⟨#[]⟩,.slice none 0 0,.int .i64 0] H6c.out zk rfl zk ?_))
     clear hrf H6c;clear n0 n1;refine(HPf.out W6 (aW.out.same DC.out)).mono ?_;rintro e w7 ⟨rfl,O1⟩;have Aq:=zh (DC.out.same O1);have HQ7:=zh O1;clear O1 HPf k0 k1 d0 d1 d2 hVc hW6;obtain⟨k0,k1⟩:=aU.out w7 (aW.out.same Aq.out);obtain⟨d0,d1,d2⟩:=uM.out w7 HQ7.out;cases bb with
     |true=>
      have HZ4:Hid (∀k,k<m+1->x.uG k=true):=fun k hk=>by exact zEW
      go_wp2_with fail;go_roundw;case rel=>exact⟨Aq,m+1,by first|rfl|go_num,by omega,HZ4⟩
      case measure=>simp[RowKit.intOf]<;>omega
     |false=>have Cj:Hid (x.okB=false):=Vp (i:=m) zBd Jc.out;go_wp2_with (refine wpList_store_row rfl 43 (.tmp 2) (.tmp 78) rfl (w.heap.size+1) #[.int .u8 10,.int .i64 yf.line] rfl rfl 43 #[.int .u8 0,.int .i64 0] (lG.out w7 Aq.out) zk rfl zk ?_);refine dn (p:=2) rfl rfl rfl rfl (setRow_heap _ _ _ _ _ _ (lG.out w7 Aq.out)) ?_;exact iE.mk _ _ rfl (by rw[Cj.out];rfl) ((bM.out.same (aW.out.same Aq.out)).trans (aP _ _ _) (fun k hk=>.inr zAB))
    obtain rfl:aK=m:=by omega
    have MB:Hid (x.okB=true):=Zk zAV (by rw[bJ.out];omega) (fun k hk=>HZ.out k (by rw[aB.out]at hk;exact hk)) XD.out (fun k hk=>HZm.out k (by rw[bJ.out]at hk;exact hk));go_wp2_with (refine wpList_store_row rfl 43 (.tmp 2) (.tmp 80) rfl (w.heap.size+1) #[.int .u8 0,.int .i64 0] rfl rfl 43 #[.int .u8 0,.int .i64 0] (lG.out BL Jr.out) zk rfl zk ?_);exact zDG
theorem Vr{x:aF}{q:dH}(h:q.roots.length=0):q.okB x=false:=by unfold dH.okB;rw[qP zAB];rfl
theorem Vs{x:aF}{q:dH}(h:8<q.roots.length):q.okB x=false:=by unfold dH.okB;rw[qP (show¬q.roots.length<=8 by omega)];simp
theorem Zl{x:aF}{q:dH}{r:Dn}(hr:r∈q.roots)(h:x.wish r.spec≠0):q.okB x=false:=by unfold dH.okB;have:(q.roots.all fun r=>decide (x.wish r.spec=0))=false:=List.all_eq_false.2 ⟨r,hr,by rw[qP h];simp⟩;rw[this];simp
theorem Zm{x:aF}{q:dH}(h1:0<q.roots.length)(h2:q.roots.length<=8)(h3:∀r∈q.roots,x.wish r.spec=0):q.okB x=true:=by unfold dH.okB;have:(q.roots.all fun r=>decide (x.wish r.spec=0))=true:=List.all_eq_true.2 fun r hr=>qX (h3 r hr);rw[this,qX h1,qX h2];rfl
theorem aaR{pR:List Value}{x:aF}(hx:gy B w pR x){Rz:List Value}{q:dH}(hq:lW B w Rz q)(hlen:x.packs.length<=1000000):Calls Tryz.prog 51 #[.agg pR.toArray,.agg Rz.toArray] w fun e w'=>iE (q.okB x) w w' e:=by
 obtain⟨aV,ak,aS,aT,aK,aO,rfl,fV,fZ,dQ,dR,aB,bJ,qo⟩:=open_rec hx;clear hx;try rw[aB.out]
 obtain⟨jD,bZ,jE,rfl,zA,zC,dK,Vg⟩:=xY hq;clear hq;try rw[dK.out]
 obtain⟨W0,hW0,bM,vC,aU⟩:=GY w (.slice aV ak aS) (.slice aT aK aO) (.slice jD bZ jE) 25 28;obtain⟨gI,bK,bT⟩:=qo W0 bM.out;clear qo;obtain⟨BK,kU⟩:=Vg W0 bM.out;clear Vg;clear dQ dR bJ bT;rw[aB.out]at hlen;have hs:=vC.out;obtain⟨W1,hW1⟩:=ze (W0.alloc (.cells #[.int .u8 0,.int .i64 0] 43));have aW:Hid (O0 W0 W1):=zBO;have lG:Hid (∀W,O0 W1 W->W.heap[w.heap.size+2]? =some (.cells #[.int .u8 0,.int .i64 0] 43)):=fun W ho=>by exact zED
 have Dj:Hid (O0 W1 W1):=Only.refl _ _;have hW0':=hW0.symm;clear hW0;by_cases q0:bZ=0;·subst q0;obtain⟨k0,k1,k2⟩:=aU.out W1 (aW.out.same Dj.out);have hz:=lG.out W1 Dj.out;go_enter Tryz.func51,Tryz.ntmps51;go_wp2_with (refine wpList_store_row rfl 43 (.tmp 4) (.tmp 13) rfl (w.heap.size+2) #[.int .u8 11,.int .i64 0] rfl rfl 43 #[.int .u8 0,.int .i64 0] hz zk rfl zk ?_);refine dn (p:=4) rfl rfl rfl rfl (setRow_heap _ _ _ _ _ _ hz) ?_;exact zDu
 by_cases q1:8<bZ
 ·obtain⟨yr,hxr⟩:=zG q.roots 8 zAm;obtain⟨bkr,aaw,ar1,nr1,cr1,ar2,nr2,cr2,her,aea,aeb,amo,aqb,aec⟩:=Ba (kU.out W0 zr) hxr;first|subst her| (simp only[qG,qO,and_true]at her;obtain⟨rfl,rfl⟩:=her)
  have Nr1:=zh aea;have Nr2:=zh aeb;have HEr:=zh aec;have HXr:=zh hxr;clear aec hxr aea aeb;have amq:Hid (∀W,O0 W0 W->aQ 2 eY B W (.slice ar1 nr1 cr1) yr.spec.spans):=fun W ho=>(HEr.out W ho).2.1;have amr:Hid (∀W,O0 W0 W->aQ 2 ji B W (.slice ar2 nr2 cr2) yr.spec.sets):=fun W ho=>(HEr.out W ho).2.2.1;have HCr:Hid (∀W,O0 W0 W->lM B W [.string yr.spec.name,.slice ar1 nr1 cr1,.slice ar2 nr2 cr2,.int .i64 yr.line] yr):=fun W ho=>(HEr.out W ho).2.2.2;have hrr:=(HEr.out W1 aW.out).1;have gr3:=hrr 3 _ rfl;clear hrr;obtain⟨k0,k1,k2⟩:=aU.out W1 (aW.out.same Dj.out);have hz:=lG.out W1 Dj.out;go_enter Tryz.func51,Tryz.ntmps51;go_wp2_with (refine wpList_store_row rfl 43 (.tmp 4) (.tmp 24) rfl (w.heap.size+2) #[.int .u8 1,.int .i64 yr.line] rfl rfl 43 #[.int .u8 0,.int .i64 0] hz zk rfl zk ?_);refine dn (p:=4) rfl rfl rfl rfl (setRow_heap _ _ _ _ _ _ hz) ?_;exact zES
 have z3:((bZ:Int)==0)=false:=by rw[yC];omega
 obtain⟨k0,k1,k2⟩:=aU.out W1 (aW.out.same Dj.out);go_enter Tryz.func51,Tryz.ntmps51;go_wp2_with fail;clear hW0' hW1 k0 k1 k2;have ku:=Dj;go_loopw [28] (fun vi fM=>Hid (O0 W1 fM)/\∃i:Nat,vi= .int .i64 i/\i<=bZ/\Hid (∀r∈q.roots.take i,x.wish r.spec=0)) (fun v _=>bZ-(RowKit.intOf v).toNat);case atStart=>exact⟨ku,0,rfl,qE _,show Hid _ from fun v hv=>by simp at hv⟩
 case round=>
  obtain⟨fM,rfl⟩:=zB wr;clear ku;obtain⟨yX,i,rfl,hi,HZ⟩:=hrel;obtain⟨k0,k1,k2⟩:=aU.out fM (aW.out.same yX.out);by_cases ci:i<bZ
  ·have iG:=zw (i+1);obtain⟨yr,hxr⟩:=zG q.roots i zAm;obtain⟨bkr,aaw,ar1,nr1,cr1,ar2,nr2,cr2,her,aea,aeb,amo,aqb,aec⟩:=Ba (kU.out W0 zr) hxr;first|subst her| (simp only[qG,qO,and_true]at her;obtain⟨rfl,rfl⟩:=her)
   have Nr1:=zh aea;have Nr2:=zh aeb;have HEr:=zh aec;have HXr:=zh hxr;clear aec hxr aea aeb;have amq:Hid (∀W,O0 W0 W->aQ 2 eY B W (.slice ar1 nr1 cr1) yr.spec.spans):=fun W ho=>(HEr.out W ho).2.1;have amr:Hid (∀W,O0 W0 W->aQ 2 ji B W (.slice ar2 nr2 cr2) yr.spec.sets):=fun W ho=>(HEr.out W ho).2.2.1;have HCr:Hid (∀W,O0 W0 W->lM B W [.string yr.spec.name,.slice ar1 nr1 cr1,.slice ar2 nr2 cr2,.int .i64 yr.line] yr):=fun W ho=>(HEr.out W ho).2.2.2;obtain⟨c,hc⟩:=ze (x.wish yr.spec);have HWs:Hid (∀W,O0 W0 W->Calls Tryz.prog 107 #[.agg #[.slice aV ak aS,.slice aT aK aO],.agg #[.string yr.spec.name,.slice ar1 nr1 cr1,.slice ar2 nr2 cr2]] W fun e w'=>e= .returned (.int .u8 c)/\O0 W w'):=fun W hW=>by rw[<-hc];exact X0 (gI.out W hW) (⟨_,_,rfl,amo,amq.out W hW,amr.out W hW⟩:dB B W [.string yr.spec.name,.slice ar1 nr1 cr1,.slice ar2 nr2 cr2] yr.spec) zAN
   have HC:=zh hc;clear hc;have hrr:=zh (HEr.out fM (aW.out.same yX.out)).1;obtain⟨Va,Zd⟩:=ze (fM.alloc (.cells #[.string ⟨#[]⟩,.slice none 0 0,.slice none 0 0,.int .i64 0] 110));have XO:Hid (Va.heap[fM.heap.size]? =some (.cells #[.string ⟨#[]⟩,.slice none 0 0,.slice none 0 0,.int .i64 0] 110)):=by rw[<-Zd];exact qL fM _
   obtain⟨W2,hW2⟩:=ze (Va.setRow fM.heap.size #[.string yr.spec.name,.slice ar1 nr1 cr1,.slice ar2 nr2 cr2,.int .i64 yr.line]);have adR:Hid (W2.heap[fM.heap.size]? =some (.cells #[.string yr.spec.name,.slice ar1 nr1 cr1,.slice ar2 nr2 cr2,.int .i64 yr.line] 110 (0,0))):=zAo;have HP2:Hid (O0 W1 W2):=by exact zDf
   have uM:Hid (∀W,O0 W2 W->W.cell? ⟨fM.heap.size,0,none⟩=some (.string yr.spec.name)/\W.cell? ⟨fM.heap.size,1,none⟩=some (.slice ar1 nr1 cr1)/\W.cell? ⟨fM.heap.size,2,none⟩=some (.slice ar2 nr2 cr2)/\W.cell? ⟨fM.heap.size,3,none⟩=some (.int .i64 yr.line)):=fun W ho=>by have b1:=aC adR.out ho (fun f=>f);exact⟨by rw[aj b1];rfl,by rw[aj b1];rfl,by rw[aj b1];rfl,by rw[aj b1];rfl⟩
   clear k0 k1 k2;obtain⟨k0,k1,k2⟩:=aU.out W2 (aW.out.same HP2.out);obtain⟨d0,d1,d2,d3⟩:=uM.out W2 zr;obtain⟨m0,m1,m2⟩:=aU.out fM (aW.out.same yX.out);go_wp2_with (first
    | (refine wpList_load_mid rfl 110 (.tmp 30) rfl bkr (aaw+i*4) rfl _ _ hrr.out Tryz.underlying110 rfl zk ?_)
    | (refine wpList_store_row rfl 110 (.tmp 6) (.tmp 31) rfl fM.heap.size #[.string yr.spec.name,.slice ar1 nr1 cr1,.slice ar2 nr2 cr2,.int .i64 yr.line] rfl rfl 110 #[.string ⟨#[]⟩,.slice none 0 0,.slice none 0 0,.int .i64 0] XO.out zk rfl zk ?_))
   clear hrr XO;clear m0 m1 m2;refine(HWs.out W2 (aW.out.same HP2.out)).mono ?_;rintro e w3 ⟨rfl,O1⟩;have rH:=zh (HP2.out.same O1);have HQ3:=zh O1;clear O1 HWs k0 k1 k2 d0 d1 d2 d3 Zd hW2;obtain⟨k0,k1,k2⟩:=aU.out w3 (aW.out.same rH.out);obtain⟨d0,d1,d2,d3⟩:=uM.out w3 HQ3.out;by_cases c0:c=0
   ·subst c0;have HZ2:Hid (∀r∈q.roots.take (i+1),x.wish r.spec=0):=fun p hp=>by
     rcases bH HXr.out hp with h|rfl;·exact HZ.out p h
     exact HC.out
    exact zDD
   have c1:((c:Int) != 0)=true:=by rw[bne_iff_ne];exact c0
   have Cj:Hid (q.okB x=false):=Zl (qT HXr.out) (by rw[HC.out];exact c0);go_wp2_with (refine wpList_store_row rfl 43 (.tmp 4) (.tmp 41) rfl (w.heap.size+2) #[.int .u8 c,.int .i64 yr.line] rfl rfl 43 #[.int .u8 0,.int .i64 0] (lG.out w3 rH.out) zk rfl zk ?_);refine dn (p:=4) rfl rfl rfl rfl (setRow_heap _ _ _ _ _ _ (lG.out w3 rH.out)) ?_;exact zCf
  obtain rfl:bZ=i:=by omega
  have MB:Hid (q.okB x=true):=Zm (by rw[dK.out];omega) zAm (fun r hr=>HZ.out r (by
   rw[qI (yG dK.out)]
   exact hr))
  go_wp2_with (refine wpList_store_row rfl 43 (.tmp 4) (.tmp 43) rfl (w.heap.size+2) #[.int .u8 0,.int .i64 0] rfl rfl 43 #[.int .u8 0,.int .i64 0] (lG.out fM yX.out) zk rfl zk ?_);exact zDF
end
end Go.Proofs.YtdmmebjjojimiaaGreatDoor
namespace Go.Proofs
theorem zDQ{p:Prop}(h:p:=by
 intro k hk
 rcases yK k w.heap.size with hlt|hge
 ·refine H1.Jz k ?_
  unfold Mine at hk⊢
  rwa[A1 k hlt,A2 k hlt]at hk
 ·unfold Mine;rw[H1.fresh k hge];simp):p:=h
theorem zEs{p:Prop}(h:p:=by
 intro k hk
 rw[bP.agree A1 A2 (Agree.refl w gp) (dP H1.names hk)];exact H1.nb k hk):p:=h
end Go.Proofs
namespace Go.Proofs.YtdmmebjjojimiaaGreatDoor
open Go.RowKit
def uH(w:World)(gt gb gp:Tag)(X:MW)(Bs:Nat)(D:xC)(E:ES)(m3:Nat)(I:List (Nat×List Int)):Prop:=jl w gt gb gp X Bs D E/\∃val,rD KI w gp 4 m3 I val
def dG(w:World)(gt gb gp:Tag)(X:MW)(Bs:Nat)(D:xC)(E:ES)(m3:Nat)(I:List (Nat×List Int))(w':World):Prop:=
 ∃gt' gb' lS,uH w' gt' gb' lS X Bs D E m3 I/\Agree w gt gt'/\Agree w gb gb'/\Agree w gp lS/\Only (bP gt gb gp) w w'
section
variable {w w':World} {gt gb gp:Tag} {X:MW} {Bs:Nat} {D:xC} {E:ES} {m3:Nat} {I:List (Nat×List Int)}
theorem uH.aH(H:uH w gt gb gp X Bs D E m3 I)(ho:O0 w w'):uH w' gt gb gp X Bs D E m3 I:=by obtain⟨h1,val,h2⟩:=H;exact⟨h1.aH ho,val,h2.keep ho (fun _ _ f=>f) (Agree.refl _ _)⟩
theorem dG.refl(H:uH w gt gb gp X Bs D E m3 I):dG w gt gb gp X Bs D E m3 I w:=⟨gt,gb,gp,H,Agree.refl _ _,Agree.refl _ _,Agree.refl _ _,Only.refl _ _⟩
theorem dG.trans{w1 w2:World}{jO jP Sr:Tag}(ht:Agree w gt jO)(hb:Agree w gb jP)(hp:Agree w gp Sr)(ho:Only (bP gt gb gp) w w1){E2:ES}{I2:List (Nat×List Int)}(h2:dG w1 jO jP Sr X Bs D E2 m3 I2 w2):dG w gt gb gp X Bs D E2 m3 I2 w2:=by exact zDY
theorem dG.after{w1 w2:World}(o1:O0 w w1){E2:ES}{I2:List (Nat×List Int)}(h:dG w1 gt gb gp X Bs D E2 m3 I2 w2):dG w gt gb gp X Bs D E2 m3 I2 w2:=dG.trans (Agree.refl _ _) (Agree.refl _ _) (Agree.refl _ _) (o1.mono fun _ f=>f.elim) h
theorem dG.Lm{w1 w2:World}(h:dG w gt gb gp X Bs D E m3 I w1)(o:O0 w1 w2):dG w gt gb gp X Bs D E m3 I w2:=by exact zD1
theorem dG.only(h:dG w gt gb gp X Bs D E m3 I w'):Only (bP gt gb gp) w w':=by obtain⟨_,_,_,_,_,_,_,O⟩:=h;exact O
theorem dG.MZ(h:dG w gt gb gp X Bs D E m3 I w'):E.1.1.Ok:=by obtain⟨_,_,_,H,_⟩:=h;exact H.1.ok
theorem dG.ed(h:dG w gt gb gp X Bs D E m3 I w'):bF w gt gb gp X Bs D E w':=by obtain⟨gt',gb',lS,H2,A1,A2,A3,O⟩:=h;exact⟨gt',gb',lS,H2.1,A1,A2,A3,O⟩
theorem dG.call(h:dG w gt gb gp X Bs D E m3 I w'){w2:World}(o:O0 w' w2){E2:ES}{I2:List (Nat×List Int)}{f:FuncId}{args:Array Value}{u:Value}(hc:∀gt' gb' lS,uH w2 gt' gb' lS X Bs D E m3 I->Only (bP gt gb gp) w w2->Calls Tryz.prog f args w2 fun e w3=>e= .returned u/\dG w2 gt' gb' lS X Bs D E2 m3 I2 w3):Calls Tryz.prog f args w2 fun e w3=>e= .returned u/\dG w gt gb gp X Bs D E2 m3 I2 w3:=by obtain⟨gt',gb',lS,H2,A1,A2,A3,O⟩:=h;exact(hc gt' gb' lS (H2.aH o) (O.same (o.mono fun _ f=>f.elim))).mono fun e w3 ⟨he,h⟩=>⟨he,dG.trans A1 A2 A3 O (dG.after o h)⟩
theorem uH.step(H:uH w gt gb gp X Bs D E m3 I){S2:TB}(h:aZ w gt gb X.c X.bt X.bb X.G Bs D S2 w'):dG w gt gb gp X Bs D (S2,E.2) m3 I w':=by
 obtain⟨H1,val,hR⟩:=H;have h0:=H1.step h;obtain⟨gt',gb',H2,A1,A2,O⟩:=h;have hF:∀k,(gp k).1=4->¬(Mine gt k\/Mine gb k):=fun k hk hm=>H1.Jz k hm zA4;obtain⟨v1,h1⟩:=H1.of;obtain⟨us,h2⟩:=H1.needs;obtain⟨v3,h3⟩:=H1.roots;have hF2:∀{τ:Nat},0<τ->∀k,(gp k).1=τ->¬(Mine gt k\/Mine gb k):=fun{τ} ht k hk hm=>H1.Jz k hm zA4;have hpx:=bU H1.blk;refine⟨gt',gb',gp,⟨⟨H2,⟨v1,h1.keep O (hF2 zBl) (Agree.refl _ _)⟩,⟨us,h2.keep O (hF2 zBU) (Agree.refl _ _)⟩,H1.Jp,⟨v3,h3.keep O (hF2 zAB) (Agree.refl _ _)⟩,aC H1.blk O (fun hm=>H1.tp (.inl hm)),?_,H1.tc,aG H1.names O (fun k hk hm=>H1.nb k hk (.inl hm)),?_,H1.nok,H1.low,?_,H1.fresh.more O.size⟩,val,hR.keep O hF (Agree.refl _ _)⟩,A1,A2,Agree.refl _ _,O.mono fun k hk=>.inl hk⟩;·rw[bP.agree A1 A2 (Agree.refl w gp) hpx];exact H1.tp
 ·exact zEs
 exact zDQ
theorem Zn(H:uH w gt gb gp X Bs D E m3 I){v:Value}{xs:List Int}(hI:Ints w v xs)(hb:xs.length<=1000000):Calls Tryz.prog 163 #[.pointer (some ⟨X.c,0,none⟩),v] w fun e w'=>e= .returned (.tuple #[])/\dG w gt gb gp X Bs D (E.1.bG xs,E.2) m3 I w':=(YW H.1.gx hI hb).mono fun e w' ⟨he,h⟩=>⟨he,H.step h⟩
theorem X5(H:uH w gt gb gp X Bs D E m3 I){p:Nat}(hp:p<=1000000)(z:Int)(hz:(E.1.num (aI p)).2=z):
  Calls Tryz.prog 164 #[.pointer (some ⟨X.c,0,none⟩),.int .i64 p] w fun e w'=>e= .returned (.int .i64 z)/\dG w gt gb gp X Bs D ((E.1.num (aI p)).1,E.2) m3 I w':=
 (QH H.1.gx (p:=p) ⟨by omega,by omega⟩ z hz).mono fun e w' ⟨he,h⟩=>⟨he,H.step h⟩
theorem aed(H:uH w gt gb gp X Bs D E m3 I){x:At}(hx:nK x)(z:Int)(hz:(E.1.num x).2=z):Calls Tryz.prog 75 #[.pointer (some ⟨X.c,0,none⟩),iY x] w fun e w'=>e= .returned (.int .i64 z)/\dG w gt gb gp X Bs D ((E.1.num x).1,E.2) m3 I w':=(DN H.1.gx hx z hz).mono fun e w' ⟨he,h⟩=>⟨he,H.step h⟩
theorem uH.ams(H:uH w gt gb gp X Bs D E m3 I){e:Nat}(he:KI.ok e){z:Int}(hz:bg z)(hl:I.length<maxLen):∃(ix:Nat) (v:Value),Row w gp (4,ix+1) 3 v ((dD I e).map cI)/\(∀W,Only (fun k=>gp k=(4,ix+1)) w W->(Instr.lookup 151 (.map (some m3)) (.int .i64 (e:Int)) false).run Tryz.prog W= .ok v W)/\(∀wA w5 v',O0 w wA->Only (fun k=>gp k=(4,ix+1)) wA w5->Row w5 (Tag.put gp wA.heap.size w5.heap.size (4,ix+1)) (4,ix+1) 3 v' ((dD I e).map cI++[cI z])->∃w9,(Instr.mapUpdate 151 (.map (some m3)) (.int .i64 (e:Int)) v').run Tryz.prog w5= .ok () w9/\dG w gt gb gp X Bs D E m3 (dM I e z) w9):=by
 obtain⟨H1,v4,hI⟩:=H;obtain⟨val,hR⟩:=H1.of;obtain⟨us,hN⟩:=H1.needs;obtain⟨v3,SA⟩:=H1.roots;refine⟨oK I e,v4 e,hI.rowAt e,fun W hW=>hI.look' he hW (by rw[hI.tb];simp),fun wA w5 v' oA o5 hr=>?_⟩;have HA:=H1.aH oA;have hRA:=hI.keep oA (fun _ _ f=>f) (Agree.refl _ _);have hA:Agree wA gp (Tag.put gp wA.heap.size w5.heap.size (4,oK I e+1)):=Agree.put _ _ (qH _);obtain⟨w9,h1,h2,h3⟩:=hRA.push he hA o5 hz hr hl;refine⟨w9,h1,dG.after oA ?_⟩;have hm1:=hRA.tb;have V5:Only (fun k=>gp k=(4,oK I e+1)\/k=m3) wA w9:=(o5.mono fun k hk=>.inl hk).same (h3.mono fun k hk=>.inr hk);have hT:∀{τ:Nat},τ≠4->∀k,(gp k).1=τ->¬(gp k=(4,oK I e+1)\/k=m3):=fun{τ} ht k hk h=>by exact zDH
 have hf5:rM w5 (Tag.put gp wA.heap.size w5.heap.size (4,oK I e+1)):=rM.put _ HA.fresh o5.size;have hO:Only (Mine gp) wA w9:=V5.mono fun k hk=>by exact zDq
 have hpx:=bU HA.blk;have hc:=bU HA.gx.gr.blk;have hd:∀k,Mine gt k\/Mine gb k->k<wA.heap.size:=fun k hk=>by
  obtain⟨V,hV⟩:=HA.gx.gr.tab;obtain⟨U,hU⟩:=HA.gx.gr.Fb;rcases yK k wA.heap.size with hlt|hge;·exact hlt
  rcases hk with hk|hk;·exact absurd (hV.fresh k hge) hk
  exact absurd (hU.fresh k hge) hk
 have hM:∀k,k<wA.heap.size->(Mine (Tag.put gp wA.heap.size w5.heap.size (4,oK I e+1)) k↔Mine gp k):=fun k hk=>by unfold Mine;rw[hA k hk]
 refine⟨gt,gb,Tag.put gp wA.heap.size w5.heap.size (4,oK I e+1),⟨⟨HA.gx.keep hO (fun k hk=>HA.low k hk) (fun k hk hm=>HA.Jz k hk hm) (by unfold Mine;rw[HA.tc];simp),⟨val,(hR.keep oA (fun _ _ f=>f) (Agree.refl _ _)).keep V5 (hT zBp) hA⟩,⟨us,(hN.keep oA (fun _ _ f=>f) (Agree.refl _ _)).keep V5 (hT zBV) hA⟩,HA.Jp,⟨v3,(SA.keep oA (fun _ _ f=>f) (Agree.refl _ _)).keep V5 (hT zAD) hA⟩,aC HA.blk hO (fun hm=>HA.tp (.inr hm)),?_,by rw[hA X.c hc];exact HA.tc,aG HA.names hO (fun k hk hm=>HA.nb k hk (.inr hm)),?_,HA.nok,fun k hk=>?_,fun k hk hm=>HA.Jz k hk ((hM k (hd k hk)).1 hm),hf5.more h3.size⟩,_,h2⟩,Agree.refl _ _,Agree.refl _ _,hA,hO.mono fun k hk=>.inr hk⟩;·rw[bP.agree (Agree.refl wA gt) (Agree.refl wA gb) hA hpx];exact HA.tp
 ·intro k hk;rw[bP.agree (Agree.refl wA gt) (Agree.refl wA gb) hA (dP HA.names hk)];exact HA.nb k hk
 rcases yK k wA.heap.size with hlt|hge;·exact HA.low k ((hM k hlt).1 hk)
 exact qR HA.gx.le hge
theorem uH.made(H:jl w gt gb gp X Bs D E):dG w gt gb gp X Bs D E w.heap.size [] (w.alloc (.map #[] 0)):=by
 have o:=(Only.refl (fun _=>False) w).alloc (.map #[] 0);have H1:=H.aH o;have hg:Tag.put gp w.heap.size (w.heap.size+1) (4,0) w.heap.size=(4,0):=Tag.zJ _ _ (qH _) zAB;have hA:Agree w gp (Tag.put gp w.heap.size (w.heap.size+1) (4,0)):=Agree.put _ _ (qH _);obtain⟨val,hR⟩:=H.of;obtain⟨us,hN⟩:=H.needs;obtain⟨v3,SA⟩:=H.roots;have hpx:=bU H.blk;have hc:=bU H.gx.gr.blk;have hd:∀k,Mine gt k\/Mine gb k->k<w.heap.size:=fun k hk=>by exact zCz
 have hM:∀k,k<w.heap.size->(Mine (Tag.put gp w.heap.size (w.heap.size+1) (4,0)) k↔Mine gp k):=fun k hk=>by unfold Mine;rw[hA k hk]
 refine⟨gt,gb,Tag.put gp w.heap.size (w.heap.size+1) (4,0),⟨⟨H.gx.aH o,⟨val,hR.keep o (fun _ _ f=>f) hA⟩,⟨us,hN.keep o (fun _ _ f=>f) hA⟩,H.Jp,⟨v3,SA.keep o (fun _ _ f=>f) hA⟩,aC H.blk o (fun f=>f),?_,by rw[hA X.c hc];exact H.tc,aG H.names o (fun _ _ f=>f),?_,H.nok,fun k hk=>?_,fun k hk hm=>H.Jz k hk ((hM k (hd k hk)).1 hm),fun k hk=>?_⟩,_,rD.made KI w _ hg⟩,Agree.refl _ _,Agree.refl _ _,hA,o.mono fun _ f=>f.elim⟩;·rw[bP.agree (Agree.refl w gt) (Agree.refl w gb) hA hpx];exact H.tp
 ·intro k hk;rw[bP.agree (Agree.refl w gt) (Agree.refl w gb) hA (dP H.names hk)];exact H.nb k hk
 ·exact zEU
 rw[World.size_alloc]at hk;rw[Tag.Jw _ _ hk];exact H.fresh k zAB
end
end Go.Proofs.YtdmmebjjojimiaaGreatDoor
