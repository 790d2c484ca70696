/- Package check: Recipe, Request. Printed by gen_ck5.py.; Graphs over a recipe: what package graph and the document look for, as plain functions. No -/
import Derived.Test.YtdmmebjjojimiaaGreatDoorG18
set_option maxRecDepth 100000
set_option maxHeartbeats 8000000
set_option linter.all false
namespace Go.Proofs
theorem zCs{p:Prop}(h:p:=by rw[uI.out];exact qP c0):p:=h
theorem zC0{p:Prop}(h:p:=by rw[bJ.out];exact cm):p:=h
theorem zC1{p:Prop}(h:p:=by rw[aB.out];exact ci):p:=h
theorem zC2{p:Prop}(h:p:=by rw[WZ (x:=x) (q:=q) (by rw[bQ.out];exact q1)];rfl):p:=h
theorem zC4{p:Prop}(h:p:=by rw[Fb.out];rfl):p:=h
theorem zEd{p:Prop}(h:p:=by exact iL.mk _ _ rfl zCs ((aV.out.same (aI.out.same kV.out)).trans (aK _ _ _) (fun k hk=>.inr zAA))):p:=h
theorem zEt{p:Prop}(h:p:=by exact⟨by rw[aj b1];rfl,by rw[aj b1];rfl,by rw[aj b1];rfl⟩):p:=h
theorem zFU{p:Prop}(h:p:=by
 have z00:((0:Int) != 0)=false:=rfl
 go_wp2_with fail
 go_roundw
 case rel=>exact⟨kV,i+1,by first|rfl|go_num,by omega,HZ2⟩
 case measure=>simp[RowKit.intOf]<;>omega):p:=h
theorem zFX{p:Prop}(h:p:=by
 refine dS (p:=4) rfl rfl rfl rfl (setRow_heap _ _ _ _ _ _ (oG.out bD jD.out)) ?_
 exact iL.mk _ _ rfl zC4 ((aV.out.same (aI.out.same jD.out)).trans (aK _ _ _) (fun k hk=>.inr zAA))):p:=h
theorem zFY{p:Prop}(h:p:=by
 refine dS (p:=2) rfl rfl rfl rfl (setRow_heap _ _ _ _ _ _ (oG.out CQ Lr.out)) ?_
 exact iL.mk _ _ rfl zC4 ((aV.out.same (aI.out.same Lr.out)).trans (aK _ _ _) (fun k hk=>.inr zAA))):p:=h
theorem zFw{p:Prop}(h:p:=by exact iL.mk _ _ rfl (by rw[RZ (x:=x) (by rw[bJ.out];exact q2)];rfl) ((aV.out.same (aI.out.same wZ.out)).trans (aK _ _ _) (fun k hk=>.inr zAA))):p:=h
theorem zFx{p:Prop}(h:p:=by exact iL.mk _ _ rfl (by rw[RY (x:=x) (by rw[aB.out];exact q1)];rfl) ((aV.out.same (aI.out.same wZ.out)).trans (aK _ _ _) (fun k hk=>.inr zAA))):p:=h
theorem zF7{p:Prop}(h:p:=by exact iL.mk _ _ rfl (by rw[WY (x:=x) (q:=q) bQ.out];rfl) ((aV.out.same (aI.out.same wZ.out)).trans (aK _ _ _) (fun k hk=>.inr zAA))):p:=h
theorem zGh{p:Prop}(h:p:=by exact iL.mk _ _ rfl zCs ((aV.out.same (aI.out.same jZ.out)).trans (aK _ _ _) (fun k hk=>.inr zAA))):p:=h
theorem zGi{p:Prop}(h:p:=by exact iL.mk _ _ rfl zC2 ((aV.out.same (aI.out.same wZ.out)).trans (aK _ _ _) (fun k hk=>.inr zAA))):p:=h
theorem zGp{p:Prop}(h:p:=by
 rcases yK k m with h|h
 ·exact HZm.out k h
 ·obtain rfl:k=m:=by omega
  exact D6.out):p:=h
end Go.Proofs
namespace Go.Proofs.YtdmmebjjojimiaaGreatDoor
open Go.RowKit
section
variable {w w':World} {B:Nat}
def aQ.okB(x:aQ):Bool:=decide (x.packs.length<=24)&&decide (x.fV.length<=8)&&(List.range x.packs.length).all x.ou&&x.packs.all (fun p=>decide ((jE x p).1=0))&&(List.range x.fV.length).all x.wY
def dD.okB(x:aQ)(q:dD):Bool:=decide (0<q.roots.length)&&decide (q.roots.length<=8)&&q.roots.all fun r=>decide (x.wish r.spec=0)
theorem RY{x:aQ}(h:24<x.packs.length):x.okB=false:=by unfold aQ.okB;rw[qP zAA];simp
theorem RZ{x:aQ}(h:8<x.fV.length):x.okB=false:=by unfold aQ.okB;rw[qP (show¬x.fV.length<=8 by omega)];simp
theorem WV{x:aQ}{i:Nat}(hi:i<x.packs.length)(h:x.ou i=false):x.okB=false:=by unfold aQ.okB;have:(List.range x.packs.length).all x.ou=false:=List.all_eq_false.2 ⟨i,yI.2 hi,by rw[h];simp⟩;rw[this];simp
theorem Ot{x:aQ}{p:iI}(hp:p∈x.packs)(h:(jE x p).1≠0):x.okB=false:=by unfold aQ.okB;have:x.packs.all (fun p=>decide ((jE x p).1=0))=false:=List.all_eq_false.2 ⟨p,hp,by rw[qP h];simp⟩;rw[this];simp
theorem WW{x:aQ}{i:Nat}(hi:i<x.fV.length)(h:x.wY i=false):x.okB=false:=by unfold aQ.okB;have:(List.range x.fV.length).all x.wY=false:=List.all_eq_false.2 ⟨i,yI.2 hi,by rw[h];simp⟩;rw[this];simp
theorem aay{x:aQ}(h1:x.packs.length<=24)(h2:x.fV.length<=8)(h3:∀k,k<x.packs.length->x.ou k=true)(h4:∀p∈x.packs,(jE x p).1=0)(h5:∀k,k<x.fV.length->x.wY k=true):x.okB=true:=by unfold aQ.okB;have e3:(List.range x.packs.length).all x.ou=true:=List.all_eq_true.2 fun k hk=>h3 k (yI.1 hk);have e4:x.packs.all (fun p=>decide ((jE x p).1=0))=true:=List.all_eq_true.2 fun p hp=>qX (h4 p hp);have e5:(List.range x.fV.length).all x.wY=true:=List.all_eq_true.2 fun k hk=>h5 k (yI.1 hk);rw[e3,e4,e5,qX h1,qX h2];rfl
def iL(ok:Bool)(w w':World)(e:Ending):Prop:= ∃c l:Int,e= .returned (.agg #[.int .u8 c,.int .i64 l])/\decide (c=0)=ok/\O0 w w'
theorem iL.mk{ok:Bool}(c l:Int){w w':World}{e:Ending}(he:e= .returned (.agg #[.int .u8 c,.int .i64 l]))(hf:decide (c=0)=ok)(ho:O0 w w'):iL ok w w' e:=⟨c,l,he,hf,ho⟩
theorem aed{lC:List Value}{x:aQ}(hx:fO B w lC x)(hlen:x.packs.length<=1000000)(hsm:∀p∈x.packs,p.jc.length<=1000000/\p.vars.length<=1000000):Calls Tryz.prog 50 #[.agg lC.toArray] w fun e w'=>iL x.okB w w' e:=by
 obtain⟨aP,ak,aJ,aO,aG,aH,rfl,fF,fG,dP,dQ,aB,bJ,mY⟩:=open_rec hx;clear hx;try rw[aB.out]
 obtain⟨W0,hW0,aV,jK,aF⟩:=LW w (.slice aP ak aJ) (.slice aO aG aH) 25;obtain⟨eX,bK,bT⟩:=mY W0 aV.out;clear mY;rw[aB.out]at hlen;have QI:=zh hsm;clear hsm;have hs:=jK.out;obtain⟨W1,hW1⟩:=ze (W0.alloc (.cells #[.int .u8 0,.int .i64 0] 43));have aI:Hid (O0 W0 W1):=zAc;have oG:Hid (∀W,O0 W1 W->W.heap[w.heap.size+1]? =some (.cells #[.int .u8 0,.int .i64 0] 43)):=fun W ho=>by have b0:W1.heap[w.heap.size+1]? =some (.cells #[.int .u8 0,.int .i64 0] 43):=zCM;exact zEG
 have wZ:Hid (O0 W1 W1):=Only.refl _ _;have hW0':=hW0.symm;clear hW0;by_cases q1:24<ak
 ·obtain⟨yy,hxy⟩:=zG x.packs 24 zAt;obtain⟨AY,mF,og,jo,oh,sO,sQ,sS,xE,uT,xG,yc,uG,yg,EN,AZ,EO,CV,zA,CW,oq,kF,nP,rQ,qB,uU,uV,yh,Ef,je⟩:=jy (bK.out W0 zr) hxy;first|subst oq| (simp only[qG,qO,and_true]at oq;obtain⟨rfl,rfl⟩:=oq)
  have Kq:=zh kF;have Ny2:=zh nP;have Ny3:=zh rQ;have Ny4:=zh qB;have Ny5:=zh uU;have Ny6:=zh uV;have jq:=zh je;have xR:=zh hxy;clear je hxy kF nP rQ qB uU uV;have xH:Hid (∀W,O0 W0 W->aS 2 pR B W (.slice og jo oh) yy.jc):=fun W ho=>(jq.out W ho).2.1;have IB:Hid (∀W,O0 W0 W->aS 2 l9 B W (.slice sO sQ sS) yy.vars):=fun W ho=>(jq.out W ho).2.2.1;have UJ:Hid (∀W,O0 W0 W->aS 1 bU B W (.slice xE uT xG) yy.provides):=fun W ho=>(jq.out W ho).2.2.2.1;have Qs:Hid (∀W,O0 W0 W->aS 7 wz B W (.slice yc uG yg) yy.deps):=fun W ho=>(jq.out W ho).2.2.2.2.1;have ajh:Hid (∀W,O0 W0 W->aS 7 vO B W (.slice EN AZ EO) yy.cons):=fun W ho=>(jq.out W ho).2.2.2.2.2.1;have Y5:Hid (∀W,O0 W0 W->aS 1 bU B W (.slice CV zA CW) yy.files):=fun W ho=>(jq.out W ho).2.2.2.2.2.2.1;have Z7:Hid (∀W,O0 W0 W->gY B W [.string yy.name,.int .i64 yy.line,.slice og jo oh,.slice sO sQ sS,.slice xE uT xG,.slice yc uG yg,.slice EN AZ EO,.slice CV zA CW] yy):=fun W ho=>(jq.out W ho).2.2.2.2.2.2.2;have fJ:=(jq.out W1 aI.out).1;have Qr:=fJ 1 _ rfl;clear fJ;obtain⟨k0,k1⟩:=aF.out W1 (aI.out.same wZ.out);have hz:=oG.out W1 wZ.out;go_enter Tryz.func50,Tryz.ntmps50;go_wp2_with (refine wpList_store_row rfl 43 (.tmp 2) (.tmp 20) rfl (w.heap.size+1) #[.int .u8 1,.int .i64 yy.line] rfl rfl 43 #[.int .u8 0,.int .i64 0] hz zk rfl zk ?_);refine dS (p:=2) rfl rfl rfl rfl (setRow_heap _ _ _ _ _ _ hz) ?_;exact zFx
 by_cases q2:8<aG
 ·obtain⟨yz,hxz⟩:=zG x.fV 8 zBW;obtain⟨JD,vP,vW,vX,vY,qc,wC,AX,NC,jM⟩:=zl (bT.out W0 zr) hxz;first|subst qc| (simp only[qG,qO,and_true]at qc;obtain⟨rfl,rfl⟩:=qc)
  have jd:=zh jM;clear jM hxz wC;have hrz:=(jd.out W1 aI.out).1;have gz2:=hrz 2 _ rfl;clear hrz;obtain⟨k0,k1⟩:=aF.out W1 (aI.out.same wZ.out);have hz:=oG.out W1 wZ.out;go_enter Tryz.func50,Tryz.ntmps50;go_wp2_with (refine wpList_store_row rfl 43 (.tmp 2) (.tmp 30) rfl (w.heap.size+1) #[.int .u8 1,.int .i64 yz.line] rfl rfl 43 #[.int .u8 0,.int .i64 0] hz zk rfl zk ?_);refine dS (p:=2) rfl rfl rfl rfl (setRow_heap _ _ _ _ _ _ hz) ?_;exact zFw
 obtain⟨k0,k1⟩:=aF.out W1 (aI.out.same wZ.out);go_enter Tryz.func50,Tryz.ntmps50;go_wp2_with fail;clear hW0' hW1 k0 k1;have fQ:=wZ;go_loopw [34] (fun vi bD=>Hid (O0 W1 bD)/\∃i:Nat,vi= .int .i64 i/\i<=ak/\Hid (∀k,k<i->x.ou k=true)) (fun v _=>ak-(RowKit.intOf v).toNat);case atStart=>exact⟨fQ,0,rfl,qE _,show Hid _ from fun k hk=>by omega⟩
 case round=>
  obtain⟨bD,rfl⟩:=zB wr;clear fQ;obtain⟨jD,i,rfl,hi,HZ⟩:=hrel;obtain⟨k0,k1⟩:=aF.out bD (aI.out.same jD.out);by_cases ci:i<ak
  ·have iE:=zw (i+1);obtain⟨yy,hxy⟩:=zG x.packs i zAt;obtain⟨AY,mF,og,jo,oh,sO,sQ,sS,xE,uT,xG,yc,uG,yg,EN,AZ,EO,CV,zA,CW,oq,kF,nP,rQ,qB,uU,uV,yh,Ef,je⟩:=jy (bK.out W0 zr) hxy;first|subst oq| (simp only[qG,qO,and_true]at oq;obtain⟨rfl,rfl⟩:=oq)
   have Kq:=zh kF;have Ny2:=zh nP;have Ny3:=zh rQ;have Ny4:=zh qB;have Ny5:=zh uU;have Ny6:=zh uV;have jq:=zh je;have xR:=zh hxy;clear je hxy kF nP rQ qB uU uV;have xH:Hid (∀W,O0 W0 W->aS 2 pR B W (.slice og jo oh) yy.jc):=fun W ho=>(jq.out W ho).2.1;have IB:Hid (∀W,O0 W0 W->aS 2 l9 B W (.slice sO sQ sS) yy.vars):=fun W ho=>(jq.out W ho).2.2.1;have UJ:Hid (∀W,O0 W0 W->aS 1 bU B W (.slice xE uT xG) yy.provides):=fun W ho=>(jq.out W ho).2.2.2.1;have Qs:Hid (∀W,O0 W0 W->aS 7 wz B W (.slice yc uG yg) yy.deps):=fun W ho=>(jq.out W ho).2.2.2.2.1;have ajh:Hid (∀W,O0 W0 W->aS 7 vO B W (.slice EN AZ EO) yy.cons):=fun W ho=>(jq.out W ho).2.2.2.2.2.1;have Y5:Hid (∀W,O0 W0 W->aS 1 bU B W (.slice CV zA CW) yy.files):=fun W ho=>(jq.out W ho).2.2.2.2.2.2.1;have Z7:Hid (∀W,O0 W0 W->gY B W [.string yy.name,.int .i64 yy.line,.slice og jo oh,.slice sO sQ sS,.slice xE uT xG,.slice yc uG yg,.slice EN AZ EO,.slice CV zA CW] yy):=fun W ho=>(jq.out W ho).2.2.2.2.2.2.2;have hpi:x.pack i=yy:=zA6;have hsz:=QI.out yy (qT xR.out);have HAl:Hid (∀W,O0 W0 W->Calls Tryz.prog 104 #[.agg #[.slice (some ⟨AY,mF,none⟩) ak aJ,.slice aO aG aH],.int .i64 (i:Int)] W fun e w'=>gy (x.ou i) W w' e):=fun W hW=>ai8 (eX.out W hW) zAg zC1 (by rw[hpi];exact hsz.1) (by rw[hpi];exact hsz.2);have fJ:=zh (jq.out bD (aI.out.same jD.out)).1;obtain⟨Va,hVa⟩:=ze (bD.alloc (.cells #[.string ⟨#[]⟩,.int .i64 0,.slice none 0 0,.slice none 0 0,.slice none 0 0,.slice none 0 0,.slice none 0 0,.slice none 0 0] 101));have H6a:Hid (Va.heap[bD.heap.size]? =some (.cells #[.string ⟨#[]⟩,.int .i64 0,.slice none 0 0,.slice none 0 0,.slice none 0 0,.slice none 0 0,.slice none 0 0,.slice none 0 0] 101)):=by rw[<-hVa];exact qL bD _
   obtain⟨W2,hW2⟩:=ze (Va.setRow bD.heap.size #[.string yy.name,.int .i64 yy.line,.slice og jo oh,.slice sO sQ sS,.slice xE uT xG,.slice yc uG yg,.slice EN AZ EO,.slice CV zA CW]);have aea:Hid (W2.heap[bD.heap.size]? =some (.cells #[.string yy.name,.int .i64 yy.line,.slice og jo oh,.slice sO sQ sS,.slice xE uT xG,.slice yc uG yg,.slice EN AZ EO,.slice CV zA CW] 101 (0,0))):=zB4;have HP2:Hid (O0 W1 W2):=by exact zFn
   have y5:Hid (∀W,O0 W2 W->W.cell? ⟨bD.heap.size,0,none⟩=some (.string yy.name)/\W.cell? ⟨bD.heap.size,1,none⟩=some (.int .i64 yy.line)/\W.cell? ⟨bD.heap.size,2,none⟩=some (.slice og jo oh)/\W.cell? ⟨bD.heap.size,3,none⟩=some (.slice sO sQ sS)/\W.cell? ⟨bD.heap.size,4,none⟩=some (.slice xE uT xG)/\W.cell? ⟨bD.heap.size,5,none⟩=some (.slice yc uG yg)/\W.cell? ⟨bD.heap.size,6,none⟩=some (.slice EN AZ EO)/\W.cell? ⟨bD.heap.size,7,none⟩=some (.slice CV zA CW)):=fun W ho=>by have b1:=aA aea.out ho (fun f=>f);exact zD4
   clear k0 k1;obtain⟨k0,k1⟩:=aF.out W2 (aI.out.same HP2.out);obtain⟨d0,d1,d2,d3,d4,d5,d6,d7⟩:=y5.out W2 zr;obtain⟨m0,m1⟩:=aF.out bD (aI.out.same jD.out);go_wp2_with (first
    | (refine wpList_load_mid rfl 101 (.tmp 37) rfl AY (mF+i*8) rfl _ _ fJ.out Tryz.underlying101 rfl zk ?_)
    | (refine wpList_store_row rfl 101 (.tmp 4) (.tmp 38) rfl bD.heap.size #[.string yy.name,.int .i64 yy.line,.slice og jo oh,.slice sO sQ sS,.slice xE uT xG,.slice yc uG yg,.slice EN AZ EO,.slice CV zA CW] rfl rfl 101 #[.string ⟨#[]⟩,.int .i64 0,.slice none 0 0,.slice none 0 0,.slice none 0 0,.slice none 0 0,.slice none 0 0,.slice none 0 0] H6a.out zk rfl zk ?_))
   clear fJ H6a;clear m0 m1;refine(HAl.out W2 (aI.out.same HP2.out)).mono ?_;rintro e w3 ⟨c,rfl,-,hcd,O1⟩;have kV:=zh (HP2.out.same O1);have yj:=zh O1;clear O1 HAl k0 k1 d0 d1 d2 d3 d4 d5 d6 d7 hVa hW2;obtain⟨k0,k1⟩:=aF.out w3 (aI.out.same kV.out);obtain⟨d0,d1,d2,d3,d4,d5,d6,d7⟩:=y5.out w3 yj.out;by_cases c0:c=0
   ·subst c0;have HZ2:Hid (∀k,k<i+1->x.ou k=true):=fun k hk=>by
     rcases yK k i with h|h;·exact HZ.out k h
     obtain rfl:k=i:=by omega
     rw[<-hcd];rfl
    clear hcd hpi hsz;exact zFU
   have c1:((c:Int) != 0)=true:=by rw[bne_iff_ne];exact c0
   have uI:Hid (x.okB=false):=WV (i:=i) zC1 (by rw[<-hcd];exact qP c0);clear hcd hpi hsz;go_wp2_with (refine wpList_store_row rfl 43 (.tmp 2) (.tmp 47) rfl (w.heap.size+1) #[.int .u8 c,.int .i64 yy.line] rfl rfl 43 #[.int .u8 0,.int .i64 0] (oG.out w3 kV.out) zk rfl zk ?_);refine dS (p:=2) rfl rfl rfl rfl (setRow_heap _ _ _ _ _ _ (oG.out w3 kV.out)) ?_;exact zEd
  obtain rfl:ak=i:=by omega
  have fQ:=jD;go_wp2_with fail;clear k0 k1;go_loopw [52] (fun vj gV=>Hid (O0 W1 gV)/\∃j:Nat,vj= .int .i64 j/\j<=ak/\Hid (∀p∈x.packs.take j,(jE x p).1=0)) (fun v _=>ak-(RowKit.intOf v).toNat);case atStart=>exact⟨fQ,0,rfl,qE _,show Hid _ from fun v hv=>by simp at hv⟩
  case round=>
   obtain⟨gV,rfl⟩:=zB wr;clear fQ;obtain⟨CY,j,rfl,hj,VB⟩:=hrel;obtain⟨k0,k1⟩:=aF.out gV (aI.out.same CY.out);by_cases cj:j<ak
   ·have iE:=zw (j+1);obtain⟨yv,hxv⟩:=zG x.packs j zAt;obtain⟨bkv,UK,Y6,UL,Y7,av2,nv2,cv2,av3,nv3,cv3,av4,nv4,cv4,av5,nv5,cv5,av6,nv6,cv6,hev,WX,aee,aef,aeg,aeh,aei,aji,inv1,I9⟩:=jy (bK.out W0 zr) hxv;first|subst hev| (simp only[qG,qO,and_true]at hev;obtain⟨rfl,rfl⟩:=hev)
    have Ho:=zh I9;have Yb:=zh hxv;clear I9 hxv WX aee aef aeg aeh aei;have HCv:Hid (∀W,O0 W0 W->gY B W [.string yv.name,.int .i64 yv.line,.slice Y6 UL Y7,.slice av2 nv2 cv2,.slice av3 nv3 cv3,.slice av4 nv4 cv4,.slice av5 nv5 cv5,.slice av6 nv6 cv6] yv):=fun W ho=>(Ho.out W ho).2.2.2.2.2.2.2;obtain⟨c,l,hcl⟩:∃c l:Int,jE x yv=(c,l):=⟨_,_,rfl⟩;have HRl:Hid (∀W,O0 W0 W->Calls Tryz.prog 105 #[.agg #[.slice (some ⟨bkv,UK,none⟩) ak aJ,.slice aO aG aH],.agg #[.string yv.name,.int .i64 yv.line,.slice Y6 UL Y7,.slice av2 nv2 cv2,.slice av3 nv3 cv3,.slice av4 nv4 cv4,.slice av5 nv5 cv5,.slice av6 nv6 cv6]] W fun e w'=>e= .returned (.agg #[.int .u8 c,.int .i64 l])/\O0 W w'):=fun W hW=>by have:=ad7 (eX.out W hW) (HCv.out W hW) zAg;rw[hcl]at this;exact this
    have HCL:=zh hcl;clear hcl;have oK:=zh (Ho.out gV (aI.out.same CY.out)).1;obtain⟨Vb,hVb⟩:=ze (gV.alloc (.cells #[.string ⟨#[]⟩,.int .i64 0,.slice none 0 0,.slice none 0 0,.slice none 0 0,.slice none 0 0,.slice none 0 0,.slice none 0 0] 101));have H6b:Hid (Vb.heap[gV.heap.size]? =some (.cells #[.string ⟨#[]⟩,.int .i64 0,.slice none 0 0,.slice none 0 0,.slice none 0 0,.slice none 0 0,.slice none 0 0,.slice none 0 0] 101)):=by rw[<-hVb];exact qL gV _
    obtain⟨W4,MR⟩:=ze (Vb.setRow gV.heap.size #[.string yv.name,.int .i64 yv.line,.slice Y6 UL Y7,.slice av2 nv2 cv2,.slice av3 nv3 cv3,.slice av4 nv4 cv4,.slice av5 nv5 cv5,.slice av6 nv6 cv6]);have ajg:Hid (W4.heap[gV.heap.size]? =some (.cells #[.string yv.name,.int .i64 yv.line,.slice Y6 UL Y7,.slice av2 nv2 cv2,.slice av3 nv3 cv3,.slice av4 nv4 cv4,.slice av5 nv5 cv5,.slice av6 nv6 cv6] 101 (0,0))):=by rw[<-MR];exact setRow_heap _ _ _ _ _ _ H6b.out
    have rF:Hid (O0 W1 W4):=by exact zGV
    have y5:Hid (∀W,O0 W4 W->W.cell? ⟨gV.heap.size,0,none⟩=some (.string yv.name)/\W.cell? ⟨gV.heap.size,1,none⟩=some (.int .i64 yv.line)/\W.cell? ⟨gV.heap.size,2,none⟩=some (.slice Y6 UL Y7)/\W.cell? ⟨gV.heap.size,3,none⟩=some (.slice av2 nv2 cv2)/\W.cell? ⟨gV.heap.size,4,none⟩=some (.slice av3 nv3 cv3)/\W.cell? ⟨gV.heap.size,5,none⟩=some (.slice av4 nv4 cv4)/\W.cell? ⟨gV.heap.size,6,none⟩=some (.slice av5 nv5 cv5)/\W.cell? ⟨gV.heap.size,7,none⟩=some (.slice av6 nv6 cv6)):=fun W ho=>by have b1:=aA ajg.out ho (fun f=>f);exact zD4
    clear k0 k1;obtain⟨k0,k1⟩:=aF.out W4 (aI.out.same rF.out);obtain⟨d0,d1,d2,d3,d4,d5,d6,d7⟩:=y5.out W4 zr;obtain⟨m0,m1⟩:=aF.out gV (aI.out.same CY.out);go_wp2_with (first
     | (refine wpList_load_mid rfl 101 (.tmp 54) rfl bkv (UK+j*8) rfl _ _ oK.out Tryz.underlying101 rfl zk ?_)
     | (refine wpList_store_row rfl 101 (.tmp 7) (.tmp 55) rfl gV.heap.size #[.string yv.name,.int .i64 yv.line,.slice Y6 UL Y7,.slice av2 nv2 cv2,.slice av3 nv3 cv3,.slice av4 nv4 cv4,.slice av5 nv5 cv5,.slice av6 nv6 cv6] rfl rfl 101 #[.string ⟨#[]⟩,.int .i64 0,.slice none 0 0,.slice none 0 0,.slice none 0 0,.slice none 0 0,.slice none 0 0,.slice none 0 0] H6b.out zk rfl zk ?_))
    clear oK H6b;clear m0 m1;refine(HRl.out W4 (aI.out.same rF.out)).mono ?_;rintro e w5 ⟨rfl,O1⟩;have xI:=zh (rF.out.same O1);clear O1 HRl k0 k1 d0 d1 d2 d3 d4 d5 d6 d7 hVb MR;obtain⟨V9,hV9⟩:=ze (w5.alloc (.cells #[.int .u8 0,.int .i64 0] 43));have H69:Hid (V9.heap[w5.heap.size]? =some (.cells #[.int .u8 0,.int .i64 0] 43)):=by rw[<-hV9];exact qL w5 _
    obtain⟨W9,hW9⟩:=ze (V9.setRow w5.heap.size #[.int .u8 c,.int .i64 l]);have HB9:Hid (W9.heap[w5.heap.size]? =some (.cells #[.int .u8 c,.int .i64 l] 43 (0,0))):=by rw[<-hW9];exact setRow_heap _ _ _ _ _ _ H69.out
    have jZ:Hid (O0 W1 W9):=by rw[<-hW9,<-hV9];exact(xI.out.alloc _).trans (aK _ _ _) fun k hk=>.inr (by rw[hk];exact xI.out.size)
    have r0:W9.cell? ⟨w5.heap.size,0,none⟩=some (.int .u8 c):=by rw[aj HB9.out];rfl
    have r1:W9.cell? ⟨w5.heap.size,1,none⟩=some (.int .i64 l):=by rw[aj HB9.out];rfl
    obtain⟨k0,k1⟩:=aF.out W9 (aI.out.same jZ.out);by_cases c0:c=0
    ·subst c0;have HZ3:Hid (∀p∈x.packs.take (j+1),(jE x p).1=0):=fun p hp=>by
      rcases bH Yb.out hp with h|rfl;·exact VB.out p h
      rw[HCL.out]
     have z00:((0:Int) != 0)=false:=rfl;go_wp2_with (refine wpList_store_row rfl 43 (.tmp 8) (.tmp 58) rfl w5.heap.size #[.int .u8 0,.int .i64 l] rfl rfl 43 #[.int .u8 0,.int .i64 0] H69.out zk rfl zk ?_);go_roundw;case rel=>exact⟨jZ,j+1,by first|rfl|go_num,by omega,HZ3⟩
     case measure=>simp[RowKit.intOf]<;>omega
    have c1:((c:Int) != 0)=true:=by rw[bne_iff_ne];exact c0
    have uI:Hid (x.okB=false):=Ot (qT Yb.out) (by rw[HCL.out];exact c0);go_wp2_with (first
     | (refine wpList_store_row rfl 43 (.tmp 8) (.tmp 58) rfl w5.heap.size #[.int .u8 c,.int .i64 l] rfl rfl 43 #[.int .u8 0,.int .i64 0] H69.out zk rfl zk ?_)
     | (refine wpList_store_row rfl 43 (.tmp 2) (.tmp 62) rfl (w.heap.size+1) #[.int .u8 c,.int .i64 l] rfl rfl 43 #[.int .u8 0,.int .i64 0] (oG.out W9 jZ.out) zk rfl zk ?_))
    refine dS (p:=2) rfl rfl rfl rfl (setRow_heap _ _ _ _ _ _ (oG.out W9 jZ.out)) ?_;exact zGh
   obtain rfl:ak=j:=by omega
   have HZb:Hid (∀p∈x.packs,(jE x p).1=0):=fun p hp=>VB.out p (by
    rw[qI (yG aB.out)]
    exact hp)
   have fQ:=CY;go_wp2_with fail;clear k0 k1;go_loopw [67] (fun vm CQ=>Hid (O0 W1 CQ)/\∃m:Nat,vm= .int .i64 m/\m<=aG/\Hid (∀k,k<m->x.wY k=true)) (fun v _=>aG-(RowKit.intOf v).toNat);case atStart=>exact⟨fQ,0,rfl,qE _,show Hid _ from fun k hk=>by omega⟩
   case round=>
    obtain⟨CQ,rfl⟩:=zB wr;clear fQ;obtain⟨Lr,m,rfl,hm,HZm⟩:=hrel;obtain⟨k0,k1⟩:=aF.out CQ (aI.out.same Lr.out);by_cases cm:m<aG
    ·have iE:=zw (m+1);obtain⟨yf,hxf⟩:=zG x.fV m zBW;obtain⟨bkf,ajk,af1,nf1,cf1,hef,ajl,aod,aoe,aek⟩:=zl (bT.out W0 zr) hxf;first|subst hef| (simp only[qG,qO,and_true]at hef;obtain⟨rfl,rfl⟩:=hef)
     have HEf:=zh aek;clear aek hxf ajl;obtain⟨bb,hbb⟩:=ze (x.wY m);have HPf:Hid (∀W,O0 W0 W->Calls Tryz.prog 106 #[.agg #[.slice aP ak aJ,.slice (some ⟨bkf,ajk,none⟩) aG aH],.int .i64 (m:Int)] W fun e w'=>e= .returned (.bool bb)/\O0 W w'):=fun W hW=>by rw[<-hbb];exact aec (eX.out W hW) zAg zC0
     have D6:=zh hbb;clear hbb;have hrf:=zh (HEf.out CQ (aI.out.same Lr.out)).1;obtain⟨Vc,hVc⟩:=ze (CQ.alloc (.cells #[.string ⟨#[]⟩,.slice none 0 0,.int .i64 0] 103));have H6c:Hid (Vc.heap[CQ.heap.size]? =some (.cells #[.string ⟨#[]⟩,.slice none 0 0,.int .i64 0] 103)):=by rw[<-hVc];exact qL CQ _
     obtain⟨W6,hW6⟩:=ze (Vc.setRow CQ.heap.size #[.string yf.virtual,.slice af1 nf1 cf1,.int .i64 yf.line]);have aoi:Hid (W6.heap[CQ.heap.size]? =some (.cells #[.string yf.virtual,.slice af1 nf1 cf1,.int .i64 yf.line] 103 (0,0))):=by rw[<-hW6];exact setRow_heap _ _ _ _ _ _ H6c.out
     have JE:Hid (O0 W1 W6):=by rw[<-hW6,<-hVc];exact(Lr.out.alloc _).trans (aK _ _ _) fun k hk=>.inr (by rw[hk];exact Lr.out.size)
     have y5:Hid (∀W,O0 W6 W->W.cell? ⟨CQ.heap.size,0,none⟩=some (.string yf.virtual)/\W.cell? ⟨CQ.heap.size,1,none⟩=some (.slice af1 nf1 cf1)/\W.cell? ⟨CQ.heap.size,2,none⟩=some (.int .i64 yf.line)):=fun W ho=>by have b1:=aA aoi.out ho (fun f=>f);exact zEt
     clear k0 k1;obtain⟨k0,k1⟩:=aF.out W6 (aI.out.same JE.out);obtain⟨d0,d1,d2⟩:=y5.out W6 zr;obtain⟨n0,n1⟩:=aF.out CQ (aI.out.same Lr.out);go_wp2_with (first
      | (refine wpList_load_mid rfl 103 (.tmp 70) rfl bkf (ajk+m*3) rfl _ _ hrf.out Tryz.underlying103 rfl zk ?_)
      | (refine wpList_store_row rfl 103 (.tmp 10) (.tmp 71) rfl CQ.heap.size #[.string yf.virtual,.slice af1 nf1 cf1,.int .i64 yf.line] rfl rfl 103 #[.string ⟨#[]⟩,.slice none 0 0,.int .i64 0] H6c.out zk rfl zk ?_))
     clear hrf H6c;clear n0 n1;refine(HPf.out W6 (aI.out.same JE.out)).mono ?_;rintro e w7 ⟨rfl,O1⟩;have Gy:=zh (JE.out.same O1);have HQ7:=zh O1;clear O1 HPf k0 k1 d0 d1 d2 hVc hW6;obtain⟨k0,k1⟩:=aF.out w7 (aI.out.same Gy.out);obtain⟨d0,d1,d2⟩:=y5.out w7 HQ7.out;cases bb with
     |true=>
      have HZ4:Hid (∀k,k<m+1->x.wY k=true):=fun k hk=>by exact zGp
      go_wp2_with fail;go_roundw;case rel=>exact⟨Gy,m+1,by first|rfl|go_num,by omega,HZ4⟩
      case measure=>simp[RowKit.intOf]<;>omega
     |false=>have uI:Hid (x.okB=false):=WW (i:=m) zC0 D6.out;go_wp2_with (refine wpList_store_row rfl 43 (.tmp 2) (.tmp 78) rfl (w.heap.size+1) #[.int .u8 10,.int .i64 yf.line] rfl rfl 43 #[.int .u8 0,.int .i64 0] (oG.out w7 Gy.out) zk rfl zk ?_);refine dS (p:=2) rfl rfl rfl rfl (setRow_heap _ _ _ _ _ _ (oG.out w7 Gy.out)) ?_;exact iL.mk _ _ rfl (by rw[uI.out];rfl) ((aV.out.same (aI.out.same Gy.out)).trans (aK _ _ _) (fun k hk=>.inr zAA))
    obtain rfl:aG=m:=by omega
    have Fb:Hid (x.okB=true):=aay zAt (by rw[bJ.out];omega) (fun k hk=>HZ.out k (by rw[aB.out]at hk;exact hk)) HZb.out (fun k hk=>HZm.out k (by rw[bJ.out]at hk;exact hk));go_wp2_with (refine wpList_store_row rfl 43 (.tmp 2) (.tmp 80) rfl (w.heap.size+1) #[.int .u8 0,.int .i64 0] rfl rfl 43 #[.int .u8 0,.int .i64 0] (oG.out CQ Lr.out) zk rfl zk ?_);exact zFY
theorem WY{x:aQ}{q:dD}(h:q.roots.length=0):q.okB x=false:=by unfold dD.okB;rw[qP zAA];rfl
theorem WZ{x:aQ}{q:dD}(h:8<q.roots.length):q.okB x=false:=by unfold dD.okB;rw[qP (show¬q.roots.length<=8 by omega)];simp
theorem aaz{x:aQ}{q:dD}{r:tN}(hr:r∈q.roots)(h:x.wish r.spec≠0):q.okB x=false:=by unfold dD.okB;have:(q.roots.all fun r=>decide (x.wish r.spec=0))=false:=List.all_eq_false.2 ⟨r,hr,by rw[qP h];simp⟩;rw[this];simp
theorem aaA{x:aQ}{q:dD}(h1:0<q.roots.length)(h2:q.roots.length<=8)(h3:∀r∈q.roots,x.wish r.spec=0):q.okB x=true:=by unfold dD.okB;have:(q.roots.all fun r=>decide (x.wish r.spec=0))=true:=List.all_eq_true.2 fun r hr=>qX (h3 r hr);rw[this,qX h1,qX h2];rfl
theorem abG{lC:List Value}{x:aQ}(hx:fO B w lC x){Ba:List Value}{q:dD}(hq:mg B w Ba q)(hlen:x.packs.length<=1000000):Calls Tryz.prog 51 #[.agg lC.toArray,.agg Ba.toArray] w fun e w'=>iL (q.okB x) w w' e:=by
 obtain⟨aP,ak,aJ,aO,aG,aH,rfl,fF,fG,dP,dQ,aB,bJ,mY⟩:=open_rec hx;clear hx;try rw[aB.out]
 obtain⟨dw,aY,dA,rfl,oU,oV,bQ,E8⟩:=lM hq;clear hq;try rw[bQ.out]
 obtain⟨W0,hW0,aV,jK,aF⟩:=G9 w (.slice aP ak aJ) (.slice aO aG aH) (.slice dw aY dA) 25 28;obtain⟨eX,bK,bT⟩:=mY W0 aV.out;clear mY;obtain⟨zL,gu⟩:=E8 W0 aV.out;clear E8;clear dP dQ bJ bT;rw[aB.out]at hlen;have hs:=jK.out;obtain⟨W1,hW1⟩:=ze (W0.alloc (.cells #[.int .u8 0,.int .i64 0] 43));have aI:Hid (O0 W0 W1):=zAc;have oG:Hid (∀W,O0 W1 W->W.heap[w.heap.size+2]? =some (.cells #[.int .u8 0,.int .i64 0] 43)):=fun W ho=>by exact zGl
 have wZ:Hid (O0 W1 W1):=Only.refl _ _;have hW0':=hW0.symm;clear hW0;by_cases q0:aY=0;·subst q0;obtain⟨k0,k1,k2⟩:=aF.out W1 (aI.out.same wZ.out);have hz:=oG.out W1 wZ.out;go_enter Tryz.func51,Tryz.ntmps51;go_wp2_with (refine wpList_store_row rfl 43 (.tmp 4) (.tmp 13) rfl (w.heap.size+2) #[.int .u8 11,.int .i64 0] rfl rfl 43 #[.int .u8 0,.int .i64 0] hz zk rfl zk ?_);refine dS (p:=4) rfl rfl rfl rfl (setRow_heap _ _ _ _ _ _ hz) ?_;exact zF7
 by_cases q1:8<aY
 ·obtain⟨yr,hxr⟩:=zG q.roots 8 zBE;obtain⟨bkr,Ou,Ew,Ey,Ez,EC,ED,EF,her,Fe,Fg,Ov,Y8,zM⟩:=pU (gu.out W0 zr) hxr;first|subst her| (simp only[qG,qO,and_true]at her;obtain⟨rfl,rfl⟩:=her)
  have Nr1:=zh Fe;have Nr2:=zh Fg;have GL:=zh zM;have QJ:=zh hxr;clear zM hxr Fe Fg;have abH:Hid (∀W,O0 W0 W->aS 2 fE B W (.slice Ew Ey Ez) yr.spec.spans):=fun W ho=>(GL.out W ho).2.1;have abI:Hid (∀W,O0 W0 W->aS 2 dO B W (.slice EC ED EF) yr.spec.sets):=fun W ho=>(GL.out W ho).2.2.1;have HCr:Hid (∀W,O0 W0 W->mM B W [.string yr.spec.name,.slice Ew Ey Ez,.slice EC ED EF,.int .i64 yr.line] yr):=fun W ho=>(GL.out W ho).2.2.2;have hrr:=(GL.out W1 aI.out).1;have gr3:=hrr 3 _ rfl;clear hrr;obtain⟨k0,k1,k2⟩:=aF.out W1 (aI.out.same wZ.out);have hz:=oG.out W1 wZ.out;go_enter Tryz.func51,Tryz.ntmps51;go_wp2_with (refine wpList_store_row rfl 43 (.tmp 4) (.tmp 24) rfl (w.heap.size+2) #[.int .u8 1,.int .i64 yr.line] rfl rfl 43 #[.int .u8 0,.int .i64 0] hz zk rfl zk ?_);refine dS (p:=4) rfl rfl rfl rfl (setRow_heap _ _ _ _ _ _ hz) ?_;exact zGi
 have z3:((aY:Int)==0)=false:=by rw[yC];omega
 obtain⟨k0,k1,k2⟩:=aF.out W1 (aI.out.same wZ.out);go_enter Tryz.func51,Tryz.ntmps51;go_wp2_with fail;clear hW0' hW1 k0 k1 k2;have fQ:=wZ;go_loopw [28] (fun vi bD=>Hid (O0 W1 bD)/\∃i:Nat,vi= .int .i64 i/\i<=aY/\Hid (∀r∈q.roots.take i,x.wish r.spec=0)) (fun v _=>aY-(RowKit.intOf v).toNat);case atStart=>exact⟨fQ,0,rfl,qE _,show Hid _ from fun v hv=>by simp at hv⟩
 case round=>
  obtain⟨bD,rfl⟩:=zB wr;clear fQ;obtain⟨jD,i,rfl,hi,HZ⟩:=hrel;obtain⟨k0,k1,k2⟩:=aF.out bD (aI.out.same jD.out);by_cases ci:i<aY
  ·have iE:=zw (i+1);obtain⟨yr,hxr⟩:=zG q.roots i zBE;obtain⟨bkr,Ou,Ew,Ey,Ez,EC,ED,EF,her,Fe,Fg,Ov,Y8,zM⟩:=pU (gu.out W0 zr) hxr;first|subst her| (simp only[qG,qO,and_true]at her;obtain⟨rfl,rfl⟩:=her)
   have Nr1:=zh Fe;have Nr2:=zh Fg;have GL:=zh zM;have QJ:=zh hxr;clear zM hxr Fe Fg;have abH:Hid (∀W,O0 W0 W->aS 2 fE B W (.slice Ew Ey Ez) yr.spec.spans):=fun W ho=>(GL.out W ho).2.1;have abI:Hid (∀W,O0 W0 W->aS 2 dO B W (.slice EC ED EF) yr.spec.sets):=fun W ho=>(GL.out W ho).2.2.1;have HCr:Hid (∀W,O0 W0 W->mM B W [.string yr.spec.name,.slice Ew Ey Ez,.slice EC ED EF,.int .i64 yr.line] yr):=fun W ho=>(GL.out W ho).2.2.2;obtain⟨c,hc⟩:=ze (x.wish yr.spec);have HWs:Hid (∀W,O0 W0 W->Calls Tryz.prog 107 #[.agg #[.slice aP ak aJ,.slice aO aG aH],.agg #[.string yr.spec.name,.slice Ew Ey Ez,.slice EC ED EF]] W fun e w'=>e= .returned (.int .u8 c)/\O0 W w'):=fun W hW=>by rw[<-hc];exact Y4 (eX.out W hW) (⟨_,_,rfl,Ov,abH.out W hW,abI.out W hW⟩:dJ B W [.string yr.spec.name,.slice Ew Ey Ez,.slice EC ED EF] yr.spec) zAg
   have HC:=zh hc;clear hc;have hrr:=zh (GL.out bD (aI.out.same jD.out)).1;obtain⟨Va,hVa⟩:=ze (bD.alloc (.cells #[.string ⟨#[]⟩,.slice none 0 0,.slice none 0 0,.int .i64 0] 110));have H6a:Hid (Va.heap[bD.heap.size]? =some (.cells #[.string ⟨#[]⟩,.slice none 0 0,.slice none 0 0,.int .i64 0] 110)):=by rw[<-hVa];exact qL bD _
   obtain⟨W2,hW2⟩:=ze (Va.setRow bD.heap.size #[.string yr.spec.name,.slice Ew Ey Ez,.slice EC ED EF,.int .i64 yr.line]);have aea:Hid (W2.heap[bD.heap.size]? =some (.cells #[.string yr.spec.name,.slice Ew Ey Ez,.slice EC ED EF,.int .i64 yr.line] 110 (0,0))):=zB4;have HP2:Hid (O0 W1 W2):=by exact zFn
   have y5:Hid (∀W,O0 W2 W->W.cell? ⟨bD.heap.size,0,none⟩=some (.string yr.spec.name)/\W.cell? ⟨bD.heap.size,1,none⟩=some (.slice Ew Ey Ez)/\W.cell? ⟨bD.heap.size,2,none⟩=some (.slice EC ED EF)/\W.cell? ⟨bD.heap.size,3,none⟩=some (.int .i64 yr.line)):=fun W ho=>by have b1:=aA aea.out ho (fun f=>f);exact⟨by rw[aj b1];rfl,by rw[aj b1];rfl,by rw[aj b1];rfl,by rw[aj b1];rfl⟩
   clear k0 k1 k2;obtain⟨k0,k1,k2⟩:=aF.out W2 (aI.out.same HP2.out);obtain⟨d0,d1,d2,d3⟩:=y5.out W2 zr;obtain⟨m0,m1,m2⟩:=aF.out bD (aI.out.same jD.out);go_wp2_with (first
    | (refine wpList_load_mid rfl 110 (.tmp 30) rfl bkr (Ou+i*4) rfl _ _ hrr.out Tryz.underlying110 rfl zk ?_)
    | (refine wpList_store_row rfl 110 (.tmp 6) (.tmp 31) rfl bD.heap.size #[.string yr.spec.name,.slice Ew Ey Ez,.slice EC ED EF,.int .i64 yr.line] rfl rfl 110 #[.string ⟨#[]⟩,.slice none 0 0,.slice none 0 0,.int .i64 0] H6a.out zk rfl zk ?_))
   clear hrr H6a;clear m0 m1 m2;refine(HWs.out W2 (aI.out.same HP2.out)).mono ?_;rintro e w3 ⟨rfl,O1⟩;have kV:=zh (HP2.out.same O1);have yj:=zh O1;clear O1 HWs k0 k1 k2 d0 d1 d2 d3 hVa hW2;obtain⟨k0,k1,k2⟩:=aF.out w3 (aI.out.same kV.out);obtain⟨d0,d1,d2,d3⟩:=y5.out w3 yj.out;by_cases c0:c=0
   ·subst c0;have HZ2:Hid (∀r∈q.roots.take (i+1),x.wish r.spec=0):=fun p hp=>by
     rcases bH QJ.out hp with h|rfl;·exact HZ.out p h
     exact HC.out
    exact zFU
   have c1:((c:Int) != 0)=true:=by rw[bne_iff_ne];exact c0
   have uI:Hid (q.okB x=false):=aaz (qT QJ.out) (by rw[HC.out];exact c0);go_wp2_with (refine wpList_store_row rfl 43 (.tmp 4) (.tmp 41) rfl (w.heap.size+2) #[.int .u8 c,.int .i64 yr.line] rfl rfl 43 #[.int .u8 0,.int .i64 0] (oG.out w3 kV.out) zk rfl zk ?_);refine dS (p:=4) rfl rfl rfl rfl (setRow_heap _ _ _ _ _ _ (oG.out w3 kV.out)) ?_;exact zEd
  obtain rfl:aY=i:=by omega
  have Fb:Hid (q.okB x=true):=aaA (by rw[bQ.out];omega) zBE (fun r hr=>HZ.out r (by
   rw[qI (yG bQ.out)]
   exact hr))
  go_wp2_with (refine wpList_store_row rfl 43 (.tmp 4) (.tmp 43) rfl (w.heap.size+2) #[.int .u8 0,.int .i64 0] rfl rfl 43 #[.int .u8 0,.int .i64 0] (oG.out bD jD.out) zk rfl zk ?_);exact zFX
end
def jG(g:List aC)(s:Str):Int:=iK (fun n=>decide (n.name=s)) g
def nodeAt(g:List aC)(i:Nat):aC:=g.getD i default
def rH(a b:dM):Bool:=decide (a.name=b.name)&&decide (a.value=b.value)
def Dw(l w:List dM):Bool:=w.all fun s=>l.any fun t=>rH t s
def jr(n:aC)(s:iW):Bool:=vC s.spans n.version&&Dw n.sets s.sets
def vH(vs:List jm)(l:List dM):Bool:=decide (vs.length=l.length)&&(vs.zip l).all fun p=>decide (p.1.name=p.2.name)&&iC p.1.values p.2.value
def Bd(g:List aC)(s:iW):Bool:=decide (0<=jG g s.name)&&jr (nodeAt g (jG g s.name).toNat) s
def bY(x:aQ)(n:aC):iI:=x.pack (x.find n.name).toNat
def mQ(x:aQ)(n:aC):List iW:=((bY x n).deps.filter fun d=>jr n d.cond).map Aj.on
def Kr(g:List aC)(p:Nat->aC->Bool):Option Nat:=(List.range g.length).find? fun i=>p i (nodeAt g i)
def aX(g:List aC)(p:Nat->aC->Bool):Option Str:=(Kr g p).map fun i=>(nodeAt g i).name
def jH(x:aQ)(g:List aC)(i:Nat)(n:aC):Bool:=decide (x.find n.name<0)||(decide (0<i)&& !decide ((nodeAt g (i-1)).name.toList<n.name.toList))
def yx(x:aQ)(n:aC):Bool:=decide (Lh (bY x n) n.version<0)
def setW(x:aQ)(n:aC):Bool:= !vH (bY x n).vars n.sets
def xW(x:aQ)(g:List aC)(r:tN):Bool:=decide (0<=x.find r.spec.name)&& !Bd g r.spec
def uy(x:aQ)(q:dD)(g:List aC):Option Str:=(q.roots.find? (xW x g)).map fun r=>r.spec.name
def BQ(x:aQ)(g:List aC)(n:aC):Bool:=(mQ x n).any fun s=>decide (0<=x.find s.name)&& !Bd g s
def zN(x:aQ)(q:dD)(g:List aC)(s:Str):Bool:=(q.roots.any fun r=>decide (r.spec.name=s))||g.any fun n=>(mQ x n).any fun t=>decide (t.name=s)
def Si(x:aQ)(g:List aC)(s:Str):Nat:=(g.filter fun n=>iC (bY x n).provides s).length
noncomputable def xg (x:aQ) (q:dD) (g:List aC):Option Str:=(x.names q).find? fun s=>zN x q g s&&decide (Si x g s≠1)
def Bf(x:aQ)(g:List aC)(n:aC):Bool:=(bY x n).cons.any fun y=>jr n y.cond&&(decide (y.with'.name=ByteArray.empty)||Bd g y.with')
def F8(x:aQ)(g:List aC)(n:aC):List Str:=(mQ x n).flatMap fun s=>((x.targets s.name).map fun p=>(x.pack p).name).filter fun m=>decide (0<=jG g m)
def AL(x:aQ)(g:List aC)(n:aC):List Str:=gX (oJ (F8 x g n))
def D8(x:aQ)(g:List aC)(n:aC):Bool:= !decide (n.needs=AL x g n)
def BR(g:List aC)(i k:Nat):Bool:=(nodeAt g i).needs.any fun s=>decide (jG g s=(k:Int))
inductive Dx (g:List aC):Nat->Nat->Prop where
 |one {i k:Nat} (h:BR g i k=true):Dx g i k
 |more {i j k:Nat} (h:Dx g i j) (e:BR g j k=true):Dx g i k
def mJ(x:aQ)(q:dD)(g:List aC):List Nat:=q.roots.flatMap fun r=>(((x.targets r.spec.name).map fun p=>jG g (x.pack p).name).filter fun i=>decide (0<=i)).map Int.toNat
open Classical in
noncomputable def vZ (g:List aC) (i:Nat):Bool:=decide (Dx g i i)
open Classical in
noncomputable def pG (x:aQ) (q:dD) (g:List aC) (i:Nat):Bool:= !decide (i∈mJ x q g)&& !decide (∃r∈mJ x q g,Dx g r i)
def dB:List (Int×Option Str)->Int×Str
 | []=>(0,ByteArray.empty)
 | (c,some s)::_=>(c,s)
 | (_,none)::r=>dB r
noncomputable def jv (x:aQ) (q:dD) (g:List aC):List (Int×Option Str):=
 [(1,aX g (jH x g)),(2,aX g fun _ n=>yx x n),(3,aX g fun _ n=>setW x n),(4,uy x q g),(5,aX g fun _ n=>BQ x g n),(6,xg x q g),(7,aX g fun _ n=>Bf x g n),(8,aX g fun _ n=>D8 x g n),(9,aX g fun i _=>vZ g i),(10,aX g fun i _=>pG x q g i)]
theorem find_congr{α:Type}{p r:α->Bool}:∀{l:List α},(∀a∈l,p a=r a)->l.find? p=l.find? r
 | [],_=>rfl
 |a::t,h=>by
  rw[List.find?_cons,List.find?_cons,h a qQ,find_congr fun b hb=>h b (yE _ hb)]
theorem Xa{g:List aC}{p:Nat->aC->Bool}{i:Nat}(hi:i<g.length)(h0:∀j,j<i->p j (nodeAt g j)=false)(h:p i (nodeAt g i)=true):Kr g p=some i:=by unfold Kr;rw[List.find?_range_eq_some];exact⟨h,by simpa using hi,fun j hj=>by simp[h0 j hj]⟩
theorem Xb{g:List aC}{p:Nat->aC->Bool}:Kr g p=none↔ ∀j,j<g.length->p j (nodeAt g j)=false:=by
 unfold Kr;rw[List.find?_eq_none];constructor;·intro h j hj;simpa using h j (yI.2 hj)
 intro h j hj;simp[h j (yI.1 hj)]
theorem Xc{g:List aC}{p:Nat->aC->Bool}{i:Nat}{n:aC}(hn:g[i]? =some n)(h0:∀j,j<i->p j (nodeAt g j)=false)(h:p i n=true):aX g p=some n.name:=by
 have e:nodeAt g i=n:=by unfold nodeAt;rw[qC,hn];rfl
 unfold aX;rw[Xa (qJ.1 hn).1 h0 (by rw[e];exact h),Option.map_some,e]
theorem kL{g:List aC}{p:Nat->aC->Bool}:aX g p=none↔ ∀j,j<g.length->p j (nodeAt g j)=false:=by unfold aX;rw[Option.map_eq_none_iff,Xb]
theorem Dy{g:List aC}{p r:Nat->aC->Bool}(h:∀j,j<g.length->p j (nodeAt g j)=r j (nodeAt g j)):aX g p=aX g r:=by unfold aX Kr;congr 1;exact find_congr fun j hj=>h j (yI.1 hj)
structure Named (x:aQ) (g:List aC):Prop where
 found:∀i,i<g.length->0<=x.find (nodeAt g i).name
 rise:∀i,i+1<g.length->(nodeAt g i).name.toList<(nodeAt g (i+1)).name.toList
theorem Kt{x:aQ}{g:List aC}:aX g (jH x g)=none↔Named x g:=by
 rw[kL];constructor
 ·intro h;refine⟨fun i hi=>?_,fun i hi=>?_⟩;·have:=h i hi;unfold jH at this;rw[Bool.or_eq_false_iff]at this;have:=of_decide_eq_false this.1;omega
  have:=h (i+1) hi;unfold jH at this;rw[Bool.or_eq_false_iff,Nat.add_sub_cancel,qX (show 0<i+1 by omega),yR,Bool.not_eq_false']at this;exact of_decide_eq_true this.2
 intro h j hj;unfold jH;rw[Bool.or_eq_false_iff];refine⟨qP (by have:=h.found j hj;omega),?_⟩;cases j with
 |zero=>rfl
 |succ i=>rw[Nat.add_sub_cancel,qX (h.rise i hj)];simp
theorem Named.lt{x:aQ}{g:List aC}(h:Named x g){i j:Nat}(hij:i<j)(hj:j<g.length):(nodeAt g i).name.toList<(nodeAt g j).name.toList:=by
 induction j with
 |zero=>omega
 |succ j ih=>
  rcases yK i j with h1|h1;·exact List.lt_trans (ih h1 zAA) (h.rise j hj)
  obtain rfl:i=j:=by omega
  exact h.rise i hj
theorem Named.inj{x:aQ}{g:List aC}(h:Named x g){i j:Nat}(hi:i<g.length)(hj:j<g.length)(e:(nodeAt g i).name=(nodeAt g j).name):i=j:=by
 rcases Nat.lt_trichotomy i j with h1|h1|h1;·have:=h.lt h1 hj;rw[e]at this;exact absurd this (List.lt_irrefl _)
 ·exact h1
 have:=h.lt h1 hi;rw[e]at this;exact absurd this (List.lt_irrefl _)
theorem xk(g:List aC)(s:Str):jG g s<g.length:=by
 unfold jG iK;split;·rename_i h;rw[yU]at h;obtain⟨n,hn,h2⟩:=h;have:=List.findIdx_lt_length_of_exists (p:=fun n:aC=>decide (n.name=s)) ⟨n,hn,h2⟩;omega
 omega
theorem Ox(g:List aC)(s:Str): -1<=jG g s:=by unfold jG iK;split<;>omega
theorem Dz{g:List aC}{s:Str}{k:Nat}(h:jG g s=(k:Int)):(nodeAt g k).name=s:=by
 unfold jG iK at h;split at h;·rename_i ha;rw[yU]at ha;obtain⟨n,hn,h2⟩:=ha;have hlt:=List.findIdx_lt_length_of_exists (p:=fun n:aC=>decide (n.name=s)) ⟨n,hn,h2⟩;have he:g.findIdx (fun n:aC=>decide (n.name=s))=k:=zAA;have:=List.findIdx_getElem (p:=fun n:aC=>decide (n.name=s)) (xs:=g) (w:=hlt);unfold nodeAt;rw[qC,<-he,qA hlt];exact of_decide_eq_true this
 omega
theorem Named.find{x:aQ}{g:List aC}(h:Named x g){i:Nat}(hi:i<g.length):jG g (nodeAt g i).name=(i:Int):=by
 have h1:0<=jG g (nodeAt g i).name:=by
  unfold jG iK;rw[if_pos];·omega
  rw[yU];exact⟨nodeAt g i,by unfold nodeAt;rw[qC,qA hi];exact qZ hi,by simp⟩
 obtain⟨k,hk⟩:∃k:Nat,jG g (nodeAt g i).name=(k:Int):=⟨(jG g (nodeAt g i).name).toNat,by omega⟩;have h2:=Dz hk;have h3:=xk g (nodeAt g i).name;have:=h.inj (i:=k) (j:=i) zAA hi h2;omega
end Go.Proofs.YtdmmebjjojimiaaGreatDoor
