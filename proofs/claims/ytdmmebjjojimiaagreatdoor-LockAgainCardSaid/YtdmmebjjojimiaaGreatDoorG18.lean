/- Package check: rules. Printed by gen_ck3.py.; Package check: prefer. Printed by gen_ck4.py. -/
import Derived.Test.YtdmmebjjojimiaaGreatDoorG17
set_option maxRecDepth 100000
set_option maxHeartbeats 8000000
set_option linter.all false
namespace Go.Proofs
theorem zAc{p:Prop}(h:p:=by rw[<-hW1];exact zr.alloc _):p:=h
theorem zBu{p:Prop}(h:p:=by rw[hk];exact jD.out.size):p:=h
theorem zB4{p:Prop}(h:p:=by rw[<-hW2];exact setRow_heap _ _ _ _ _ _ H6a.out):p:=h
theorem zCM{p:Prop}(h:p:=by rw[<-hW1,<-jK.out];exact qL W0 _):p:=h
theorem zFn{p:Prop}(h:p:=by
 rw[<-hW2,<-hVa]
 exact(jD.out.alloc _).trans (aK _ _ _) fun k hk=>.inr zBu):p:=h
theorem zGV{p:Prop}(h:p:=by
 rw[<-MR,<-hVb]
 exact(CY.out.alloc _).trans (aK _ _ _) fun k hk=>.inr (by rw[hk];exact CY.out.size)):p:=h
theorem zGl{p:Prop}(h:p:=by
 have b0:W1.heap[w.heap.size+2]? =some (.cells #[.int .u8 0,.int .i64 0] 43):=zCM
 exact zEG):p:=h
end Go.Proofs
namespace Go.Proofs.YtdmmebjjojimiaaGreatDoor
open Go.RowKit
section
variable {w w':World} {B:Nat}
theorem ad7{lC:List Value}{x:aQ}(hx:fO B w lC x){LY:List Value}{p:iI}(hp:gY B w LY p)(hlen:x.packs.length<=1000000):Calls Tryz.prog 105 #[.agg lC.toArray,.agg LY.toArray] w fun e w'=>e= .returned (.agg #[.int .u8 (jE x p).1,.int .i64 (jE x p).2])/\O0 w w':=by
 obtain⟨aP,ak,aJ,aO,aG,aH,rfl,fF,fG,dP,dQ,aB,bJ,mY⟩:=open_rec hx;clear hx;try rw[aB.out]
 obtain⟨mZ,jL,ng,lN,jA,lQ,gZ,ig,iq,pV,iF,ni,pW,iG,ny,kP,kQ,kR,rfl,zq,zu,zx,zy,lS,lT,BD,BF,BG,BH,uf,ug,pX,uQ,lU,rZ,su,uh,Z5⟩:=iO hp;clear hp;obtain⟨W0,hW0,aV,jK,aF⟩:=ada w (.slice aP ak aJ) (.slice aO aG aH) (.string p.name) (.int .i64 p.line) (.slice mZ jL ng) (.slice lN jA lQ) (.slice gZ ig iq) (.slice pV iF ni) (.slice pW iG ny) (.slice kP kQ kR) 25 101;obtain⟨eX,bK,bT⟩:=mY W0 aV.out;clear mY;obtain⟨VO,uj,qy,kJ,um,uo,pY⟩:=Z5 W0 aV.out;clear Z5;clear dP dQ bJ bT;clear zq zu pX uj zx zy uQ qy lS lT lU kJ uf ug uh pY;rw[aB.out]at hlen;obtain⟨r,hr⟩:=ze (jE x p);rw[hr];have aZ:=zh hr;clear hr;have hs:=jK.out;obtain⟨W1,hW1⟩:=ze (W0.alloc (.cells #[.int .u8 0,.int .i64 0] 43));have aI:Hid (O0 W0 W1):=zAc;have oG:Hid (∀W,O0 W1 W->W.heap[w.heap.size+2]? =some (.cells #[.int .u8 0,.int .i64 0] 43)):=fun W ho=>by exact zGl
 have hW0':=hW0.symm;clear hW0;obtain⟨k0,k1,k2,k3,k4,k5,k6,k7,k8,k9⟩:=aF.out W1 aI.out;go_enter Tryz.func105,Tryz.ntmps105;go_wp2_with fail;clear hW0' hW1 k0 k1 k2 k3 k4 k5 k6 k7 k8 k9;have fQ:Hid (O0 W1 W1):=Only.refl _ _;go_loopw [14] (fun vi bD=>Hid (O0 W1 bD)/\∃i:Nat,vi= .int .i64 i/\i<=iF/\Hid (∀d∈p.deps.take i,jT x p d=0)) (fun v _=>iF-(RowKit.intOf v).toNat);case atStart=>exact⟨fQ,0,rfl,qE _,show Hid _ from fun v hv=>by simp at hv⟩
 case round=>
  obtain⟨bD,rfl⟩:=zB wr;clear fQ;obtain⟨jD,i,rfl,hi,HZ⟩:=hrel;obtain⟨k0,k1,k2,k3,k4,k5,k6,k7,k8,k9⟩:=aF.out bD (aI.out.same jD.out);by_cases ci:i<iF
  ·have iE:=zw (i+1);obtain⟨yy,hxy⟩:=zG p.deps i (by rw[rZ.out];omega);obtain⟨AY,mF,og,jo,oh,sO,sQ,sS,xE,uT,xG,yc,uG,yg,oq,kF,nP,rQ,qB,yh,anq,Ef,je⟩:=Aq (um.out W0 zr) hxy;first|subst oq| (simp only[qG,qO,and_true]at oq;obtain⟨rfl,rfl⟩:=oq)
   have jq:=zh je;have xR:=zh hxy;clear je hxy kF nP rQ qB;have xH:Hid (∀W,O0 W0 W->aS 2 fE B W (.slice og jo oh) yy.on.spans):=fun W ho=>(jq.out W ho).2.1;have IB:Hid (∀W,O0 W0 W->aS 2 dO B W (.slice sO sQ sS) yy.on.sets):=fun W ho=>(jq.out W ho).2.2.1;have Qs:Hid (∀W,O0 W0 W->aS 2 dO B W (.slice yc uG yg) yy.cond.sets):=fun W ho=>(jq.out W ho).2.2.2.2.1;have HWs:Hid (∀W,O0 W0 W->Calls Tryz.prog 107 #[.agg #[.slice aP ak aJ,.slice aO aG aH],.agg #[.string yy.on.name,.slice og jo oh,.slice sO sQ sS]] W fun e w'=>e= .returned (.int .u8 (x.wish yy.on))/\O0 W w'):=fun W hW=>Y4 (eX.out W hW) (⟨_,_,rfl,yh,xH.out W hW,IB.out W hW⟩:dJ B W [.string yy.on.name,.slice og jo oh,.slice sO sQ sS] yy.on) zAg;have Ij:Hid (∀W,O0 W0 W->Calls Tryz.prog 186 #[.agg #[.string p.name,.int .i64 p.line,.slice mZ jL ng,.slice lN jA lQ,.slice gZ ig iq,.slice (some ⟨AY,mF,none⟩) iF ni,.slice pW iG ny,.slice kP kQ kR],.slice yc uG yg] W fun e w'=>e= .returned (.bool (gU p yy.cond.sets))/\O0 W w'):=fun W hW=>ai1 (VO.out W hW) (Qs.out W hW);have fJ:=zh (jq.out bD (aI.out.same jD.out)).1;obtain⟨Va,hVa⟩:=ze (bD.alloc (.cells #[.string ⟨#[]⟩,.slice none 0 0,.slice none 0 0,.string ⟨#[]⟩,.slice none 0 0,.slice none 0 0,.int .i64 0] 132));have H6a:Hid (Va.heap[bD.heap.size]? =some (.cells #[.string ⟨#[]⟩,.slice none 0 0,.slice none 0 0,.string ⟨#[]⟩,.slice none 0 0,.slice none 0 0,.int .i64 0] 132)):=by rw[<-hVa];exact qL bD _
   obtain⟨W2,hW2⟩:=ze (Va.setRow bD.heap.size #[.string yy.on.name,.slice og jo oh,.slice sO sQ sS,.string yy.cond.name,.slice xE uT xG,.slice yc uG yg,.int .i64 yy.line]);have aea:Hid (W2.heap[bD.heap.size]? =some (.cells #[.string yy.on.name,.slice og jo oh,.slice sO sQ sS,.string yy.cond.name,.slice xE uT xG,.slice yc uG yg,.int .i64 yy.line] 132 (0,0))):=zB4;have HP2:Hid (O0 W1 W2):=by exact zFn
   have y5:Hid (∀W,O0 W2 W->W.cell? ⟨bD.heap.size,0,none⟩=some (.string yy.on.name)/\W.cell? ⟨bD.heap.size,1,none⟩=some (.slice og jo oh)/\W.cell? ⟨bD.heap.size,2,none⟩=some (.slice sO sQ sS)/\W.cell? ⟨bD.heap.size,3,none⟩=some (.string yy.cond.name)/\W.cell? ⟨bD.heap.size,4,none⟩=some (.slice xE uT xG)/\W.cell? ⟨bD.heap.size,5,none⟩=some (.slice yc uG yg)/\W.cell? ⟨bD.heap.size,6,none⟩=some (.int .i64 yy.line)):=fun W ho=>by have b1:=aA aea.out ho (fun f=>f);exact zD9
   clear k0 k1 k2 k3 k4 k5 k6 k7 k8 k9;obtain⟨k0,k1,k2,k3,k4,k5,k6,k7,k8,k9⟩:=aF.out W2 (aI.out.same HP2.out);obtain⟨d0,d1,d2,d3,d4,d5,d6⟩:=y5.out W2 zr;obtain⟨m0,m1,m2,m3,m4,m5,m6,m7,m8,m9⟩:=aF.out bD (aI.out.same jD.out);go_wp2_with (first
    | (refine wpList_load_mid rfl 132 (.tmp 16) rfl AY (mF+i*7) rfl _ _ fJ.out Tryz.underlying132 rfl zk ?_)
    | (refine wpList_store_row rfl 132 (.tmp 6) (.tmp 17) rfl bD.heap.size #[.string yy.on.name,.slice og jo oh,.slice sO sQ sS,.string yy.cond.name,.slice xE uT xG,.slice yc uG yg,.int .i64 yy.line] rfl rfl 132 #[.string ⟨#[]⟩,.slice none 0 0,.slice none 0 0,.string ⟨#[]⟩,.slice none 0 0,.slice none 0 0,.int .i64 0] H6a.out zk rfl zk ?_))
   clear fJ H6a;clear m0 m1 m2 m3 m4 m5 m6 m7 m8 m9;refine(HWs.out W2 (aI.out.same HP2.out)).mono ?_;rintro e w3 ⟨rfl,O1⟩;have kV:=zh (HP2.out.same O1);have yj:Hid (O0 W2 w3):=O1;clear O1 k0 k1 k2 k3 k4 k5 k6 k7 k8 k9 d0 d1 d2 d3 d4 d5 d6;obtain⟨k0,k1,k2,k3,k4,k5,k6,k7,k8,k9⟩:=aF.out w3 (aI.out.same kV.out);obtain⟨d0,d1,d2,d3,d4,d5,d6⟩:=y5.out w3 yj.out;obtain⟨c,hc⟩:=ze (x.wish yy.on);obtain⟨sb,hsb⟩:=ze (gU p yy.cond.sets);simp only[hsb]at Ij;rw[hc];have HC:=zh hc;have TP:=zh hsb;clear hc hsb hVa hW2;by_cases c0:c=0
   ·subst c0;have z00:((0:Int) != 0)=false:=rfl;go_wp2_with fail;refine(Ij.out w3 (aI.out.same kV.out)).mono ?_;rintro e w4 ⟨rfl,O1⟩;have rF:=zh (kV.out.same O1);have HQ4:Hid (O0 W2 w4):=yj.out.same O1;clear O1 k0 k1 k2 k3 k4 k5 k6 k7 k8 k9 d0 d1 d2 d3 d4 d5 d6;obtain⟨k0,k1,k2,k3,k4,k5,k6,k7,k8,k9⟩:=aF.out w4 (aI.out.same rF.out);obtain⟨d0,d1,d2,d3,d4,d5,d6⟩:=y5.out w4 HQ4.out;cases sb with
    |false=>
     have hr2:r=(8,yy.line):=by exact zG9
     subst hr2;go_wp2_with (refine wpList_store_row rfl 43 (.tmp 4) (.tmp 36) rfl (w.heap.size+2) #[.int .u8 8,.int .i64 yy.line] rfl rfl 43 #[.int .u8 0,.int .i64 0] (oG.out w4 rF.out) zk rfl zk ?_);exact zFc
    |true=>exact zEN
   have c1:((c:Int) != 0)=true:=by rw[bne_iff_ne];exact c0
   have hr2:r=(c,yy.line):=by exact zHG
   subst hr2;go_wp2_with (refine wpList_store_row rfl 43 (.tmp 4) (.tmp 27) rfl (w.heap.size+2) #[.int .u8 c,.int .i64 yy.line] rfl rfl 43 #[.int .u8 0,.int .i64 0] (oG.out w3 kV.out) zk rfl zk ?_);exact zFd
  obtain rfl:iF=i:=by omega
  have HZa:Hid (∀d∈p.deps,jT x p d=0):=fun d hd=>HZ.out d (by
   rw[qI (yG rZ.out)]
   exact hd)
  have fQ:=jD;go_wp2_with fail;go_loopw [41] (fun vj gV=>Hid (O0 W1 gV)/\∃j:Nat,vj= .int .i64 j/\j<=iG/\Hid (∀d∈p.cons.take j,iw x p d=0)) (fun v _=>iG-(RowKit.intOf v).toNat);case atStart=>exact⟨fQ,0,rfl,qE _,show Hid _ from fun v hv=>by simp at hv⟩
  case round=>
   obtain⟨gV,rfl⟩:=zB wr;clear fQ;obtain⟨CY,j,rfl,hj,VB⟩:=hrel;clear k0 k1 k2 k3 k4 k5 k6 k7 k8 k9;obtain⟨k0,k1,k2,k3,k4,k5,k6,k7,k8,k9⟩:=aF.out gV (aI.out.same CY.out);by_cases cj:j<iG
   ·have iE:=zw (j+1);obtain⟨yz,hxz⟩:=zG p.cons j (by rw[su.out];omega);obtain⟨JD,vP,vW,vX,vY,wS,wU,wV,sU,sV,sW,sD,ru,sF,qc,wC,EP,ER,Eh,AX,He,NC,jM⟩:=TN (uo.out W0 zr) hxz;first|subst qc| (simp only[qG,qO,and_true]at qc;obtain⟨rfl,rfl⟩:=qc)
    have jd:=zh jM;have vS:=zh hxz;clear jM hxz wC EP ER Eh;have TQ:Hid (∀W,O0 W0 W->aS 2 dO B W (.slice wS wU wV) yz.cond.sets):=fun W ho=>(jd.out W ho).2.2.1;have JQ:Hid (∀W,O0 W0 W->aS 2 fE B W (.slice sU sV sW) yz.with'.spans):=fun W ho=>(jd.out W ho).2.2.2.1;have Gx:Hid (∀W,O0 W0 W->aS 2 dO B W (.slice sD ru sF) yz.with'.sets):=fun W ho=>(jd.out W ho).2.2.2.2.1;have HWs:Hid (∀W,O0 W0 W->Calls Tryz.prog 107 #[.agg #[.slice aP ak aJ,.slice aO aG aH],.agg #[.string yz.with'.name,.slice sU sV sW,.slice sD ru sF]] W fun e w'=>e= .returned (.int .u8 (x.wish yz.with'))/\O0 W w'):=fun W hW=>Y4 (eX.out W hW) (⟨_,_,rfl,He,JQ.out W hW,Gx.out W hW⟩:dJ B W [.string yz.with'.name,.slice sU sV sW,.slice sD ru sF] yz.with') zAg;have HF:Hid (∀W,O0 W0 W->Calls Tryz.prog 182 #[.agg #[.slice aP ak aJ,.slice aO aG aH],.string yz.with'.name] W fun e w'=>e= .returned (.int .i64 (x.find yz.with'.name))/\O0 W w'):=fun W hW=>rX (eX.out W hW) _;have Ij:Hid (∀W,O0 W0 W->Calls Tryz.prog 186 #[.agg #[.string p.name,.int .i64 p.line,.slice mZ jL ng,.slice lN jA lQ,.slice gZ ig iq,.slice pV iF ni,.slice (some ⟨JD,vP,none⟩) iG ny,.slice kP kQ kR],.slice wS wU wV] W fun e w'=>e= .returned (.bool (gU p yz.cond.sets))/\O0 W w'):=fun W hW=>ai1 (VO.out W hW) (TQ.out W hW);have hrz:=zh (jd.out gV (aI.out.same CY.out)).1;obtain⟨Vb,hVb⟩:=ze (gV.alloc (.cells #[.string ⟨#[]⟩,.slice none 0 0,.slice none 0 0,.string ⟨#[]⟩,.slice none 0 0,.slice none 0 0,.int .i64 0] 160));have H6b:Hid (Vb.heap[gV.heap.size]? =some (.cells #[.string ⟨#[]⟩,.slice none 0 0,.slice none 0 0,.string ⟨#[]⟩,.slice none 0 0,.slice none 0 0,.int .i64 0] 160)):=by rw[<-hVb];exact qL gV _
    obtain⟨W4,MR⟩:=ze (Vb.setRow gV.heap.size #[.string yz.cond.name,.slice vW vX vY,.slice wS wU wV,.string yz.with'.name,.slice sU sV sW,.slice sD ru sF,.int .i64 yz.line]);have ajg:Hid (W4.heap[gV.heap.size]? =some (.cells #[.string yz.cond.name,.slice vW vX vY,.slice wS wU wV,.string yz.with'.name,.slice sU sV sW,.slice sD ru sF,.int .i64 yz.line] 160 (0,0))):=by rw[<-MR];exact setRow_heap _ _ _ _ _ _ H6b.out
    have rF:Hid (O0 W1 W4):=by exact zGV
    have y5:Hid (∀W,O0 W4 W->W.cell? ⟨gV.heap.size,0,none⟩=some (.string yz.cond.name)/\W.cell? ⟨gV.heap.size,1,none⟩=some (.slice vW vX vY)/\W.cell? ⟨gV.heap.size,2,none⟩=some (.slice wS wU wV)/\W.cell? ⟨gV.heap.size,3,none⟩=some (.string yz.with'.name)/\W.cell? ⟨gV.heap.size,4,none⟩=some (.slice sU sV sW)/\W.cell? ⟨gV.heap.size,5,none⟩=some (.slice sD ru sF)/\W.cell? ⟨gV.heap.size,6,none⟩=some (.int .i64 yz.line)):=fun W ho=>by have b1:=aA ajg.out ho (fun f=>f);exact zD9
    clear k0 k1 k2 k3 k4 k5 k6 k7 k8 k9;obtain⟨k0,k1,k2,k3,k4,k5,k6,k7,k8,k9⟩:=aF.out W4 (aI.out.same rF.out);obtain⟨d0,d1,d2,d3,d4,d5,d6⟩:=y5.out W4 zr;obtain⟨m0,m1,m2,m3,m4,m5,m6,m7,m8,m9⟩:=aF.out gV (aI.out.same CY.out);obtain⟨e0,he0⟩:=ze yz.with'.name.toList.isEmpty;obtain⟨sb,hsb⟩:=ze (gU p yz.cond.sets);simp only[hsb]at Ij;have TP:=zh hsb;have HE0:=zh he0;clear hsb he0;go_wp2_with (first
     | (refine wpList_load_mid rfl 160 (.tmp 43) rfl JD (vP+j*7) rfl _ _ hrz.out Tryz.underlying160 rfl zk ?_)
     | (refine wpList_store_row rfl 160 (.tmp 9) (.tmp 44) rfl gV.heap.size #[.string yz.cond.name,.slice vW vX vY,.slice wS wU wV,.string yz.with'.name,.slice sU sV sW,.slice sD ru sF,.int .i64 yz.line] rfl rfl 160 #[.string ⟨#[]⟩,.slice none 0 0,.slice none 0 0,.string ⟨#[]⟩,.slice none 0 0,.slice none 0 0,.int .i64 0] H6b.out zk rfl zk ?_))
    clear hrz H6b;clear m0 m1 m2 m3 m4 m5 m6 m7 m8 m9 hVb MR;refine(Ij.out W4 (aI.out.same rF.out)).mono ?_;rintro e w5 ⟨rfl,O1⟩;have xI:=zh (rF.out.same O1);have HQ5:Hid (O0 W4 w5):=O1;clear O1 k0 k1 k2 k3 k4 k5 k6 k7 k8 k9 d0 d1 d2 d3 d4 d5 d6;obtain⟨k0,k1,k2,k3,k4,k5,k6,k7,k8,k9⟩:=aF.out w5 (aI.out.same xI.out);obtain⟨d0,d1,d2,d3,d4,d5,d6⟩:=y5.out w5 HQ5.out;cases sb with
    |false=>
     have z88:((8:Int) != 0)=true:=rfl;have hr2:r=(8,yz.line):=by rw[<-aZ.out];exact qg HZa.out VB.out vS.out zCx zCi
     subst hr2;go_wp2_with (refine wpList_store_row rfl 43 (.tmp 4) (.tmp 73) rfl (w.heap.size+2) #[.int .u8 8,.int .i64 yz.line] rfl rfl 43 #[.int .u8 0,.int .i64 0] (oG.out w5 xI.out) zk rfl zk ?_);exact zFb
    |true=>
     cases e0 with
     |false=>
      have hst:yz.with'.name.toList.isEmpty=false:=HE0.out;go_wp2_with fail;refine(HF.out w5 (aI.out.same xI.out)).mono ?_;rintro e w6 ⟨rfl,O1⟩;have JE:=zh (xI.out.same O1);have HQ6:Hid (O0 W4 w6):=HQ5.out.same O1;clear O1 k0 k1 k2 k3 k4 k5 k6 k7 k8 k9 d0 d1 d2 d3 d4 d5 d6;obtain⟨k0,k1,k2,k3,k4,k5,k6,k7,k8,k9⟩:=aF.out w6 (aI.out.same JE.out);obtain⟨d0,d1,d2,d3,d4,d5,d6⟩:=y5.out w6 HQ6.out;obtain⟨f,hf⟩:=ze (x.find yz.with'.name);rw[hf];by_cases fl:f<0
      ·have HFl:Hid (x.find yz.with'.name<0):=by rw[hf];exact fl
       clear hf;have hr2:r=(7,yz.line):=by rw[<-aZ.out];exact qg HZa.out VB.out vS.out (by unfold iw;rw[TP.out,if_neg zCt,HE0.out,if_neg zAP,if_pos HFl.out]) zDA
       subst hr2;go_wp2_with (refine wpList_store_row rfl 43 (.tmp 4) (.tmp 73) rfl (w.heap.size+2) #[.int .u8 7,.int .i64 yz.line] rfl rfl 43 #[.int .u8 0,.int .i64 0] (oG.out w6 JE.out) zk rfl zk ?_);refine dS (p:=4) rfl rfl rfl rfl (setRow_heap _ _ _ _ _ _ (oG.out w6 JE.out)) ?_;exact⟨rfl,(aV.out.same (aI.out.same JE.out)).trans (aK _ _ _) (fun k hk=>.inr zAA)⟩
      have HFl:Hid (0<=x.find yz.with'.name):=by rw[hf,Hid];omega
      clear hf;go_wp2_with fail;refine(HWs.out w6 (aI.out.same JE.out)).mono ?_;rintro e w7 ⟨rfl,O1⟩;have Gy:=zh (JE.out.same O1);have HQ7:Hid (O0 W4 w7):=HQ6.out.same O1;clear O1 k0 k1 k2 k3 k4 k5 k6 k7 k8 k9 d0 d1 d2 d3 d4 d5 d6;obtain⟨k0,k1,k2,k3,k4,k5,k6,k7,k8,k9⟩:=aF.out w7 (aI.out.same Gy.out);obtain⟨d0,d1,d2,d3,d4,d5,d6⟩:=y5.out w7 HQ7.out;obtain⟨c,hc⟩:=ze (x.wish yz.with');rw[hc];have HC:=zh hc;clear hc;by_cases c0:c=0
      ·subst c0;have hcode:iw x p yz=0:=by unfold iw;rw[TP.out,if_neg zCt,HE0.out,if_neg zAP,if_neg zDH,HC.out]
       have z00:((0:Int) != 0)=false:=rfl;exact zEa
      have c1:((c:Int) != 0)=true:=by rw[bne_iff_ne];exact c0
      have hr2:r=(c,yz.line):=by rw[<-aZ.out];exact qg HZa.out VB.out vS.out (by unfold iw;rw[TP.out,if_neg zCt,HE0.out,if_neg zAP,if_neg zDH,HC.out]) zDA
      subst hr2;go_wp2_with (refine wpList_store_row rfl 43 (.tmp 4) (.tmp 73) rfl (w.heap.size+2) #[.int .u8 c,.int .i64 yz.line] rfl rfl 43 #[.int .u8 0,.int .i64 0] (oG.out w7 Gy.out) zk rfl zk ?_);exact zDu
     |true=>
      have hst:yz.with'.name.toList.isEmpty=true:=HE0.out;have hcode:iw x p yz=0:=by unfold iw;rw[TP.out,if_neg zAP,HE0.out];simp
      have z00:((0:Int) != 0)=false:=rfl;exact zEZ
   obtain rfl:iG=j:=by omega
   have hr2:r=(0,0):=by exact zG0
   subst hr2;go_wp2_with (refine wpList_store_row rfl 43 (.tmp 4) (.tmp 75) rfl (w.heap.size+2) #[.int .u8 0,.int .i64 0] rfl rfl 43 #[.int .u8 0,.int .i64 0] (oG.out gV CY.out) zk rfl zk ?_);exact zFe
end
end Go.Proofs.YtdmmebjjojimiaaGreatDoor
namespace Go.Proofs
theorem zA4{p:Prop}(h:p:=by(intro w hSw;obtain⟨k0,k1,kf⟩:=HK.out w hSw;have fJ:=(jq.out w hSw).1;have gy4:=fJ 4 _ rfl;clear fJ;go_simp<;>(try with_reducible rfl))):p:=h
theorem zBW{p:Prop}(h:p:=by rw[bJ.out];omega):p:=h
theorem zF5{p:Prop}(h:p:=by
 go_wp2_with fail
 go_ret
 exact⟨rfl,aV.out.same (aI.out.same HP2.out)⟩):p:=h
theorem zF8{p:Prop}(h:p:=by
 go_wp2_with fail
 go_ret
 exact⟨rfl,aV.out.same (aI.out.same kV.out)⟩):p:=h
theorem zGG{p:Prop}(h:p:=by
 refine tW 13 ?_
 refine tW 14 ?_
 refine bV zk ?_ _
 have xK:=zh hHeld
 clear hHeld
 go_wp2_with fail
 go_ret
 exact⟨rfl,xK.out⟩):p:=h
end Go.Proofs
namespace Go.Proofs.YtdmmebjjojimiaaGreatDoor
open Go.RowKit
section
variable {w w':World} {B:Nat}
attribute [local irreducible] wpQuiet
def aQ.wY(x:aQ)(i:Nat):Bool:=
 x.nZ (x.fV.getD i default).virtual&& !((x.fV.take i).any fun g=>decide (g.virtual=(x.fV.getD i default).virtual))&&eu (x.fV.getD i default).names
  && !((x.fV.getD i default).names.any fun n=> !(decide (0<=x.find n)&&iC (x.pack (x.find n).toNat).provides (x.fV.getD i default).virtual))
theorem WT:∀args w,(callFunc 188 args).run Tryz.prog w= .ok (.enter 188 args) w:=enters_of Tryz.func188 zk rfl
theorem WU:∀args w,(callFunc 190 args).run Tryz.prog w= .ok (.enter 190 args) w:=enters_of Tryz.func190 zk rfl
theorem agS(gf:Nat)(s:Str)(h0:w.cell? ⟨gf,0,none⟩=some (.string s)):lF tV B 188 #[.pointer (some ⟨gf,0,none⟩)] (fun g=>decide (g.virtual=s)) w:=by
 intro W cs g hO hC;obtain⟨v1,rfl,-,-,hv⟩:=hC;obtain⟨a1,c1,rfl,-,-⟩:=hv.shape;obtain⟨n1,hn1⟩:=ze g.names.length;rw[hn1];have oA:O0 W (W.alloc (.cells #[.string g.virtual,.slice a1 n1 c1,.int .i64 g.line] 103)):=zr.alloc _;have q0:=eH h0 (hO.same oA) (fun f=>f);have hd:=fP g.virtual s;show Calls Tryz.prog _ _ W fun e w'=>e= .returned (.bool (decide (g.virtual=s)))/\O0 W w';clear h0 hO hv hn1;go_enter Tryz.func188,Tryz.ntmps188;by_cases hy:g.virtual=s;·rw[qX hy]at hd⊢;clear hy;exact zGQ
 rw[qP hy]at hd⊢;clear hy;exact zGQ
theorem agT{x:aQ}{a1 a2:Option Addr}{n1 c1 n2 c2 bx gf:Nat}{s:Str}(hx:fO B w [.slice a1 n1 c1,.slice a2 n2 c2] x)(hN:x.packs.length=n1)(hk:w.cell? ⟨bx,0,none⟩=some (.slice a1 n1 c1)/\w.cell? ⟨bx,1,none⟩=some (.slice a2 n2 c2)/\w.cell? ⟨gf,0,none⟩=some (.string s)):aau 190 #[.pointer (some ⟨bx,0,none⟩),.pointer (some ⟨gf,0,none⟩)] (fun n=> !(decide (0<=x.find n)&&iC (x.pack (x.find n).toNat).provides s)) w:=by
 intro W0 n hO hn;have HK:Hid (∀W,O0 W0 W->W.cell? ⟨bx,0,none⟩=some (.slice a1 n1 c1)/\W.cell? ⟨bx,1,none⟩=some (.slice a2 n2 c2)/\W.cell? ⟨gf,0,none⟩=some (.string s)):=fun W o=>
  ⟨eH hk.1 (hO.same o) (fun f=>f),eH hk.2.1 (hO.same o) (fun f=>f),eH hk.2.2 (hO.same o) (fun f=>f)⟩
 have HX:Hid (∀W,O0 W0 W->fO B W [.slice a1 n1 c1,.slice a2 n2 c2] x):=fun W o=>fO.keep hx (Kp.dV (hO.same o));have bK:Hid (∀W,O0 W0 W->aS 8 gY B W (.slice a1 n1 c1) x.packs):=fun W o=>by obtain⟨v1,v2,e,h1,h2⟩:=HX.out W o;cases e;exact h1
 have aB:=zh hN;obtain⟨f,hf⟩:=ze (x.find n);have Gw:=x.uM n;have HF:Hid (Calls Tryz.prog 182 #[.agg #[.slice a1 n1 c1,.slice a2 n2 c2],.string n] W0 fun e w'=>e= .returned (.int .i64 f)/\O0 W0 w'):=by rw[<-hf];exact rX (HX.out W0 zr) n
 obtain⟨r,hr⟩:∃r,(!(decide (0<=x.find n)&&iC (x.pack (x.find n).toNat).provides s))=r:=⟨_,rfl⟩;show Calls Tryz.prog _ _ W0 fun e w'=>e= .returned (.bool (!(decide (0<=x.find n)&&iC (x.pack (x.find n).toNat).provides s)))/\O0 W0 w';rw[hr];rw[hf]at hr Gw;rw[hN]at Gw;have aZ:Hid (r= !(decide (0<=f)&&iC (x.pack f.toNat).provides s)):=hr.symm;obtain⟨k0,k1,kf⟩:=HK.out W0 zr;clear hx hN hk hO hf hr;go_enter Tryz.func190,Tryz.ntmps190;go_wp2_with fail;refine HF.out.mono ?_;rintro e w1 ⟨rfl,O1⟩;have aI:=zh O1;clear O1 k0 k1 kf HF;obtain⟨k0,k1,kf⟩:=HK.out w1 aI.out;by_cases hf:f<0
 ·have hlt:decide (f<0)=true:=qX hf;have hr:r=true:=by rw[aZ.out,qP (Int.not_le.2 hf)];rfl
  subst hr;clear aZ;go_wp2_with fail;refine dn (n:=15) (E:=fun _=>false) (S:=fun W=>O0 W0 W) zk rfl (by exact(aI.out).drew) (fun hHeld=>?_);refine tW 0 ?_;refine tW 1 ?_;refine tW 2 ?_;refine tS 3 ?_;refine tS 4 ?_;refine tS 5 ?_;refine tS 6 ?_;refine tS 7 ?_;refine tS 8 ?_;refine tS 9 ?_;refine tS 10 ?_;refine tS 11 ?_;refine tS 12 ?_;exact zGG
 obtain⟨i,rfl⟩:∃i:Nat,f=i:=⟨f.toNat,by omega⟩;have ci:i<n1:=zAA;have hlt:decide ((i:Int)<0)=false:=qP zAA;obtain⟨yy,hxy⟩:=zG x.packs i zAt;obtain⟨AY,mF,og,jo,oh,sO,sQ,sS,xE,uT,xG,yc,uG,yg,EN,AZ,EO,CV,zA,CW,oq,kF,nP,rQ,qB,uU,uV,yh,Ef,je⟩:=jy (bK.out W0 zr) hxy;first|subst oq| (simp only[qG,qO,and_true]at oq;obtain⟨rfl,rfl⟩:=oq)
 have jq:=zh je;have xR:=zh hxy;clear je hxy kF nP rQ qB uU uV;have UJ:Hid (∀W,O0 W0 W->aS 1 bU B W (.slice xE uT xG) yy.provides):=fun W ho=>(jq.out W ho).2.2.2.1;have hpk:x.pack i=yy:=zA6;obtain⟨b,hb⟩:=ze (iC yy.provides s);have hr:r= !b:=by rw[aZ.out,qX (show(0:Int)<=(i:Int) by omega),yT,hpk,hb];simp
 subst hr;have vG:Hid (∀W,O0 W0 W->Calls Tryz.prog 191 #[.slice xE uT xG,.string s] W fun e w'=>e= .returned (.bool b)/\W=w'):=fun W hW=>by rw[<-hb];exact(oN (UJ.out W hW) s).mono fun _ _ ⟨he,hw⟩=>⟨he,hw.symm⟩
 clear aZ hpk hb;go_wp2_with fail;refine dn (n:=15) (E:=fun _=>false) (S:=fun W=>O0 W0 W) zk rfl (by exact(aI.out).drew) (fun hHeld=>?_);refine tW 0 ?_;refine tW 1 ?_;refine tW 2 ?_;refine tW 3 ?_;refine tK 4 ?_ (hy:=zA4);refine tW 5 ?_;refine tW 6 ?_;refine tW 7 ?_;refine tK 8 ?_ (hy:=zA4);refine tW 9 ?_;refine tK 10 ?_ (hy:=zA4);refine xY (i:=11) (v:=?_) (f:=191) (args:= #[.slice xE uT xG,.string s]) rfl zk zk zk rfl zk zk (fun _ _ _ h=>h) zCO (by rfl) ?_ ?_ ?_;rotate_left;·exact zDQ
 ·(intro w hSw;exact vG.out w hSw)
 try simp only[Act.put,fA,fD,fB,dW,dX,dY]
 refine tW 12 ?_;exact zGG
theorem abB{α:Type}{k:Nat}{C:Nat->World->List Value->α->Prop}{ao:Option Addr}{n cap:Nat}{l:List α}(h:aS k C B w (.slice ao n cap) l){i:Nat}(hi:i<=n):aS k C B w (.slice ao i cap) (l.take i):=by exact zDw
theorem QH{P:Program}{t e:TypeId}{i:TypeInfo}{s:Nat}(ht:P.underlying t=some (.slice e))(hi:P.info? e=some i)(hs:i.size=s)(ao:Option Addr)(m k cap:Nat)(hk:k<=cap)(W:World):(Instr.slice t (.slice ao m cap) none (some (.int .i64 (k:Int))) none).run P W= .ok (.slice ao k cap) W:=by exact zEM
theorem aeb:Gu Tryz.prog 23 103 3 48:=Gu.mk' (z:=.agg #[.string .empty,.slice none 0 0,.int .i64 0]) Tryz.underlying23 zk rfl zAH
theorem aec{lC:List Value}{x:aQ}(hx:fO B w lC x)(hlen:x.packs.length<=1000000){i:Nat}(hi:i<x.fV.length):Calls Tryz.prog 106 #[.agg lC.toArray,.int .i64 (i:Int)] w fun e w'=>e= .returned (.bool (x.wY i))/\O0 w w':=by
 obtain⟨aP,ak,aJ,aO,aG,aH,rfl,fF,fG,dP,dQ,aB,bJ,mY⟩:=open_rec hx;clear hx;try rw[aB.out]
 obtain⟨W0,hW0,aV,jK,aF⟩:=LW w (.slice aP ak aJ) (.slice aO aG aH) 25;obtain⟨eX,bK,bT⟩:=mY W0 aV.out;clear mY;rw[aB.out]at hlen;rw[bJ.out]at hi;obtain⟨yy,hxy⟩:=zG x.fV i zBW;obtain⟨AY,mF,og,jo,oh,oq,kF,yh,Ef,je⟩:=zl (bT.out W0 zr) hxy;first|subst oq| (simp only[qG,qO,and_true]at oq;obtain⟨rfl,rfl⟩:=oq)
 have jq:=zh je;have xR:=zh hxy;clear je hxy kF;have xH:Hid (∀W,O0 W0 W->aS 1 bU B W (.slice og jo oh) yy.names):=fun W ho=>(jq.out W ho).2.1;have hpf:x.fV.getD i default=yy:=by rw[qC,xR.out];rfl
 obtain⟨r,hr⟩:=ze (x.wY i);obtain⟨vb,hvb⟩:=ze (x.nZ yy.virtual);obtain⟨ah,hah⟩:∃r,((x.fV.take i).any fun g=>decide (g.virtual=yy.virtual))=r:=⟨_,rfl⟩;obtain⟨tw,htw⟩:=ze (eu yy.names);obtain⟨nb,hnb⟩:∃r,(yy.names.any fun n=> !(decide (0<=x.find n)&&iC (x.pack (x.find n).toNat).provides yy.virtual))=r:=⟨_,rfl⟩;have aZ:Hid (r=(vb&& !ah&&tw&& !nb)):=by show _=_;rw[<-hr];unfold aQ.wY;rw[hpf,hvb,hah,htw,hnb]
 rw[hr];have hs:=jK.out;obtain⟨V,hV⟩:=ze (W0.alloc (.cells #[.string ⟨#[]⟩,.slice none 0 0,.int .i64 0] 103));have H6:Hid (V.heap[w.heap.size+1]? =some (.cells #[.string ⟨#[]⟩,.slice none 0 0,.int .i64 0] 103)):=by rw[<-hV,<-jK.out];exact qL W0 _
 obtain⟨W1,hW1⟩:=ze (V.setRow (w.heap.size+1) #[.string yy.virtual,.slice og jo oh,.int .i64 yy.line]);have HB1:Hid (W1.heap[w.heap.size+1]? =some (.cells #[.string yy.virtual,.slice og jo oh,.int .i64 yy.line] 103 (0,0))):=by rw[<-hW1];exact setRow_heap _ _ _ _ _ _ H6.out
 have aI:Hid (O0 W0 W1):=by exact zHL
 have Lp:Hid (∀W,O0 W1 W->W.cell? ⟨w.heap.size+1,0,none⟩=some (.string yy.virtual)/\W.cell? ⟨w.heap.size+1,1,none⟩=some (.slice og jo oh)):=fun W ho=>by have b1:=aA HB1.out ho (fun f=>f);exact zGq
 have fJ:=zh (jq.out W0 zr).1;have hsl:∀W,(Instr.slice 23 (.slice (some ⟨AY,mF,none⟩) aG aH) none (some (.int .i64 (i:Int))) none).run Tryz.prog W= .ok (.slice (some ⟨AY,mF,none⟩) i aH) W:=fun W=>by obtain⟨ii,zz,t1,t2,t3,-,-⟩:=aeb.info;exact QH (P:=Tryz.prog) aeb.und t1 t3 (some ⟨AY,mF,none⟩) aG i aH zAA W
 have HAh:Hid (Calls Tryz.prog 187 #[.slice (some ⟨AY,mF,none⟩) i aH,.func (.func 188) #[] #[.pointer (some ⟨w.heap.size+1,0,none⟩)]] W1 fun e w'=>e= .returned (.bool ah)/\O0 W1 w'):=by
  have hrt:=abB (bT.out W1 aI.out) (i:=i) zAA;have hlt:(x.fV.take i).length=i:=by rw[List.length_take,bJ.out];omega
  exact J6 hrt WT (agS _ _ (Lp.out W1 zr).1) ah (by rw[Om];exact hah)
 have HVt:Hid (∀W,O0 W0 W->Calls Tryz.prog 156 #[.agg #[.slice aP ak aJ,.slice (some ⟨AY,mF,none⟩) aG aH],.string yy.virtual] W fun e w'=>e= .returned (.bool vb)/\O0 W w'):=fun W hW=>by rw[<-hvb];exact J8 (eX.out W hW) zAg _
 have HTw:Hid (∀W,O0 W0 W->Calls Tryz.prog 183 #[.slice og jo oh] W fun e w'=>e= .returned (.bool (!tw))/\O0 W w'):=fun W hW=>by rw[<-htw];exact MX (xH.out W hW)
 have HNb:Hid (∀W,O0 W1 W->Calls Tryz.prog 189 #[.slice og jo oh,.func (.func 190) #[] #[.pointer (some ⟨w.heap.size,0,none⟩),.pointer (some ⟨w.heap.size+1,0,none⟩)]] W fun e w'=>e= .returned (.bool nb)/\O0 W w'):=fun W hW=>by obtain⟨k0,k1⟩:=aF.out W (aI.out.same hW);exact EY (xH.out W (aI.out.same hW)) WU (agT (eX.out W (aI.out.same hW)) aB.out ⟨k0,k1,(Lp.out W hW).1⟩) nb hnb
 clear hr hvb hah htw hnb hpf;have VE:Hid (O0 W1 W1):=Only.refl _ _;have hW0':=hW0.symm;clear hW0;obtain⟨k0,k1⟩:=aF.out W1 (aI.out.same VE.out);obtain⟨p0,p1⟩:=Lp.out W1 VE.out;obtain⟨m0,m1⟩:=aF.out W0 zr;go_enter Tryz.func106,Tryz.ntmps106;go_wp2_with (first
  | (refine wpList_load_mid rfl 103 (.tmp 10) rfl AY (mF+i*3) rfl _ _ fJ.out Tryz.underlying103 rfl zk ?_)
  | (refine wpList_store_row rfl 103 (.tmp 5) (.tmp 11) rfl (w.heap.size+1) #[.string yy.virtual,.slice og jo oh,.int .i64 yy.line] rfl rfl 103 #[.string ⟨#[]⟩,.slice none 0 0,.int .i64 0] H6.out zk rfl zk ?_))
 clear m0 m1;refine(HAh.out).mono ?_;rintro e w1 ⟨rfl,O1⟩;have F7:=zh (VE.out.same O1);clear O1 k0 k1 p0 p1;obtain⟨k0,k1⟩:=aF.out w1 (aI.out.same F7.out);obtain⟨p0,p1⟩:=Lp.out w1 F7.out;go_wp2_with fail;refine(HVt.out w1 (aI.out.same F7.out)).mono ?_;rintro e w2 ⟨rfl,O1⟩;have HP2:=zh (F7.out.same O1);clear O1 k0 k1 p0 p1;obtain⟨k0,k1⟩:=aF.out w2 (aI.out.same HP2.out);obtain⟨p0,p1⟩:=Lp.out w2 HP2.out;cases vb with
 |false=>have hres:r=false:=zCF;subst hres;exact zF5
 |true=>
  cases ah with
  |false=>
   go_wp2_with fail;refine(HTw.out w2 (aI.out.same HP2.out)).mono ?_;rintro e w3 ⟨rfl,O1⟩;have kV:=zh (HP2.out.same O1);clear O1 k0 k1 p0 p1;obtain⟨k0,k1⟩:=aF.out w3 (aI.out.same kV.out);obtain⟨p0,p1⟩:=Lp.out w3 kV.out;cases tw with
   |false=>have hres:r=false:=zCF;subst hres;exact zF8
   |true=>go_wp2_with fail;refine(HNb.out w3 kV.out).mono ?_;rintro e w4 ⟨rfl,O1⟩;have rF:=zh (kV.out.same O1);clear O1 k0 k1 p0 p1;obtain⟨k0,k1⟩:=aF.out w4 (aI.out.same rF.out);obtain⟨p0,p1⟩:=Lp.out w4 rF.out;have hres:r= !nb:=zCF;subst hres;go_wp2_with fail;go_ret;exact⟨rfl,aV.out.same (aI.out.same rF.out)⟩
  |true=>have hres:r=false:=zCF;subst hres;exact zF5
end
end Go.Proofs.YtdmmebjjojimiaaGreatDoor
