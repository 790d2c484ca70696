/- The rules, by the document. Printed by gen_rfd.py.; Ch9 Ch10 Ch11 Ch12 Ch13, in one text. -/
import Derived.Test.YtdmmebjjojimiaaGreatDoorG19
import Derived.Test.YtdmmebjjojimiaaGreatDoorG14
set_option maxRecDepth 100000
set_option maxHeartbeats 8000000
set_option linter.all false
namespace Go.Proofs
theorem zAO{p:Prop}(h:p:=by(intro w hSw;obtain⟨k0,k1,k2⟩:=aG.out w (jg.out w hSw);have hcI:=RN.out w hSw;have dM:=(je.out w (jg.out w hSw)).1;have ER:=dM 0 _ rfl;have Pz:=dM 1 _ rfl;have gy2:=dM 2 _ rfl;have gy3:=dM 3 _ rfl;have gy4:=dM 4 _ rfl;have Ag:=dM 5 _ rfl;have WH:=dM 6 _ rfl;have gy7:=dM 7 _ rfl;rw[qF]at ER;go_simp<;>(try with_reducible rfl))):p:=h
theorem zAb{p:Prop}(h:p:=by(intro w hSw;obtain⟨k0,k1,k2⟩:=aG.out w (jg.out w hSw);obtain⟨d5,d6⟩:=HBp.out w hSw;have hcI:=RN.out w hSw;have hrz:=(nV.out w (jg.out w hSw)).1;have gz6:=hrz 6 _ rfl;clear hrz;go_simp<;>(try with_reducible rfl))):p:=h
theorem zAc{p:Prop}(h:p:=by(intro w hSw;obtain⟨k0,k1,k2⟩:=aG.out w (jg.out w hSw);obtain⟨d5,d6⟩:=HBp.out w hSw;have hcI:=RN.out w hSw;have mM:=(FK.out w (jg.out w hSw)).1;have gu6:=mM 6 _ rfl;clear mM;go_simp<;>(try with_reducible rfl))):p:=h
theorem zAy{p:Prop}(h:p:=by unfold aH.pack;rw[qC,Af.out];exact rfl):p:=h
theorem zBD{p:Prop}(h:p:=by rw[Gs.out];omega):p:=h
theorem zDO{p:Prop}(h:p:=by
 clear hHeld r5 o5 Xc
 go_wp2_with fail
 go_roundw
 case rel=>exact⟨HPn,k+1,by first|rfl|go_num,by omega,HVn⟩
 case measure=>simp[RowKit.intOf]<;>omega):p:=h
theorem zEH{p:Prop}(h:p:=by
 rw[DN.out]
 refine zV.app HV.out (fun k hk=>HF2.out k ?_) r5 Xc
 have:=sS.out.size
 simp at hk
 omega):p:=h
theorem zEp{p:Prop}(h:p:=by(try dsimp only)<;>(exact hHeld.trans o5 (fun k hk=>.inl (HV.out.2 k hk)))):p:=h
end Go.Proofs
namespace Go.Proofs.YtdmmebjjojimiaaGreatDoor
open Go.RowKit
section
variable {w w':World} {B:Nat}
def zV(F:Nat->Prop)(w:World)(v:Value)(l:List dH):Prop:=w.ownsRow 0 158 4 v l.length (sH l)/\∀k,v.ownBlock=some k->F k
theorem zV.app{F:Nat->Prop}{w w1 w2:World}{v v':Value}{l:List dH}{r:dH}(h:zV F w v l)(hF:∀k,w1.heap.size<=k->F k)(s1:w2.ownsRow 0 158 4 v' (l.length+1) (sH l++r.cells))(s3:Wq w1 v v'):zV F w2 v' (l++[r]):=by
 refine⟨?_,fun k hk=>?_⟩
 ·rw[P6,qK];have:sH [r]=r.cells:=by simp[sH]
  rw[this];exact s1
 rcases s3 k hk with hg|hg;·exact h.2 _ hg
 exact hF k hg
theorem zV.mono{F G:Nat->Prop}{w:World}{v:Value}{l:List dH}(h:zV F w v l)(hF:∀k,F k->G k):zV G w v l:=⟨h.1,fun k hk=>hF k (h.2 k hk)⟩
theorem zV.aN{F:Nat->Prop}{v:Value}{l:List dH}(h:zV F w v l)(ho:O0 w w'):zV F w' v l:=⟨aI h.1 ho (fun _ _ f=>f),h.2⟩
theorem yB{tZ:List Value}{x:aH}(hx:jl B w tZ x){Iy:List Value}{q:fV}(hq:mV B w Iy q)(ok:ZO x q (x.closure q.names)):Calls Tryz.prog 25 #[.agg tZ.toArray,.agg Iy.toArray] w fun e w'=> ∃v,e= .returned v/\jk w w' v (dV x q (x.closure q.names))/\O0 w w':=by
 obtain⟨l,hl⟩:=ze (x.closure q.names);rw[hl]at ok⊢;have HL:=zh hl;clear hl;have mX:=zh ok;have hlen:x.packs.length<=1000000:=by have:=ok.packs;omega
 obtain⟨bQ,aj,aT,bg,aP,aU,rfl,jm,jo,iO,iP,aB,fO,uK⟩:=open_rec hx;clear hx;try rw[aB.out]
 obtain⟨dJ,bF,dL,rfl,qy,qB,fC,JE⟩:=rH hq;clear hq;try rw[fC.out]
 obtain⟨W0,hW0,bW,nR,aG⟩:=Aj w (.slice bQ aj aT) (.slice bg aP aU) (.slice dJ bF dL) 25 28;obtain⟨kC,dP,eP⟩:=uK W0 bW.out;clear uK;obtain⟨zQ,jA⟩:=JE W0 bW.out;clear JE;rw[aB.out]at hlen;have hbr:bF<=1000:=by rw[<-fC.out];exact ok.roots
 have hbx:aj<=1000:=by rw[<-aB.out];exact ok.packs
 clear ok;have kK:Hid (O0 W0 (W0.alloc (.cells #[] 158))):=zr.alloc _;have HVC:Hid (jk W0 (W0.alloc (.cells #[] 158)) (.slice (some ⟨w.heap.size+1+1,0,none⟩) 0 0) (eU q 0)):=by have h:=World.ownsRow_lit (base:=0) (e:=158) (size:=4) W0 #[] 0 (qE _) zAe zAM;rw[nR.out]at h;refine⟨h,fun k hk=>?_⟩;simp[Value.ownBlock]at hk;have:=nR.out;omega
 go_enter Tryz.func25,Tryz.ntmps25;go_wp2_with fail;rw[<-hW0];clear hW0;go_loopw [5,16] (fun vo vi dG=>Hid (O0 W0 dG)/\∃i:Nat,vi= .int .i64 i/\i<=bF/\Hid (jk W0 dG vo (eU q i))) (fun _ v _=>bF-(RowKit.intOf v).toNat);case atStart=>exact⟨kK,0,rfl,qE _,HVC⟩
 case round=>
  obtain⟨dG,rfl⟩:=zB wr;clear kK HVC;obtain⟨gV,i,rfl,hi,HV⟩:=hrel;obtain⟨k0,k1,k2⟩:=aG.out dG gV.out;by_cases ci:i<bF
  ·have jh:=zw (i+1);obtain⟨yr,hxr⟩:=zG q.roots i zBM;obtain⟨bkr,MP,ar1,nr1,cr1,ar2,nr2,cr2,her,XA,XB,XC,ahX,Hg⟩:=wK (jA.out W0 zr) hxr;first|subst her| (simp only[qG,qO,and_true]at her;obtain⟨rfl,rfl⟩:=her)
   have Qh:=zh Hg;have HXr:=zh hxr;clear Hg hxr XA XB;have hrr:=(Qh.out dG gV.out).1;have gr3:=hrr 3 _ rfl;clear hrr;have DN:Hid (eU q (i+1)=eU q i++[⟨1,-1,i,yr.line⟩]):=by rw[JC,qC,HXr.out];exact rfl
   have hlenL:(eU q i).length<=1000:=by unfold eU;simp;omega
   obtain⟨L,hL⟩:=ze (eU q i);rw[hL]at HV hlenL DN;obtain⟨au,cu,rfl,-,-⟩:=aC HV.out.1;clear hL;go_wp2_with (at_builtin;go_must (refine ZN (cs:=dH.cells ⟨1,-1,i,yr.line⟩) FC rfl (.tmp 19) (.tmp 28) rfl rfl rfl rfl (lQ (cs:=dH.cells ⟨1,-1,i,yr.line⟩) zBz) (dH.one _) (aI HV.out.1 ((Only.refl (fun _=>False) _).alloc _) (fun _ _ f=>f)) zBk zBl ?_));intro v' w2 s1 s2 s3;have Ae:Hid (jk W0 w2 v' (eU q (i+1))):=by rw[DN.out];exact jk.app HV.out (by have:=gV.out.size;simp;omega) s1 s3
   have fK:=zh ((gV.out.alloc _).trans s2 fun k hk=>.inr (HV.out.2 k hk));exact zDC
  obtain rfl:bF=i:=by omega
  clear hi ci;have Qi:=zh (zq (kC.out dG gV.out) (zQ.out dG gV.out) zAg);have HVr:=HV;have ac5:Hid (∀k,u5.ownBlock=some k->k<dG.heap.size):=fun k hk=>dX HVr.out.1 hk;go_wp2_with fail;refine Qi.out.mono ?_;rintro e W1 ⟨vl,rfl,hvl,hvf,O2⟩;rw[HL.out]at hvl;obtain⟨nl,hnl⟩:=ze l.length;have NL:=zh hnl;have hbl:nl<=1000:=by rw[<-hnl];exact mX.out.len
  have ac6:=zh (gV.out.same O2);have hI1:Ints W1 vl (intsOf l):=oq hvl fun i hi=>by have:=mX.out.lt i hi;have:=mX.out.packs;omega
  obtain⟨F1,hF1⟩:∃F1:Nat->Prop,F1=fun k=>W0.heap.size<=k/\vl.ownBlock≠some k:=⟨_,rfl⟩;have alk:Hid (∀k,F1 k->W0.heap.size<=k):=fun k hk=>by rw[hF1]at hk;exact hk.1
  have ZG:Hid (∀k,W1.heap.size<=k->F1 k):=fun k hk=>by rw[hF1];refine⟨by have:=ac6.out.size;omega,fun e=>?_⟩;have:=dX hvl e;omega
  have U6:Hid (∀W,Only F1 W1 W->Ints W vl (intsOf l)):=fun W hW=>hI1.only hW (fun b hb hf=>by
   rw[hF1]at hf
   refine hf.2 ?_
   obtain⟨ao,cp,rfl,-,-⟩:=aC hvl
   cases ao with
   |none=>cases hb
   |some ad=>exact hb)
  have BJ:Hid (zV F1 W1 u5 (eU q bF++(l.take 0).flatMap (jr x))):=by have e:eU q bF++(l.take 0).flatMap (jr x)=eU q bF:=zAM;rw[e];refine⟨aI HVr.out.1 O2 (fun _ _ f=>f),fun k hk=>?_⟩;rw[hF1];refine⟨HVr.out.2 k hk,fun e=>?_⟩;have h1:=hvf k e;have h2:=ac5.out k hk;omega
  obtain⟨avl,cvl,rfl,-,-⟩:=aC hvl;rw[hnl]at U6⊢;have jg:Hid (∀W,Only F1 W1 W->O0 W0 W):=fun W hW=>ac6.out.trans hW (fun k hk=>.inr (alk.out k hk));have kK:Hid (Only F1 W1 W1):=Only.refl _ _;obtain⟨au,cu,hu5,-,-⟩:=aC HVr.out.1;subst hu5;clear hnl hvl hvf hI1 O2 hF1 Qi HV HVr ac5 k0 k1 k2;obtain⟨k0,k1,k2⟩:=aG.out W1 ac6.out;go_wp2_with fail;clear k0 k1 k2;go_loopw [5,36] (fun vo vi dG=>Hid (Only F1 W1 dG)/\∃i:Nat,vi= .int .i64 i/\i<=nl/\Hid (zV F1 dG vo (eU q bF++(l.take i).flatMap (jr x)))) (fun _ v _=>nl-(RowKit.intOf v).toNat);case atStart=>exact⟨kK,0,rfl,qE _,BJ⟩
  case round=>
   obtain⟨dG,rfl⟩:=zB wr;clear kK BJ;obtain⟨gV,i,rfl,hi,HV⟩:=hrel;obtain⟨k0,k1,k2⟩:=aG.out dG (jg.out dG gV.out);by_cases ci:i<nl
   ·have jh:=zw (i+1);obtain⟨p,hp⟩:=zG l i (by rw[NL.out];exact ci);have hpn:p<aj:=by have:=mX.out.lt p (qT hp);rw[aB.out]at this;exact this
    obtain⟨bI,aeW,eI,hcell⟩:=(U6.out dG gV.out).ab8 hp;subst eI;have RN:Hid (∀W,Only F1 W1 W->W.cell? ⟨bI,aeW+i,none⟩=some (.int .i64 (p:Int))):=fun W hW=>by obtain⟨b2,o2,e2,h2⟩:=(U6.out W hW).ab8 hp;cases e2;exact h2
    have HPp:=zh hp;clear hp hcell;obtain⟨yy,hxy⟩:=zG x.packs p zAk;obtain⟨xO,lq,sW,mG,sZ,vI,mJ,vJ,Cj,BK,Cm,y7,oK,y8,DY,zK,DZ,EW,Eu,EX,mW,kM,l9,oQ,mY,oU,rZ,xP,BF,jw⟩:=jR (dP.out W0 zr) hxy;first|subst mW| (simp only[qG,qO,and_true]at mW;obtain⟨rfl,rfl⟩:=mW)
    have Gs:=zh mY;have Ny5:=zh oU;have je:=zh jw;have Af:=zh hxy;clear jw hxy kM l9 oQ mY oU rZ;have BG:Hid (∀W,O0 W0 W->aQ 7 nC B W (.slice y7 oK y8) yy.deps):=fun W ho=>(je.out W ho).2.2.2.2.1;have aci:Hid (∀W,O0 W0 W->aQ 7 sU B W (.slice DY zK DZ) yy.cons):=fun W ho=>(je.out W ho).2.2.2.2.2.1;have HPg:Hid (x.pack p=yy):=zAy;have hmem:yy∈x.packs:=qT Af.out;have hdl:oK<=1000:=by rw[<-Gs.out];exact mX.out.deps yy hmem
    have hcl:zK<=1000:=by rw[<-Ny5.out];exact mX.out.cons yy hmem
    have uh:Hid (eU q bF++(l.take (i+1)).flatMap (jr x)=(eU q bF++(l.take i).flatMap (jr x))++jL x p oK++lN x p zK):=by
     rw[LP HPp.out,List.flatMap_append];have:List.flatMap (jr x) [p]=jL x p oK++lN x p zK:=by simp[jr,HPg.out,Gs.out,Ny5.out]
     rw[this];simp[yW,Hid]
    have hlen0:(eU q bF++(l.take i).flatMap (jr x)).length<=3000000:=by
     have h1:=AO (x:=x) (l:=l.take i) fun p hp=>by exact zDH
     have h2:(l.take i).length<=1000:=zAx;have h3:(eU q bF).length=bF:=by unfold eU;simp
     rw[qK,h3];have:=Nat.mul_le_mul_right 2000 h2;omega
    obtain⟨L0,hL0⟩:=ze (eU q bF++(l.take i).flatMap (jr x));rw[hL0]at HV uh hlen0;obtain⟨au,cu,rfl,-,-⟩:=aC HV.out.1;clear hL0 hmem;go_wp2_with fail;clear k0 k1 k2;refine bH (n:=10) (E:=fun k=>k=9) (S:=fun W=>Only F1 W1 W) zk rfl (by exact gV.out.drew) (fun hHeld=>?_);refine tW 0 ?_;refine tK 1 ?_ (hy:=zAO);refine tW 2 ?_;refine tW 3 ?_;refine tW 4 ?_;refine tK 5 ?_ (hy:=zAO);refine tW 6 ?_;refine tK 7 ?_ (hy:=zAO);refine tO 8 fun K hK=>?_;go_simp;refine hK.out _ _ ?_ (fun hHeld=>?_);·exact zDf
    clear hK K;try simp only[Act.put,gJ,gK,gu,gy,gG]
    refine fP (rs:=[9]) zk zAM ?_;refine dA.late (i:=9) rfl zk (fun K hK=>?_) ?_
    ·(rw[if_pos zk];refine zi 101 (.tmp 9) (.tmp 46) rfl _ #[.string yy.name,.int .i64 yy.line,.slice sW mG sZ,.slice vI mJ vJ,.slice Cj BK Cm,.slice y7 oK y8,.slice DY zK DZ,.slice EW Eu EX] rfl rfl 101 #[.string .empty,.int .i64 0,bP,bP,bP,bP,bP,bP] (by exact qL dG _) zk rfl zk ?_;intro W3 hg3 ho3);refine hK.out _ _ ?_;clear hK K;try simp only[Act.put,gJ,gU,gK,gu,gy,gG]
     refine aZ zk ?_ _;generalize hgg:dG.heap.size=g at*;obtain⟨F2,hF2⟩:∃F2:Nat->Prop,F2=fun k=>F1 k/\k≠g:=⟨_,rfl⟩;have afl:Hid (∀k,F2 k->F1 k):=fun k hk=>by rw[hF2]at hk;exact hk.1
     have HF2:Hid (∀k,W3.heap.size<=k->F2 k):=fun k hk=>by have h1:=gV.out.size;have h2:=(yA.1 hg3).1;rw[hF2];exact⟨ZG.out k zBk,by omega⟩
     have ahY:Hid (Only F1 W1 W3):=hHeld.trans ho3 (fun k hk=>.inl (by rw[hk];exact ZG.out g (by have:=gV.out.size;omega)));have gI:Hid (∀W,Only F2 W3 W->O0 W0 W):=fun W hW=>jg.out W (ahY.out.trans hW (fun k hk=>.inl (afl.out k hk)));have HBp:Hid (∀V,Only F2 W3 V->V.cell? ⟨g,5,none⟩=some (.slice y7 oK y8)/\V.cell? ⟨g,6,none⟩=some (.slice DY zK DZ)):=fun V ho=>by have b1:=aF hg3 ho (by rw[hF2];exact fun h=>h.2 rfl);exact zC4
     have alp:Hid (∀W,Only F2 W3 W->W.cell? ⟨bI,aeW+i,none⟩=some (.int .i64 (p:Int))):=fun W hW=>RN.out W (ahY.out.trans hW (fun k hk=>.inl (afl.out k hk)));have hlt0:∀k,(Value.slice au L0.length cu).ownBlock=some k->k<g:=fun k hk=>by rw[<-hgg];exact dX HV.out.1 hk
     have hV3:W3.ownsRow 0 158 4 (.slice au L0.length cu) L0.length (sH L0):=by have h1:=aI HV.out.1 ((Only.refl (fun _=>False) dG).alloc (.cells #[.string .empty,.int .i64 0,bP,bP,bP,bP,bP,bP] 101)) (fun _ _ f=>f);have h2:=aI h1 (Only.refl (fun _=>False) _).drew (fun _ _ f=>f);exact aI h2 ho3 (fun k hk e=>by have:=hlt0 k hk;omega)
     have HVC:Hid (zV F2 W3 (.slice au L0.length cu) (L0++jL x p 0)):=by
      have e:L0++jL x p 0=L0:=by simp[jL]
      rw[e];refine⟨hV3,fun k hk=>?_⟩;rw[hF2];exact⟨HV.out.2 k hk,by have:=hlt0 k hk;omega⟩
     have HPC:Hid (Only F2 W3 W3):=Only.refl _ _;clear hg3 ho3 hHeld hF2 hV3 hlt0 HV RN jg;have jg:=gI;have RN:=alp;clear gI alp;obtain⟨d5,d6⟩:=HBp.out W3 zr;go_wp2_with fail;clear d5 d6;go_loopw [5,50] (fun vo vk jJ=>Hid (Only F2 W3 jJ)/\∃k:Nat,vk= .int .i64 k/\k<=oK/\Hid (zV F2 jJ vo (L0++jL x p k))) (fun _ v _=>oK-(RowKit.intOf v).toNat);case atStart=>exact⟨HPC,0,rfl,qE _,HVC⟩
     case round=>
      obtain⟨jJ,rfl⟩:=zB wr;clear HPC HVC;obtain⟨sS,k,rfl,hk,HV⟩:=hrel;by_cases ck:k<oK
      ·have jh:=zw (k+1);obtain⟨yz,hxz⟩:=zG yy.deps k zBD;obtain⟨NR,xQ,II,Et,Gj,VZ,V3,V4,PE,PG,PK,Og,J4,Oh,pV,rP,EZ,Fa,D5,BR,Oe,QM,kU⟩:=xY (BG.out W0 zr) hxz;first|subst pV| (simp only[qG,qO,and_true]at pV;obtain⟨rfl,rfl⟩:=pV)
       have nV:=zh kU;have Ku:=zh hxz;clear kU hxz rP EZ Fa D5;have DN:Hid (L0++jL x p (k+1)=L0++jL x p k++[⟨2,p,k,yz.line⟩]):=by rw[LK,HPg.out,qC,Ku.out,<-yW];exact rfl
       have hlenL:(L0++jL x p k).length<=3100000:=zBI;obtain⟨L,hL⟩:=ze (L0++jL x p k);rw[hL]at HV hlenL DN;obtain⟨au,cu,rfl,-,-⟩:=aC HV.out.1;clear hL;go_wp2_with fail;refine bH (n:=16) (E:=fun _=>false) (S:=fun W=>Only F2 W3 W) zk rfl (by exact sS.out.drew) (fun hHeld=>?_);refine tW 0 ?_;refine tW 1 ?_;refine tW 2 ?_;refine tW 3 ?_;refine tK 4 ?_ (hy:=zAb);refine tW 5 ?_;refine tW 6 ?_;refine tK 7 ?_ (hy:=zAb);refine tW 8 ?_;refine tW 9 ?_;refine tW 10 ?_;refine tK 11 ?_ (hy:=zAb);refine tW 12 ?_;refine tO 13 fun K hK=>?_;go_simp;refine hK.out _ _ ?_ (fun hHeld=>?_);·exact zDf
       clear hK K;try simp only[Act.put,gJ,gU,gK,gu,gy,gG]
       refine tO 14 fun K hK=>?_;(refine EP (news:=dH.cells ⟨2,p,k,yz.line⟩) FC (by rfl) (.tmp 53) (.tmp 66) (by rfl) (by rfl) (aI HV.out.1 zBj (fun _ _ f=>f)) (by rfl) (by rfl) (fun h=>by cases h) (fun ad e j u hu=>by cases e;rw[Go.WideShapes.add_plain];exact lQ (cs:=dH.cells ⟨2,p,k,yz.line⟩) rfl j u hu) (dH.one _) zAC (by decide) ?_;intro Xb cap5 w5 r5 o5 Xc);refine hK.out _ _ ?_ (fun hHeld=>?_);·exact zEp
       clear hK K;try simp only[Act.put,gJ,gU,gK,gu,gy,gG]
       refine tW 15 ?_;refine aZ zk ?_ _;have HPn:=zh hHeld;have HVn:Hid (zV F2 w5 (.slice Xb (L.length+1) cap5) (L0++jL x p (k+1))):=by exact zEH
       exact zDO
      obtain rfl:oK=k:=by omega
      have hlen1:(L0++jL x p oK).length<=3010000:=zBI;obtain⟨L1,hL1⟩:=ze (L0++jL x p oK);rw[hL1]at HV uh hlen1;have HVC:Hid (zV F2 jJ u5 (L1++lN x p 0)):=by simpa[lN,Hid]using HV.out
      have HPC:=sS;obtain⟨au,cu,hu5,-,-⟩:=aC HV.out.1;subst hu5;clear hL1 HV;obtain⟨d5,d6⟩:=HBp.out jJ HPC.out;go_wp2_with fail;clear d5 d6;go_loopw [5,72] (fun vo vk jJ=>Hid (Only F2 W3 jJ)/\∃k:Nat,vk= .int .i64 k/\k<=zK/\Hid (zV F2 jJ vo (L1++lN x p k))) (fun _ v _=>zK-(RowKit.intOf v).toNat);case atStart=>exact⟨HPC,0,rfl,qE _,HVC⟩
      case round=>
       obtain⟨jJ,rfl⟩:=zB wr;clear HPC HVC;obtain⟨sS,k,rfl,hk,HV⟩:=hrel;by_cases ck:k<zK
       ·have jh:=zw (k+1);obtain⟨yu,hxu⟩:=zG yy.cons k (by rw[Ny5.out];omega);obtain⟨Wh,Ea,au1,nu1,cu1,au2,nu2,cu2,au3,nu3,cu3,au4,nu4,cu4,heu,acY,acZ,ac0,ac2,ac3,ahV,alh,Hf⟩:=QI (aci.out W0 zr) hxu;first|subst heu| (simp only[qG,qO,and_true]at heu;obtain⟨rfl,rfl⟩:=heu)
        have FK:=zh Hf;have HXu:=zh hxu;clear Hf hxu acY acZ ac0 ac2;have DN:Hid (L1++lN x p (k+1)=L1++lN x p k++[⟨3,p,k,yu.line⟩]):=by rw[LM,HPg.out,qC,HXu.out,<-yW];exact rfl
        have hlenL:(L1++lN x p k).length<=3100000:=by rw[qK];unfold lN;simp;omega
        obtain⟨L,hL⟩:=ze (L1++lN x p k);rw[hL]at HV hlenL DN;obtain⟨au,cu,rfl,-,-⟩:=aC HV.out.1;clear hL;go_wp2_with fail;refine bH (n:=16) (E:=fun _=>false) (S:=fun W=>Only F2 W3 W) zk rfl (by exact sS.out.drew) (fun hHeld=>?_);refine tW 0 ?_;refine tW 1 ?_;refine tW 2 ?_;refine tW 3 ?_;refine tK 4 ?_ (hy:=zAc);refine tW 5 ?_;refine tW 6 ?_;refine tK 7 ?_ (hy:=zAc);refine tW 8 ?_;refine tW 9 ?_;refine tW 10 ?_;refine tK 11 ?_ (hy:=zAc);refine tW 12 ?_;refine tO 13 fun K hK=>?_;go_simp;refine hK.out _ _ ?_ (fun hHeld=>?_);·exact zDf
        clear hK K;try simp only[Act.put,gJ,gU,gK,gu,gy,gG]
        refine tO 14 fun K hK=>?_;(refine EP (news:=dH.cells ⟨3,p,k,yu.line⟩) FC (by rfl) (.tmp 75) (.tmp 88) (by rfl) (by rfl) (aI HV.out.1 zBj (fun _ _ f=>f)) (by rfl) (by rfl) (fun h=>by cases h) (fun ad e j u hu=>by cases e;rw[Go.WideShapes.add_plain];exact lQ (cs:=dH.cells ⟨3,p,k,yu.line⟩) rfl j u hu) (dH.one _) zAC (by decide) ?_;intro Xb cap5 w5 r5 o5 Xc);refine hK.out _ _ ?_ (fun hHeld=>?_);·exact zEp
        clear hK K;try simp only[Act.put,gJ,gU,gK,gu,gy,gG]
        refine tW 15 ?_;refine aZ zk ?_ _;have HPn:=zh hHeld;have HVn:Hid (zV F2 w5 (.slice Xb (L.length+1) cap5) (L1++lN x p (k+1))):=by exact zEH
        exact zDO
       obtain rfl:zK=k:=by omega
       have HVi:Hid (zV F1 jJ u5 (eU q bF++(l.take (i+1)).flatMap (jr x))):=by rw[uh.out];exact HV.out.mono fun k hk=>(afl.out k hk)
       have apQ:Hid (Only F1 W1 jJ):=ahY.out.trans sS.out (fun k hk=>.inl (afl.out k hk));go_wp2_with fail;go_roundw;case rel=>exact⟨apQ,i+1,by first|rfl|go_num,by omega,HVi⟩
       case measure=>simp[RowKit.intOf]<;>omega
    exact dA.nil
   obtain rfl:nl=i:=by omega
   obtain⟨au,cu,hu5,-,-⟩:=aC HV.out.1;subst hu5;go_wp2_with fail;go_ret;refine⟨_,rfl,?_,bW.out.same (jg.out dG gV.out)⟩;have h1:=HV.out;rw[qI (yG NL.out)]at h1;have e1:dV x q l=eU q bF++l.flatMap (jr x):=by unfold dV;rw[fC.out]
   rw[qI (yG NL.out),e1];exact⟨h1.1,fun k hk=>by have:=alk.out k (h1.2 k hk);have:=bW.out.size;omega⟩
end
end Go.Proofs.YtdmmebjjojimiaaGreatDoor
namespace Go.Proofs
theorem zAu{p:Prop}(h:p:=by simp[Value.ownBlock]at hk;omega):p:=h
end Go.Proofs
namespace Go.Proofs.YtdmmebjjojimiaaGreatDoor
open Go.RowKit
section
variable {w w':World} {B:Nat}
theorem MQ{b:Nat}{xs:List Int}(h:w.heap[b]? =some (.cells (xs.map cI).toArray 3))(hx:xs.all (fun x=>decide (-1000<=x/\x<=1000))=true/\xs.length<=1000):Ints w (.slice (some ⟨b,0,none⟩) xs.length xs.length) xs:=by
 refine Ints.fH ⟨by simp,.inr ⟨b,xs.length,_,rfl,qE _,h,qH _,by unfold maxLen;omega,by simp,?_⟩⟩ fun z hz=>?_;·rw[yH];simp[qI]
 have:=of_decide_eq_true (List.all_eq_true.1 hx.1 z hz);exact zCw
end
theorem U7:∀(L:List dH) (F:Nat->List Value),(∀i (hi:i<L.length),F i=L[i].cells)->(List.range L.length).flatMap F=sH L
 | [],_,_=>rfl
 |a::r,F,h=>by
  rw[qN,List.range_succ_eq_map,List.flatMap_cons,List.flatMap_map]
  have h0:=h 0 zAM
  have hr:=U7 r (fun i=>F (i+1)) fun i hi=>by
   have:=h (i+1) zBE
   simpa using this
  rw[hr,h0]
  rfl
section
variable {w w':World} {B:Nat}
theorem XD{v:Value}{L:List dH}(h:aQ 4 uP B w v L)(hn:L.length<=1000000):Calls Tryz.prog 176 #[v] w fun e w'=> ∃v',e= .returned v'/\jk w w' v' L/\O0 w w':=by
 obtain⟨ao,cap,rfl,g1,g2⟩:=h.shape;cases ao with
 |none=>obtain⟨hz,rfl⟩:=h.nil _ _ rfl;obtain rfl:L=[]:=yF hz;clear h;have eqn:=fun(W:World)=>Go.Lib.run_eql_slice_nil (P:=Tryz.prog) W 62 158 none 0 0 0 0 Tryz.underlying62;go_enter Tryz.func176,Tryz.ntmps176;go_wp2_with fail;go_ret;exact⟨_,rfl,jk.nil _ _,Only.refl _ _⟩
 |some ad=>
  obtain⟨F,hF,hl,hc⟩:=h.flat zAG;have hfl:=U7 L F fun i hi=>(hF i hi).2.1;rw[hfl]at hl hc;obtain⟨n,hnn⟩:=ze L.length;have HN:=zh hnn;rw[hnn]at hn hl g1⊢;have HL:=zh hl;have HNo:=zh (show∀u∈sH L,u.oneCell'=true from fun u hu=>by
   unfold sH at hu
   obtain⟨x,-,hx⟩:=List.mem_flatMap.1 hu
   exact x.one u hx)
  have HC:Hid (∀W,O0 w W->∀j u,(sH L)[j]? =some u->W.cell? (ad.add j)=some u):=fun W ho j u hj=>by have h1:=hc ad rfl j u hj;have hb:=World.block_lt_of_cell? _ _ h1;rw[World.cell?_of_block (w:=w) (ho.block _ hb (fun f=>f))];exact h1
  clear h hnn hF hl hc hfl;have eqn:=fun(W:World)=>Go.Lib.run_eql_slice_nil (P:=Tryz.prog) W 62 158 (some ad) n cap 0 0 Tryz.underlying62;go_enter Tryz.func176,Tryz.ntmps176;go_wp2_with (at_builtin;go_must (refine wpA FC rfl (.tmp 5) (.tmp 6) rfl (n:=0) (xs:=[]) rfl (show World.ownsRow _ 0 158 4 (.slice (some ⟨w.heap.size,0,none⟩) 0 0) 0 [] from⟨rfl,.inr ⟨w.heap.size,0,#[],rfl,qE _,qL _ _,qH _,by decide,rfl,rfl⟩⟩) (ad:=ad) (m:=n) (c:=cap) (news:=sH L) rfl HL.out (HC.out _ (zr.alloc _)) HNo.out zAe zBk ?_));intro v' w1 r1 r2 r3 r4;have hres:jk w w1 v' L/\O0 w w1:=by
   refine⟨⟨?_,fun k hk=>?_⟩,?_⟩;·rw[HN.out];simpa using r1
   ·rcases r3 k hk with h|h;·simp[Value.ownBlock]at h;omega
    omega
   exact((Only.refl (fun _=>False) w).alloc _).grown r2 fun k hk=>.inr zAu
  have jd:=zh hres;obtain⟨ao,cap',rfl,-,-⟩:=aC r1;clear r1 r2 r3 r4 hres;go_wp2_with fail;go_ret;exact⟨_,rfl,jd.out⟩
end
section
variable {w:World} {gt gb:Tag} {c bt bb:Nat} {G:NU} {T:Tab} {B:lu} {Bs:Nat}
theorem ac8(H:nD w gt gb c bt bb G T B){l:List dH}(hl:aQ 4 uP Bs w G.r l)(hn:l.length<=1000000):Calls Tryz.prog 99 #[.pointer (some ⟨c,0,none⟩)] w fun e w'=> ∃v',e= .returned v'/\jk w w' v' l/\O0 w w':=by have q1:w.cell? ⟨c,4,none⟩=some G.r:=zAz;have hC:=zh (XD hl hn);obtain⟨ao,cap,e,-,-⟩:=hl.shape;rw[e]at q1 hC;clear hl;go_enter Tryz.func99,Tryz.ntmps99;go_wp2_with fail;refine hC.out.mono ?_;rintro e w1 ⟨v,rfl,r1,r2⟩;have HR:=zh (And.intro r1 r2);obtain⟨av,cv,rfl,-,-⟩:=aC r1.1;clear r1 r2;go_wp2_with fail;go_ret;exact⟨_,rfl,HR.out⟩
theorem ac9(H:nD w gt gb c bt bb G T B){l:List Int}(hl:Ints w G.l l)(n:Int):Calls Tryz.prog 230 #[.pointer (some ⟨c,0,none⟩),.int .i64 n] w fun e w'=>e= .returned (.bool (l.contains n))/\O0 w w':=by have q1:w.cell? ⟨c,3,none⟩=some G.l:=zAz;have hC:=zh (Aw hl n _ rfl);obtain⟨ao,cap,e,-,-⟩:=hl.shape;rw[e]at q1 hC;clear hl;obtain⟨b,hb⟩:=ze (l.contains n);rw[hb]at hC⊢;clear hb;go_enter Tryz.func230,Tryz.ntmps230;go_wp2_with fail;refine hC.out.mono ?_;rintro e w1 ⟨rfl,rfl⟩;go_wp2_with fail;go_ret;exact⟨rfl,Only.refl _ _⟩
theorem mF(H:nD w gt gb c bt bb G T B){a1 a2:Option Addr}{n1 n2 c1 c2:Nat}(h1:G.x1= .slice a1 n1 c1)(h2:G.x2= .slice a2 n2 c2):Calls Tryz.prog 78 #[.pointer (some ⟨c,0,none⟩)] w fun e w'=>e= .returned (.agg #[.slice a1 n1 c1,.slice a2 n2 c2])/\O0 w w':=by
 have ho:O0 w (w.alloc (.cells #[bP,bP] 25)):=zr.alloc _;have q1:(w.alloc (.cells #[bP,bP] 25)).cell? ⟨c,0,none⟩=some (.slice a1 n1 c1):=by rw[ah (aF H.blk ho (fun f=>f)),h1];rfl
 have q2:(w.alloc (.cells #[bP,bP] 25)).cell? ⟨c,1,none⟩=some (.slice a2 n2 c2):=by rw[ah (aF H.blk ho (fun f=>f)),h2];rfl
 clear ho;go_enter Tryz.func78,Tryz.ntmps78;go_wp2_with fail;(try simp only[Exit.inBlock,Exit.then]);refine bodyPost_ret (results_cell_row rfl _ _ w.heap.size 25 #[.slice a1 n1 c1,.slice a2 n2 c2] (0,0) _ rfl (qL w _) Tryz.underlying25 rfl zk) rfl ?_;exact⟨rfl,zr.alloc _⟩
theorem MR(H:nD w gt gb c bt bb G T B){a1:Option Addr}{n1 c1:Nat}(h1:G.q= .slice a1 n1 c1):Calls Tryz.prog 79 #[.pointer (some ⟨c,0,none⟩)] w fun e w'=>e= .returned (.agg #[.slice a1 n1 c1])/\O0 w w':=by
 have ho:O0 w (w.alloc (.cells #[bP] 28)):=zr.alloc _;have q1:(w.alloc (.cells #[bP] 28)).cell? ⟨c,2,none⟩=some (.slice a1 n1 c1):=by rw[ah (aF H.blk ho (fun f=>f)),h1];rfl
 clear ho;go_enter Tryz.func79,Tryz.ntmps79;go_wp2_with fail;(try simp only[Exit.inBlock,Exit.then]);refine bodyPost_ret (results_cell_row rfl _ _ w.heap.size 28 #[.slice a1 n1 c1] (0,0) _ rfl (qL w _) Tryz.underlying28 rfl zk) rfl ?_;exact⟨rfl,zr.alloc _⟩
end
end Go.Proofs.YtdmmebjjojimiaaGreatDoor
