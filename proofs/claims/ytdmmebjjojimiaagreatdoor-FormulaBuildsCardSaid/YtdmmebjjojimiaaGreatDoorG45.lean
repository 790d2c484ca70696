/- FormulaBuilds: the walk. Printed by gen_fbl1.py.; Open OpenR, in one text. -/
import Derived.Test.YtdmmebjjojimiaaGreatDoorG44
set_option maxRecDepth 100000
set_option maxHeartbeats 8000000
set_option linter.all false
namespace Go.Proofs
theorem zAd{p:Prop}(h:p:=by(intro w hSw;(try dsimp only at hSw);have q5:=HBw.out w hSw;have q6:=HGw.out w hSw;have q7:=Jm.out w hSw;go_simp<;>(try with_reducible rfl))):p:=h
theorem zCP{p:Prop}(h:p:=by
 clear ML
 go_wp2_with fail
 go_ret
 exact⟨rfl,bM.out.same ED.out⟩):p:=h
theorem zDC{p:Prop}(h:p:=by
 exact(Eu h1 HfS.out.1 HfS.out.2).mono fun e w' ⟨v,us,he,hw,ho⟩=>by
  have hi:=hw.Oy
  obtain⟨ac,cc,rfl,-,-⟩:=hi.shape
  rw[ajH]at hi he
  exact⟨ac,cc,he,hi,ho⟩):p:=h
theorem zEN{p:Prop}(h:p:=by
 have z7b:(c7 != 0)=true:=by simpa using z7
 exact absurd (of_decide_eq_true (hc7.trans hok.2)) z7):p:=h
theorem zEO{p:Prop}(h:p:=by
 have z6b:(c6 != 0)=true:=by simpa using z6
 exact absurd (of_decide_eq_true (hc6.trans hok.1)) z6):p:=h
theorem zEd{p:Prop}(h:p:=by(intro w hSw;exact(HSo.out w hSw).mono fun _ _ ⟨he,ho⟩=>⟨he,hSw.same ho⟩)):p:=h
theorem zEe{p:Prop}(h:p:=by(intro w hSw;exact(HNk.out w hSw).mono fun _ _ ⟨he,ho⟩=>⟨he,hSw.same ho⟩)):p:=h
theorem zEj{p:Prop}(h:p:=by(intro w hSw;exact(Bc.out w hSw).mono fun _ _ ⟨he,ho⟩=>⟨he,hSw.same ho⟩)):p:=h
theorem zFA{p:Prop}(h:p:=by
 go_wp2_with fail
 refine(HFx.out w3 uw.out).mono ?_
 rintro e w99 ⟨rfl,ML⟩
 have ED:=zh ((uw.out).same ML)
 exact zCP):p:=h
end Go.Proofs
namespace Go.Proofs.YtdmmebjjojimiaaGreatDoor
open Go.RowKit
section
variable {w w':World} {B:Nat}
attribute [local irreducible] wpQuiet
theorem EC{pR:List Value}{x:aF}(hx:gy B w pR x){Rz:List Value}{q:dH}(hq:lW B w Rz q)(n:Int)(hn:bg n){vm:Value}{m:List Bool}(hm:Bools w vm m)(hBw:B<=w.heap.size)(hLd:Laid w):Calls Tryz.prog 5 #[.agg pR.toArray,.agg Rz.toArray,.int .i64 n,vm] w fun e w'=>e= .returned (.bool true)/\O0 w w':=by
 obtain⟨am,cm,rfl,-,-⟩:=hm.shape;have HM0:=zh hm;obtain⟨nm,hnm⟩:=ze m.length;rw[hnm]at HM0⊢;clear hnm hm;obtain⟨aV,ak,aS,aT,aK,aO,rfl,fV,fZ,dQ,dR,aB,bJ,qo⟩:=open_rec hx;clear hx;try rw[aB.out]
 obtain⟨jD,bZ,jE,rfl,zA,zC,dK,Vg⟩:=xY hq;clear hq;try rw[dK.out]
 obtain⟨W0,hW0,bM,vC,aU⟩:=GY w (.slice aV ak aS) (.slice aT aK aO) (.slice jD bZ jE) 25 28;obtain⟨gI,bK,bT⟩:=qo W0 bM.out;clear qo;obtain⟨BK,kU⟩:=Vg W0 bM.out;clear Vg;have HMo:Hid (∀W,O0 W0 W->Bools W (.slice am nm cm) m):=fun W hW=>HM0.out.aH (bM.out.same hW);have HLd:Hid (∀W,O0 W0 W->Laid W):=fun W hW=>hLd.only (bM.out.same hW);have HFx:Hid (∀W,O0 W0 W->Calls Tryz.prog 31 #[] W fun e w'=>e= .returned (.bool true)/\O0 W w'):=fun W hW=>VH (HLd.out W hW);clear HM0 hLd;obtain⟨k0,k1,k2⟩:=aU.out W0 zr;rw[hW0]at k0 k1 k2;go_enter Tryz.func5,Tryz.ntmps5;go_wp2_with fail;rw[<-hW0]at k0 k1 k2⊢;clear hW0;refine(WR (gI.out W0 zr)).mono ?_;rintro e w2 ⟨b2,rfl,hf2,O1⟩;have iO:=zh ((zr).same O1);clear O1 k0 k1 k2;obtain⟨k0,k1,k2⟩:=aU.out w2 iO.out;cases b2 with
 |true=>go_wp2_with fail;refine(HFx.out w2 iO.out).mono ?_;rintro e w99 ⟨rfl,ML⟩;have ED:=zh ((iO.out).same ML);exact zCP
 |false=>
  replace hf2:=hf2 rfl;have Hf2:=zh hf2;clear hf2;go_wp2_with fail;refine(WS (BK.out w2 iO.out)).mono ?_;rintro e w3 ⟨b3,rfl,hf3,O1⟩;have uw:=zh ((iO.out).same O1);clear O1 k0 k1 k2;obtain⟨k0,k1,k2⟩:=aU.out w3 uw.out;cases b3 with
  |true=>exact zFA
  |false=>
   replace hf3:=hf3 rfl;have Hf3:=zh hf3;clear hf3;by_cases c8:8<ak;·exact zFA
   by_cases c3:3000<nm;·exact zFA
   have hB:x.packs.length<=1000000/\∀p∈x.packs,p.aX.length<=1000000/\p.vars.length<=1000000:=⟨by have:=Hf2.out.packs;omega,fun p hp=>by have h:=Hf2.out.all p hp;have h1:=h.aX;have h2:=h.vars;omega⟩;have HB:=zh hB;have Ea:Hid (x.okB=true/\q.okB x=true->eH x q):=aa6 Hf2.out zAV Hf3.out.2;have ajE:Hid (q.roots.length<=40):=Hf3.out.1;obtain⟨lim,hlim⟩:∃lim:Nat,min (max n 0) 65536=(lim:Int):=⟨(min (max n 0) 65536).toNat,by omega⟩;obtain⟨S1,hS1⟩:=ze (jK x q lim);obtain⟨Sa,hSa⟩:=ze (jK x q 60000);have V3:=zh hSa;have HB1:=zh (JQ (gI.out w3 uw.out) (BK.out w3 uw.out) (qR hBw (bM.out.same uw.out).size) Ea.out ajE.out hB.1 hB.2 (HLd.out w3 uw.out) n hn lim hlim S1 hS1);clear hSa hB;go_wp2_with fail;refine HB1.out.mono ?_;rintro e w5 ⟨O5,hb1⟩;have Ar:=zh (uw.out.same O5);clear O5 HB1 k0 k1 k2;obtain⟨k0,k1,k2⟩:=aU.out w5 Ar.out;by_cases hok:x.okB=true/\q.okB x=true
   ·have Hok:=zh hok;have HE:Hid (eH x q):=Ea.out hok;have OI:Hid (∀y∈(Dk x q).x.packs,y.aX.length<=1000000/\y.vars.length<=1000000/\∀u∈y.vars,u.values.length<=1000000):=fun y hy=>by have ok:=HE.out.ch.all y hy;exact⟨by have:=ok.aX;omega,by have:=ok.vars.1;omega,fun u hu=>by have:=(ok.vars.2 u hu).2;omega⟩
    have ajF:=zh (VG HE.out (aeA hok.2) n hlim);have HNf:Hid (¬(Sa.1.full=true\/Sa.2.full=true)):=by
     rintro(h|h);·rw[<-V3.out,(HE.out.full (show 18784<=60000 by decide)).1]at h;cases h
     rw[<-V3.out,(HE.out.full (show 18784<=60000 by decide)).2]at h;cases h
    obtain⟨La,hLa⟩:=ze Sa.1.l.length;have HLa:=zh hLa;rw[V3.out,hS1,hLa]at ajF;rw[if_pos hok]at hb1;by_cases hgt:(La:Int)>n
    ·have hf1:S1.1.full=true:=by have h:=ajF.out;rw[if_pos hgt]at h;exact h
     rw[if_pos (Or.inl hf1)]at hb1;subst hb1;clear hS1 hLa hf1 hlim;have WQ:=0;go_wp2_with fail;refine(Iy (gI.out w5 Ar.out) HB.out.1).mono ?_;rintro e w6 ⟨c6,l6,rfl,hc6,O1⟩;have agx:=fun W:World=>xJ (.int .u8 c6) (.int .i64 l6) W;have JD:=zh ((Ar.out).same O1);have DC:=zh O1;clear O1 k0 k1 k2;obtain⟨k0,k1,k2⟩:=aU.out w6 JD.out;by_cases z6:c6=0
     ·subst z6;go_wp2_with fail;refine(Ez (gI.out w6 JD.out) (BK.out w6 JD.out) HB.out.1).mono ?_;rintro e w7 ⟨c7,l7,rfl,hc7,O1⟩;have agy:=fun W:World=>xJ (.int .u8 c7) (.int .i64 l7) W;have pG:=zh ((JD.out).same O1);have Aq:=zh O1;clear O1 k0 k1 k2;obtain⟨k0,k1,k2⟩:=aU.out w7 pG.out;by_cases z7:c7=0;·subst z7;have HBa:=zh (JQ (gI.out w7 pG.out) (BK.out w7 pG.out) (qR hBw (bM.out.same pG.out).size) (fun _=>HE.out) ajE.out HB.out.1 HB.out.2 (HLd.out w7 pG.out) 60000 ⟨by decide,by decide⟩ 60000 zAD Sa V3.out);go_wp2_with fail;clear agx agy;refine HBa.out.mono ?_;rintro e w8 ⟨O8,hb8⟩;rw[if_pos Hok.out,if_neg HNf.out]at hb8;obtain⟨fa,ca,bta,bba,gta,gba,Ga,Bsa,cva,rfl,hFa⟩:=hb8;have HFa:=zh hFa;have JM:=zh (pG.out.same O8);have HAa:=zh (Gi hFa La HLa.out);clear O8 hFa HBa k0 k1 k2;obtain⟨k0,k1,k2⟩:=aU.out w8 JM.out;go_wp2_with fail;refine HAa.out.mono ?_;rintro e w9 ⟨rfl,e9⟩;have e9':=e9.symm;subst e9';go_wp2_with fail;refine(HFx.out w8 JM.out).mono ?_;rintro e w99 ⟨rfl,ML⟩;have ED:=zh ((JM.out).same ML);exact zCP
      exact zEN
     exact zEO
    have h:=ajF.out;rw[if_neg hgt]at h;obtain⟨h1,h2,h3⟩:=h;have hnf:¬(S1.1.full=true\/S1.2.full=true):=by
     rintro(h|h);·rw[h1]at h;cases h
     rw[h2]at h;exact HNf.out (.inr h)
    rw[if_neg hnf]at hb1;obtain⟨f1,c1,bt1,bb1,jO,jP,G1,Bs1,cv1,rfl,hFm⟩:=hb1;have HFm:=zh hFm;have HSame:Hid (S1.2=Sa.2):=h2;have HL1:Hid (S1.1.l.length=La):=by rw[h3];exact hLa
    clear h1 h2 h3 hnf hFm hS1 hLa hlim;go_wp2_with fail;refine(Iy (gI.out w5 Ar.out) HB.out.1).mono ?_;rintro e w6 ⟨c6,l6,rfl,hc6,O1⟩;have agx:=fun W:World=>xJ (.int .u8 c6) (.int .i64 l6) W;have JD:=zh ((Ar.out).same O1);have DC:=zh O1;clear O1 k0 k1 k2;obtain⟨k0,k1,k2⟩:=aU.out w6 JD.out;by_cases z6:c6=0
    ·subst z6;go_wp2_with fail;refine(Ez (gI.out w6 JD.out) (BK.out w6 JD.out) HB.out.1).mono ?_;rintro e w7 ⟨c7,l7,rfl,hc7,O1⟩;have agy:=fun W:World=>xJ (.int .u8 c7) (.int .i64 l7) W;have pG:=zh ((JD.out).same O1);have Aq:=zh O1;clear O1 k0 k1 k2;obtain⟨k0,k1,k2⟩:=aU.out w7 pG.out;by_cases z7:c7=0
     ·subst z7;have aqY:Hid (O0 w5 w7):=DC.out.same Aq.out;have HBa:=zh (JQ (gI.out w7 pG.out) (BK.out w7 pG.out) (qR hBw (bM.out.same pG.out).size) (fun _=>HE.out) ajE.out HB.out.1 HB.out.2 (HLd.out w7 pG.out) 60000 ⟨by decide,by decide⟩ 60000 zAD Sa V3.out);go_wp2_with fail;clear agx agy;refine HBa.out.mono ?_;rintro e w8 ⟨O8,hb8⟩;rw[if_pos Hok.out,if_neg HNf.out]at hb8;obtain⟨fa,ca,bta,bba,gta,gba,Ga,Bsa,cva,rfl,hFa⟩:=hb8;have HFa:=zh hFa;have JM:=zh (pG.out.same O8);have am9:Hid (O0 w5 w8):=aqY.out.same O8;have HAa:=zh (Gi hFa La HLa.out);clear O8 hFa HBa k0 k1 k2;obtain⟨k0,k1,k2⟩:=aU.out w8 JM.out;go_wp2_with fail;refine HAa.out.mono ?_;rintro e w9 ⟨rfl,e9⟩;have e9':=e9.symm;subst e9';have HF1:Hid (∀W,O0 w8 W->Y8 W jO jP f1 c1 bt1 bb1 G1 Bs1 (Dk x q) S1 cv1 S1.2.cls):=fun W hW=>HFm.out.aH (am9.out.same hW);have HF2:Hid (∀W,O0 w8 W->Y8 W gta gba fa ca bta bba Ga Bsa (Dk x q) Sa cva Sa.2.cls):=fun W hW=>HFa.out.aH hW;have HA1:=zh (Gi (HF1.out w8 zr) La HL1.out);have HfS:Hid (Sa.2.cls.length<=262144/\∀c∈Sa.2.cls,c.length<=1099511627):=by obtain⟨V,hV⟩:=HFa.out.gr.gr.Fb;exact⟨hV.few,hV.short⟩
      obtain⟨cls,hcls⟩:=ze Sa.2.cls;have ahr:S1.2.cls=cls:=by rw[<-hcls,HSame.out]
      rw[hcls]at HfS;obtain⟨ncl,ajH⟩:=ze cls.length;have HC1:Hid (∀W,O0 w8 W->Calls Tryz.prog 35 #[.pointer (some ⟨f1,0,none⟩)] W fun e w'=> ∃ac cc,e= .returned (.slice ac ncl cc)/\tH w' (.slice ac ncl cc) cls/\O0 W w'):=fun W hW=>by have h1:=HF1.out W hW;rw[ahr]at h1;exact zDC
      have HC2:Hid (∀W,O0 w8 W->Calls Tryz.prog 35 #[.pointer (some ⟨fa,0,none⟩)] W fun e w'=> ∃ac cc,e= .returned (.slice ac ncl cc)/\tH w' (.slice ac ncl cc) cls/\O0 W w'):=fun W hW=>by have h1:=HF2.out W hW;rw[hcls]at h1;exact zDC
      clear hcls ahr ajH HFm HFa HSame HfS;clear k0 k1 k2;obtain⟨k0,k1,k2⟩:=aU.out w8 JM.out;go_wp2_with fail;refine HA1.out.mono ?_;rintro e w10 ⟨rfl,e10⟩;have ajw:=e10.symm;subst ajw;go_wp2_with fail;refine HAa.out.mono ?_;rintro e V4 ⟨rfl,e11⟩;have aqZ:=e11.symm;subst aqZ;go_wp2_with fail;refine(HC1.out w8 zr).mono ?_;rintro e w12 ⟨ac1,cc1,rfl,hi1,O12⟩;have HI1:=zh hi1;have FQ:=zh O12;clear O12 hi1;go_wp2_with fail;refine(HC2.out w12 FQ.out).mono ?_;rintro e SC ⟨ac2,cc2,rfl,hi2,O13⟩;have ana:=zh (FQ.out.same O13);have HSm:=zh (Uy (HI1.out.aH O13) hi2 true zAF);clear O13 hi2 HI1 FQ;go_wp2_with fail;refine HSm.out.mono ?_;rintro e w14 ⟨rfl,O14⟩;have agz:=zh (ana.out.same O14);have aeB:=zh (JM.out.same agz.out);clear O14 HSm ana HC1 HC2 HA1 HAa k0 k1 k2;obtain⟨k0,k1,k2⟩:=aU.out w14 aeB.out;have HRd:=zh (adI (HF1.out w14 agz.out) (HMo.out w14 aeB.out) (by show x.packs.length<=1000000;have:=HE.out.ch.packs;omega) OI.out (fun t ht=>HE.out.lt t ht) zBD);have HNu:Hid (∀W,O0 w14 W->∀p:Nat,p<x.packs.length->Calls Tryz.prog 41 #[.pointer (some ⟨f1,0,none⟩),.agg #[.int .u8 1,.int .i64 (p:Int),.int .i64 0,.int .i64 0]] W fun e w'=>e= .returned (.int .i64 (numOf S1.1.l (aI p):Int))/\O0 W w'):=fun W hW p hp=>Py (HF1.out W (agz.out.same hW)) (Xy ⟨by omega,by have:=HE.out.ch.packs;omega⟩) _ rfl;have uh:Hid (∀p:Nat,numOf S1.1.l (aI p)<=65536):=fun p=>by
       obtain⟨V,hV⟩:=(HF1.out w14 agz.out).gr.gr.tab;have h1:=hV.len;have h2:=hV.lim;show numOf S1.1.l (aI p)<=65536;unfold numOf;split;·rename_i hm;have:=List.idxOf_lt_length_of_mem hm;omega
       omega
      clear HF1 HF2 am9;go_wp2_with fail;refine HRd.out.mono ?_;rintro e Px ⟨a5,n5,c5,ys,rfl,hy5,hyl,hyp,hys,O15⟩;have anb:=zh (aez Hok.out.1 hyp hys);have HYl:=zh hyl;have anc:=zh O15;have hyr:aQ 4 FnC Px.heap.size Px (.slice a5 n5 c5) ys:=by subst hyl;exact aQ.dV hy5 fun i hi=>⟨ys[i].cells,rfl,fun j u hu=>CB ys i ys[i] (qA hi) j u hu,rfl⟩
      have HYr:Hid (∀W,O0 Px W->aQ 4 FnC Px.heap.size W (.slice a5 n5 c5) ys):=fun W hW=>hyr.keep FnC.keep (Kp.gV hW);clear hy5 hyl hyp hys hyr O15 HRd;have hn5:n5<=9223372036854775807:=by obtain⟨_,_,_,g1,g2⟩:=(HYr.out Px zr).shape;rw[HYl.out]at g1;omega
      have ajI:Hid ((Px.alloc (.cells #[dF] 31)).heap[Px.heap.size]? =some (.cells #[dF] 31)):=qL Px _;obtain⟨W16,ajJ⟩:=ze ((Px.alloc (.cells #[dF] 31)).setRow Px.heap.size #[.slice a5 n5 c5]);have ane:Hid (W16.heap[Px.heap.size]? =some (.cells #[.slice a5 n5 c5] 31 (0,0))):=by rw[<-ajJ];exact setRow_heap _ _ _ _ _ _ ajI.out
      have RV:Hid (O0 Px W16):=by rw[<-ajJ];exact(zr.alloc _).trans (aP _ _ _) fun k hk=>.inr (yG hk.symm)
      have anf:Hid (O0 W0 Px):=aeB.out.same anc.out;have aeC:Hid (O0 W0 W16):=anf.out.same RV.out;clear k0 k1 k2;obtain⟨k0,k1,k2⟩:=aU.out W16 aeC.out;have HCl:=zh (Og (gI.out W16 aeC.out) (BK.out W16 aeC.out) HB.out.1);go_wp2_with (refine wpList_store_row rfl 31 (.tmp 13) (.tmp 107) rfl Px.heap.size #[.slice a5 n5 c5] rfl rfl 31 #[dF] ajI.out zk rfl zk ?_);clear ajJ ajI k0 k1 k2;refine HCl.out.mono ?_;rintro e w17 ⟨vp,rfl,hpr,hpn,O17⟩;obtain⟨npl,ajK⟩:=ze ((x.closure q.names).length);have hpi:=uX hpr (fun i hi=>by have:=HE.out.lt i hi;have:=HE.out.ch.packs;omega);have hpi2:(intsOf (x.closure q.names)).length=npl:=by unfold intsOf;rw[qM,ajK]
      obtain⟨ap,cp,rfl,-,-⟩:=aJ hpr;rw[ajK]at hpi⊢;have yX:=zh hpi;have anh:Hid (w17.heap[Px.heap.size]? =some (.cells #[.slice a5 n5 c5] 31 (0,0))):=aC ane.out O17 (fun f=>f);have ajL:Hid (O0 w14 w17):=anc.out.same (RV.out.same O17);have Yk:=zh (RV.out.same O17);have aeD:=zh (aeC.out.same O17);have q17:=aj anh.out 0;clear O17 HCl hpr hpn hpi hpi2 ajK ane RV aeC;go_wp2_with fail;clear q17;have ku:Hid (O0 w17 w17):=Only.refl _ _;go_loopw [114] (fun vi fM=>Hid (O0 w17 fM)/\∃i:Nat,vi= .int .i64 i/\i<=n5) (fun v _=>n5-(RowKit.intOf v).toNat);case atStart=>exact⟨ku,0,rfl,qE _⟩
      case round=>
       obtain⟨fM,rfl⟩:=zB wr;clear ku;obtain⟨xK,i,rfl,hi⟩:=hrel;by_cases ci:i<n5
       ·have iG:=zw (i+1);obtain⟨yy,hyy⟩:=zG ys i (by rw[HYl.out];exact ci);obtain⟨p,hpc,hpf,hps⟩:=(anb.out.1 yy (qT hyy));have hpl:=HE.out.lt p hpc;obtain⟨bk,off,rfl,-,-⟩:=(HYr.out fM (Yk.out.same xK.out)).at (by rw[HYl.out];omega);have iP:Hid (∀W,O0 fM W->W.rangeAt bk (off+i*4) yy.cells):=fun W hW=>by obtain⟨cs,-,hr,hC⟩:=(HYr.out W (Yk.out.same (xK.out.same hW))).get hyy;have hC':cs=yy.cells:=hC;rw[<-hC'];exact hr
        have hrow:=zh (iP.out fM zr);have HNz:Hid ((fM.alloc (.cells #[.string ⟨#[]⟩,.string ⟨#[]⟩,.slice none 0 0,.slice none 0 0] 83)).heap[fM.heap.size]? =some (.cells #[.string ⟨#[]⟩,.string ⟨#[]⟩,.slice none 0 0,.slice none 0 0] 83)):=qL fM _;obtain⟨W20,ajN⟩:=ze ((fM.alloc (.cells #[.string ⟨#[]⟩,.string ⟨#[]⟩,.slice none 0 0,.slice none 0 0] 83)).setRow fM.heap.size #[.string yy.name,.string yy.ver,.slice yy.a1 yy.n1 yy.c1,.slice yy.a2 yy.n2 yy.c2]);have ajO:Hid (W20.heap[fM.heap.size]? =some (.cells #[.string yy.name,.string yy.ver,.slice yy.a1 yy.n1 yy.c1,.slice yy.a2 yy.n2 yy.c2] 83 (0,0))):=by rw[<-ajN];exact setRow_heap _ _ _ _ _ _ HNz.out
        have ahs:Hid (O0 fM W20):=by rw[<-ajN];exact(zr.alloc _).trans (aP _ _ _) fun k hk=>.inr (yG hk.symm)
        have agA:Hid (O0 w17 W20):=xK.out.same ahs.out;have HFi:Hid (Calls Tryz.prog 38 #[.agg #[.slice aV ak aS,.slice aT aK aO],.string yy.name] W20 fun e w'=>e= .returned (.int .i64 (p:Int))/\O0 W20 w'):=by rw[<-hpf];exact sH (gI.out W20 (aeD.out.same agA.out)) yy.name
        obtain⟨k0,k1,k2⟩:=aU.out W20 (aeD.out.same agA.out);have nb:=aj ajO.out 0;go_wp2_with (first
         | (refine wpList_load_mid rfl 83 (.tmp 117) rfl bk (off+i*4) rfl _ _ hrow.out Tryz.underlying83 rfl zk ?_)
         | (refine wpList_store_row rfl 83 (.tmp 16) (.tmp 118) rfl fM.heap.size #[.string yy.name,.string yy.ver,.slice yy.a1 yy.n1 yy.c1,.slice yy.a2 yy.n2 yy.c2] rfl rfl 83 #[.string ⟨#[]⟩,.string ⟨#[]⟩,.slice none 0 0,.slice none 0 0] HNz.out zk rfl zk ?_))
        clear hrow HNz ajN nb k0 k1 k2;refine HFi.out.mono ?_;rintro e w21 ⟨rfl,O21⟩;have ani:Hid (w21.heap[fM.heap.size]? =some (.cells #[.string yy.name,.string yy.ver,.slice yy.a1 yy.n1 yy.c1,.slice yy.a2 yy.n2 yy.c2] 83 (0,0))):=aC ajO.out O21 (fun f=>f);have Yl:=zh (agA.out.same O21);clear O21 HFi ajO agA ahs;have hcon:(intsOf (x.closure q.names)).contains (p:Int)=true:=by rw[xQ];exact qX hpc
        have Bc:Hid (∀W,O0 w21 W->Calls Tryz.prog 39 #[.slice ap npl cp,.int .i64 (p:Int)] W fun e w'=>e= .returned (.bool true)/\O0 W w'):=fun W hW=>by rw[<-hcon];exact Qn (yX.out.aH (Yl.out.same hW)) _
        obtain⟨nu,hnu⟩:=ze (numOf S1.1.l (aI p));have hnl:=uh.out p;rw[hnu]at hnl hps;have HNk:Hid (∀W,O0 w21 W->Calls Tryz.prog 41 #[.pointer (some ⟨f1,0,none⟩),.agg #[.int .u8 1,.int .i64 (p:Int),.int .i64 0,.int .i64 0]] W fun e w'=>e= .returned (.int .i64 (nu:Int))/\O0 W w'):=fun W hW=>by rw[<-hnu];exact HNu.out W (ajL.out.same (Yl.out.same hW)) p hpl
        have HSo:Hid (∀W,O0 w21 W->Calls Tryz.prog 40 #[.int .i64 (nu:Int),.slice am nm cm] W fun e w'=>e= .returned (.bool true)/\O0 W w'):=fun W hW=>(WM (HMo.out W (aeD.out.same (Yl.out.same hW))) (nu:Int) ⟨by omega,by omega⟩ true (agw hps hnl)).mono fun e w' ⟨he,ho⟩=>⟨he,ho▸Only.refl _ _⟩;have HBw:Hid (∀W,O0 w21 W->W.cell? ⟨fM.heap.size,0,none⟩=some (.string yy.name)):=fun W hW=>by rw[aj (aC ani.out hW (fun f=>f))];rfl
        have HGw:Hid (∀W,O0 w21 W->W.cell? ⟨Px.heap.size,0,none⟩=some (.slice (some ⟨bk,off,none⟩) n5 c5)):=fun W hW=>by rw[aj (aC anh.out (Yl.out.same hW) (fun f=>f))];rfl
        clear hcon hnu ani hps hnl hpl hpc hpf;go_wp2_with fail;cases i with
        |zero=>
         refine fO (fun w'=>O0 w21 w') zk zk (by exact zr.drew) ?_;iterate 2 refine qV ?_
         refine gY (v:=.bool true) (f:=39) (args:= #[.slice ap npl cp,.int .i64 (p:Int)]) (by rfl) ?_ ?_ ?_;·exact zB9
         ·exact zEj
         try simp only[Act.put,eF,fA,eG,dW,dX,dY]
         iterate 5 refine qV ?_
         iterate 10 refine qS ?_
         iterate 6 refine qV ?_
         refine gY (v:=.int .i64 (nu:Int)) (f:=41) (args:= #[.pointer (some ⟨f1,0,none⟩),.agg #[.int .u8 1,.int .i64 (p:Int),.int .i64 0,.int .i64 0]]) (by rfl) ?_ ?_ ?_;·exact zB9
         ·exact zEe
         try simp only[Act.put,eF,fA,eG,dW,dX,dY]
         refine qV ?_;refine gY (v:=.bool true) (f:=40) (args:= #[.int .i64 (nu:Int),.slice am nm cm]) (by rfl) ?_ ?_ ?_;·exact zB9
         ·exact zEd
         try simp only[Act.put,eF,fA,eG,dW,dX,dY]
         iterate 2 refine qV ?_
         refine wpQuiet_nil ?_;(intro w9 FD;have BZ:=zh FD;clear FD);go_wp2_with fail;go_roundw;case rel=>exact⟨show Hid _ from Yl.out.same BZ.out,0+1,by first|rfl|go_num,by omega⟩
         case measure=>simp[RowKit.intOf]<;>omega
        |succ j=>
         obtain⟨yp,hyp⟩:=zG ys j (by rw[HYl.out];omega);have hlt:=anb.out.2 j yp yy hyp hyy;have hbl:Op.bytesLess yp.name.toList yy.name.toList=true:=by rw[Bq,qX hlt]
         have Jm:Hid (∀W,O0 w21 W->W.cell? ⟨bk,off+j*4,none⟩=some (.string yp.name)):=fun W hW=>by obtain⟨cs,-,hr,hC⟩:=(HYr.out W (Yk.out.same (Yl.out.same hW))).get hyp;have hC':cs=yp.cells:=hC;subst hC';exact hr 0 _ rfl
         have WJ:IntKind.i64.wrap (j:Int)=(j:Int):=by rw[qD];omega
         have hj5:j<n5:=zAB;clear hyp hlt;refine fO (fun w'=>O0 w21 w') zk zk (by exact zr.drew) ?_;iterate 2 refine qV ?_
         refine gY (v:=.bool true) (f:=39) (args:= #[.slice ap npl cp,.int .i64 (p:Int)]) (by rfl) ?_ ?_ ?_;·exact zB9
         ·exact zEj
         try simp only[Act.put,eF,fA,eG,dW,dX,dY]
         iterate 6 refine qV ?_
         refine qV ?_ (hy:=zAd);iterate 4 refine qV ?_
         refine qV ?_ (hy:=zAd);refine qV ?_;refine qV ?_ (hy:=zAd);iterate 7 refine qV ?_
         refine gY (v:=.int .i64 (nu:Int)) (f:=41) (args:= #[.pointer (some ⟨f1,0,none⟩),.agg #[.int .u8 1,.int .i64 (p:Int),.int .i64 0,.int .i64 0]]) (by rfl) ?_ ?_ ?_;·exact zB9
         ·exact zEe
         try simp only[Act.put,eF,fA,eG,dW,dX,dY]
         refine qV ?_;refine gY (v:=.bool true) (f:=40) (args:= #[.int .i64 (nu:Int),.slice am nm cm]) (by rfl) ?_ ?_ ?_;·exact zB9
         ·exact zEd
         try simp only[Act.put,eF,fA,eG,dW,dX,dY]
         iterate 2 refine qV ?_
         refine wpQuiet_nil ?_;(intro w9 FD;have BZ:=zh FD;clear FD);go_wp2_with fail;go_roundw;case rel=>exact⟨show Hid _ from Yl.out.same BZ.out,(j+1)+1,by first|rfl|go_num,by omega⟩
         case measure=>simp[RowKit.intOf]<;>omega
       obtain rfl:n5=i:=by omega
       go_wp2_with fail;refine(HFx.out fM (aeD.out.same xK.out)).mono ?_;rintro e w99 ⟨rfl,ML⟩;have ED:=zh (((aeD.out.same xK.out)).same ML);exact zCP
     exact zEN
    exact zEO
   rw[if_neg hok]at hb1;subst hb1;go_wp2_with fail;refine(Iy (gI.out w5 Ar.out) HB.out.1).mono ?_;rintro e w6 ⟨c6,l6,rfl,hc6,O1⟩;have agx:=fun W:World=>xJ (.int .u8 c6) (.int .i64 l6) W;have JD:=zh ((Ar.out).same O1);have DC:=zh O1;clear O1 k0 k1 k2;obtain⟨k0,k1,k2⟩:=aU.out w6 JD.out;by_cases z6:c6=0
   ·subst z6;go_wp2_with fail;refine(Ez (gI.out w6 JD.out) (BK.out w6 JD.out) HB.out.1).mono ?_;rintro e w7 ⟨c7,l7,rfl,hc7,O1⟩;have agy:=fun W:World=>xJ (.int .u8 c7) (.int .i64 l7) W;have pG:=zh ((JD.out).same O1);have Aq:=zh O1;clear O1 k0 k1 k2;obtain⟨k0,k1,k2⟩:=aU.out w7 pG.out;by_cases z7:c7=0
    ·subst z7;have h6:x.okB=true:=by rw[<-hc6];rfl
     have h7:q.okB x=true:=by rw[<-hc7];rfl
     exact absurd ⟨h6,h7⟩ hok
    have z7b:(c7 != 0)=true:=by simpa using z7
    go_wp2_with fail;refine(HFx.out w7 pG.out).mono ?_;rintro e w99 ⟨rfl,ML⟩;have ED:=zh ((pG.out).same ML);exact zCP
   have z6b:(c6 != 0)=true:=by simpa using z6
   go_wp2_with fail;refine(HFx.out w6 JD.out).mono ?_;rintro e w99 ⟨rfl,ML⟩;have ED:=zh ((JD.out).same ML);exact zCP
end
end Go.Proofs.YtdmmebjjojimiaaGreatDoor
namespace Go.Proofs.YtdmmebjjojimiaaGreatDoor
open Go.RowKit Go.Deep Go.ChangeShapes Go.WideShapes Go.ChangeAt
theorem uI:Tryz.prog.cellsOf 3=1:=by kernel_rfl
section
variable {H:Type} {enc:TypeId×Value->H} {w:World} {base:Nat} {spare:Nat->Bool} {held:Bool} {fuel:Nat} {x:DataW H×List MemPlace}
theorem MN{α:Type}(f:Nat->α)(d:α){n i:Nat}(h:i<n):((List.range n).map f).getD i d=f i:=by simp[qC,h]
theorem aa9{a:Addr}{n:Nat}{u:Nat->Value}(h:∀i,i<n->w.cell? (a.add i)=some (u i))(hn:0<n):∃b off,a=⟨b,off,none⟩/\b<w.heap.size/\∀i,i<n->w.cell? ⟨b,off+i,none⟩=some (u i):=by
 obtain⟨blk,off,spot⟩:=a;have hspot:spot=none:=by have:=h 0 hn;simpa[Addr.add]using World.cell?_spot this
 subst hspot;refine⟨blk,off,rfl,?_,fun i hi=>?_⟩;·have:=World.block_lt_of_cell? _ _ (h 0 hn);simpa[Addr.add]using this
 have:=h i hi;simpa only[Go.WideShapes.add_plain]using this
end
end Go.Proofs.YtdmmebjjojimiaaGreatDoor
namespace Go.Proofs.YtdmmebjjojimiaaGreatDoor
open Go.RowKit
open Go.Deep
end Go.Proofs.YtdmmebjjojimiaaGreatDoor
namespace Go.Proofs.YtdmmebjjojimiaaGreatDoor
open Go.RowKit Go.Deep Go.ChangeShapes Go.WideShapes Go.ChangeAt
section
variable {H:Type} {enc:TypeId×Value->H} {w:World} {base:Nat} {spare:Nat->Bool} {held:Bool} {x:DataW H×List MemPlace}
def Reads{α:Type}(enc:TypeId×Value->H)(w:World)(base:Nat)(spare:Nat->Bool)(held:Bool)(t:TypeId)(C:Nat->World->List Value->α->Prop):Prop:=
 ∀{fuel:Nat} {cs:List Value} {x:DataW H×List MemPlace},DataW.trod enc Tryz.prog w base spare held fuel t cs=some x->∃d,C w.heap.size w cs d
theorem nG{α:Type}[Inhabited α]{n:Nat}{C:Nat->World->List Value->α->Prop}{t e:TypeId}(hn:0<n)(ht:Tryz.prog.underlying t=some (.slice e))(he:Tryz.prog.cellsOf e=n)(hC:Reads enc w base spare held e C){fuel:Nat}{cs:List Value}(h:DataW.trod enc Tryz.prog w base spare held fuel t cs=some x):∃v xs,cs=[v]/\aQ n C w.heap.size w v xs:=by
 rcases open_slice ht h with⟨rfl,_⟩| ⟨a,len,cap,m,f,D,Pl,rfl,hb,hl,hm,hmm,hx,hi⟩;·exact⟨_,[],rfl,aQ.nilRow⟩
 have hlm:len<=m:=by rw[hmm];split<;>omega
 obtain⟨F,hF⟩:=choose_lt (α:=α) (n:=len) (p:=fun i q=> ∃cs',cs'.length=n/\(∀j u,cs'[j]? =some u->w.cell? ((a.add (i*n)).add j)=some u)/\C w.heap.size w cs' q) (fun i hil=>by
  obtain⟨cs',h1,h2⟩:=hi i zAB
  rw[he]at h1
  obtain⟨_,hlen,hat⟩:=World.cells?_some h1
  obtain⟨d,hd⟩:=hC h2
  exact⟨d,cs',hlen,fun j u hu=>(hat j (by have:=(qJ.1 hu).1;omega)).trans hu,hd⟩)
 unfold maxLen at hm;refine⟨_,(List.range len).map F,rfl,⟨some a,cap,by simp,by simp;omega,by omega⟩,fun ao len' cap' hv hp=>?_,fun len' cap' hv=>by simp at hv⟩;simp only[qM,List.length_range]at hp⊢;simp only[qU]at hv;obtain⟨rfl,-,-⟩:=hv;obtain⟨blk,off,spot⟩:=a;obtain⟨cs0,hl0,hr0,-⟩:=hF 0 hp;have h00:cs0[0]? =some (cs0[0]'zAB):=qA _;have hspot:spot=none:=by have:=hr0 0 _ h00;simpa[Addr.add]using World.cell?_spot this
 subst hspot;refine⟨blk,off,rfl,?_,qH _,fun i hi2=>?_⟩;·have:=World.block_lt_of_cell? _ _ (hr0 0 _ h00);simpa[Addr.add]using this
 obtain⟨cs',g0,g1,g2⟩:=hF i hi2;refine⟨cs',g0,fun j u hu=>?_,by simpa using g2⟩;have:=g1 j u hu;simpa only[Go.WideShapes.add_plain]using this
theorem jg:Tryz.prog.cellsOf 9=1:=by kernel_rfl
theorem RX:Tryz.prog.cellsOf 4=1:=by kernel_rfl
theorem Gw:Tryz.prog.cellsOf 128=2:=by kernel_rfl
theorem cellsOf_set:Tryz.prog.cellsOf 117=2:=by kernel_rfl
theorem vg:Tryz.prog.cellsOf 108=3:=by kernel_rfl
theorem Ji:Tryz.prog.cellsOf 130=2:=by kernel_rfl
theorem Jj:Tryz.prog.cellsOf 145=2:=by kernel_rfl
theorem Jk:Tryz.prog.cellsOf 132=7:=by kernel_rfl
theorem Jl:Tryz.prog.cellsOf 160=7:=by kernel_rfl
theorem Gy:Tryz.prog.cellsOf 101=8:=by kernel_rfl
theorem Gz:Tryz.prog.cellsOf 103=3:=by kernel_rfl
theorem VJ:Tryz.prog.cellsOf 25=2:=by kernel_rfl
theorem GH:Tryz.prog.cellsOf 110=4:=by kernel_rfl
theorem VK:Tryz.prog.cellsOf 28=1:=by kernel_rfl
theorem BN:Tryz.prog.cellsOf 81=1:=by kernel_rfl
theorem MO:Tryz.prog.cellsOf 106=1:=by kernel_rfl
theorem Oj:Tryz.prog.cellsOf 80=1:=by kernel_rfl
theorem Ol:Tryz.prog.cellsOf 96=1:=by kernel_rfl
theorem Om:Tryz.prog.cellsOf 97=1:=by kernel_rfl
theorem Oo:Tryz.prog.cellsOf 98=1:=by kernel_rfl
theorem Oq:Tryz.prog.cellsOf 99=1:=by kernel_rfl
theorem MP:Tryz.prog.cellsOf 22=1:=by kernel_rfl
theorem MQ:Tryz.prog.cellsOf 23=1:=by kernel_rfl
theorem MR:Tryz.prog.cellsOf 26=1:=by kernel_rfl
theorem jF:Reads (H:=H) enc w base spare held 9 dN:=fun h=>by
 obtain⟨s,rfl,-,hs⟩:=DataW.trod_string Tryz.underlying9 h
 exact⟨s,rfl,hs⟩
theorem Ym:Reads (H:=H) enc w base spare held 128 eY:=fun{fuel cs x} ht=>by
 obtain⟨xs,m,_,hx,hlen,hxl,hf⟩:=DataW.trod_struct Tryz.underlying128 ht
 rw[Gw]at hlen
 match cs,hlen with
 | [c0,c1],_=>
  match xs,hxl with
  | [x0,x1],_=>
   have f0:=hf 0 _ rfl
   have f1:=hf 1 _ rfl
   obtain⟨s0,e0,h0⟩:=jF f0
   obtain⟨s1,e1,h1⟩:=jF f1
   simp[jg]at e0 e1
   subst e0 e1
   exact⟨⟨s0,s1⟩,rfl,h0,h1⟩
theorem abb:Reads (H:=H) enc w base spare held 117 ji:=fun{fuel cs x} ht=>by
 obtain⟨xs,m,_,hx,hlen,hxl,hf⟩:=DataW.trod_struct Tryz.underlying117 ht
 rw[cellsOf_set]at hlen
 match cs,hlen with
 | [c0,c1],_=>
  match xs,hxl with
  | [x0,x1],_=>
   have f0:=hf 0 _ rfl
   have f1:=hf 1 _ rfl
   obtain⟨s0,e0,h0⟩:=jF f0
   obtain⟨s1,e1,h1⟩:=jF f1
   simp[jg]at e0 e1
   subst e0 e1
   exact⟨⟨s0,s1⟩,rfl,h0,h1⟩
theorem abd:Reads (H:=H) enc w base spare held 130 oh:=fun{fuel cs x} ht=>by
 obtain⟨xs,m,_,hx,hlen,hxl,hf⟩:=DataW.trod_struct Tryz.underlying130 ht
 rw[Ji]at hlen
 match cs,hlen with
 | [c0,c1],_=>
  match xs,hxl with
  | [x0,x1],_=>
   have f0:=hf 0 _ rfl
   have f1:=hf 1 _ rfl
   obtain⟨s0,e0,h0⟩:=jF f0
   obtain⟨k1,e1,_⟩:=DataW.trod_bool Tryz.underlying4 f1
   simp[jg,RX]at e0 e1
   subst e0 e1
   exact⟨⟨s0,k1⟩,rfl,h0⟩
theorem wQ:Reads (H:=H) enc w base spare held 108 dB:=fun{fuel cs x} ht=>by
 obtain⟨xs,m,_,hx,hlen,hxl,hf⟩:=DataW.trod_struct Tryz.underlying108 ht
 rw[vg]at hlen
 match cs,hlen with
 | [c0,c1,c2],_=>
  match xs,hxl with
  | [x0,x1,x2],_=>
   have f0:=hf 0 _ rfl
   have f1:=hf 1 _ rfl
   have f2:=hf 2 _ rfl
   obtain⟨s0,e0,h0⟩:=jF f0
   obtain⟨v1,l1,e1,h1⟩:=nG zAD Tryz.underlying106 Gw Ym f1
   obtain⟨v2,l2,e2,h2⟩:=nG zAD Tryz.underlying80 cellsOf_set abb f2
   simp[jg,MO,Oj]at e0 e1 e2
   subst e0 e1 e2
   exact⟨⟨s0,l1,l2⟩,_,_,rfl,h0,h1,h2⟩
theorem abe:Reads (H:=H) enc w base spare held 145 jM:=fun{fuel cs x} ht=>by
 obtain⟨xs,m,_,hx,hlen,hxl,hf⟩:=DataW.trod_struct Tryz.underlying145 ht
 rw[Jj]at hlen
 match cs,hlen with
 | [c0,c1],_=>
  match xs,hxl with
  | [x0,x1],_=>
   have f0:=hf 0 _ rfl
   have f1:=hf 1 _ rfl
   obtain⟨s0,e0,h0⟩:=jF f0
   obtain⟨v1,l1,e1,h1⟩:=nG zAD Tryz.underlying81 jg jF f1
   simp[jg,BN]at e0 e1
   subst e0 e1
   exact⟨⟨s0,l1⟩,_,rfl,h0,h1⟩
theorem abf:Reads (H:=H) enc w base spare held 132 nH:=fun{fuel cs x} ht=>by
 obtain⟨xs,m,_,hx,hlen,hxl,hf⟩:=DataW.trod_struct Tryz.underlying132 ht
 rw[Jk]at hlen
 match cs,hlen with
 | [c0,c1,c2,c3,c4,c5,c6],_=>
  match xs,hxl with
  | [x0,x1,x2],_=>
   have f0:=hf 0 _ rfl
   have f1:=hf 1 _ rfl
   have f2:=hf 2 _ rfl
   obtain⟨s0,h0⟩:=wQ f0
   obtain⟨s1,h1⟩:=wQ f1
   obtain⟨k,e2,_,wf⟩:=DataW.trod_int Tryz.underlying3 f2
   simp[vg]at h0 h1
   simp[uI]at e2
   subst e2
   exact⟨⟨s0,s1,k⟩,_,_,rfl,h0,h1,bounds_i64 wf⟩
theorem abg:Reads (H:=H) enc w base spare held 160 rF:=fun{fuel cs x} ht=>by
 obtain⟨xs,m,_,hx,hlen,hxl,hf⟩:=DataW.trod_struct Tryz.underlying160 ht
 rw[Jl]at hlen
 match cs,hlen with
 | [c0,c1,c2,c3,c4,c5,c6],_=>
  match xs,hxl with
  | [x0,x1,x2],_=>
   have f0:=hf 0 _ rfl
   have f1:=hf 1 _ rfl
   have f2:=hf 2 _ rfl
   obtain⟨s0,h0⟩:=wQ f0
   obtain⟨s1,h1⟩:=wQ f1
   obtain⟨k,e2,_,wf⟩:=DataW.trod_int Tryz.underlying3 f2
   simp[vg]at h0 h1
   simp[uI]at e2
   subst e2
   exact⟨⟨s0,s1,k⟩,_,_,rfl,h0,h1,bounds_i64 wf⟩
theorem Yn:Reads (H:=H) enc w base spare held 101 fQ:=fun{fuel cs x} ht=>by
 obtain⟨xs,m,_,hx,hlen,hxl,hf⟩:=DataW.trod_struct Tryz.underlying101 ht
 rw[Gy]at hlen
 match cs,hlen with
 | [c0,c1,c2,c3,c4,c5,c6,c7],_=>
  match xs,hxl with
  | [x0,x1,x2,x3,x4,x5,x6,x7],_=>
   have f0:=hf 0 _ rfl
   have f1:=hf 1 _ rfl
   have f2:=hf 2 _ rfl
   have f3:=hf 3 _ rfl
   have f4:=hf 4 _ rfl
   have f5:=hf 5 _ rfl
   have f6:=hf 6 _ rfl
   have f7:=hf 7 _ rfl
   obtain⟨s0,e0,h0⟩:=jF f0
   obtain⟨k,e1,_,wf⟩:=DataW.trod_int Tryz.underlying3 f1
   obtain⟨v2,l2,e2,h2⟩:=nG zAD Tryz.underlying96 Ji abd f2
   obtain⟨v3,l3,e3,h3⟩:=nG zAD Tryz.underlying97 Jj abe f3
   obtain⟨v4,l4,e4,h4⟩:=nG zAD Tryz.underlying81 jg jF f4
   obtain⟨v5,l5,e5,h5⟩:=nG zAD Tryz.underlying98 Jk abf f5
   obtain⟨v6,l6,e6,h6⟩:=nG zAD Tryz.underlying99 Jl abg f6
   obtain⟨v7,l7,e7,h7⟩:=nG zAD Tryz.underlying81 jg jF f7
   simp[jg,uI,Ol,Om,BN,Oo,Oq]at e0 e1 e2 e3 e4 e5 e6 e7
   subst e0 e1 e2 e3 e4 e5 e6 e7
   exact⟨⟨s0,k,l2,l3,l4,l5,l6,l7⟩,_,_,_,_,_,_,rfl,h0,bounds_i64 wf,h2,h3,h4,h5,h6,h7⟩
theorem Yo:Reads (H:=H) enc w base spare held 103 lK:=fun{fuel cs x} ht=>by
 obtain⟨xs,m,_,hx,hlen,hxl,hf⟩:=DataW.trod_struct Tryz.underlying103 ht
 rw[Gz]at hlen
 match cs,hlen with
 | [c0,c1,c2],_=>
  match xs,hxl with
  | [x0,x1,x2],_=>
   have f0:=hf 0 _ rfl
   have f1:=hf 1 _ rfl
   have f2:=hf 2 _ rfl
   obtain⟨s0,e0,h0⟩:=jF f0
   obtain⟨v1,l1,e1,h1⟩:=nG zAD Tryz.underlying81 jg jF f1
   obtain⟨k,e2,_,wf⟩:=DataW.trod_int Tryz.underlying3 f2
   simp[jg,BN,uI]at e0 e1 e2
   subst e0 e1 e2
   exact⟨⟨s0,l1,k⟩,_,rfl,h0,bounds_i64 wf,h1⟩
theorem abh:Reads (H:=H) enc w base spare held 25 gy:=fun{fuel cs x} ht=>by
 obtain⟨xs,m,_,hx,hlen,hxl,hf⟩:=DataW.trod_struct Tryz.underlying25 ht
 rw[VJ]at hlen
 match cs,hlen with
 | [c0,c1],_=>
  match xs,hxl with
  | [x0,x1],_=>
   have f0:=hf 0 _ rfl
   have f1:=hf 1 _ rfl
   obtain⟨v0,l0,e0,h0⟩:=nG zAD Tryz.underlying22 Gy Yn f0
   obtain⟨v1,l1,e1,h1⟩:=nG zAD Tryz.underlying23 Gz Yo f1
   simp[MP,MQ]at e0 e1
   subst e0 e1
   exact⟨⟨l0,l1⟩,_,_,rfl,h0,h1⟩
theorem Yp:Reads (H:=H) enc w base spare held 110 lM:=fun{fuel cs x} ht=>by
 obtain⟨xs,m,_,hx,hlen,hxl,hf⟩:=DataW.trod_struct Tryz.underlying110 ht
 rw[GH]at hlen
 match cs,hlen with
 | [c0,c1,c2,c3],_=>
  match xs,hxl with
  | [x0,x1],_=>
   have f0:=hf 0 _ rfl
   have f1:=hf 1 _ rfl
   obtain⟨s0,h0⟩:=wQ f0
   obtain⟨k,e1,_,wf⟩:=DataW.trod_int Tryz.underlying3 f1
   simp[vg]at h0
   simp[uI]at e1
   subst e1
   exact⟨⟨s0,k⟩,_,rfl,h0,bounds_i64 wf⟩
theorem abj:Reads (H:=H) enc w base spare held 28 lW:=fun{fuel cs x} ht=>by
 obtain⟨xs,m,_,hx,hlen,hxl,hf⟩:=DataW.trod_struct Tryz.underlying28 ht
 rw[VK]at hlen
 match cs,hlen with
 | [c0],_=>
  match xs,hxl with
  | [x0],_=>
   have f0:=hf 0 _ rfl
   obtain⟨v0,l0,e0,h0⟩:=nG zAD Tryz.underlying26 GH Yp f0
   simp[MR]at e0
   subst e0
   exact⟨⟨l0⟩,_,rfl,h0⟩
end
theorem Ot:Tryz.prog.cellsOf 4=1:=by kernel_rfl
section
variable {H:Type} {enc:TypeId×Value->H} {w:World} {base:Nat} {spare:Nat->Bool} {held:Bool} {fuel:Nat} {x:DataW H×List MemPlace}
theorem aeH{v:Value}(h:DataW.trod enc Tryz.prog w base spare held fuel 58 [v]=some x):∃xs,Bools w v xs:=by
 rcases open_slice1 Tryz.underlying58 Ot h with⟨hcs,_⟩| ⟨a,len,cap,m,n,V,D,Pl,hcs,hb,hl,hm,hmm,hx,hi⟩;·simp at hcs;subst hcs;exact⟨[],⟨none,0,rfl,qH _,by decide⟩,fun _ _ _ _ hp=>by simp at hp⟩
 simp at hcs;subst hcs;have hlm:len<=m:=by rw[hmm];split<;>omega
 obtain⟨f,hf⟩:=choose_lt (α:=Bool) (n:=len) (p:=fun i z=>V i= .bool z) (fun i hil=>by
  obtain⟨h1,h2⟩:=hi i zAB
  obtain⟨k,e,_⟩:=DataW.trod_bool Tryz.underlying4 h2
  simp at e
  exact⟨k,e⟩)
 have hc:∀i,i<len->w.cell? (a.add i)=some (.bool (f i)):=fun i hil=>by rw[(hi i zAB).1,hf i hil]
 unfold maxLen at hm;refine⟨(List.range len).map f,⟨some a,cap,by simp,by simp;omega,by omega⟩,fun ao len' cap' hv hp=>?_⟩;simp only[qM,List.length_range]at hp⊢;obtain⟨b,off,rfl,hbl,hcc⟩:=aa9 hc hp;simp only[qU]at hv;obtain⟨rfl,-,-⟩:=hv;refine⟨b,off,rfl,hbl,fun i hi=>?_⟩;rw[hcc i hi,MN f false hi]
end
end Go.Proofs.YtdmmebjjojimiaaGreatDoor
