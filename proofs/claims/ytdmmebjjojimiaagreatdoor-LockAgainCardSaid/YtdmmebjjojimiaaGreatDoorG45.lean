/- LockAgain: the walk. Printed by gen_lal1.py.; Open OpenR, in one text. -/
import Derived.Test.YtdmmebjjojimiaaGreatDoorG44
set_option maxRecDepth 100000
set_option maxHeartbeats 8000000
set_option linter.all false
namespace Go.Proofs
theorem zBb{p:Prop}(h:p:=by have:=HSx.out.packs;omega):p:=h
theorem zBm{p:Prop}(h:p:=by rw[<-hWC];exact(Only.refl (fun k=>k=w.heap.size+2) Eu).setCell (p:=⟨w.heap.size+2,0,none⟩) (.inl rfl) _):p:=h
theorem zBo{p:Prop}(h:p:=by rw[<-hw8];exact(zr.alloc _).alloc _):p:=h
theorem zB3{p:Prop}(h:p:=by rw[<-hw8];exact dF (qL w7 _) _):p:=h
theorem zCD{p:Prop}(h:p:=by rw[<-Ii];exact O30.alloc _):p:=h
theorem zCK{p:Prop}(h:p:=by rw[<-Ii];exact qL P7 _):p:=h
theorem zCN{p:Prop}(h:p:=by rw[aj P6];rfl):p:=h
theorem zCe{p:Prop}(h:p:=by rw[<-P5];exact zr.alloc _):p:=h
theorem zCv{p:Prop}(h:p:=by rw[<-hw8];exact alloc_at zAP):p:=h
theorem zCy{p:Prop}(h:p:=by have:=HSh.out.1;omega):p:=h
theorem zDE{p:Prop}(h:p:=by show¬_;omega):p:=h
theorem zDp{p:Prop}(h:p:=by
 have Qb:Hid (∀W,O0 P8 W->W.cell? ⟨P7.heap.size,0,none⟩=some (.int .u8 0)/\W.cell? ⟨P7.heap.size,1,none⟩=some (.string ByteArray.empty)):=fun W hW=>by
  have b:=aA P9 hW (fun f=>f)
  exact⟨by rw[aj b];rfl,by rw[aj b];rfl⟩
 obtain⟨n0,n1⟩:=Qb.out P8 zr
 clear O30 P9 FW
 go_wp2_with fail
 clear Ii
 refine(HFc.out P8 Qa.out).mono ?_
 rintro e w32 ⟨rfl,ZO⟩
 have DW:=zh (Qa.out.same ZO)
 clear n0 n1
 obtain⟨n0,n1⟩:=Qb.out w32 ZO
 obtain⟨b0,b1,b2⟩:=OC.out w32 DW.out
 obtain⟨k0,k1,k2,k3⟩:=HBc.out w32 DW.out
 clear ZO
 have hbq:=lu w32 0 ByteArray.empty
 go_wp2_with fail
 refine(Sj (HRg.out w32 DW.out) (HRh.out w32 DW.out) true ⟨fun _=>rfl,fun _=>rfl⟩).mono ?_
 rintro e w33 ⟨rfl,O33⟩
 have akm:=zh (DW.out.same O33)
 clear O33
 go_wp2_with fail
 go_ret
 exact⟨rfl,YS.out w33 akm.out⟩):p:=h
theorem zDs{p:Prop}(h:p:=by
 have Qb:Hid (∀W,O0 P8 W->W.cell? ⟨P7.heap.size,0,none⟩=some (.int .u8 c)/\W.cell? ⟨P7.heap.size,1,none⟩=some (.string s)):=fun W hW=>by
  have b:=aA P9 hW (fun f=>f)
  exact⟨by rw[aj b];rfl,by rw[aj b];rfl⟩
 obtain⟨n0,n1⟩:=Qb.out P8 zr
 clear O30 P9 FW
 have hne:(c != 0)=true:=by simpa using hc0
 go_wp2_with fail
 clear Ii
 refine(HFc.out P8 Qa.out).mono ?_
 rintro e w32 ⟨rfl,ZO⟩
 have DW:=zh (Qa.out.same ZO)
 clear n0 n1
 obtain⟨n0,n1⟩:=Qb.out w32 ZO
 obtain⟨b0,b1,b2⟩:=OC.out w32 DW.out
 obtain⟨k0,k1,k2,k3⟩:=HBc.out w32 DW.out
 clear ZO
 have hbq:=lu w32 c s
 go_wp2_with fail
 go_ret
 exact⟨rfl,YS.out w32 DW.out⟩):p:=h
theorem zEJ{p:Prop}(h:p:=by
 have e1:=aA hb8 hW (fun f=>f)
 have e2:=aA ZN hW (fun f=>f)
 exact⟨by rw[aj e1];rfl,by rw[aj e2];rfl,by rw[aj e2];rfl⟩):p:=h
theorem zEk{p:Prop}(h:p:=by
 have o:=YS.out DV zr
 have h0:=Gn (fO.lift (fO.keep HX.out (Kp.dV o)) o.size (qH _)) (mg.lift (mg.keep HQ.out (Kp.dV o)) o.size (qH _)) (⟨_,rfl,HRh.out DV zr⟩:rU DV.heap.size DV [.slice a4 n4 c4] h) aZ.out.1 (Nh HSx.out HSq.out) zBb zCy
 rw[HCb.out]at h0
 exact h0):p:=h
theorem zEl{p:Prop}(h:p:=by
 have o:=YS.out WC zr
 have h0:=Gn (fO.lift (fO.keep HX.out (Kp.dV o)) o.size (qH _)) (mg.lift (mg.keep HQ.out (Kp.dV o)) o.size (qH _)) (⟨_,rfl,HRh.out WC zr⟩:rU WC.heap.size WC [.slice ao n cc] h) aZ.out.1 (Nh HSx.out HSq.out) zBb zCy
 rw[HCb.out]at h0
 exact h0):p:=h
theorem zFP{p:Prop}(h:p:=by
 clear O20
 have hbq:=lu w20 0 ByteArray.empty
 go_wp2_with fail
 go_ret
 exact⟨rfl,aV.out.same MI.out⟩):p:=h
theorem zFT{p:Prop}(h:p:=by
 clear O99
 go_wp2_with fail
 go_ret
 exact⟨rfl,aV.out.same ZM.out⟩):p:=h
theorem zFV{p:Prop}(h:p:=by
 obtain⟨j0,j1,j2,-⟩:=Il.out Eu CB.out
 have oo:=oC.same (hW.mono fun _ f=>f.elim)
 exact⟨eH j0 oo zDE,eH j1 oo zCq,eH j2 oo zA1,by rw[aj (aA hbC hW (fun f=>f))];rfl⟩):p:=h
theorem zFh{p:Prop}(h:p:=by
 obtain⟨j0,j1,j2⟩:=Q8.out Eu TJ.out
 have oo:=oC.same (hW.mono fun _ f=>f.elim)
 have hs7:=pz.out.size
 exact⟨eH j0 oo zDE,eH j1 oo zCq,eH j2 oo zA1⟩):p:=h
theorem zGb{p:Prop}(h:p:=by
 have h1:=((HRS.out.dK Bq.out).blk hb3 zC6 zHZ zAH oC).dK hW
 have h2:=h1.read
 rw[HLx.out]at h2
 exact h2):p:=h
theorem zHN{p:Prop}(h:p:=by
 go_wp2_with fail
 refine(Vx.out w3 kD.out).mono ?_
 rintro e w99 ⟨rfl,O99⟩
 have ZM:=zh ((kD.out).same O99)
 exact zFT):p:=h
end Go.Proofs
namespace Go.Proofs.YtdmmebjjojimiaaGreatDoor
open Go.RowKit
section
variable {w w':World} {B:Nat}
attribute [local irreducible] wpQuiet
theorem Vw:(Tryz.prog.fieldsOf 38).toList=[{name:= "Code",type:=5,offset:=0,embedded:=false,tag:= "",pkgPath:= "",byteOffset:=0},{name:= "Name",type:=9,offset:=1,embedded:=false,tag:= "",pkgPath:= "",byteOffset:=8}]:=by kernel_rfl
theorem acK(w:World)(a b:Int)(s t:Str):(binOp .eql 38 (.agg #[.int .u8 a,.string s]) (.agg #[.int .u8 b,.string t])).run Tryz.prog w= .ok (.bool (a==b&&s.toList==t.toList)) w:=by
 have hu:Tryz.prog.underlying 38=some (.struct (Tryz.prog.fieldsOf 38)):=by kernel_rfl
 have hp:Tryz.prog.stoodInHeld 38=false:=by kernel_rfl
 have hs:=Tryz.underlying5;have ha:=Tryz.isAgg5;have hs2:=Tryz.underlying9;have ha2:=Tryz.isAgg9;rw[run_eql_struct,run_equalIn_agg w 9999 _ _ _ hu hp,Vw];simp[Op.eqFields,go_sem,part,ha,ha2];by_cases h1:a=b<;>by_cases h2:s.toList=t.toList<;>simp[h1,h2]
theorem lu(w:World)(a:Int)(s:Str):(binOp .eql 38 (.agg #[.int .u8 a,.string s]) (.agg #[.int .u8 a,.string s])).run Tryz.prog w= .ok (.bool true) w:=by rw[acK];simp
theorem Nh{x:aQ}{q:dD}(h:wR x)(hq:q.roots.length<=40):agx x q (x.closure q.names):=by refine⟨by omega,by have:=h.packs;omega,fun p hp=>by have:=(h.all p hp).deps;omega,fun p hp=>by have:=(h.all p hp).cons;omega,?_,fun p hp=>(aQ.tX.1 hp).lt⟩;have:=x.Ap q.names;have:=h.packs;omega
theorem PZ{cs1 cs2 cs3:List Value}{x:aQ}{q:dD}{g:List aC}(h1:fO w.heap.size w cs1 x)(h2:mg w.heap.size w cs2 q)(h3:rU w.heap.size w cs3 g)(hL:Laid w)(hSh:w.ShapedOpen Tryz.prog):Calls Tryz.prog 3 #[.agg cs1.toArray,.agg cs2.toArray,.agg cs3.toArray] w fun e w'=>e= .returned (.bool true)/\O0 w w':=by
 obtain⟨a1,n1,c1,a2,n2,c2,rfl,-,-,-,-,N1,-,-⟩:=open_rec h1;obtain⟨a3,n3,c3,rfl,-,-,N3,-⟩:=lM h2;obtain⟨a4,n4,c4,rfl,-,-,N4,-⟩:=nH h3;try rw[N1.out]at h1
 have HX:=zh h1;have HQ:=zh h2;have hM:vK w:=vK.of hL hSh;have HM:=zh hM;obtain⟨v4,hv4,r4⟩:=h3;simp only[List.cons.injEq,and_true]at hv4;subst hv4;have HG0:=zh r4;obtain⟨W0,hW0,aV,jK,Il⟩:=zO w (.slice a1 n1 c1) (.slice a2 n2 c2) (.slice a3 n3 c3) (.slice a4 n4 c4) 25 28 31;have HG4:Hid (∀W,O0 W0 W->aS 4 dH W.heap.size W (.slice a4 n4 c4) g):=fun W hW=>(HG0.out.keep dH.keep (Kp.dV (aV.out.same hW))).lift dH.lift (aV.out.same hW).size (qH _);have amB:Hid (∀W,O0 W0 W->W.heap[w.heap.size+2]? =some (.cells #[.slice a4 n4 c4] 31 (0,0))):=fun W hW=>by have b:W0.heap[w.heap.size+2]? =some (.cells #[.slice a4 n4 c4] 31 (0,0)):=zCo;exact aA b hW (fun f=>f)
 have Vx:Hid (∀W,O0 W0 W->Calls Tryz.prog 10 #[] W (fun e w'=>e= .returned (.bool true)/\O0 W w')):=fun W hW=>Vt (HM.out.only (aV.out.same hW));have HGx:=zh (Yj (fO.keep HX.out (Kp.dV aV.out)));have HGq:Hid (∀W,O0 W0 W->Calls Tryz.prog 8 #[.agg #[.slice a3 n3 c3]] W fun e w'=>dG W w' e (q.roots.length<=40)):=fun W hW=>Yl (mg.keep HQ.out (Kp.dV (aV.out.same hW)));have hW0':=hW0.symm;clear hW0 h1 h2 r4 hL hSh hM;obtain⟨k0,k1,k2,k3⟩:=Il.out W0 zr;go_enter Tryz.func3,Tryz.ntmps3;go_wp2_with fail;clear hW0';clear k0 k1 k2 k3;refine HGx.out.mono ?_;rintro e w1 ⟨b1,rfl,hf1,O1⟩;have aI:=zh O1;have HF1:=zh hf1;clear O1 hf1 HGx;obtain⟨k0,k1,k2,k3⟩:=Il.out w1 aI.out;cases b1 with
 |true=>go_wp2_with fail;refine(Vx.out w1 aI.out).mono ?_;rintro e w99 ⟨rfl,O99⟩;have ZM:=zh ((aI.out).same O99);exact zFT
 |false=>
  have HSx:Hid (wR x):=HF1.out rfl;go_wp2_with fail;clear k0 k1 k2 k3;refine(HGq.out w1 aI.out).mono ?_;rintro e w2 ⟨b2,rfl,hf2,O2⟩;have eF:=zh (aI.out.same O2);have HF2:=zh hf2;clear O2 hf2 HGq;obtain⟨k0,k1,k2,k3⟩:=Il.out w2 eF.out;cases b2 with
  |true=>go_wp2_with fail;refine(Vx.out w2 eF.out).mono ?_;rintro e w99 ⟨rfl,O99⟩;have ZM:=zh ((eF.out).same O99);exact zFT
  |false=>
   have HSq:Hid (q.roots.length<=40):=HF2.out rfl;go_wp2_with fail;clear k0 k1 k2 k3;refine(afd (HG4.out w2 eF.out)).mono ?_;rintro e w3 ⟨b3,rfl,O3,hf3⟩;have kD:=zh (eF.out.same O3);have HF3:=zh hf3;clear O3 hf3;obtain⟨k0,k1,k2,k3⟩:=Il.out w3 kD.out;cases b3 with
   |true=>exact zHN
   |false=>
    have HSg:Hid (H7 g):=HF3.out rfl;by_cases c8:8<n1;·have t8:decide ((8:Int)<(n1:Int))=true:=qX zAA;exact zHN
    have t8:decide ((8:Int)<(n1:Int))=false:=qP zAA;go_wp2_with fail;clear k0 k1 k2 k3;refine(aht (HG4.out w3 kD.out) HSg.out).mono ?_;rintro e w6 ⟨t,rfl,ht,O6⟩;have Gz:=zh (kD.out.same O6);have HTx:=zh ht;have hts:=ZH HSg.out ht;have HAg:Hid (Calls Tryz.prog 12 #[.agg #[.slice a1 n1 c1,.slice a2 n2 c2],.agg #[.slice a3 n3 c3],.string t] w6 fun e w'=>TI x q t w6 w' e):=by have o:=aV.out.same Gz.out;exact ahA (fO.keep HX.out (Kp.dV o)) (mg.keep HQ.out (Kp.dV o)) t zAA (HM.out.only o) o.size HSx.out (by have:=HSq.out;omega)
    have U6:Hid (∀W,O0 W0 W->Calls Tryz.prog 13 #[.agg #[.slice a1 n1 c1,.slice a2 n2 c2]] W fun e w'=>iL x.okB W w' e):=fun W hW=>abT (fO.keep HX.out (Kp.dV (aV.out.same hW))) zBb;have JG:Hid (∀W,O0 W0 W->Calls Tryz.prog 14 #[.agg #[.slice a1 n1 c1,.slice a2 n2 c2],.agg #[.slice a3 n3 c3]] W fun e w'=>iL (q.okB x) W w' e):=fun W hW=>Zd (fO.keep HX.out (Kp.dV (aV.out.same hW))) (mg.keep HQ.out (Kp.dV (aV.out.same hW))) zBb;have HRp:Hid (∀W,Calls Tryz.prog 16 #[.string t] W (fun e w'=>fH t W w' e)):=fun W=>afL t zAA;clear O6 ht hts t8;obtain⟨k0,k1,k2,k3⟩:=Il.out w6 Gz.out;go_wp2_with fail;clear k0 k1 k2 k3;refine HAg.out.mono ?_;rintro e w7 ⟨gv,c,s,er,rfl,O7,hm⟩;have pz:=zh (Gz.out.same O7);clear O7 HAg;by_cases hok:x.okB=true/\q.okB x=true
    ·have aZ:=zh hok;rw[if_pos hok]at hm;clear hok;cases hp:Lk.eG t.toList with
     |error k=>
      rw[hp]at hm;have sJ:=zh hp;clear hp;have Ju:Lk.dL (fM g)=false:=by
       cases h:Lk.dL (fM g)with
       |false=>rfl
       |true=>have h2:=Lk.Di h;rw[<-HTx.out,sJ.out]at h2;cases h2
      have Bo:=zh Ju;obtain⟨rfl,rfl,rfl,rfl⟩:=hm;clear Ju;obtain⟨w8,hw8⟩:=ze ((w7.alloc (.cells #[.slice none 0 0] 31)).alloc (.cells #[.int .u8 0,.string ByteArray.empty] 38));have o8:O0 w7 w8:=zBo;have hb8:w8.heap[w7.heap.size]? =some (.cells #[.slice none 0 0] 31 (0,0)):=zB3;have ZN:w8.heap[w7.heap.size+1]? =some (.cells #[.int .u8 0,.string ByteArray.empty] 38 (0,0)):=zCv;have uH:Hid (O0 W0 w8):=pz.out.same o8;have ahC:Hid (O0 w7 w8):=o8;have Q8:Hid (∀W,O0 w8 W->W.cell? ⟨w7.heap.size,0,none⟩=some (.slice none 0 0)/\W.cell? ⟨w7.heap.size+1,0,none⟩=some (.int .u8 0)/\W.cell? ⟨w7.heap.size+1,1,none⟩=some (.string ByteArray.empty)):=fun W hW=>by exact zEJ
      have Jo:=zh (And.intro hb8 ZN);clear o8 hb8 ZN;obtain⟨k0,k1,k2,k3⟩:=Il.out w8 uH.out;go_wp2_with fail;clear hw8;clear k0 k1 k2 k3;rw[aZ.out.1]at U6;rw[aZ.out.2]at JG;refine(U6.out w8 uH.out).mono ?_;rintro e w9 ⟨cr,lr,rfl,hcr,O9⟩;have hf9:=fun W:World=>vM (.int .u8 cr) (.int .i64 lr) W;have Vy:=zh O9;have fK:=zh (uH.out.same O9);clear O9;obtain⟨k0,k1,k2,k3⟩:=Il.out w9 fK.out;have hne:(cr != 0)=false:=by exact zFg
      clear hcr;go_wp2_with fail;clear k0 k1 k2 k3;refine(JG.out w9 fK.out).mono ?_;rintro e w10 ⟨cq,lq,rfl,hcq,Qy⟩;have acL:=fun W:World=>vM (.int .u8 cq) (.int .i64 lq) W;have Jv:=zh (Vy.out.same Qy);have uY:=zh (fK.out.same Qy);clear Qy hne;obtain⟨k0,k1,k2,k3⟩:=Il.out w10 uY.out;have hne:(cq != 0)=false:=by exact zGD
      clear hcq;go_wp2_with fail;clear k0 k1 k2 k3;clear hne hf9 acL;refine(yB (HG4.out w10 uY.out) false Bo.out).mono ?_;rintro e DV ⟨rfl,Vz⟩;have G7:=zh (Jv.out.same Vz);have CJ:=zh (uY.out.same Vz);clear Vz;obtain⟨k0,k1,k2,k3⟩:=Il.out DV CJ.out;go_wp2_with fail;clear k0 k1 k2 k3;refine(HRp.out DV).mono ?_;rintro e w12 ⟨ao,n,cc,ln,rfl,O12,hm⟩;rw[sJ.out]at hm;obtain⟨rfl,hk0⟩:=hm;have XW:=zh (G7.out.same O12);have J3:=zh (CJ.out.same O12);clear O12;obtain⟨Eu,P5⟩:∃W,w12.alloc (.cells #[.slice ao n cc,.int .i64 (k:Int)] 47)=W:=⟨_,rfl⟩;have P6:Eu.heap[w12.heap.size]? =some (.cells #[.slice ao n cc,.int .i64 (k:Int)] 47 (0,0)):=by rw[<-P5];exact qL w12 _
      have Bq:Hid (O0 w12 Eu):=zCe;have TJ:Hid (O0 w8 Eu):=XW.out.same Bq.out;have CB:Hid (O0 W0 Eu):=J3.out.same Bq.out;have q0:Eu.cell? ⟨w12.heap.size,0,none⟩=some (.slice ao n cc):=zCN;have q1:Eu.cell? ⟨w12.heap.size,1,none⟩=some (.int .i64 (k:Int)):=zCN;clear P6;have t0:decide ((0:Int)<(k:Int))=true:=qX zAA;go_wp2_with fail;clear P5 q0 q1;refine(Vx.out Eu CB.out).mono ?_;rintro e w20 ⟨rfl,O20⟩;have MI:=zh ((CB.out).same O20);obtain⟨b0,b1,b2⟩:=Q8.out w20 ((TJ.out).same O20);exact zFP
     |ok G=>
      rw[hp]at hm;have sJ:=zh hp;obtain⟨h,hG,hm⟩:=hm;have HGe:=zh hG;have hgB:=(Lk.NR hp).1;rw[<-hG]at hgB;have HSh:=zh (XV hgB);obtain⟨c',s',hcb⟩:∃c s,dB (jv x q h)=(c,s):=⟨_,_,rfl⟩;rw[hcb]at hm;dsimp only at hm;clear hp hG hgB;by_cases hc0:c'=0
      ·subst hc0;rw[if_pos rfl]at hm;obtain⟨rfl,rfl,rfl,hR⟩:=hm;obtain rfl:s'=ByteArray.empty:=by have h0:=nK (l:=jv x q h) (by simp[jv]) (by rw[hcb]);rw[hcb]at h0;exact congrArg Prod.snd h0
       have HCb:=zh hcb;have hr:=hR w7 zr;obtain⟨ah,ch,rfl,-,-⟩:=hr.shape;obtain⟨nh,hnh⟩:=ze h.length;rw[hnh]at hR⊢;have apX:Hid (∀W,Only (fun k=>k<W0.heap.size) w7 W->aS 4 dH W.heap.size W (.slice ah nh ch) h):=fun W hW=>hR W (hW.mono fun k hk=>Nat.lt_of_lt_of_le hk Gz.out.size);clear hcb hr hR hnh;obtain⟨w8,hw8⟩:=ze ((w7.alloc (.cells #[.slice ah nh ch] 31)).alloc (.cells #[.int .u8 0,.string ByteArray.empty] 38));have o8:O0 w7 w8:=zBo;have hb8:w8.heap[w7.heap.size]? =some (.cells #[.slice ah nh ch] 31 (0,0)):=zB3;have ZN:w8.heap[w7.heap.size+1]? =some (.cells #[.int .u8 0,.string ByteArray.empty] 38 (0,0)):=zCv;have uH:Hid (O0 W0 w8):=pz.out.same o8;have ahC:Hid (O0 w7 w8):=o8;have Q8:Hid (∀W,O0 w8 W->W.cell? ⟨w7.heap.size,0,none⟩=some (.slice ah nh ch)/\W.cell? ⟨w7.heap.size+1,0,none⟩=some (.int .u8 0)/\W.cell? ⟨w7.heap.size+1,1,none⟩=some (.string ByteArray.empty)):=fun W hW=>by exact zEJ
       have Jo:=zh (And.intro hb8 ZN);clear o8 hb8 ZN;obtain⟨k0,k1,k2,k3⟩:=Il.out w8 uH.out;go_wp2_with fail;clear hw8;clear k0 k1 k2 k3;have oG:Hid (∀W,Only (fun k=>k<W0.heap.size) w8 W->aS 4 dH W.heap.size W (.slice ah nh ch) h):=fun W hW=>apX.out W ((ahC.out.mono fun _ f=>f.elim).same hW);rw[aZ.out.1]at U6;rw[aZ.out.2]at JG;refine(U6.out w8 uH.out).mono ?_;rintro e w9 ⟨cr,lr,rfl,hcr,O9⟩;have hf9:=fun W:World=>vM (.int .u8 cr) (.int .i64 lr) W;have Vy:=zh O9;have fK:=zh (uH.out.same O9);clear O9;obtain⟨k0,k1,k2,k3⟩:=Il.out w9 fK.out;have hne:(cr != 0)=false:=by exact zFg
       clear hcr;go_wp2_with fail;clear k0 k1 k2 k3;refine(JG.out w9 fK.out).mono ?_;rintro e w10 ⟨cq,lq,rfl,hcq,Qy⟩;have acL:=fun W:World=>vM (.int .u8 cq) (.int .i64 lq) W;have Jv:=zh (Vy.out.same Qy);have uY:=zh (fK.out.same Qy);clear Qy hne;obtain⟨k0,k1,k2,k3⟩:=Il.out w10 uY.out;have hne:(cq != 0)=false:=by exact zGD
       clear hcq;go_wp2_with fail;clear k0 k1 k2 k3;clear hne hf9 acL;cases Ju:Lk.dL (fM g)with
       |true=>
        have Bo:=zh Ju;obtain rfl:h=g:=IX (by
         have h2:=Lk.Di Ju
         rw[<-HTx.out,sJ.out]at h2
         cases h2
         exact HGe.out)
        clear Ju;refine(yB (HG4.out w10 uY.out) true Bo.out).mono ?_;rintro e DV ⟨rfl,Vz⟩;have G7:=zh (Jv.out.same Vz);have CJ:=zh (uY.out.same Vz);clear Vz;obtain⟨k0,k1,k2,k3⟩:=Il.out DV CJ.out;clear k0 k1 k2 k3;have YS:Hid (∀W,O0 DV W->O0 w W):=fun W hW=>aV.out.same (CJ.out.same hW);have HBc:Hid (∀W,O0 DV W->W.cell? ⟨w.heap.size,0,none⟩=some (.slice a1 n1 c1)/\W.cell? ⟨w.heap.size,1,none⟩=some (.slice a2 n2 c2)/\W.cell? ⟨w.heap.size+1,0,none⟩=some (.slice a3 n3 c3)/\W.cell? ⟨w.heap.size+2,0,none⟩=some (.slice a4 n4 c4)):=fun W hW=>Il.out W (CJ.out.same hW);have OC:Hid (∀W,O0 DV W->W.cell? ⟨w7.heap.size,0,none⟩=some (.slice ah nh ch)/\W.cell? ⟨w7.heap.size+1,0,none⟩=some (.int .u8 0)/\W.cell? ⟨w7.heap.size+1,1,none⟩=some (.string ByteArray.empty)):=fun W hW=>Q8.out W (G7.out.same hW);have HFc:Hid (∀W,O0 DV W->Calls Tryz.prog 10 #[] W (fun e w'=>e= .returned (.bool true)/\O0 W w')):=fun W hW=>Vx.out W (CJ.out.same hW);have HRh:Hid (∀W,O0 DV W->aS 4 dH W.heap.size W (.slice a4 n4 c4) h):=fun W hW=>HG4.out W (CJ.out.same hW);have HRg:Hid (∀W,O0 DV W->aS 4 dH W.heap.size W (.slice ah nh ch) h):=fun W hW=>oG.out W ((G7.out.same hW).mono fun _ f=>f.elim);have FW:Hid (Calls Tryz.prog 17 #[.agg #[.slice a1 n1 c1,.slice a2 n2 c2],.agg #[.slice a3 n3 c3],.agg #[.slice a4 n4 c4]] DV fun e w'=>e= .returned (.agg #[.int .u8 0,.string ByteArray.empty])/\O0 DV w'):=by exact zEk
        obtain⟨k0,k1,k2,k3⟩:=HBc.out DV zr;go_wp2_with fail;clear k0 k1 k2 k3;refine FW.out.mono ?_;rintro e P7 ⟨rfl,O30⟩;obtain⟨P8,Ii⟩:=ze (P7.alloc (.cells #[.int .u8 0,.string ByteArray.empty] 38));have P9:P8.heap[P7.heap.size]? =some (.cells #[.int .u8 0,.string ByteArray.empty] 38 (0,0)):=zCK;have Qa:Hid (O0 DV P8):=zCD;exact zDp
       |false=>
        have Bo:=zh Ju;clear Ju;refine(yB (HG4.out w10 uY.out) false Bo.out).mono ?_;rintro e DV ⟨rfl,Vz⟩;have G7:=zh (Jv.out.same Vz);have CJ:=zh (uY.out.same Vz);clear Vz;obtain⟨k0,k1,k2,k3⟩:=Il.out DV CJ.out;go_wp2_with fail;clear k0 k1 k2 k3;refine(HRp.out DV).mono ?_;rintro e w12 ⟨ao,n,cc,ln,rfl,O12,hm⟩;rw[sJ.out]at hm;obtain⟨rfl,L,hLG,hRS⟩:=hm;have HRS:=zh hRS;have HLx:Hid (L.map LN.x=h):=IX (hLG.trans HGe.out.symm);clear hRS hLG;have XW:=zh (G7.out.same O12);have J3:=zh (CJ.out.same O12);clear O12;obtain⟨Eu,P5⟩:=ze (w12.alloc (.cells #[.slice ao n cc,.int .i64 0] 47));have P6:Eu.heap[w12.heap.size]? =some (.cells #[.slice ao n cc,.int .i64 0] 47 (0,0)):=by rw[<-P5];exact qL w12 _
        have Bq:Hid (O0 w12 Eu):=zCe;have TJ:Hid (O0 w8 Eu):=XW.out.same Bq.out;have CB:Hid (O0 W0 Eu):=J3.out.same Bq.out;have q0:Eu.cell? ⟨w12.heap.size,0,none⟩=some (.slice ao n cc):=zCN;have q1:Eu.cell? ⟨w12.heap.size,1,none⟩=some (.int .i64 0):=zCN;clear P6;have hb3:=amB.out Eu CB.out;have c5:Eu.cell? ⟨w.heap.size+2,0,none⟩=some (.slice a4 n4 c4):=by rw[aj hb3];rfl
        have f5:Eu.frozen? ⟨w.heap.size+2,0,none⟩=false:=by simp[World.frozen?,hb3]
        obtain⟨WC,hWC⟩:=ze (Eu.setCell ⟨w.heap.size+2,0,none⟩ (.slice ao n cc));have oC:Only (fun k=>k=w.heap.size+2) Eu WC:=zBm;have hbC:WC.heap[w.heap.size+2]? =some (.cells #[.slice ao n cc] 31 (0,0)):=by rw[<-hWC];exact heap_setCell_box_a _ hb3
        have oCw:O0 w WC:=(aV.out.same CB.out).trans oC fun k hk=>.inr zAA;have YS:Hid (∀W,O0 WC W->O0 w W):=fun W hW=>oCw.same hW;have hlt3:w.heap.size+2<W0.heap.size:=zBZ;have HBc:Hid (∀W,O0 WC W->W.cell? ⟨w.heap.size,0,none⟩=some (.slice a1 n1 c1)/\W.cell? ⟨w.heap.size,1,none⟩=some (.slice a2 n2 c2)/\W.cell? ⟨w.heap.size+1,0,none⟩=some (.slice a3 n3 c3)/\W.cell? ⟨w.heap.size+2,0,none⟩=some (.slice ao n cc)):=fun W hW=>by exact zFV
        have OC:Hid (∀W,O0 WC W->W.cell? ⟨w7.heap.size,0,none⟩=some (.slice ah nh ch)/\W.cell? ⟨w7.heap.size+1,0,none⟩=some (.int .u8 0)/\W.cell? ⟨w7.heap.size+1,1,none⟩=some (.string ByteArray.empty)):=fun W hW=>by exact zFh
        have HFc:Hid (∀W,O0 WC W->Calls Tryz.prog 10 #[] W (fun e w'=>e= .returned (.bool true)/\O0 W w')):=fun W hW=>Vt (HM.out.only (YS.out W hW));have HRh:Hid (∀W,O0 WC W->aS 4 dH W.heap.size W (.slice ao n cc) h):=fun W hW=>by exact zGb
        have HRg:Hid (∀W,O0 WC W->aS 4 dH W.heap.size W (.slice ah nh ch) h):=fun W hW=>oG.out W (((TJ.out.mono fun _ f=>f.elim).same (oC.mono fun k hk=>by rw[hk];exact hlt3)).same (hW.mono fun _ f=>f.elim));clear oC hbC oCw hb3 hlt3;subst P5;have FW:Hid (Calls Tryz.prog 17 #[.agg #[.slice a1 n1 c1,.slice a2 n2 c2],.agg #[.slice a3 n3 c3],.agg #[.slice ao n cc]] WC fun e w'=>e= .returned (.agg #[.int .u8 0,.string ByteArray.empty])/\O0 WC w'):=by exact zEl
        obtain⟨k0,k1,k2,k3⟩:=HBc.out WC zr;go_wp2_with fail;clear k0 k1 k2 k3;refine FW.out.mono ?_;rintro e P7 ⟨rfl,O30⟩;obtain⟨P8,Ii⟩:=ze (P7.alloc (.cells #[.int .u8 0,.string ByteArray.empty] 38));have P9:P8.heap[P7.heap.size]? =some (.cells #[.int .u8 0,.string ByteArray.empty] 38 (0,0)):=zCK;have Qa:Hid (O0 WC P8):=zCD;exact zDp
      rw[if_neg hc0]at hm;obtain⟨rfl,rfl,rfl,rfl⟩:=hm;have HCb:=zh hcb;clear hcb;obtain⟨w8,hw8⟩:=ze ((w7.alloc (.cells #[.slice none 0 0] 31)).alloc (.cells #[.int .u8 c,.string s] 38));have o8:O0 w7 w8:=zBo;have hb8:w8.heap[w7.heap.size]? =some (.cells #[.slice none 0 0] 31 (0,0)):=zB3;have ZN:w8.heap[w7.heap.size+1]? =some (.cells #[.int .u8 c,.string s] 38 (0,0)):=zCv;have uH:Hid (O0 W0 w8):=pz.out.same o8;have ahC:Hid (O0 w7 w8):=o8;have Q8:Hid (∀W,O0 w8 W->W.cell? ⟨w7.heap.size,0,none⟩=some (.slice none 0 0)/\W.cell? ⟨w7.heap.size+1,0,none⟩=some (.int .u8 c)/\W.cell? ⟨w7.heap.size+1,1,none⟩=some (.string s)):=fun W hW=>by exact zEJ
      have Jo:=zh (And.intro hb8 ZN);clear o8 hb8 ZN;obtain⟨k0,k1,k2,k3⟩:=Il.out w8 uH.out;go_wp2_with fail;clear hw8;clear k0 k1 k2 k3;rw[aZ.out.1]at U6;rw[aZ.out.2]at JG;refine(U6.out w8 uH.out).mono ?_;rintro e w9 ⟨cr,lr,rfl,hcr,O9⟩;have hf9:=fun W:World=>vM (.int .u8 cr) (.int .i64 lr) W;have Vy:=zh O9;have fK:=zh (uH.out.same O9);clear O9;obtain⟨k0,k1,k2,k3⟩:=Il.out w9 fK.out;have hne:(cr != 0)=false:=by exact zFg
      clear hcr;go_wp2_with fail;clear k0 k1 k2 k3;refine(JG.out w9 fK.out).mono ?_;rintro e w10 ⟨cq,lq,rfl,hcq,Qy⟩;have acL:=fun W:World=>vM (.int .u8 cq) (.int .i64 lq) W;have Jv:=zh (Vy.out.same Qy);have uY:=zh (fK.out.same Qy);clear Qy hne;obtain⟨k0,k1,k2,k3⟩:=Il.out w10 uY.out;have hne:(cq != 0)=false:=by exact zGD
      clear hcq;go_wp2_with fail;clear k0 k1 k2 k3;clear hne hf9 acL;cases Ju:Lk.dL (fM g)with
      |true=>
       have Bo:=zh Ju;obtain rfl:h=g:=IX (by
        have h2:=Lk.Di Ju
        rw[<-HTx.out,sJ.out]at h2
        cases h2
        exact HGe.out)
       clear Ju;refine(yB (HG4.out w10 uY.out) true Bo.out).mono ?_;rintro e DV ⟨rfl,Vz⟩;have G7:=zh (Jv.out.same Vz);have CJ:=zh (uY.out.same Vz);clear Vz;obtain⟨k0,k1,k2,k3⟩:=Il.out DV CJ.out;clear k0 k1 k2 k3;have YS:Hid (∀W,O0 DV W->O0 w W):=fun W hW=>aV.out.same (CJ.out.same hW);have HBc:Hid (∀W,O0 DV W->W.cell? ⟨w.heap.size,0,none⟩=some (.slice a1 n1 c1)/\W.cell? ⟨w.heap.size,1,none⟩=some (.slice a2 n2 c2)/\W.cell? ⟨w.heap.size+1,0,none⟩=some (.slice a3 n3 c3)/\W.cell? ⟨w.heap.size+2,0,none⟩=some (.slice a4 n4 c4)):=fun W hW=>Il.out W (CJ.out.same hW);have OC:Hid (∀W,O0 DV W->W.cell? ⟨w7.heap.size,0,none⟩=some (.slice none 0 0)/\W.cell? ⟨w7.heap.size+1,0,none⟩=some (.int .u8 c)/\W.cell? ⟨w7.heap.size+1,1,none⟩=some (.string s)):=fun W hW=>Q8.out W (G7.out.same hW);have HFc:Hid (∀W,O0 DV W->Calls Tryz.prog 10 #[] W (fun e w'=>e= .returned (.bool true)/\O0 W w')):=fun W hW=>Vx.out W (CJ.out.same hW);have HRh:Hid (∀W,O0 DV W->aS 4 dH W.heap.size W (.slice a4 n4 c4) h):=fun W hW=>HG4.out W (CJ.out.same hW);have FW:Hid (Calls Tryz.prog 17 #[.agg #[.slice a1 n1 c1,.slice a2 n2 c2],.agg #[.slice a3 n3 c3],.agg #[.slice a4 n4 c4]] DV fun e w'=>e= .returned (.agg #[.int .u8 c,.string s])/\O0 DV w'):=by exact zEk
       obtain⟨k0,k1,k2,k3⟩:=HBc.out DV zr;go_wp2_with fail;clear k0 k1 k2 k3;refine FW.out.mono ?_;rintro e P7 ⟨rfl,O30⟩;obtain⟨P8,Ii⟩:=ze (P7.alloc (.cells #[.int .u8 c,.string s] 38));have P9:P8.heap[P7.heap.size]? =some (.cells #[.int .u8 c,.string s] 38 (0,0)):=zCK;have Qa:Hid (O0 DV P8):=zCD;exact zDs
      |false=>
       have Bo:=zh Ju;clear Ju;refine(yB (HG4.out w10 uY.out) false Bo.out).mono ?_;rintro e DV ⟨rfl,Vz⟩;have G7:=zh (Jv.out.same Vz);have CJ:=zh (uY.out.same Vz);clear Vz;obtain⟨k0,k1,k2,k3⟩:=Il.out DV CJ.out;go_wp2_with fail;clear k0 k1 k2 k3;refine(HRp.out DV).mono ?_;rintro e w12 ⟨ao,n,cc,ln,rfl,O12,hm⟩;rw[sJ.out]at hm;obtain⟨rfl,L,hLG,hRS⟩:=hm;have HRS:=zh hRS;have HLx:Hid (L.map LN.x=h):=IX (hLG.trans HGe.out.symm);clear hRS hLG;have XW:=zh (G7.out.same O12);have J3:=zh (CJ.out.same O12);clear O12;obtain⟨Eu,P5⟩:=ze (w12.alloc (.cells #[.slice ao n cc,.int .i64 0] 47));have P6:Eu.heap[w12.heap.size]? =some (.cells #[.slice ao n cc,.int .i64 0] 47 (0,0)):=by rw[<-P5];exact qL w12 _
       have Bq:Hid (O0 w12 Eu):=zCe;have TJ:Hid (O0 w8 Eu):=XW.out.same Bq.out;have CB:Hid (O0 W0 Eu):=J3.out.same Bq.out;have q0:Eu.cell? ⟨w12.heap.size,0,none⟩=some (.slice ao n cc):=zCN;have q1:Eu.cell? ⟨w12.heap.size,1,none⟩=some (.int .i64 0):=zCN;clear P6;have hb3:=amB.out Eu CB.out;have c5:Eu.cell? ⟨w.heap.size+2,0,none⟩=some (.slice a4 n4 c4):=by rw[aj hb3];rfl
       have f5:Eu.frozen? ⟨w.heap.size+2,0,none⟩=false:=by simp[World.frozen?,hb3]
       obtain⟨WC,hWC⟩:=ze (Eu.setCell ⟨w.heap.size+2,0,none⟩ (.slice ao n cc));have oC:Only (fun k=>k=w.heap.size+2) Eu WC:=zBm;have hbC:WC.heap[w.heap.size+2]? =some (.cells #[.slice ao n cc] 31 (0,0)):=by rw[<-hWC];exact heap_setCell_box_a _ hb3
       have oCw:O0 w WC:=(aV.out.same CB.out).trans oC fun k hk=>.inr zAA;have YS:Hid (∀W,O0 WC W->O0 w W):=fun W hW=>oCw.same hW;have hlt3:w.heap.size+2<W0.heap.size:=zBZ;have HBc:Hid (∀W,O0 WC W->W.cell? ⟨w.heap.size,0,none⟩=some (.slice a1 n1 c1)/\W.cell? ⟨w.heap.size,1,none⟩=some (.slice a2 n2 c2)/\W.cell? ⟨w.heap.size+1,0,none⟩=some (.slice a3 n3 c3)/\W.cell? ⟨w.heap.size+2,0,none⟩=some (.slice ao n cc)):=fun W hW=>by exact zFV
       have OC:Hid (∀W,O0 WC W->W.cell? ⟨w7.heap.size,0,none⟩=some (.slice none 0 0)/\W.cell? ⟨w7.heap.size+1,0,none⟩=some (.int .u8 c)/\W.cell? ⟨w7.heap.size+1,1,none⟩=some (.string s)):=fun W hW=>by exact zFh
       have HFc:Hid (∀W,O0 WC W->Calls Tryz.prog 10 #[] W (fun e w'=>e= .returned (.bool true)/\O0 W w')):=fun W hW=>Vt (HM.out.only (YS.out W hW));have HRh:Hid (∀W,O0 WC W->aS 4 dH W.heap.size W (.slice ao n cc) h):=fun W hW=>by exact zGb
       clear oC hbC oCw hb3 hlt3;subst P5;have FW:Hid (Calls Tryz.prog 17 #[.agg #[.slice a1 n1 c1,.slice a2 n2 c2],.agg #[.slice a3 n3 c3],.agg #[.slice ao n cc]] WC fun e w'=>e= .returned (.agg #[.int .u8 c,.string s])/\O0 WC w'):=by exact zEl
       obtain⟨k0,k1,k2,k3⟩:=HBc.out WC zr;go_wp2_with fail;clear k0 k1 k2 k3;refine FW.out.mono ?_;rintro e P7 ⟨rfl,O30⟩;obtain⟨P8,Ii⟩:=ze (P7.alloc (.cells #[.int .u8 c,.string s] 38));have P9:P8.heap[P7.heap.size]? =some (.cells #[.int .u8 c,.string s] 38 (0,0)):=zCK;have Qa:Hid (O0 WC P8):=zCD;exact zDs
    rw[if_neg hok]at hm;obtain⟨rfl,rfl,rfl,rfl⟩:=hm;obtain⟨w8,hw8⟩:=ze ((w7.alloc (.cells #[.slice none 0 0] 31)).alloc (.cells #[.int .u8 0,.string ByteArray.empty] 38));have o8:O0 w7 w8:=zBo;have hb8:w8.heap[w7.heap.size]? =some (.cells #[.slice none 0 0] 31 (0,0)):=zB3;have ZN:w8.heap[w7.heap.size+1]? =some (.cells #[.int .u8 0,.string ByteArray.empty] 38 (0,0)):=zCv;have uH:Hid (O0 W0 w8):=pz.out.same o8;have ahC:Hid (O0 w7 w8):=o8;have Q8:Hid (∀W,O0 w8 W->W.cell? ⟨w7.heap.size,0,none⟩=some (.slice none 0 0)/\W.cell? ⟨w7.heap.size+1,0,none⟩=some (.int .u8 0)/\W.cell? ⟨w7.heap.size+1,1,none⟩=some (.string ByteArray.empty)):=fun W hW=>by exact zEJ
    have Jo:=zh (And.intro hb8 ZN);clear o8 hb8 ZN;obtain⟨k0,k1,k2,k3⟩:=Il.out w8 uH.out;go_wp2_with fail;clear hw8;clear k0 k1 k2 k3;by_cases ho1:x.okB=true
    ·have ho2:q.okB x=false:=by
      cases h:q.okB x with
      |false=>rfl
      |true=>exact absurd ⟨ho1,h⟩ hok
     rw[ho1]at U6;rw[ho2]at JG;refine(U6.out w8 uH.out).mono ?_;rintro e w9 ⟨cr,lr,rfl,hcr,O9⟩;have hf9:=fun W:World=>vM (.int .u8 cr) (.int .i64 lr) W;have Vy:=zh O9;have fK:=zh (uH.out.same O9);clear O9;obtain⟨k0,k1,k2,k3⟩:=Il.out w9 fK.out;have hne:(cr != 0)=false:=by exact zFg
     clear hcr;go_wp2_with fail;clear k0 k1 k2 k3;refine(JG.out w9 fK.out).mono ?_;rintro e w10 ⟨cq,lq,rfl,hcq,Qy⟩;have acL:=fun W:World=>vM (.int .u8 cq) (.int .i64 lq) W;have Jv:=zh (Vy.out.same Qy);have uY:=zh (fK.out.same Qy);clear Qy hne;obtain⟨k0,k1,k2,k3⟩:=Il.out w10 uY.out;have hne:(cq != 0)=true:=by have h:cq≠0:=of_decide_eq_false hcq;simpa using h
     clear hcq;go_wp2_with fail;clear k0 k1 k2 k3;refine(Vx.out w10 uY.out).mono ?_;rintro e w20 ⟨rfl,O20⟩;have MI:=zh ((uY.out).same O20);obtain⟨b0,b1,b2⟩:=Q8.out w20 ((Jv.out).same O20);exact zFP
    have ap0:x.okB=false:=by simpa using ho1
    rw[ap0]at U6;refine(U6.out w8 uH.out).mono ?_;rintro e w9 ⟨cr,lr,rfl,hcr,O9⟩;have hf9:=fun W:World=>vM (.int .u8 cr) (.int .i64 lr) W;have Vy:=zh O9;have fK:=zh (uH.out.same O9);clear O9;obtain⟨k0,k1,k2,k3⟩:=Il.out w9 fK.out;have hne:(cr != 0)=true:=by have h:cr≠0:=of_decide_eq_false hcr;simpa using h
    clear hcr;go_wp2_with fail;clear k0 k1 k2 k3;refine(Vx.out w9 fK.out).mono ?_;rintro e w20 ⟨rfl,O20⟩;have MI:=zh ((fK.out).same O20);obtain⟨b0,b1,b2⟩:=Q8.out w20 ((Vy.out).same O20);exact zFP
end
end Go.Proofs.YtdmmebjjojimiaaGreatDoor
namespace Go.Proofs.YtdmmebjjojimiaaGreatDoor
open Go.RowKit Go.Deep Go.ChangeShapes Go.WideShapes Go.ChangeAt
theorem xA:Tryz.prog.cellsOf 3=1:=by kernel_rfl
end Go.Proofs.YtdmmebjjojimiaaGreatDoor
namespace Go.Proofs.YtdmmebjjojimiaaGreatDoor
open Go.RowKit
open Go.Deep
end Go.Proofs.YtdmmebjjojimiaaGreatDoor
