/- lock.Again, exact. Printed by gen_gwj.py. -/
import Derived.Test.YtdmmebjjojimiaaGreatDoorG38
import Derived.Test.YtdmmebjjojimiaaGreatDoorG43
set_option maxRecDepth 100000
set_option maxHeartbeats 8000000
set_option linter.all false
namespace Go.Proofs
theorem zA1{p:Prop}(h:p:=by show¬_;omega):p:=h
theorem zCq{p:Prop}(h:p:=by show¬_;omega):p:=h
theorem zD0{p:Prop}(h:p:=by
 have e:Tryz.f12.results= #[.cell 6 31,.cell 7 38,.tmp 8]:=rfl
 have l2:=run_loadVar_row (P:=Tryz.prog) _ R2 31 31 #[gv] (0,0) _ b2 Tryz.underlying31 rfl zk
 have l3:=run_loadVar_row (P:=Tryz.prog) _ R3 38 38 #[.int .u8 cc,.string bs] (0,0) _ b3 Tryz.underlying38 rfl zk
 have g2:T.tmps[6]?.getD undef= .pointer (some ⟨R2,0,none⟩):=zB0
 have g3:T.tmps[7]?.getD undef= .pointer (some ⟨R3,0,none⟩):=zCd
 have g4:T.tmps[8]?.getD undef= .int .i64 er:=by simpa using h4
 simp only[results,e]
 simp[Sem.run_bind,Result.andThen,g2,g3,g4,asAddr,l2,l3]):p:=h
theorem zFg{p:Prop}(h:p:=by
 have h:cr=0:=of_decide_eq_true hcr
 simp[h]):p:=h
theorem zGD{p:Prop}(h:p:=by
 have h:cq=0:=of_decide_eq_true hcq
 simp[h]):p:=h
end Go.Proofs
namespace Go.Proofs.YtdmmebjjojimiaaGreatDoor
open Go.RowKit
section
variable {w w':World} {B:Nat}
attribute [local irreducible] wpQuiet
theorem vM(u a:Value)(W:World):(Instr.field 43 (.agg #[u,a]) 0).run Tryz.prog W= .ok u W:=by unfold Instr.field;rw[Sem.run_bind,run_underlying Tryz.underlying43];simp[asAgg,part,isAgg]
def TI(x:aQ)(q:dD)(s:Str)(w w':World)(e:Ending):Prop:= ∃gv c bs er,e= .returned (.tuple #[.agg #[gv],.agg #[.int .u8 c,.string bs],.int .i64 er])/\O0 w w'/\
 if x.okB=true/\q.okB x=true then
  match Lk.eG s.toList with
  | .error _=>gv= .slice none 0 0/\c=0/\bs=ByteArray.empty/\er=2
  | .ok G=> ∃h,fM h=G/\if (dB (jv x q h)).1=0 then c=0/\bs=ByteArray.empty/\er=0/\(∀V,Only (fun k=>k<w.heap.size) w' V->aS 4 dH V.heap.size V gv h)else gv= .slice none 0 0/\c=(dB (jv x q h)).1/\bs=(dB (jv x q h)).2/\er=10
 else gv= .slice none 0 0/\c=0/\bs=ByteArray.empty/\er=3
theorem ZL{Q:Ending->World->Prop}{W:World}{R2 R3:Nat}{T:Act}{gv:Value}{cc er:Int}{bs:Str}(b2:W.heap[R2]? =some (.cells #[gv] 31 (0,0)))(b3:W.heap[R3]? =some (.cells #[.int .u8 cc,.string bs] 38 (0,0)))(h2:T.tmps.getD 6 undef= .pointer (some ⟨R2,0,none⟩))(h3:T.tmps.getD 7 undef= .pointer (some ⟨R3,0,none⟩))(h4:T.tmps.getD 8 undef= .int .i64 er)(hd:T.defers=[])(h:Q (.returned (.tuple #[.agg #[gv],.agg #[.int .u8 cc,.string bs],.int .i64 er])) W):bodyPost Tryz.prog Tryz.f12 Q Exit.ret T W:=by refine bodyPost_ret (v:=.tuple #[.agg #[gv],.agg #[.int .u8 cc,.string bs],.int .i64 er]) ?_ hd h;exact zD0
theorem Gs{Q:Ending->World->Prop}{W:World}{R2 R3:Nat}{T:Act}{c2 c3:Array Value}{gv:Value}{cc er:Int}{bs:Str}(hb2:W.heap[R2]? =some (.cells c2 31 (0,0)))(hb3:W.heap[R3]? =some (.cells c3 38 (0,0)))(hne:R2≠R3)(h2:T.tmps.getD 6 undef= .pointer (some ⟨R2,0,none⟩))(h3:T.tmps.getD 7 undef= .pointer (some ⟨R3,0,none⟩))(h4:T.tmps.getD 8 undef= .int .i64 er)(hd:T.defers=[])(h:Q (.returned (.tuple #[.agg #[gv],.agg #[.int .u8 cc,.string bs],.int .i64 er])) ((W.setRow R2 #[gv]).setRow R3 #[.int .u8 cc,.string bs])):bodyPost Tryz.prog Tryz.f12 Q Exit.ret T ((W.setRow R2 #[gv]).setRow R3 #[.int .u8 cc,.string bs]):=by refine bodyPost_ret (v:=.tuple #[.agg #[gv],.agg #[.int .u8 cc,.string bs],.int .i64 er]) ?_ hd h;have a2:=setRow_heap W R2 c2 #[gv] 31 (0,0) hb2;have a3:(W.setRow R2 #[gv]).heap[R3]? =some (.cells c3 38 (0,0)):=((cZ W R2 #[gv]).block R3 (yA.1 hb3).1 (fun e=>hne e.symm)).trans hb3;have b3:=setRow_heap (W.setRow R2 #[gv]) R3 c3 #[.int .u8 cc,.string bs] 38 (0,0) a3;have b2:((W.setRow R2 #[gv]).setRow R3 #[.int .u8 cc,.string bs]).heap[R2]? =some (.cells #[gv] 31 (0,0)):=((cZ (W.setRow R2 #[gv]) R3 #[.int .u8 cc,.string bs]).block R2 (yA.1 a2).1 hne).trans a2;exact zD0
theorem Gt{W0 W:World}{R:Nat}{c2 c3:Array Value}(hR:W0.heap.size=R)(h:O0 W0 W):O0 W0 ((W.setRow R c2).setRow (R+1) c3):=(h.trans (cZ W R c2) fun k hk=>.inr zCj).trans (cZ _ (R+1) c3) fun k hk=>.inr zAA
theorem ahA{lC:List Value}{x:aQ}(hx:fO B w lC x){Ba:List Value}{q:dD}(hq:mg B w Ba q)(s:Str)(hsz:s.size<4294967281)(hL:vK w)(hB:B<=w.heap.size)(hk:wR x)(hql:q.roots.length<=990):Calls Tryz.prog 12 #[.agg lC.toArray,.agg Ba.toArray,.string s] w fun e w'=>TI x q s w w' e:=by
 obtain⟨aP,ak,aJ,aO,aG,aH,rfl,-,-,-,-,-,-,mY⟩:=open_rec hx;obtain⟨dw,aY,dA,rfl,-,-,-,E8⟩:=lM hq;obtain⟨W0,hW0,aV,jK,aF⟩:=G9 w (.slice aP ak aJ) (.slice aO aG aH) (.slice dw aY dA) 25 28;obtain⟨eX,-,-⟩:=mY W0 aV.out;obtain⟨zL,-⟩:=E8 W0 aV.out;clear mY E8 hx hq;obtain⟨R,hR⟩:=ze W0.heap.size;obtain⟨W1,hW1⟩:=ze ((W0.alloc (.cells #[.slice none 0 0] 31)).alloc (.cells #[.int .u8 0,.string ⟨#[]⟩] 38));have aI:Hid (O0 W0 W1):=by rw[<-hW1];exact(zr.alloc _).alloc _
 have iM:Hid (∀W,O0 W1 W->W.heap[R]? =some (.cells #[.slice none 0 0] 31 (0,0))/\W.heap[R+1]? =some (.cells #[.int .u8 0,.string ⟨#[]⟩] 38 (0,0))):=fun W ho=>by
  have b0:W1.heap[R]? =some (.cells #[.slice none 0 0] 31 (0,0)):=by rw[<-hW1,<-hR];exact dF (qL W0 _) _
  have b1:W1.heap[R+1]? =some (.cells #[.int .u8 0,.string ⟨#[]⟩] 38 (0,0)):=by rw[<-hW1,<-hR];exact alloc_at zAP
  exact⟨aA b0 ho (fun f=>f),aA b1 ho (fun f=>f)⟩
 have HSR:Hid (W0.heap.size=R):=hR;have HOW:Hid (O0 w W0):=aV;obtain⟨o1,ho1⟩:=ze x.okB;obtain⟨o2,ho2⟩:=ze (q.okB x);have hp6:x.packs.length<=1000000:=by have:=hk.packs;omega
 have HCr:Hid (∀W,O0 W1 W->Calls Tryz.prog 50 #[.agg #[.slice aP ak aJ,.slice aO aG aH]] W fun e w'=>iL o1 W w' e):=fun W hW=>by rw[<-ho1];exact aed (eX.out W (aI.out.same hW)) hp6 (fun p hp=>⟨by have:=(hk.all p hp).jc;omega,by have:=(hk.all p hp).vars;omega⟩)
 have HCq:Hid (∀W,O0 W1 W->Calls Tryz.prog 51 #[.agg #[.slice aP ak aJ,.slice aO aG aH],.agg #[.slice dw aY dA]] W fun e w'=>iL o2 W w' e):=fun W hW=>by rw[<-ho2];exact abG (eX.out W (aI.out.same hW)) (zL.out W (aI.out.same hW)) hp6
 have J3:=zh (And.intro ho1 ho2);have HLm:Hid (∀W,O0 W1 W->vK W):=fun W hW=>hL.only (aV.out.same (aI.out.same hW));have EU:Hid (∀W,O0 W1 W->B<=W.heap.size):=fun W hW=>qR hB (aV.out.same (aI.out.same hW)).size;have QI:=zh (And.intro hk (And.intro hql hsz));clear ho1 ho2 hp6 hk hql hsz hL hB hR;have hW0':=hW0.symm;clear hW0;obtain⟨k0,k1,k2⟩:=aF.out W1 (aI.out.same zr);go_enter Tryz.func12,Tryz.ntmps12;go_wp2_with fail;clear hW0' hW1;refine(HCr.out W1 zr).mono ?_;rintro e w1 ⟨cr,lr,rfl,hcr,O1⟩;have hf1:=fun W:World=>vM (.int .u8 cr) (.int .i64 lr) W;have F7:=zh O1;clear O1 k0 k1 k2 HCr;obtain⟨k0,k1,k2⟩:=aF.out w1 (aI.out.same F7.out);have hR:=HSR.out;cases o1 with
 |false=>
  have hne:(cr != 0)=true:=by have h:cr≠0:=of_decide_eq_false hcr;simpa using h
  have hres:¬(x.okB=true/\q.okB x=true):=fun h=>by rw[J3.out.1]at h;cases h.1
  clear hcr;have h2:=(iM.out w1 F7.out).1;have h3:=(iM.out w1 F7.out).2;have h3':(w1.setRow R #[.slice none 0 0]).heap[R+1]? =some (.cells #[.int .u8 0,.string ⟨#[]⟩] 38 (0,0)):=((cZ w1 R #[.slice none 0 0]).block (R+1) (yA.1 h3).1 zAA).trans h3;have HA2:=zh h2;have Ql:=zh h3;have Q5:=zh h3';clear h2 h3 h3';go_wp2_with (first| (refine wpList_store_row rfl 31 (.tmp 6) (.tmp 24) rfl R #[.slice none 0 0] rfl rfl 31 #[.slice none 0 0] HA2.out zk rfl zCl ?_)| (refine wpList_store_row rfl 38 (.tmp 7) (.tmp 25) rfl (R+1) #[.int .u8 0,.string ByteArray.empty] rfl rfl 38 #[.int .u8 0,.string ⟨#[]⟩] Q5.out zk rfl zAF ?_));exact Gs HA2.out Ql.out zAA rfl rfl rfl rfl ⟨_,_,_,_,rfl,HOW.out.same (Gt HSR.out (aI.out.same F7.out)),(by rw[if_neg hres];exact⟨rfl,rfl,rfl,rfl⟩)⟩
 |true=>
  have hne:(cr != 0)=false:=by exact zFg
  clear hcr;go_wp2_with fail;refine(HCq.out w1 F7.out).mono ?_;rintro e w2 ⟨cq,lq,rfl,hcq,O2⟩;have hf2:=fun W:World=>vM (.int .u8 cq) (.int .i64 lq) W;have HP2:=zh (F7.out.same O2);clear O2 k0 k1 k2 HCq hne;obtain⟨k0,k1,k2⟩:=aF.out w2 (aI.out.same HP2.out);cases o2 with
  |false=>
   have hne:(cq != 0)=true:=by have h:cq≠0:=of_decide_eq_false hcq;simpa using h
   have hres:¬(x.okB=true/\q.okB x=true):=fun h=>by rw[J3.out.2]at h;cases h.2
   clear hcq;have h2:=(iM.out w2 HP2.out).1;have h3:=(iM.out w2 HP2.out).2;have h3':(w2.setRow R #[.slice none 0 0]).heap[R+1]? =some (.cells #[.int .u8 0,.string ⟨#[]⟩] 38 (0,0)):=((cZ w2 R #[.slice none 0 0]).block (R+1) (yA.1 h3).1 zAA).trans h3;have HA2:=zh h2;have Ql:=zh h3;have Q5:=zh h3';clear h2 h3 h3';go_wp2_with (first| (refine wpList_store_row rfl 31 (.tmp 6) (.tmp 24) rfl R #[.slice none 0 0] rfl rfl 31 #[.slice none 0 0] HA2.out zk rfl zCl ?_)| (refine wpList_store_row rfl 38 (.tmp 7) (.tmp 25) rfl (R+1) #[.int .u8 0,.string ByteArray.empty] rfl rfl 38 #[.int .u8 0,.string ⟨#[]⟩] Q5.out zk rfl zAF ?_));exact Gs HA2.out Ql.out zAA rfl rfl rfl rfl ⟨_,_,_,_,rfl,HOW.out.same (Gt HSR.out (aI.out.same HP2.out)),(by rw[if_neg hres];exact⟨rfl,rfl,rfl,rfl⟩)⟩
  |true=>
   have hne:(cq != 0)=false:=by exact zGD
   have aZ:Hid (x.okB=true/\q.okB x=true):=J3.out;have HPa:=zh (aaR s QI.out.2.2 (HLm.out w2 HP2.out));clear hcq J3;go_wp2_with fail;clear hf1 hf2 hne k0 k1 k2;refine HPa.out.mono ?_;rintro e w3 ⟨gv,ln,er,rfl,O3,hm⟩;have kV:=zh (HP2.out.same O3);clear O3 HPa;cases hp:Lk.eG s.toList with
   |error k=>
    rw[hp]at hm;obtain⟨rfl,rfl,rfl⟩:=hm;obtain⟨wb,hwb⟩:∃W,(w3.alloc (.cells #[.slice none 0 0] 31)).alloc (.cells #[.int .i64 (k:Int),.int .i64 0] 113)=W:=⟨_,rfl⟩;have HPb:Hid (O0 W1 wb):=by rw[<-hwb];exact(kV.out.alloc _).alloc _
    have sJ:=zh hp;clear hp;subst hwb;have h2:=(iM.out (((w3.alloc (.cells #[.slice none 0 0] 31)).alloc (.cells #[.int .i64 (k:Int),.int .i64 0] 113))) HPb.out).1;have h3:=(iM.out (((w3.alloc (.cells #[.slice none 0 0] 31)).alloc (.cells #[.int .i64 (k:Int),.int .i64 0] 113))) HPb.out).2;have h3':((((w3.alloc (.cells #[.slice none 0 0] 31)).alloc (.cells #[.int .i64 (k:Int),.int .i64 0] 113))).setRow R #[.slice none 0 0]).heap[R+1]? =some (.cells #[.int .u8 0,.string ⟨#[]⟩] 38 (0,0)):=((cZ (((w3.alloc (.cells #[.slice none 0 0] 31)).alloc (.cells #[.int .i64 (k:Int),.int .i64 0] 113))) R #[.slice none 0 0]).block (R+1) (yA.1 h3).1 zAA).trans h3;have HA2:=zh h2;have Ql:=zh h3;have Q5:=zh h3';clear h2 h3 h3';go_wp2_with (first| (refine wpList_store_row rfl 31 (.tmp 6) (.tmp 34) rfl R #[.slice none 0 0] rfl rfl 31 #[.slice none 0 0] HA2.out zk rfl zCl ?_)| (refine wpList_store_row rfl 38 (.tmp 7) (.tmp 35) rfl (R+1) #[.int .u8 0,.string ByteArray.empty] rfl rfl 38 #[.int .u8 0,.string ⟨#[]⟩] Q5.out zk rfl zAF ?_));exact Gs HA2.out Ql.out zAA rfl rfl rfl rfl ⟨_,_,_,_,rfl,HOW.out.same (Gt HSR.out (aI.out.same HPb.out)),(by rw[if_pos aZ.out,sJ.out];exact⟨rfl,rfl,rfl,rfl⟩)⟩
   |ok G=>
    rw[hp]at hm;obtain⟨rfl,rfl,h,hG,hrS⟩:=hm;have hr:=hrS w3 zr;have sJ:=zh hp;have hgB:=(Lk.NR hp).1;rw[<-hG]at hgB;have hsm:=XV hgB;have HGe:=zh hG;obtain⟨ah,ch,rfl,-,-⟩:=hr.shape;obtain⟨nh,hnh⟩:=ze h.length;rw[hnh]at hr hrS⊢;have HRS:=zh hrS;clear hrS;obtain⟨wb,hwb⟩:=ze ((w3.alloc (.cells #[.slice ah nh ch] 31)).alloc (.cells #[.int .i64 0,.int .i64 0] 113));have ob:O0 w3 wb:=by rw[<-hwb];exact(zr.alloc _).alloc _
    have hb1:wb.heap[w3.heap.size]? =some (.cells #[.slice ah nh ch] 31 (0,0)):=by rw[<-hwb];exact dF (qL w3 _) _
    have HPb:Hid (O0 W1 wb):=kV.out.same ob;have apR:Hid (O0 w3 wb):=ob;have HBh:Hid (∀W,O0 wb W->W.cell? ⟨w3.heap.size,0,none⟩=some (.slice ah nh ch)):=fun W hW=>by rw[aj (aA hb1 hW (fun f=>f))];rfl
    have HRh:Hid (∀W,O0 wb W->aS 4 dH W.heap.size W (.slice ah nh ch) h):=fun W hW=>(hr.keep dH.keep (Kp.dV (ob.same hW))).lift dH.lift (ob.same hW).size (qH _);have HFw:Hid (afq h):=⟨by have:=hsm.1;omega,fun n hn=>by have:=(hsm.2 n hn).2.2.2.2.1;omega⟩;obtain⟨c,bs,hcb⟩:∃c s,dB (jv x q h)=(c,s):=⟨_,_,rfl⟩;have oZ:Hid (Calls Tryz.prog 52 #[.agg #[.slice aP ak aJ,.slice aO aG aH],.agg #[.slice dw aY dA],.agg #[.slice ah nh ch]] wb fun e w'=>e= .returned (.agg #[.int .u8 c,.string bs])/\O0 wb w'):=by have o:=aI.out.same HPb.out;have hB:=EU.out wb HPb.out;have h0:=afx (fO.lift (eX.out wb o) hB (qH _)) (mg.lift (zL.out wb o) hB (qH _)) (⟨_,rfl,HRh.out wb zr⟩:rU wb.heap.size wb [.slice ah nh ch] h) (HLm.out wb HPb.out).laid (qH _) ⟨QI.out.1,by have:=QI.out.2.1;omega,HFw.out⟩;rw[hcb]at h0;exact h0
    have HCb:=zh hcb;obtain⟨k0,k1,k2⟩:=aF.out wb (aI.out.same HPb.out);have b0:=HBh.out wb zr;clear hp hgB hsm hG hr hnh ob hb1 hcb;subst hwb;go_wp2_with fail;generalize hwb:(w3.alloc (.cells #[.slice ah nh ch] 31)).alloc (.cells #[.int .i64 0,.int .i64 0] 113)=wb at*;clear hwb k0 k1 k2 b0;refine oZ.out.mono ?_;rintro e w4 ⟨rfl,O4⟩;obtain⟨w5,hw5⟩:=ze (w4.alloc (.cells #[.int .u8 c,.string bs] 38));have o45:O0 wb w5:=by rw[<-hw5];exact O4.alloc _
    have hb5:w5.heap[w4.heap.size]? =some (.cells #[.int .u8 c,.string bs] 38 (0,0)):=by rw[<-hw5];exact qL w4 _
    have xI:Hid (O0 W1 w5):=HPb.out.same o45;have n0:w5.cell? ⟨w4.heap.size,0,none⟩=some (.int .u8 c):=by rw[aj hb5];rfl
    have n1:w5.cell? ⟨w4.heap.size,1,none⟩=some (.string bs):=by rw[aj hb5];rfl
    have b0:=HBh.out w5 o45;have HN5:=zh (And.intro n0 n1);have hR4:R+1<w4.heap.size:=(yA.1 (iM.out w4 (HPb.out.same O4)).2).1;have apT:Hid (O0 w3 w5):=apR.out.same o45;have att:w.heap.size<=w2.heap.size:=(HOW.out.same (aI.out.same HP2.out)).size;have atu:R+1<w2.heap.size:=by have:=(yA.1 (iM.out w2 HP2.out).2).1;omega
    clear O4 o45 hb5 oZ HRh HBh;by_cases h0:c=0
    ·subst h0;have h2:=(iM.out w5 xI.out).1;have h3:=(iM.out w5 xI.out).2;have h3':(w5.setRow R #[.slice ah nh ch]).heap[R+1]? =some (.cells #[.int .u8 0,.string ⟨#[]⟩] 38 (0,0)):=((cZ w5 R #[.slice ah nh ch]).block (R+1) (yA.1 h3).1 zAA).trans h3;have HA2:=zh h2;have Ql:=zh h3;have Q5:=zh h3';clear h2 h3 h3';go_wp2_with (first| (refine wpList_store_row rfl 31 (.tmp 6) (.tmp 46) rfl R #[.slice ah nh ch] rfl rfl 31 #[.slice none 0 0] HA2.out zk rfl zCl ?_)| (refine wpList_store_row rfl 38 (.tmp 7) (.tmp 47) rfl (R+1) #[.int .u8 0,.string ByteArray.empty] rfl rfl 38 #[.int .u8 0,.string ⟨#[]⟩] Q5.out zk rfl zAF ?_));exact Gs HA2.out Ql.out zAA rfl rfl rfl rfl ⟨_,_,_,_,rfl,HOW.out.same (Gt HSR.out (aI.out.same xI.out)),(by
       rw[if_pos aZ.out,sJ.out]
       refine⟨h,HGe.out,?_⟩
       rw[if_pos (by rw[HCb.out])]
       exact⟨rfl,rfl,rfl,fun V hV=>(by have h9:=HRS.out V ((((apT.out.mono fun _ f=>f.elim).same ((cZ w5 R _).mono fun k hk=>by omega)).same ((cZ _ (R+1) _).mono fun k hk=>by omega)).same (hV.mono fun k hk=>by omega));exact h9)⟩)⟩
    have hne:(c != 0)=true:=by simpa using h0
    have hcb:=HCb.out;go_wp2_with fail;have hne5:R≠R+1:=zAA;refine dn (n:=5) (E:=fun k=>k=3) (S:=fun W=>Only (fun k=>k=R) w5 W) zk rfl (by exact(Only.refl (fun k=>k=R) w5).drew) (fun hHeld=>?_);refine tW 0 ?_;refine tK 1 ?_ (hy:=by(intro w hSw;(try dsimp only at hSw);have n0:=eH HN5.out.1 hSw zCq;have n1:=eH HN5.out.2 hSw zA1;go_simp<;>(try with_reducible rfl)));refine tO 2 fun K hK=>?_;(rw[if_pos zk];refine mG 31 (.tmp 6) (.tmp 44) rfl R #[.slice none 0 0] rfl rfl 31 #[.slice none 0 0] (by have e:=(iM.out w5 xI.out).1;exact e) zk rfl zAF ?_;intro Wg hgg hog);refine hK.out _ _ ?_ (fun hHeld=>?_);·(try dsimp only)<;>(exact hHeld.same hog)
    clear hK K;try simp only[Act.put,fA,fD,fB,dW,dX,dY]
    refine dN (rs:=[3]) zk zAP ?_;refine bI.late (i:=3) rfl zk (fun K hK=>?_) ?_
    ·(rw[if_pos zk];refine mG 38 (.tmp 7) (.tmp 45) rfl (R+1) #[.int .u8 c,.string bs] rfl rfl 38 #[.int .u8 0,.string ⟨#[]⟩] (aA (iM.out w5 xI.out).2 hHeld zCq) zk rfl zAF ?_;intro Wb hgb hob);refine hK.out _ _ ?_;clear hK K;try simp only[Act.put,fA,fD,fB,dW,dX,dY]
     refine tW 4 ?_ (hS:=.inl zk);refine bV zk ?_ _;go_wp2_with fail;refine ZL (R2:=R) (R3:=R+1) (aA hgg hob zA1) hgb rfl rfl rfl rfl ?_;refine⟨_,_,_,_,rfl,((HOW.out.same (aI.out.same xI.out)).trans hHeld fun k hk=>.inr ?_).trans hob fun k hk=>.inr ?_,?_⟩;·have:=HSR.out;have:=HOW.out.size;omega
     ·have:=HSR.out;have:=HOW.out.size;omega
     rw[if_pos aZ.out,sJ.out];refine⟨h,HGe.out,?_⟩;rw[if_neg (by rw[hcb];exact h0),hcb];exact⟨rfl,rfl,rfl,rfl⟩
    exact bI.nil
end
end Go.Proofs.YtdmmebjjojimiaaGreatDoor
