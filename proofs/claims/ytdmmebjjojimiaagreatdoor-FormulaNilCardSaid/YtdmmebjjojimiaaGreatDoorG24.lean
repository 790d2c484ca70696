/- Package edge: Meet. Printed by gen_edw4.py. -/
import Derived.Test.YtdmmebjjojimiaaGreatDoorG23
set_option maxRecDepth 100000
set_option maxHeartbeats 8000000
set_option linter.all false
namespace Go.Proofs.YtdmmebjjojimiaaGreatDoor
open Go.RowKit
theorem xQ{l:List Nat}{i:Nat}:(intsOf l).contains (i:Int)=decide (i∈l):=by
 rw[Bool.eq_iff_iff,List.contains_iff_mem,yP];unfold intsOf;rw[yD];constructor
 ·rintro⟨j,hj,e⟩;obtain rfl:j=i:=by omega
  exact hj
 intro h;exact⟨i,h,rfl⟩
theorem YO(a b:Str)(W:World):(binOp .neq 128 (.agg #[.string a,.string b]) (.agg #[.string ⟨#[]⟩,.string ⟨#[]⟩])).run Tryz.prog W= .ok (.bool (!(decide (a=ByteArray.empty)&&decide (b=ByteArray.empty)))) W:=by
 by_cases h1:a.toList=[]
 ·by_cases h2:b.toList=[];·rw[qX (jT.1 h1),qX (jT.1 h2)];go_simp
  rw[qX (jT.1 h1),qP (fun h=>h2 (jT.2 h))];go_simp
 rw[qP (fun h=>h1 (jT.2 h))];go_simp
theorem TB.DF(p:Nat)(vars:List fE)(s:jv):∀(l:List jv) (S:TB),S.values p vars (l++[s])=(((S.values p vars l).1.value p vars s).1,(S.values p vars l).2++[((S.values p vars l).1.value p vars s).2])
 | [],S=>rfl
 |a::r,S=>by
  show(((S.value p vars a).1.values p vars (r++[s])).1,_::((S.value p vars a).1.values p vars (r++[s])).2)=_
  rw[TB.DF p vars s r]
  rfl
theorem TB.ny(p:Nat)(vars:List fE):∀(l:List jv) (S:TB),(S.values p vars l).2.length=l.length
 | [],_=>rfl
 |a::r,S=>by show(_::_).length=_;rw[qN,TB.ny p vars r,qN]
theorem TB.YP{S:TB}(h:S.1.Ok)(p:Nat)(vars:List fE)(s:jv):(S.value p vars s).1.1.Ok/\0<=(S.value p vars s).2/\(S.value p vars s).2<=65536:=by
 unfold TB.value;split;·exact⟨h,Int.le_refl _,(by decide:(0:Int)<=65536)⟩
 exact Tab.lS h _
theorem TB.JB(p:Nat)(vars:List fE):∀(l:List jv) {S:TB},S.1.Ok->(S.values p vars l).1.1.Ok/\∀z∈(S.values p vars l).2,0<=z/\z<=65536
 | [],_,h=>⟨h,fun z hz=>by cases hz⟩
 |a::r,S,h=>by
  have h1:=TB.YP h p vars a
  have h2:=TB.JB p vars r h1.1
  refine⟨h2.1,fun z hz=>?_⟩
  rcases qY.1 hz with rfl|hz
  ·exact h1.2
  ·exact h2.2 z hz
section
variable {w w':World} {gt gb gp:Tag} {c bt bb:Nat} {G:BJ} {Bs:Nat} {D:rU} {S:TB} {X:G9} {E:ES}
theorem ag3(H:sD w gt gb c bt bb G Bs D S)(p:Nat)(r:Bool)(hr:decide (p∈D.l)=r):Calls Tryz.prog 230 #[.pointer (some ⟨c,0,none⟩),.int .i64 p] w fun e w'=>e= .returned (.bool r)/\O0 w w':=by have h:=Yx H.gr H.l (p:Int);rw[xQ,hr]at h;exact h
attribute [local irreducible] wpQuiet in
theorem adU(H:sD w gt gb c bt bb G Bs D S)(hlt:∀p∈D.l,p<D.x.packs.length)(hm:Cj D.x){p rule cc:Nat}(UE:p<=1000000)(hr6:rule<=1000000)(hc6:cc<=1000000){css:List Value}{s:fQ}(hs:dh Bs w css s)(hss:s.sets.length<=900000)(z:Int)(hz:(S.meet D.x D.l p rule cc s).2=z):Calls Tryz.prog 225 #[.pointer (some ⟨c,0,none⟩),.int .i64 p,.int .i64 rule,.int .i64 cc,.agg css.toArray] w fun e w'=>e= .returned (.int .i64 z)/\aN w gt gb c bt bb G Bs D (S.meet D.x D.l p rule cc s).1 w':=by
 obtain⟨OQ,Qq,OT,Qr,rfl,-,hSp,hSe⟩:=hs.cells;obtain⟨MO,OU⟩:=ze s.spans.length;obtain⟨IG,OV⟩:=ze s.sets.length;rw[OU]at hSp;rw[OV]at hSe hss;rw[OU,OV];have NSp:=zh OU;have NSe:=zh OV;obtain⟨W0,hW0⟩:=ze (w.alloc (.cells #[.string s.name,.slice OQ MO OT,.slice Qq IG Qr] 108));have hb0:W0.heap[w.heap.size]? =some (.cells #[.string s.name,.slice OQ MO OT,.slice Qq IG Qr] 108 (0,0)):=zAW;have iM:Hid (O0 w W0):=zAM;have hnm:¬Mine gt w.heap.size/\¬Mine gb w.heap.size:=by obtain⟨V,hV⟩:=H.gr.tab;obtain⟨U,hU⟩:=H.gr.G8;exact⟨by unfold Mine;rw[hV.fresh _ (qH _)];simp,by unfold Mine;rw[hU.fresh _ (qH _)];simp⟩
 have bJ:Hid (∀W,Only (fun k=>Mine gt k\/Mine gb k) W0 W->W.cell? ⟨w.heap.size,1,none⟩=some (.slice OQ MO OT)/\W.cell? ⟨w.heap.size,2,none⟩=some (.slice Qq IG Qr)):=fun W o=>by have c0:=ak hb0 o (fun h=>h.elim hnm.1 hnm.2);exact⟨by rw[aj c0];rfl,by rw[aj c0];rfl⟩
 have H0:=zh (H.aF iM.out);have HSp:Hid (∀W,Only (fun k=>Mine gt k\/Mine gb k) W0 W->aJ 2 eX Bs W (.slice OQ MO OT) s.spans):=fun W o=>(hSp.keep eX.keep (Kp.fU iM.out)).keep eX.keep (Kp.rV o H0.out.low);have HSe:Hid (∀W,Only (fun k=>Mine gt k\/Mine gb k) W0 W->aJ 2 je Bs W (.slice Qq IG Qr) s.sets):=fun W o=>(hSe.keep je.keep (Kp.fU iM.out)).keep je.keep (Kp.rV o H0.out.low);have HZ:=zh hz;obtain⟨S9,RN⟩:=ze ((S.meet D.x D.l p rule cc s).1);rw[RN];have Xg:=zh RN;have HM:=zh hm;have XP:=zh hlt;have HAt:Hid (kC (bM p rule cc)):=adL ⟨by omega,by omega⟩ ⟨by omega,by omega⟩ ⟨by omega,by omega⟩;obtain⟨r,hr⟩:=ze (decide (p∈D.l));have OO:=zh (ag3 H0.out p r hr);have HR:=zh hr;clear RN hz hm hlt hr hs hSp hSe hb0 hnm H OU OV;go_enter Tryz.func225,Tryz.ntmps225;go_wp2_with fail;try rw[hW0]
 clear hW0;refine OO.out.mono ?_;rintro e w1 ⟨rfl,O1⟩;have H1:=zh (H0.out.aF O1);have bg:=zh O1;clear O1 OO;cases r with
 |false=>
  have hme:S.meet D.x D.l p rule cc s=(S,0):=by unfold TB.meet;rw[if_pos (by have:=HR.out;simpa using this)]
  have hzz:(0:Int)=z:=by rw[<-HZ.out,hme]
  subst hzz;have h9:S=S9:=by rw[<-Xg.out,hme]
  subst h9;have HE:Hid (aN w gt gb c bt bb G Bs D S w1):=aN.after (iM.out.same bg.out) (aN.refl H1.out);clear hme H1;exact zCc
 |true=>
  have hpl:p∈D.l:=of_decide_eq_true HR.out;have hpx:=XP.out p hpl;have xE:=zh hpl;obtain⟨wA,hwA⟩:=ze (w1.alloc (.cells #[.int .u8 10,.int .i64 p,.int .i64 rule,.int .i64 cc] 89));have HbA:Hid (∀W,O0 wA W->W.heap[w1.heap.size]? =some (.cells #[.int .u8 10,.int .i64 p,.int .i64 rule,.int .i64 cc] 89 (0,0))):=fun W o=>ak (by rw[<-hwA];exact qL _ _) o (fun f=>f);have Oo:Hid (O0 w1 wA):=by rw[<-hwA];exact zr.alloc _
  have HA:=zh (H1.out.aF Oo.out);have HTb:Hid (∀W,O0 wA W->Calls Tryz.prog 66 #[.pointer (some ⟨c,0,none⟩)] W fun e w'=>e= .returned (.pointer (some ⟨bt,0,none⟩))/\w'=W):=fun W o=>qc (HA.out.aF o).gr;obtain⟨n0,hn0⟩:∃n:Int,(numOf S.1.l (bM p rule cc):Int)=n:=⟨_,rfl⟩;have HLk:Hid (∀W,O0 wA W->Calls Tryz.prog 67 #[.pointer (some ⟨bt,0,none⟩),fH (bM p rule cc)] W fun e w'=>e= .returned (.int .i64 n0)/\O0 W w'):=fun W o=>by obtain⟨V,hV⟩:=(HA.out.aF o).gr.tab;exact nS hV HAt.out n0 hn0
  have Jf:Hid (∀W,O0 wA W->W.rangeAt w1.heap.size 0 [.int .u8 10,.int .i64 p,.int .i64 rule,.int .i64 cc]):=fun W o j u hu=>by rw[Nat.zero_add,aj (HbA.out W o)];simpa using hu
  have HN0:=zh hn0;clear hpl hn0;go_wp2_with fail;try rw[hwA]
  clear hwA;refine rJ (fun W=>O0 wA W) zk zk (by exact zr.drew) ?_;refine qV ?_;refine nN (v:=.pointer (some ⟨bt,0,none⟩)) (f:=66) (args:= #[.pointer (some ⟨c,0,none⟩)]) (by rfl) ?_ ?_ ?_;·exact zBj
  ·(intro w hSw;exact(HTb.out w hSw).mono fun _ _ ⟨he,hw⟩=>⟨he,hw▸hSw⟩)
  try simp only[Act.put,dL,dQ,dM,dN,dO,dP]
  refine V4 (by rfl) rfl rfl Jf.out Tryz.underlying89 rfl zk ?_;try simp only[Act.put,dL,dQ,dM,dN,dO,dP]
  refine nN (v:=.int .i64 n0) (f:=67) (args:= #[.pointer (some ⟨bt,0,none⟩),(.agg #[.int .u8 10,.int .i64 (p:Int),.int .i64 (rule:Int),.int .i64 (cc:Int)])]) (by rfl) ?_ ?_ ?_;·exact zBj
  ·(intro w hSw;exact(HLk.out w hSw).mono fun _ _ ⟨he,hw⟩=>⟨he,hSw.same hw⟩)
  try simp only[Act.put,dL,dQ,dM,dN,dO,dP]
  refine qV ?_;refine wpQuiet_nil ?_;intro w7 O7;have uU:=zh O7;clear O7;by_cases hin:bM p rule cc∈S.1.l
  ·have hme:S.meet D.x D.l p rule cc s=(S,(numOf S.1.l (bM p rule cc):Int)):=by unfold TB.meet;rw[if_neg (by simp[xE.out]),if_pos hin]
   have hzz:n0=z:=by rw[<-HZ.out,hme,HN0.out]
   have hpos:0<n0:=by rw[<-HN0.out];unfold numOf;rw[if_pos hin];omega
   subst hzz;have h9:S=S9:=by rw[<-Xg.out,hme]
   subst h9;have HE:Hid (aN w gt gb c bt bb G Bs D S w7):=aN.after ((iM.out.same bg.out).same (Oo.out.same uU.out)) (aN.refl (HA.out.aF uU.out));clear hme hin;exact zCc
  have akg:n0=0:=by rw[<-HN0.out];unfold numOf;rw[if_neg hin];rfl
  subst akg;have H7:=zh (HA.out.aF uU.out);have HB7:=zh (HbA.out w7 uU.out);have ag6:Hid (O0 W0 w7):=bg.out.same (Oo.out.same uU.out);obtain⟨Nn,hNn⟩:=ze ((S.num (bM p rule cc)).2);obtain⟨S1,hS1⟩:=ze ((S.num (bM p rule cc)).1);have hnb:=(Tab.lS H7.out.ok (bM p rule cc)).2;have hnb:0<=Nn/\Nn<=65536:=by rw[<-hNn];exact hnb
  have pq:Hid (Calls Tryz.prog 75 #[.pointer (some ⟨c,0,none⟩),fH (bM p rule cc)] w7 fun e w'=>e= .returned (.int .i64 Nn)/\aN W0 gt gb c bt bb G Bs D S1 w'):=by rw[<-hS1];exact(xP H7.out HAt.out Nn hNn).mono fun e w' ⟨he,h⟩=>⟨he,aN.after ag6.out h⟩
  have HMe:Hid (∀D1 S2 S3 es S4 vs,S1.num (aG p)=(S2,D1)->(S3,es)=(if dI s.spans=true then (S2,[D1])else ((S2.set p (D.x.pack p).aP s.spans).1,[D1,(S2.set p (D.x.pack p).aP s.spans).2]))->S3.values p (D.x.pack p).vars s.sets=(S4,vs)->S.meet D.x D.l p rule cc s=(if 0<Nn/\(es++vs).contains 0=false then (S4.1,S4.2.adds (kL Nn (es++vs)))else S4,Nn)):=fun D1 S2 S3 es S4 vs e1 e2 e3=>by unfold TB.meet;rw[if_neg (by simp[xE.out]),if_neg hin];dsimp only;rw[hNn,hS1,e1];dsimp only;rw[<-e2];dsimp only;rw[e3]
  clear hin hNn hS1;go_wp2_with (refine wpList_load_row rfl 89 (.tmp 11) rfl w1.heap.size rfl 89 #[.int .u8 10,.int .i64 p,.int .i64 rule,.int .i64 cc] (0,0) _ HB7.out Tryz.underlying89 rfl zk ?_);refine pq.out.mono ?_;rintro e w8 ⟨rfl,h8⟩;have H8:=zh h8;clear h8 pq HA H7 HB7 ag6 HLk HTb Jf HbA Oo uU H1 bg;obtain⟨D1,hD1⟩:=ze ((S1.num (aG p)).2);obtain⟨S2,hS2⟩:=ze ((S1.num (aG p)).1);have Jg:S1.1.Ok:=by obtain⟨_,_,Hx,_⟩:=H8.out;exact Hx.ok
  have hd1:0<=D1/\D1<=65536:=by rw[<-hD1];exact(Tab.lS Jg (aG p)).2
  have TS:Hid (Calls Tryz.prog 164 #[.pointer (some ⟨c,0,none⟩),.int .i64 p] w8 fun e w'=>e= .returned (.int .i64 D1)/\aN W0 gt gb c bt bb G Bs D S2 w'):=by obtain⟨OW,gb8,Hx,A,A',O⟩:=H8.out;have h:=(KX Hx (p:=p) ⟨by omega,by omega⟩ D1 hD1).mono fun e w' ⟨he,h⟩=>(⟨he,aN.trans A A' O h⟩:e=_/\aN W0 gt gb c bt bb G Bs D _ w');rw[hS2]at h;exact h
  have HP:Hid (S1.num (aG p)=(S2,D1)):=by rw[<-hD1,<-hS2];exact rfl
  clear hD1 hS2 Jg H8;go_wp2_with fail;refine TS.out.mono ?_;rintro e w9 ⟨rfl,h9⟩;have hB0:Bs<=W0.heap.size:=H0.out.le;have fP:Hid (gZ W0 gt gb c bt bb G Bs D S2 (w9.alloc (.cells #[.int .i64 D1] 3)) (.slice (some ⟨w9.heap.size,0,none⟩) 1 1) [D1]):=gZ.lit hB0 h9 D1;obtain⟨w10,akh⟩:=ze (w9.alloc (.cells #[.int .i64 D1] 3));rw[akh]at fP;obtain⟨g9,hg9⟩:=ze w9.heap.size;rw[hg9]at fP;obtain⟨k1,k2⟩:=bJ.out w10 fP.out.only;clear h9 TS; -- the spans
  go_upto_region 9 with fail;go_cut [50] (fun v50 wx=>v50= .bool (!dI s.spans)/\wx=w10);case first=>
   by_cases hone:MO=1
   ·subst hone;have hrow:=HSp.out w10 fP.out.only;obtain⟨y,hy⟩:∃y,s.spans=[y]:=List.length_eq_one_iff.1 NSp.out;have hrow1:aJ 2 eX Bs w10 (.slice OQ s.spans.length OT) s.spans:=by rw[NSp.out];exact hrow
    obtain⟨bS,La,eS,-,-⟩:=hrow1.at (by rw[NSp.out];omega);subst eS;obtain⟨csS,-,hrS,rfl,-,-⟩:=hrow.get (i:=0) (x:=y) (by rw[hy];rfl);have HRS:Hid (w10.rangeAt bS La [.string y.lo,.string y.hi]):=by simpa[Hid]using hrS
    have hsp:dI s.spans=(decide (y.lo=ByteArray.empty)&&decide (y.hi=ByteArray.empty)):=by rw[hy];rfl
    have hneq:=YO y.lo y.hi;rw[<-hsp]at hneq;obtain⟨sa,hsa⟩:=ze (dI s.spans);rw[hsa]at hneq;have HSa:=zh hsa;clear hsp hrS hrow hrow1 hy hsa HMe;have k3:w10.cell? ⟨bS,La,none⟩=some (.string y.lo):=HRS.out 0 _ rfl;have k4:w10.cell? ⟨bS,La+1,none⟩=some (.string y.hi):=HRS.out 1 _ rfl;go_wp2_with fail;go_meet;exact⟨by rw[HSa.out],rfl⟩
   have hsa:dI s.spans=false:=by
    unfold dI;split;·rename_i h;exact absurd (by rw[<-NSp.out,h];rfl) hone
    rfl
   have HSa:=zh hsa;have hne:((MO:Int)==1)=false:=by rw[yC];omega
   clear hsa;go_wp2_with fail;go_meet;exact⟨by rw[HSa.out];rfl,rfl⟩
  case rest=>
   obtain⟨rfl,rfl⟩:=hcut;obtain⟨sa,hsa⟩:=ze (dI s.spans);have HSa:=zh hsa;rw[hsa];clear hsa;go_upto_if 50 with fail;go_cut [14] (fun v14 wx=> ∃S3 es cap g,(S3,es)=(if dI s.spans=true then (S2,[D1])else ((S2.set p (D.x.pack p).aP s.spans).1,[D1,(S2.set p (D.x.pack p).aP s.spans).2]))/\v14= .slice (some ⟨g,0,none⟩) es.length cap/\(∀y∈es,0<=y/\y<=65536)/\es.length<=2/\gZ W0 gt gb c bt bb G Bs D S3 wx v14 es);case first=>
    cases sa with
    |true=>
     have HY:Hid ((S2,[D1])=(if dI s.spans=true then (S2,[D1])else ((S2.set p (D.x.pack p).aP s.spans).1,[D1,(S2.set p (D.x.pack p).aP s.spans).2]))):=by rw[HSa.out,if_pos rfl];exact rfl
     clear HMe
     go_wp2_with fail
     go_meet
     exact⟨S2,[D1],1,g9,HY.out,rfl,fun y hy=>by simp at hy;subst hy;exact hd1,by simp,fP.out⟩
    |false=>
     obtain⟨z2,hz2⟩:=ze ((S2.set p (D.x.pack p).aP s.spans).2)
     obtain⟨S3,hS3⟩:=ze ((S2.set p (D.x.pack p).aP s.spans).1)
     have HS2:Hid (Calls Tryz.prog 310 #[.pointer (some ⟨c,0,none⟩),.int .i64 p,.slice OQ MO OT] wc fun e w'=>e= .returned (.int .i64 z2)/\gZ W0 gt gb c bt bb G Bs D S3 w' (.slice (some ⟨g9,0,none⟩) 1 1) [D1]):=by
      rw[<-hS3]
      exact gZ.call fP.out (fun gt' gb' Hx=>ag1 Hx hpx HM.out (HSp.out wc fP.out.only) z2 hz2)
     have hz2b:0<=z2/\z2<=65536:=by
      obtain⟨_,_,Hx,_⟩:=fP.out
      rw[<-hz2]
      unfold TB.set
      dsimp only
      exact TB.adQ (Tab.nG _ Hx.ok).1
     have HN:Hid ((S3,[D1,z2])=(if dI s.spans=true then (S2,[D1])else ((S2.set p (D.x.pack p).aP s.spans).1,[D1,(S2.set p (D.x.pack p).aP s.spans).2]))):=by rw[HSa.out,if_neg zAE,hS3,hz2];exact rfl
     clear hz2 hS3 HMe
     go_wp2_with fail
     refine HS2.out.mono ?_
     rintro e RP ⟨rfl,h11⟩
     have H11:=zh h11
     have l9:=zh h11.own
     clear h11 HS2
     go_wp2_with (at_builtin;go_must (refine zJ (u:=.int .i64 z2) kF rfl (.tmp 51) (.tmp 57) rfl rfl rfl (cell_new0 _ _ _) rfl (aB l9.out ((Only.refl (fun _=>False) _).alloc _) (fun _ _ f=>f)) zBF zAC ?_))
     intro v' w12 s1 s2 s3
     have adW:Hid (gZ W0 gt gb c bt bb G Bs D S3 w12 v' [D1,z2]):=gZ.app H11.out ((Only.refl (fun _=>False) RP).alloc _) s1 s2 s3
     obtain⟨g6,c6',rfl,-,-,-⟩:=s3
     clear s1 s2 H11 l9
     go_wp2_with fail
     go_meet
     exact⟨S3,[D1,z2],c6',g6,HN.out,rfl,fun y hy=>by
      simp only[qY,List.not_mem_nil,or_false]at hy
      rcases hy with rfl|rfl
      ·exact hd1
      ·exact hz2b,by simp,adW.out⟩
   case rest=>
    obtain⟨S3,es,cap,gE,hE,rfl,hes,hel,hRow⟩:=hcut;have HE:=zh hE;have HS3:Hid S3.1.Ok:=by obtain⟨_,_,Hx,_⟩:=hRow;exact Hx.ok
    have acu:Hid (gZ W0 gt gb c bt bb G Bs D (S3.values p (D.x.pack p).vars (s.sets.take 0)).1 wc (.slice (some ⟨gE,0,none⟩) es.length cap) (es++(S3.values p (D.x.pack p).vars (s.sets.take 0)).2)):=by show gZ _ _ _ _ _ _ _ _ _ S3 _ _ (es++[]);rw[List.append_nil];exact hRow
    obtain⟨k1,k2⟩:=bJ.out wc hRow.only;clear hRow hE fP k1;go_wp2_with fail;go_loopw [14,62] (fun v14 vi wr=> ∃i:Nat,vi= .int .i64 i/\i<=IG/\Hid (gZ W0 gt gb c bt bb G Bs D (S3.values p (D.x.pack p).vars (s.sets.take i)).1 wr v14 (es++(S3.values p (D.x.pack p).vars (s.sets.take i)).2))) (fun _ v _=>IG-(RowKit.intOf v).toNat);case atStart=>exact⟨0,rfl,qE _,acu⟩
    case round=>
     clear acu k2;obtain⟨i,rfl,hi,qp⟩:=hrel;by_cases ci:i<IG
     ·obtain⟨S4,hS4⟩:=ze ((S3.values p (D.x.pack p).vars (s.sets.take i)).1);obtain⟨vs,hvs⟩:=ze ((S3.values p (D.x.pack p).vars (s.sets.take i)).2);have hvl:vs.length=i:=by rw[<-hvs,TB.ny,List.length_take,NSe.out];omega
      rw[hS4,hvs]at qp;have hrow:=HSe.out wr qp.out.only;have hrow1:aJ 2 je Bs wr (.slice Qq s.sets.length Qr) s.sets:=by rw[NSe.out];exact hrow
      obtain⟨bS,La,eS,-,-⟩:=hrow1.at (by rw[NSe.out];omega);subst eS;obtain⟨y,hy⟩:=zG s.sets i (by rw[NSe.out];exact ci);obtain⟨csS,-,hrS,rfl,-,-⟩:=hrow.get hy;have HRS:=zh hrS;have jg:=zw (i+1);have HTk:Hid (s.sets.take (i+1)=s.sets.take i++[y]):=by show _=_;rw[List.take_add_one,hy];rfl
      obtain⟨wB,hwB⟩:=zB (wr.alloc (.cells #[.string y.name,.string y.value] 117));have oB:O0 wr wB:=zAi;have HbB:Hid (wB.heap[wr.heap.size]? =some (.cells #[.string y.name,.string y.value] 117 (0,0))):=zAn;obtain⟨q,hq⟩:=ze ((S4.value p (D.x.pack p).vars y).2);have adX:Hid (Calls Tryz.prog 311 #[.pointer (some ⟨c,0,none⟩),.int .i64 p,.agg #[.string y.name,.string y.value]] wB fun e w'=>e= .returned (.int .i64 q)/\gZ W0 gt gb c bt bb G Bs D (S4.value p (D.x.pack p).vars y).1 w' u14 (es++vs)):=
       gZ.call (qp.out.aF oB) (fun gt' gb' Hx=>abg Hx hpx HM.out y q hq)
      have jr:Hid (S3.values p (D.x.pack p).vars (s.sets.take (i+1))=((S4.value p (D.x.pack p).vars y).1,vs++[q])):=by show _=_;rw[HTk.out,TB.DF,hS4,hvs,hq]
      obtain⟨L,hL⟩:=ze (es++vs);have hLl:L.length<=i+2:=by rw[<-hL,qK];omega
      have HL:=zh hL;rw[hL]at qp adX;obtain⟨au,cu,hu,-,-⟩:∃au cu,u14= .slice au L.length cu/\L.length<=cu/\cu<=maxLen:=aH qp.out.own;subst hu;have Eo:=zh jg;clear hrow hrow1 hy hrS oB hq hS4 hvs hL qp jg;go_wp2_with (refine wpList_load_mid rfl 117 (.tmp 64) rfl bS (La+i*2) rfl _ _ HRS.out Tryz.underlying117 rfl zk ?_);rw[<-hwB];clear hwB;go_wp2_with (refine wpList_load_row rfl 117 (.tmp 16) rfl wr.heap.size rfl 117 #[.string y.name,.string y.value] (0,0) _ HbB.out Tryz.underlying117 rfl zk ?_);refine adX.out.mono ?_;rintro e w5 ⟨rfl,h5⟩;have H5:=zh h5;have l9:=zh h5.own;clear h5 adX;go_wp2_with (at_builtin;go_must (refine zJ (u:=.int .i64 q) kF rfl (.tmp 66) (.tmp 71) rfl rfl rfl (cell_new0 _ _ _) rfl (aB l9.out ((Only.refl (fun _=>False) _).alloc _) (fun _ _ f=>f)) zBB zBC ?_));intro v' w6 s1 s2 s3;have Lc:Hid (gZ W0 gt gb c bt bb G Bs D (S3.values p (D.x.pack p).vars (s.sets.take (i+1))).1 w6 v' (es++(S3.values p (D.x.pack p).vars (s.sets.take (i+1))).2)):=by rw[jr.out];show gZ _ _ _ _ _ _ _ _ _ _ _ _ (es++(vs++[q]));rw[<-yW,HL.out];exact gZ.app H5.out ((Only.refl (fun _=>False) w5).alloc _) s1 s2 s3
      obtain⟨g6,c6',rfl,-,-,-⟩:=s3;have jg:=Eo.out;clear s1 s2 H5 l9;go_wp2_with fail;go_roundw;case rel=>exact⟨i+1,by first|rfl|go_num,by omega,Lc⟩
      case measure=>simp[RowKit.intOf]<;>omega
     obtain rfl:IG=i:=by omega
     clear hi ci;rw[qI (yG NSe.out)]at qp;obtain⟨S4,hS4⟩:=ze ((S3.values p (D.x.pack p).vars s.sets).1);obtain⟨vs,hvs⟩:=ze ((S3.values p (D.x.pack p).vars s.sets).2);have UF:=HMe.out D1 S2 S3 es S4 vs HP.out HE.out (by rw[<-hS4,<-hvs]);have acv:∀z∈vs,0<=z/\z<=65536:=by rw[<-hvs];exact(TB.JB p (D.x.pack p).vars s.sets HS3.out).2
     have hvl:vs.length=IG:=by rw[<-hvs,TB.ny,NSe.out]
     rw[hS4,hvs]at qp;obtain⟨L,hL⟩:=ze (es++vs);have hLl:L.length<=IG+2:=by rw[<-hL,qK];omega
     have hLb:∀z∈L,0<=z/\z<=65536:=by
      rw[<-hL];intro y hy;rcases qW.1 hy with h|h;·exact hes y h
      exact acv y h
     rw[hL]at qp UF;have hzz:Nn=z:=by rw[<-HZ.out,UF]
     obtain⟨r0,hr0⟩:=ze (!L.contains 0);have hcz:(L.contains 0=false)↔(r0=true):=by rw[<-hr0];cases L.contains 0<;>simp
     have H9:Hid ((if 0<Nn/\r0=true then (S4.1,S4.2.adds (kL Nn L))else S4)=S9):=by rw[<-Xg.out,UF];simp only[hcz];first|exact rfl|trivial
     subst hzz;have Jk:=zh hLb;have HR0:=zh hr0;obtain⟨au,cu,hu,-,-⟩:∃au cu,u14= .slice au L.length cu/\L.length<=cu/\cu<=maxLen:=aH qp.out.own;subst hu;have yS:Hid (∀S5 W,aN W0 gt gb c bt bb G Bs D S5 W->aN w gt gb c bt bb G Bs D S5 W):=fun S5 W h=>aN.after iM.out h;clear UF hS4 hvs hL hLb hr0 hcz acv hvl;by_cases hpos:0<Nn
     ·have wJ:Hid (Calls Tryz.prog 227 #[.slice au L.length cu] wr fun e w'=>e= .returned (.bool r0)/\w'=wr):=by obtain⟨_,_,Hx,_,_,_,hI,_⟩:=qp.out.ints Jk.out;exact En hI r0 HR0.out
      have zF:Hid (Calls Tryz.prog 28 #[.pointer (some ⟨c,0,none⟩)] wr fun e w'=>e= .returned (.pointer (some ⟨bb,0,none⟩))/\w'=wr):=by obtain⟨_,_,Hx,_⟩:=qp.out;exact mX Hx.gr
      have F7:Hid (Calls Tryz.prog 228 #[.pointer (some ⟨bb,0,none⟩),.int .i64 Nn,.slice au L.length cu] wr fun e w'=>e= .returned (.tuple #[])/\aN W0 gt gb c bt bb G Bs D (S4.1,S4.2.adds (kL Nn L)) w'):=by obtain⟨_,_,Hx,A,A',O,hI,hN⟩:=qp.out.ints Jk.out;exact(acp Hx hI hN Nn ⟨by omega,by omega⟩ (fun y hy=>by have:=Jk.out y hy;omega) zBB).mono fun e w' ⟨he,h⟩=>⟨he,aN.trans A A' O h⟩
      go_wp2_with fail;refine wJ.out.mono ?_;rintro e w4 ⟨rfl,rfl⟩;cases r0 with
      |false=>
       have h9:S4=S9:=by rw[<-H9.out,if_neg zAE]
       subst h9;have HE2:=zh (yS.out _ _ qp.out.gr);clear qp F7 zF;go_wp2_with fail;go_ret;exact⟨rfl,HE2.out⟩
      |true=>
       have h9:(S4.1,S4.2.adds (kL Nn L))=S9:=by rw[<-H9.out,if_pos ⟨hpos,rfl⟩]
       rw[h9]at F7;clear qp h9;go_wp2_with fail;refine zF.out.mono ?_;rintro e w5 ⟨rfl,rfl⟩;go_wp2_with fail;refine F7.out.mono ?_;rintro e w6 ⟨rfl,h6⟩;have H6:=zh (yS.out _ _ h6);clear h6 F7 zF;go_wp2_with fail;go_ret;exact⟨rfl,H6.out⟩
     have h9:S4=S9:=by rw[<-H9.out,if_neg (fun h=>hpos h.1)]
     subst h9;have HE2:=zh (yS.out _ _ qp.out.gr);clear qp;go_wp2_with fail;go_ret;exact⟨rfl,HE2.out⟩
end
end Go.Proofs.YtdmmebjjojimiaaGreatDoor
