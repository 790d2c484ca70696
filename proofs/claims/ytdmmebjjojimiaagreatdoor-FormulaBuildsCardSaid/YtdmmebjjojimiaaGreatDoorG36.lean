/- Package variant: one, May.; Package check: pack. Printed by gen_ck2.py. -/
import Derived.Test.YtdmmebjjojimiaaGreatDoorG35
set_option maxRecDepth 100000
set_option maxHeartbeats 8000000
set_option linter.all false
namespace Go.Proofs
theorem zA9{p:Prop}(h:p:=by rw[bD.out];simp):p:=h
end Go.Proofs
namespace Go.Proofs.YtdmmebjjojimiaaGreatDoor
open Go.RowKit
section
variable {w w':World} {B:Nat}
theorem ai0{cs:List Value}{v:eP}(h:jM B w cs v):Calls Tryz.prog 264 #[.agg cs.toArray] w fun e w'=>e= .returned (.bool (lQ v))/\O0 w w':=by
 obtain⟨v1,rfl,hok,hr⟩:=h;obtain⟨ao,c,rfl,-,-⟩:=hr.shape;obtain⟨n,hn⟩:=ze v.values.length;rw[hn]at hr⊢;obtain⟨W0,hW0⟩:=ze (w.alloc (.cells #[.string v.name,.slice ao n c] 145));have iZ:Hid (O0 w W0):=zAc;have b0:W0.heap[w.heap.size]? =some (.cells #[.string v.name,.slice ao n c] 145):=by rw[<-hW0];exact qL w _
 have HB:Hid (∀W,O0 W0 W->W.cell? ⟨w.heap.size,0,none⟩=some (.string v.name)/\W.cell? ⟨w.heap.size,1,none⟩=some (.slice ao n c)):=fun W ho=>by have b1:=aC b0 ho (fun f=>f);exact zCr
 have HR:Hid (∀W,O0 W0 W->aQ 1 dN B W (.slice ao n c) v.values):=fun W ho=>hr.keep dN.keep (Kp.gV (iZ.out.same ho));obtain⟨r1,hr1⟩:=ze (Lk.nameB v.name.toList);obtain⟨r2,hr2⟩:∃r,(v.values.any fun s=> !Lk.lH s.toList)=r:=⟨_,rfl⟩;obtain⟨r3,hr3⟩:=ze (!dA v.values);have HN:=zh (Y1 (w:=W0) v.name hok r1 hr1);have HA:Hid (∀W,O0 W0 W->Calls Tryz.prog 189 #[.slice ao n c,.func (.func 332) #[] #[]] W fun e w'=>e= .returned (.bool r2)/\O0 W w'):=fun W ho=>
  BH (HR.out W ho) XW (aiV W) r2 hr2
 have HT:Hid (n<=4->∀W,O0 W0 W->Calls Tryz.prog 265 #[.slice ao n c] W fun e w'=>e= .returned (.bool r3)/\O0 W w'):=fun h4 W ho=>by rw[<-hr3];exact U7 (HR.out W ho) (by rw[hn];omega)
 obtain⟨r,hres⟩:=ze (lQ v);have bD:Hid (r=(r1&&decide (0<n)&&decide (n<=4)&& !r2&& !r3)):=by show _=_;rw[<-hres,<-hr1,<-hr2,<-hr3,<-hn];unfold lQ;rw[Bool.not_not,Jf]
 rw[hres];obtain⟨q0,q1⟩:=HB.out W0 zr;clear hr1 hr2 hr3 hres b0 hr hn;go_enter Tryz.func264,Tryz.ntmps264;go_wp2_with fail;refine HN.out.mono ?_;rintro e w1 ⟨rfl,O1⟩;have aW:=zh O1;obtain⟨q0,q1⟩:=HB.out w1 O1;clear O1 HN;have done:∀{b:Bool} {W:World},r=b->O0 W0 W->(Ending.returned (.bool b)= .returned (.bool r)/\O0 w W):=fun h o=>⟨by rw[h],iZ.out.same o⟩;clear done;cases r1 with
 |false=>have hf:r=false:=zA9;subst hf;exact zC3
 |true=>
  by_cases h0:0<n
  ·by_cases h4:n<=4
   ·go_wp2_with fail;refine(HA.out w1 aW.out).mono ?_;rintro e w2 ⟨rfl,O2⟩;have iO:=zh (aW.out.same O2);clear O2 HA q0 q1;obtain⟨q0,q1⟩:=HB.out w2 iO.out;cases r2 with
    |true=>have hf:r=false:=zA9;subst hf;exact zEJ
    |false=>
     go_wp2_with fail;refine(HT.out h4 w2 iO.out).mono ?_;rintro e w3 ⟨rfl,O3⟩;have hf:r= !r3:=by rw[bD.out,qX h0,qX h4];simp
     subst hf;go_wp2_with fail;go_ret;exact⟨rfl,iZ.out.same (iO.out.same O3)⟩
   have hf:r=false:=by rw[bD.out,qP h4];simp
   subst hf;exact zC3
  have hf:r=false:=by rw[bD.out,qP h0];simp
  subst hf;exact zC3
def Ad(l:List eP)(j:Nat):List Str:=(l.take j).map eP.name
theorem RG{l:List eP}{j:Nat}{r:eP}(h:l[j]? =some r):Ad l (j+1)=Ad l j++[r.name]:=by unfold Ad;rw[List.take_add_one,h];simp
theorem ai1{v:Value}{l:List eP}(h:aQ 2 jM B w v l):∀r∈l,okS r.name:=fun r hr=>by
 obtain⟨cs,v1,-,hC,-⟩:=h.all r hr
 exact hC
theorem vU{l:List eP}{j:Nat}{r:eP}(h:l[j]? =some r)(hf:lQ r=false):lI l=false:=by
 unfold lI;have:l.all lQ=false:=by rw[List.all_eq_false];exact⟨r,qT h,by rw[hf];simp⟩
 rw[this,yQ,yQ]
theorem ai2{vl:Value}{l:List eP}(hl:aQ 2 jM B w vl l)(hlen:l.length<=1000000):Calls Tryz.prog 185 #[vl] w fun e w'=>e= .returned (.bool (lI l))/\O0 w w':=by
 obtain⟨a_l,YA,rfl,g_l,TL⟩:=hl.shape;obtain⟨uJ,e1⟩:=ze l.length;have Ap:=zh e1;rw[e1]at hl g_l hlen⊢;have yg:Hid (∀W,O0 w W->aQ 2 jM B W (.slice a_l uJ YA) l):=fun W ho=>hl.keep jM.keep (Kp.gV ho);have vw:=zh (ai1 hl);clear e1 hl;obtain⟨r,hres⟩:=ze (lI l);have bD:=zh hres;rw[hres];obtain⟨W0,hW0⟩:=zB w;subst hW0;clear hres;go_enter Tryz.func185,Tryz.ntmps185;go_wp2_with fail;go_loopw [3,8] (fun vo vj iJ=>Hid (O0 W0 iJ)/\∃j:Nat,vj= .int .i64 j/\j<=uJ/\Hid (iJ.ownsRow 0 9 1 vo j (fH (Ad l j)))/\Hid (∀k,vo.ownBlock=some k->W0.heap.size<=k)/\Hid ((l.take j).all lQ=true)) (fun _ v _=>uJ-(RowKit.intOf v).toNat);case atStart=>exact⟨show Hid _ from Only.refl _ _,0,rfl,qE _,World.ownsRow_nil _ _ _ _,(fun k hk=>by cases hk),show Hid _ from by simp[Hid]⟩
 case round=>
  obtain⟨iJ,rfl⟩:=zB wr;obtain⟨Di,j,rfl,hj,HV,Zi,HAl⟩:=hrel;by_cases cj:j<uJ
  ·have iG:=zw (j+1);obtain⟨yz,hxz⟩:=zG l j zAh;obtain⟨NG,xM,az,nz,cz,wE,hnz,Ky,mJ⟩:=Fj (yg.out W0 zr) hxz;first|subst wE| (simp only[qG,qO,and_true]at wE;obtain⟨rfl,rfl⟩:=wE)
   have vM:=zh mJ;have Bg:=zh hxz;clear mJ hxz;have lG:Hid (iJ.rangeAt NG (xM+j*2) [.string yz.name,.slice az nz cz]):=(vM.out iJ Di.out).1;obtain⟨w6,hw6⟩:=ze (iJ.alloc (.cells #[.string ⟨#[]⟩,.slice none 0 0] 145));have H6z:Hid (w6.heap[iJ.heap.size]? =some (.cells #[.string ⟨#[]⟩,.slice none 0 0] 145)):=by rw[<-hw6];exact qL iJ _
   obtain⟨w7,hw7⟩:=ze (w6.setRow iJ.heap.size #[.string yz.name,.slice az nz cz]);have HB7:Hid (w7.heap[iJ.heap.size]? =some (.cells #[.string yz.name,.slice az nz cz] 145 (0,0))):=by rw[<-hw7];exact setRow_heap _ _ _ _ _ _ H6z.out
   have pG:Hid (O0 iJ w7):=by rw[<-hw7,<-hw6];exact(zr.alloc _).trans (aP _ _ _) fun k hk=>.inr (yG hk.symm)
   have HBx:Hid (∀W,O0 w7 W->W.cell? ⟨iJ.heap.size,0,none⟩=some (.string yz.name)/\W.cell? ⟨iJ.heap.size,1,none⟩=some (.slice az nz cz)):=fun W ho=>by have b1:=aC HB7.out ho (fun f=>f);exact zCr
   obtain⟨ro,hro⟩:=ze (lQ yz);have HRo:=zh hro;have TK:Hid (Calls Tryz.prog 264 #[.agg #[.string yz.name,.slice az nz cz]] w7 fun e w'=>e= .returned (.bool ro)/\O0 w7 w'):=by rw[<-hro];exact ai0 (vM.out w7 (Di.out.same pG.out)).2.2
   obtain⟨ao,co,rfl,-,-⟩:=aJ HV.out;obtain⟨q0,q1⟩:=HBx.out w7 zr;clear hro hnz;go_wp2_with (first
    | (refine wpList_load_mid rfl 145 (.tmp 10) rfl NG (xM+j*2) rfl _ _ lG.out Tryz.underlying145 rfl zk ?_)
    | (refine wpList_store_row rfl 145 (.tmp 5) (.tmp 11) rfl iJ.heap.size #[.string yz.name,.slice az nz cz] rfl rfl 145 #[.string ⟨#[]⟩,.slice none 0 0] H6z.out zk rfl zk ?_))
   refine TK.out.mono ?_;rintro e w8 ⟨rfl,O8⟩;have JM:=zh O8;clear q0 q1;obtain⟨q0,q1⟩:=HBx.out w8 O8;clear O8 TK lG H6z hw6 hw7 HB7;cases ro with
   |false=>
    have hf:r=false:=by rw[<-bD.out];exact vU Bg.out HRo.out
    subst hf;go_wp2_with fail;go_ret;exact⟨rfl,Di.out.same (pG.out.same JM.out)⟩
   |true=>
    have BZ:=zh (pG.out.same JM.out);go_wp2_with (at_builtin;go_must (refine AL (u:=.string yz.name) zM rfl (.tmp 15) (.tmp 18) rfl rfl rfl (by have h:=cell_new0 w8 (.string yz.name) 9;simpa using h) rfl (aG HV.out (BZ.out.alloc _) (fun _ _ f=>f)) zAB zBV ?_));intro v' w2 r1 r2 r3;have HVv:Hid (w2.ownsRow 0 9 1 v' (j+1) (fH (Ad l (j+1)))):=by rw[RG Bg.out];simpa[fH,Hid]using r1
    have HOv:Hid (O0 W0 w2):=(Di.out.same (BZ.out.alloc _)).trans r2 fun k hk=>.inr (Zi.out k hk);have HBv:Hid (∀k,v'.ownBlock=some k->W0.heap.size<=k):=by
     intro k hk;obtain⟨g,cap',rfl,-,-,h|h⟩:=r3;·exact zDl
     simp[Value.ownBlock]at hk;subst hk;have h9:=Di.out.size;have h8:=BZ.out.size;simp at h;omega
    have apX:Hid ((l.take (j+1)).all lQ=true):=by show _=true;rw[List.take_add_one,Bg.out,List.all_append,HAl.out];simp[HRo.out]
    obtain⟨g,cap',rfl,-,-,-⟩:=r3;clear r1 r2 q0 q1;go_wp2_with fail;go_roundw;case rel=>exact⟨HOv,j+1,by first|rfl|go_num,by omega,HVv,HBv,apX⟩
    case measure=>simp[RowKit.intOf]<;>omega
  obtain rfl:uJ=j:=by omega
  obtain⟨ao,co,rfl,-,-⟩:=aJ HV.out;have hall:Ad l uJ=l.map eP.name:=by unfold Ad;rw[qI (yG Ap.out)]
  have hal:l.all lQ=true:=by have:=HAl.out;rwa[qI (yG Ap.out)]at this
  have hlm:(l.map eP.name).length=uJ:=by rw[qM];exact Ap.out
  have hrd:aQ 1 dN iJ.heap.size iJ (.slice ao uJ co) (l.map eP.name):=by have h:=HV.out;rw[hall]at h;refine sG hlm h fun s hs=>?_;obtain⟨r,hr,rfl⟩:=yD.1 hs;exact vw.out r hr
  have HT:=zh (U7 hrd (by rw[hlm];exact hlen));obtain⟨rt,hrt⟩:=ze (!dA (l.map eP.name));rw[hrt]at HT;have HR2:Hid (r=(decide (uJ<=4)&& !rt)):=by show _=_;rw[<-bD.out,<-hrt];unfold lI;rw[hal,yR,Ap.out,Bool.not_not]
  clear hrt hrd hall hal hlm;by_cases h4:uJ<=4
  ·go_wp2_with fail;refine HT.out.mono ?_;rintro e w9 ⟨rfl,O9⟩;have hf:r= !rt:=by rw[HR2.out,qX h4];simp
   subst hf;go_wp2_with fail;go_ret;exact⟨rfl,Di.out.same O9⟩
  have hf:r=false:=by rw[HR2.out,qP h4];simp
  subst hf;go_wp2_with fail;go_ret;exact⟨rfl,Di.out⟩
end
end Go.Proofs.YtdmmebjjojimiaaGreatDoor
namespace Go.Proofs
theorem zB8{p:Prop}(h:p:=by
 go_wp2_with fail
 go_ret
 exact eX.mk _ rfl zAD hres (bM.out.same (aW.out.same HP2.out))):p:=h
theorem zCK{p:Prop}(h:p:=by exact⟨by rw[aj b1];rfl,by rw[aj b1];rfl,by rw[aj b1];rfl,by rw[aj b1];rfl,by rw[aj b1];rfl,by rw[aj b1];rfl,by rw[aj b1];rfl,by rw[aj b1];rfl⟩):p:=h
theorem zC5{p:Prop}(h:p:=by
 rw[bD.out,qX hfi,qX ai9,qX (show 0<iL by omega),qX (show iL<=10 by omega),qX (show uq<=16 by omega),qX (show zH<=8 by omega),qX (show rP<=4 by omega),qX (show xq<=8 by omega)]
 simp):p:=h
theorem zDZ{p:Prop}(h:p:=by
 go_wp2_with fail
 go_ret
 exact eX.mk _ rfl zAD hres (bM.out.same (aW.out.same DC.out))):p:=h
theorem zDm{p:Prop}(h:p:=by
 rw[<-hpn,<-aB.out]
 unfold aF.dh aF.iI
 have:=yO (fun i=>iT (x.pack i).provides yy.name) (List.range x.packs.length)
 simpa[Hid]using this):p:=h
theorem zD3{p:Prop}(h:p:=by
 show _=_
 rw[<-hok]
 unfold aF.kL
 dsimp only
 rw[hpk,hf,hpn,htw,hmv,ht3,ht6,Io.out,Ny4.out,Ny5.out,Ny3.out,Ny6.out]):p:=h
theorem zER{p:Prop}(h:p:=by
 rw[<-hW1,<-hV]
 exact(zr.alloc _).trans (aP _ _ _) fun k hk=>.inr (by have:=vC.out;omega)):p:=h
theorem zEl{p:Prop}(h:p:=by
 go_wp2_with fail
 go_ret
 exact eX.mk _ rfl zAD hres (bM.out.same (aW.out.same xu.out))):p:=h
theorem zEm{p:Prop}(h:p:=by
 go_wp2_with fail
 go_ret
 exact eX.mk _ rfl zAD hres (bM.out.same (aW.out.same Vk.out))):p:=h
theorem zEn{p:Prop}(h:p:=by
 go_wp2_with fail
 go_ret
 exact eX.mk _ rfl zAD hres (bM.out.same (aW.out.same CQ.out))):p:=h
theorem zEo{p:Prop}(h:p:=by
 go_wp2_with fail
 go_ret
 exact eX.mk _ rfl zAD hres (bM.out.same (aW.out.same Aq.out))):p:=h
theorem zE5{p:Prop}(h:p:=by
 rw[hpn]at h1
 obtain⟨a,c,rfl,-,-⟩:=aJ h1
 exact⟨a,c,he,h3⟩):p:=h
theorem zFE{p:Prop}(h:p:=by
 have hres:decide (((1:Int))=0)=ok:=by
  rw[bD.out,qP (show¬uq<=16 by omega)]
  simp
 exact zB8):p:=h
theorem zFF{p:Prop}(h:p:=by
 have hres:decide (((1:Int))=0)=ok:=by
  rw[bD.out,qP (show¬iL<=10 by omega)]
  simp
 exact zB8):p:=h
theorem zFG{p:Prop}(h:p:=by
 have hres:decide (((1:Int))=0)=ok:=by
  rw[bD.out,qP (show¬zH<=8 by omega)]
  simp
 exact zB8):p:=h
theorem zFH{p:Prop}(h:p:=by
 have hres:decide (((1:Int))=0)=ok:=by
  rw[bD.out,qP (show¬xq<=8 by omega)]
  simp
 exact zB8):p:=h
theorem zFI{p:Prop}(h:p:=by
 have hres:decide (((1:Int))=0)=ok:=by
  rw[bD.out,qP (show¬rP<=4 by omega)]
  simp
 exact zB8):p:=h
theorem zFJ{p:Prop}(h:p:=by
 have hres:decide (((3:Int))=0)=ok:=by
  rw[bD.out,qP (show¬pn=0 by omega)]
  simp
 exact zB8):p:=h
theorem zFM{p:Prop}(h:p:=by
 subst z1
 have hres:decide (((4:Int))=0)=ok:=by
  rw[bD.out]
  simp
 exact zB8):p:=h
end Go.Proofs
namespace Go.Proofs.YtdmmebjjojimiaaGreatDoor
open Go.RowKit
section
variable {w w':World} {B:Nat}
def eX(ok:Bool)(w w':World)(e:Ending):Prop:= ∃c:Int,e= .returned (.int .u8 c)/\(0<=c/\c<=255)/\decide (c=0)=ok/\O0 w w'
theorem eX.mk{ok:Bool}(c:Int){w w':World}{e:Ending}(he:e= .returned (.int .u8 c))(hc:0<=c/\c<=255)(hb:decide (c=0)=ok)(ho:O0 w w'):eX ok w w' e:=⟨c,he,hc,hb,ho⟩
theorem ai3{pR:List Value}{x:aF}(hx:gy B w pR x)(hlen:x.packs.length<=1000000){i:Nat}(hi:i<x.packs.length)(hrel:(x.pack i).aX.length<=1000000)(hvar:(x.pack i).vars.length<=1000000):Calls Tryz.prog 104 #[.agg pR.toArray,.int .i64 (i:Int)] w fun e w'=>eX (x.kL i) w w' e:=by
 obtain⟨aV,ak,aS,aT,aK,aO,rfl,fV,fZ,dQ,dR,aB,bJ,qo⟩:=open_rec hx;clear hx;try rw[aB.out]
 obtain⟨W0,hW0,bM,vC,aU⟩:=Nj w (.slice aV ak aS) (.slice aT aK aO) 25;obtain⟨gI,bK,bT⟩:=qo W0 bM.out;clear qo;clear dQ dR bJ bT;rw[aB.out]at hlen hi;have hfl:=aF.afy (x:=x) (i:=i) (by rw[aB.out];exact hi);obtain⟨yy,hxy⟩:=zG x.packs i zAV;obtain⟨Ah,kX,lD,iL,lF,pU,pV,pW,vN,rP,vO,wS,uq,wU,Dy,zH,Dz,Au,xq,Aw,nN,jX,ny,sN,sO,wF,wG,yV,Ed,jw⟩:=jH (bK.out W0 zr) hxy;first|subst nN| (simp only[qG,qO,and_true]at nN;obtain⟨rfl,rfl⟩:=nN)
 have Io:=zh jX;have Ny2:=zh ny;have Ny3:=zh sN;have Ny4:=zh sO;have Ny5:=zh wF;have Ny6:=zh wG;have jk:=zh jw;have xO:=zh hxy;clear jw hxy jX ny sN sO wF wG;have uK:Hid (∀W,O0 W0 W->aQ 2 oh B W (.slice lD iL lF) yy.aX):=fun W ho=>(jk.out W ho).2.1;have FH:Hid (∀W,O0 W0 W->aQ 2 jM B W (.slice pU pV pW) yy.vars):=fun W ho=>(jk.out W ho).2.2.1;have RH:Hid (∀W,O0 W0 W->aQ 1 dN B W (.slice vN rP vO) yy.provides):=fun W ho=>(jk.out W ho).2.2.2.1;have X3:Hid (∀W,O0 W0 W->aQ 1 dN B W (.slice Au xq Aw) yy.files):=fun W ho=>(jk.out W ho).2.2.2.2.2.2.1;have hpk:x.pack i=yy:=zAk;rw[hpk]at hfl hrel hvar;rw[Io.out]at hrel;rw[Ny2.out]at hvar;obtain⟨ok,hok⟩:=ze (x.kL i);obtain⟨f,hf⟩:=ze (x.find yy.name);obtain⟨pn,hpn⟩:=ze ((x.dh yy.name).length);obtain⟨tw,htw⟩:=ze (dA (yy.aX.map lV.version));obtain⟨mv,hmv⟩:=ze (lI yy.vars);obtain⟨t3,ht3⟩:=ze (dA yy.provides);obtain⟨t6,ht6⟩:=ze (dA yy.files);have bD:Hid (ok=(decide (f=(i:Int))&&decide (pn=0)&&decide (0<iL)&&(decide (iL<=10)&&decide (uq<=16)&&decide (zH<=8)&&decide (rP<=4)&&decide (xq<=8))&&tw&&mv&&t3&&t6)):=by exact zD3
 rw[hok];rw[hf]at hfl;have HF:Hid (∀W,O0 W0 W->Calls Tryz.prog 182 #[.agg #[.slice (some ⟨Ah,kX,none⟩) ak aS,.slice aT aK aO],.string yy.name] W fun e w'=>e= .returned (.int .i64 f)/\O0 W w'):=fun W hW=>by rw[<-hf];exact qc (gI.out W hW) yy.name
 have VL:Hid (∀W,O0 W0 W->Calls Tryz.prog 165 #[.agg #[.slice (some ⟨Ah,kX,none⟩) ak aS,.slice aT aK aO],.string yy.name] W fun e w'=> ∃a c,e= .returned (.slice a pn c)/\O0 W w'):=fun W hW=>(nO (gI.out W hW) zAN yy.name).mono fun e w' ⟨v,he,h1,_,h3⟩=>by exact zE5
 have HPn:Hid (pn<=ak):=by exact zDm
 have HVr:Hid (∀W,O0 W0 W->Calls Tryz.prog 184 #[.slice lD iL lF] W fun e w'=> ∃a c,e= .returned (.slice a iL c)/\aQ 1 dN w'.heap.size w' (.slice a iL c) (yy.aX.map lV.version)/\O0 W w'):=fun W hW=>(XZ (uK.out W hW) (by rw[Io.out];exact hrel)).mono fun e w' ⟨v,he,h1,h3⟩=>by obtain⟨a,c,rfl,-,-⟩:=h1.shape;rw[qM,Io.out]at h1 he;exact⟨a,c,he,h1,h3⟩
 have HTw:Hid (∀W a c,aQ 1 dN W.heap.size W (.slice a iL c) (yy.aX.map lV.version)->Calls Tryz.prog 183 #[.slice a iL c] W fun e w'=>e= .returned (.bool (!tw))/\O0 W w'):=fun W a c h=>by rw[<-htw];exact JO h
 have HMv:Hid (∀W,O0 W0 W->Calls Tryz.prog 185 #[.slice pU pV pW] W fun e w'=>e= .returned (.bool mv)/\O0 W w'):=fun W hW=>by rw[<-hmv];exact ai2 (FH.out W hW) (by rw[Ny2.out];exact hvar)
 have HT3:Hid (∀W,O0 W0 W->Calls Tryz.prog 183 #[.slice vN rP vO] W fun e w'=>e= .returned (.bool (!t3))/\O0 W w'):=fun W hW=>by rw[<-ht3];exact JO (RH.out W hW)
 have HT6:Hid (∀W,O0 W0 W->Calls Tryz.prog 183 #[.slice Au xq Aw] W fun e w'=>e= .returned (.bool (!t6))/\O0 W w'):=fun W hW=>by rw[<-ht6];exact JO (X3.out W hW)
 clear hf hpn htw hmv ht3 ht6 hok hpk;have fE:=zh (jk.out W0 zr).1;have hs:=vC.out;obtain⟨V,hV⟩:=ze (W0.alloc (.cells #[.string ⟨#[]⟩,.int .i64 0,.slice none 0 0,.slice none 0 0,.slice none 0 0,.slice none 0 0,.slice none 0 0,.slice none 0 0] 101));have H6:Hid (V.heap[w.heap.size+1]? =some (.cells #[.string ⟨#[]⟩,.int .i64 0,.slice none 0 0,.slice none 0 0,.slice none 0 0,.slice none 0 0,.slice none 0 0,.slice none 0 0] 101)):=by rw[<-hV,<-vC.out];exact qL W0 _
 obtain⟨W1,hW1⟩:=ze (V.setRow (w.heap.size+1) #[.string yy.name,.int .i64 yy.line,.slice lD iL lF,.slice pU pV pW,.slice vN rP vO,.slice wS uq wU,.slice Dy zH Dz,.slice Au xq Aw]);have HB1:Hid (W1.heap[w.heap.size+1]? =some (.cells #[.string yy.name,.int .i64 yy.line,.slice lD iL lF,.slice pU pV pW,.slice vN rP vO,.slice wS uq wU,.slice Dy zH Dz,.slice Au xq Aw] 101 (0,0))):=by rw[<-hW1];exact setRow_heap _ _ _ _ _ _ H6.out
 have aW:Hid (O0 W0 W1):=by exact zER
 have Jg:Hid (∀W,O0 W1 W->W.cell? ⟨w.heap.size+1,0,none⟩=some (.string yy.name)/\W.cell? ⟨w.heap.size+1,1,none⟩=some (.int .i64 yy.line)/\W.cell? ⟨w.heap.size+1,2,none⟩=some (.slice lD iL lF)/\W.cell? ⟨w.heap.size+1,3,none⟩=some (.slice pU pV pW)/\W.cell? ⟨w.heap.size+1,4,none⟩=some (.slice vN rP vO)/\W.cell? ⟨w.heap.size+1,5,none⟩=some (.slice wS uq wU)/\W.cell? ⟨w.heap.size+1,6,none⟩=some (.slice Dy zH Dz)/\W.cell? ⟨w.heap.size+1,7,none⟩=some (.slice Au xq Aw)):=fun W ho=>by have b1:=aC HB1.out ho (fun f=>f);exact zCK
 have Sm:Hid (O0 W1 W1):=Only.refl _ _;obtain⟨k0,k1⟩:=aU.out W0 zr;obtain⟨p0,p1,p2,p3,p4,p5,p6,p7⟩:=Jg.out W1 zr;have hk:=aU.out W1 aW.out;obtain⟨m0,m1⟩:=hk;have hW0':=hW0.symm;clear hW0;go_enter Tryz.func104,Tryz.ntmps104;go_wp2_with (first
  | (refine wpList_load_mid rfl 101 (.tmp 9) rfl Ah (kX+i*8) rfl _ _ fE.out Tryz.underlying101 rfl zk ?_)
  | (refine wpList_store_row rfl 101 (.tmp 5) (.tmp 10) rfl (w.heap.size+1) #[.string yy.name,.int .i64 yy.line,.slice lD iL lF,.slice pU pV pW,.slice vN rP vO,.slice wS uq wU,.slice Dy zH Dz,.slice Au xq Aw] rfl rfl 101 #[.string ⟨#[]⟩,.int .i64 0,.slice none 0 0,.slice none 0 0,.slice none 0 0,.slice none 0 0,.slice none 0 0,.slice none 0 0] H6.out zk rfl zk ?_))
 clear m0 m1;refine(HF.out W1 (aW.out.same Sm.out)).mono ?_;rintro e w1 ⟨rfl,O1⟩;have Vk:=zh (Sm.out.same O1);clear O1 k0 k1 p0 p1 p2 p3 p4 p5 p6 p7;obtain⟨k0,k1⟩:=aU.out w1 (aW.out.same Vk.out);obtain⟨p0,p1,p2,p3,p4,p5,p6,p7⟩:=Jg.out w1 Vk.out;have hpn:=HPn.out;by_cases hlt:f<(i:Int)
 ·have hres:decide (((2:Int))=0)=ok:=by rw[bD.out,qP (show¬f=(i:Int) by omega)];simp
  exact zEm
 have hfi:f=(i:Int):=by omega
 go_wp2_with fail;refine(VL.out w1 (aW.out.same Vk.out)).mono ?_;rintro e w2 ⟨ap,cp,rfl,O1⟩;have HP2:=zh (Vk.out.same O1);clear O1 k0 k1 p0 p1 p2 p3 p4 p5 p6 p7;obtain⟨k0,k1⟩:=aU.out w2 (aW.out.same HP2.out);obtain⟨p0,p1,p2,p3,p4,p5,p6,p7⟩:=Jg.out w2 HP2.out;by_cases cpn:0<pn;·exact zFJ
 have ai9:pn=0:=by omega
 by_cases z1:iL=0;·exact zFM
 have z3:((iL:Int)==0)=false:=by rw[yC];omega
 by_cases q1:10<iL;·exact zFF
 by_cases q2:16<uq;·exact zFE
 by_cases q3:8<zH;·exact zFG
 by_cases q4:4<rP;·exact zFI
 by_cases q5:8<xq;·exact zFH
 go_wp2_with fail;refine(HVr.out w2 (aW.out.same HP2.out)).mono ?_;rintro e w3 ⟨a3,c3,rfl,HRv,O1⟩;have rH:=zh (HP2.out.same O1);clear O1 k0 k1 p0 p1 p2 p3 p4 p5 p6 p7;obtain⟨k0,k1⟩:=aU.out w3 (aW.out.same rH.out);obtain⟨p0,p1,p2,p3,p4,p5,p6,p7⟩:=Jg.out w3 rH.out;go_wp2_with fail;refine(HTw.out w3 a3 c3 HRv).mono ?_;rintro e w4 ⟨rfl,O1⟩;have xu:=zh (rH.out.same O1);clear O1 k0 k1 p0 p1 p2 p3 p4 p5 p6 p7;obtain⟨k0,k1⟩:=aU.out w4 (aW.out.same xu.out);obtain⟨p0,p1,p2,p3,p4,p5,p6,p7⟩:=Jg.out w4 xu.out;cases tw with
 |false=>
  have hres:decide (((5:Int))=0)=ok:=by rw[bD.out];simp
  exact zEl
 |true=>
  go_wp2_with fail;refine(HMv.out w4 (aW.out.same xu.out)).mono ?_;rintro e w5 ⟨rfl,O1⟩;have CQ:=zh (xu.out.same O1);clear O1 k0 k1 p0 p1 p2 p3 p4 p5 p6 p7;obtain⟨k0,k1⟩:=aU.out w5 (aW.out.same CQ.out);obtain⟨p0,p1,p2,p3,p4,p5,p6,p7⟩:=Jg.out w5 CQ.out;cases mv with
  |false=>
   have hres:decide (((6:Int))=0)=ok:=by rw[bD.out];simp
   exact zEn
  |true=>
   go_wp2_with fail;refine(HT3.out w5 (aW.out.same CQ.out)).mono ?_;rintro e w6 ⟨rfl,O1⟩;have DC:=zh (CQ.out.same O1);clear O1 k0 k1 p0 p1 p2 p3 p4 p5 p6 p7;obtain⟨k0,k1⟩:=aU.out w6 (aW.out.same DC.out);obtain⟨p0,p1,p2,p3,p4,p5,p6,p7⟩:=Jg.out w6 DC.out;cases t3 with
   |false=>
    have hres:decide (((5:Int))=0)=ok:=by rw[bD.out];simp
    exact zDZ
   |true=>
    go_wp2_with fail;refine(HT6.out w6 (aW.out.same DC.out)).mono ?_;rintro e w7 ⟨rfl,O1⟩;have Aq:=zh (DC.out.same O1);clear O1 k0 k1 p0 p1 p2 p3 p4 p5 p6 p7;obtain⟨k0,k1⟩:=aU.out w7 (aW.out.same Aq.out);obtain⟨p0,p1,p2,p3,p4,p5,p6,p7⟩:=Jg.out w7 Aq.out;cases t6 with
    |false=>
     have hres:decide (((5:Int))=0)=ok:=by rw[bD.out];simp
     exact zEo
    |true=>
     have hres:decide (((0:Int))=0)=ok:=by exact zC5
     exact zEo
end
end Go.Proofs.YtdmmebjjojimiaaGreatDoor
namespace Go.Proofs
theorem zAo{p:Prop}(h:p:=by rw[<-hW2];exact setRow_heap _ _ _ _ _ _ XO.out):p:=h
theorem zBB{p:Prop}(h:p:=by rw[<-hW1,<-vC.out];exact qL W0 _):p:=h
theorem zBO{p:Prop}(h:p:=by rw[<-hW1];exact zr.alloc _):p:=h
theorem zBS{p:Prop}(h:p:=by rw[hk];exact yX.out.size):p:=h
theorem zDf{p:Prop}(h:p:=by
 rw[<-hW2,<-Zd]
 exact(yX.out.alloc _).trans (aP _ _ _) fun k hk=>.inr zBS):p:=h
theorem zED{p:Prop}(h:p:=by
 have b0:W1.heap[w.heap.size+2]? =some (.cells #[.int .u8 0,.int .i64 0] 43):=zBB
 exact aC b0 ho (fun f=>f)):p:=h
theorem zEK{p:Prop}(h:p:=by
 rw[<-JB,<-hVb]
 exact(Bh.out.alloc _).trans (aP _ _ _) fun k hk=>.inr (by rw[hk];exact Bh.out.size)):p:=h
end Go.Proofs
namespace Go.Proofs.YtdmmebjjojimiaaGreatDoor
open Go.RowKit
section
variable {w w':World} {B:Nat}
theorem adQ{pR:List Value}{x:aF}(hx:gy B w pR x){YB:List Value}{p:fP}(hp:fQ B w YB p)(hlen:x.packs.length<=1000000):Calls Tryz.prog 105 #[.agg pR.toArray,.agg YB.toArray] w fun e w'=>e= .returned (.agg #[.int .u8 (iU x p).1,.int .i64 (iU x p).2])/\O0 w w':=by
 obtain⟨aV,ak,aS,aT,aK,aO,rfl,fV,fZ,dQ,dR,aB,bJ,qo⟩:=open_rec hx;clear hx;try rw[aB.out]
 obtain⟨l9,mg,mD,kV,jv,kW,iq,iw,iy,qp,iC,mF,qy,iD,mG,kG,kH,kJ,rfl,yh,yj,Bd,Bf,mY,mZ,Fv,Fz,FB,FC,vF,vG,yx,wC,ng,um,uo,vH,F_p⟩:=BO hp;clear hp;obtain⟨W0,hW0,bM,vC,aU⟩:=abG w (.slice aV ak aS) (.slice aT aK aO) (.string p.name) (.int .i64 p.line) (.slice l9 mg mD) (.slice kV jv kW) (.slice iq iw iy) (.slice qp iC mF) (.slice qy iD mG) (.slice kG kH kJ) 25 101;obtain⟨gI,bK,bT⟩:=qo W0 bM.out;clear qo;obtain⟨WU,vI,sJ,lC,vJ,vK,sK⟩:=F_p W0 bM.out;clear F_p;clear dQ dR bJ bT;clear yh yj yx vI Bd Bf wC sJ mY mZ ng lC vF vG vH sK;rw[aB.out]at hlen;obtain⟨r,hr⟩:=ze (iU x p);rw[hr];have bD:=zh hr;clear hr;have hs:=vC.out;obtain⟨W1,hW1⟩:=ze (W0.alloc (.cells #[.int .u8 0,.int .i64 0] 43));have aW:Hid (O0 W0 W1):=zBO;have lG:Hid (∀W,O0 W1 W->W.heap[w.heap.size+2]? =some (.cells #[.int .u8 0,.int .i64 0] 43)):=fun W ho=>by exact zED
 have hW0':=hW0.symm;clear hW0;obtain⟨k0,k1,k2,k3,k4,k5,k6,k7,k8,k9⟩:=aU.out W1 aW.out;go_enter Tryz.func105,Tryz.ntmps105;go_wp2_with fail;clear hW0' hW1 k0 k1 k2 k3 k4 k5 k6 k7 k8 k9;have ku:Hid (O0 W1 W1):=Only.refl _ _;go_loopw [14] (fun vi fM=>Hid (O0 W1 fM)/\∃i:Nat,vi= .int .i64 i/\i<=iC/\Hid (∀d∈p.deps.take i,jq x p d=0)) (fun v _=>iC-(RowKit.intOf v).toNat);case atStart=>exact⟨ku,0,rfl,qE _,show Hid _ from fun v hv=>by simp at hv⟩
 case round=>
  obtain⟨fM,rfl⟩:=zB wr;clear ku;obtain⟨yX,i,rfl,hi,HZ⟩:=hrel;obtain⟨k0,k1,k2,k3,k4,k5,k6,k7,k8,k9⟩:=aU.out fM (aW.out.same yX.out);by_cases ci:i<iC
  ·have iG:=zw (i+1);obtain⟨yy,hxy⟩:=zG p.deps i (by rw[um.out];omega);obtain⟨Ah,kX,lD,iL,lF,pU,pV,pW,vN,rP,vO,wS,uq,wU,nN,jX,ny,sN,sO,yV,aos,Ed,jw⟩:=Qi (vJ.out W0 zr) hxy;first|subst nN| (simp only[qG,qO,and_true]at nN;obtain⟨rfl,rfl⟩:=nN)
   have jk:=zh jw;have xO:=zh hxy;clear jw hxy jX ny sN sO;have uK:Hid (∀W,O0 W0 W->aQ 2 eY B W (.slice lD iL lF) yy.on.spans):=fun W ho=>(jk.out W ho).2.1;have FH:Hid (∀W,O0 W0 W->aQ 2 ji B W (.slice pU pV pW) yy.on.sets):=fun W ho=>(jk.out W ho).2.2.1;have WX:Hid (∀W,O0 W0 W->aQ 2 ji B W (.slice wS uq wU) yy.cond.sets):=fun W ho=>(jk.out W ho).2.2.2.2.1;have HWs:Hid (∀W,O0 W0 W->Calls Tryz.prog 107 #[.agg #[.slice aV ak aS,.slice aT aK aO],.agg #[.string yy.on.name,.slice lD iL lF,.slice pU pV pW]] W fun e w'=>e= .returned (.int .u8 (x.wish yy.on))/\O0 W w'):=fun W hW=>X0 (gI.out W hW) (⟨_,_,rfl,yV,uK.out W hW,FH.out W hW⟩:dB B W [.string yy.on.name,.slice lD iL lF,.slice pU pV pW] yy.on) zAN;have GR:Hid (∀W,O0 W0 W->Calls Tryz.prog 186 #[.agg #[.string p.name,.int .i64 p.line,.slice l9 mg mD,.slice kV jv kW,.slice iq iw iy,.slice (some ⟨Ah,kX,none⟩) iC mF,.slice qy iD mG,.slice kG kH kJ],.slice wS uq wU] W fun e w'=>e= .returned (.bool (fJ p yy.cond.sets))/\O0 W w'):=fun W hW=>aiY (WU.out W hW) (WX.out W hW);have fE:=zh (jk.out fM (aW.out.same yX.out)).1;obtain⟨Va,Zd⟩:=ze (fM.alloc (.cells #[.string ⟨#[]⟩,.slice none 0 0,.slice none 0 0,.string ⟨#[]⟩,.slice none 0 0,.slice none 0 0,.int .i64 0] 132));have XO:Hid (Va.heap[fM.heap.size]? =some (.cells #[.string ⟨#[]⟩,.slice none 0 0,.slice none 0 0,.string ⟨#[]⟩,.slice none 0 0,.slice none 0 0,.int .i64 0] 132)):=by rw[<-Zd];exact qL fM _
   obtain⟨W2,hW2⟩:=ze (Va.setRow fM.heap.size #[.string yy.on.name,.slice lD iL lF,.slice pU pV pW,.string yy.cond.name,.slice vN rP vO,.slice wS uq wU,.int .i64 yy.line]);have adR:Hid (W2.heap[fM.heap.size]? =some (.cells #[.string yy.on.name,.slice lD iL lF,.slice pU pV pW,.string yy.cond.name,.slice vN rP vO,.slice wS uq wU,.int .i64 yy.line] 132 (0,0))):=zAo;have HP2:Hid (O0 W1 W2):=by exact zDf
   have uM:Hid (∀W,O0 W2 W->W.cell? ⟨fM.heap.size,0,none⟩=some (.string yy.on.name)/\W.cell? ⟨fM.heap.size,1,none⟩=some (.slice lD iL lF)/\W.cell? ⟨fM.heap.size,2,none⟩=some (.slice pU pV pW)/\W.cell? ⟨fM.heap.size,3,none⟩=some (.string yy.cond.name)/\W.cell? ⟨fM.heap.size,4,none⟩=some (.slice vN rP vO)/\W.cell? ⟨fM.heap.size,5,none⟩=some (.slice wS uq wU)/\W.cell? ⟨fM.heap.size,6,none⟩=some (.int .i64 yy.line)):=fun W ho=>by have b1:=aC adR.out ho (fun f=>f);exact zCM
   clear k0 k1 k2 k3 k4 k5 k6 k7 k8 k9;obtain⟨k0,k1,k2,k3,k4,k5,k6,k7,k8,k9⟩:=aU.out W2 (aW.out.same HP2.out);obtain⟨d0,d1,d2,d3,d4,d5,d6⟩:=uM.out W2 zr;obtain⟨m0,m1,m2,m3,m4,m5,m6,m7,m8,m9⟩:=aU.out fM (aW.out.same yX.out);go_wp2_with (first
    | (refine wpList_load_mid rfl 132 (.tmp 16) rfl Ah (kX+i*7) rfl _ _ fE.out Tryz.underlying132 rfl zk ?_)
    | (refine wpList_store_row rfl 132 (.tmp 6) (.tmp 17) rfl fM.heap.size #[.string yy.on.name,.slice lD iL lF,.slice pU pV pW,.string yy.cond.name,.slice vN rP vO,.slice wS uq wU,.int .i64 yy.line] rfl rfl 132 #[.string ⟨#[]⟩,.slice none 0 0,.slice none 0 0,.string ⟨#[]⟩,.slice none 0 0,.slice none 0 0,.int .i64 0] XO.out zk rfl zk ?_))
   clear fE XO;clear m0 m1 m2 m3 m4 m5 m6 m7 m8 m9;refine(HWs.out W2 (aW.out.same HP2.out)).mono ?_;rintro e w3 ⟨rfl,O1⟩;have rH:=zh (HP2.out.same O1);have HQ3:Hid (O0 W2 w3):=O1;clear O1 k0 k1 k2 k3 k4 k5 k6 k7 k8 k9 d0 d1 d2 d3 d4 d5 d6;obtain⟨k0,k1,k2,k3,k4,k5,k6,k7,k8,k9⟩:=aU.out w3 (aW.out.same rH.out);obtain⟨d0,d1,d2,d3,d4,d5,d6⟩:=uM.out w3 HQ3.out;obtain⟨c,hc⟩:=ze (x.wish yy.on);obtain⟨sb,hsb⟩:=ze (fJ p yy.cond.sets);simp only[hsb]at GR;rw[hc];have HC:=zh hc;have Ql:=zh hsb;clear hc hsb Zd hW2;by_cases c0:c=0
   ·subst c0;have z00:((0:Int) != 0)=false:=rfl;go_wp2_with fail;refine(GR.out w3 (aW.out.same rH.out)).mono ?_;rintro e w4 ⟨rfl,O1⟩;have xu:=zh (rH.out.same O1);have HQ4:Hid (O0 W2 w4):=HQ3.out.same O1;clear O1 k0 k1 k2 k3 k4 k5 k6 k7 k8 k9 d0 d1 d2 d3 d4 d5 d6;obtain⟨k0,k1,k2,k3,k4,k5,k6,k7,k8,k9⟩:=aU.out w4 (aW.out.same xu.out);obtain⟨d0,d1,d2,d3,d4,d5,d6⟩:=uM.out w4 HQ4.out;cases sb with
    |false=>
     have hr2:r=(8,yy.line):=by exact zEp
     subst hr2;go_wp2_with (refine wpList_store_row rfl 43 (.tmp 4) (.tmp 36) rfl (w.heap.size+2) #[.int .u8 8,.int .i64 yy.line] rfl rfl 43 #[.int .u8 0,.int .i64 0] (lG.out w4 xu.out) zk rfl zk ?_);exact zDL
    |true=>exact zCT
   have c1:((c:Int) != 0)=true:=by rw[bne_iff_ne];exact c0
   have hr2:r=(c,yy.line):=by exact zEw
   subst hr2;go_wp2_with (refine wpList_store_row rfl 43 (.tmp 4) (.tmp 27) rfl (w.heap.size+2) #[.int .u8 c,.int .i64 yy.line] rfl rfl 43 #[.int .u8 0,.int .i64 0] (lG.out w3 rH.out) zk rfl zk ?_);exact zDM
  obtain rfl:iC=i:=by omega
  have VR:Hid (∀d∈p.deps,jq x p d=0):=fun d hd=>HZ.out d (by
   rw[qI (yG um.out)]
   exact hd)
  have ku:=yX;go_wp2_with fail;go_loopw [41] (fun vj iJ=>Hid (O0 W1 iJ)/\∃j:Nat,vj= .int .i64 j/\j<=iD/\Hid (∀d∈p.cons.take j,gq x p d=0)) (fun v _=>iD-(RowKit.intOf v).toNat);case atStart=>exact⟨ku,0,rfl,qE _,show Hid _ from fun v hv=>by simp at hv⟩
  case round=>
   obtain⟨iJ,rfl⟩:=zB wr;clear ku;obtain⟨Bh,j,rfl,hj,RZ⟩:=hrel;clear k0 k1 k2 k3 k4 k5 k6 k7 k8 k9;obtain⟨k0,k1,k2,k3,k4,k5,k6,k7,k8,k9⟩:=aU.out iJ (aW.out.same Bh.out);by_cases cj:j<iD
   ·have iG:=zw (j+1);obtain⟨yz,hxz⟩:=zG p.cons j (by rw[uo.out];omega);obtain⟨NG,xM,VO,VP,VQ,ZO,ZP,ZQ,WY,WZ,Xa,VT,OM,VU,wE,Eb,aci,acj,ZR,Ky,afn,acn,mJ⟩:=Yz (vK.out W0 zr) hxz;first|subst wE| (simp only[qG,qO,and_true]at wE;obtain⟨rfl,rfl⟩:=wE)
    have vM:=zh mJ;have Bg:=zh hxz;clear mJ hxz Eb aci acj ZR;have ahM:Hid (∀W,O0 W0 W->aQ 2 ji B W (.slice ZO ZP ZQ) yz.cond.sets):=fun W ho=>(vM.out W ho).2.2.1;have ahN:Hid (∀W,O0 W0 W->aQ 2 eY B W (.slice WY WZ Xa) yz.with'.spans):=fun W ho=>(vM.out W ho).2.2.2.1;have ZT:Hid (∀W,O0 W0 W->aQ 2 ji B W (.slice VT OM VU) yz.with'.sets):=fun W ho=>(vM.out W ho).2.2.2.2.1;have HWs:Hid (∀W,O0 W0 W->Calls Tryz.prog 107 #[.agg #[.slice aV ak aS,.slice aT aK aO],.agg #[.string yz.with'.name,.slice WY WZ Xa,.slice VT OM VU]] W fun e w'=>e= .returned (.int .u8 (x.wish yz.with'))/\O0 W w'):=fun W hW=>X0 (gI.out W hW) (⟨_,_,rfl,afn,ahN.out W hW,ZT.out W hW⟩:dB B W [.string yz.with'.name,.slice WY WZ Xa,.slice VT OM VU] yz.with') zAN;have HF:Hid (∀W,O0 W0 W->Calls Tryz.prog 182 #[.agg #[.slice aV ak aS,.slice aT aK aO],.string yz.with'.name] W fun e w'=>e= .returned (.int .i64 (x.find yz.with'.name))/\O0 W w'):=fun W hW=>qc (gI.out W hW) _;have GR:Hid (∀W,O0 W0 W->Calls Tryz.prog 186 #[.agg #[.string p.name,.int .i64 p.line,.slice l9 mg mD,.slice kV jv kW,.slice iq iw iy,.slice qp iC mF,.slice (some ⟨NG,xM,none⟩) iD mG,.slice kG kH kJ],.slice ZO ZP ZQ] W fun e w'=>e= .returned (.bool (fJ p yz.cond.sets))/\O0 W w'):=fun W hW=>aiY (WU.out W hW) (ahM.out W hW);have hrz:=zh (vM.out iJ (aW.out.same Bh.out)).1;obtain⟨Vb,hVb⟩:=ze (iJ.alloc (.cells #[.string ⟨#[]⟩,.slice none 0 0,.slice none 0 0,.string ⟨#[]⟩,.slice none 0 0,.slice none 0 0,.int .i64 0] 160));have H6b:Hid (Vb.heap[iJ.heap.size]? =some (.cells #[.string ⟨#[]⟩,.slice none 0 0,.slice none 0 0,.string ⟨#[]⟩,.slice none 0 0,.slice none 0 0,.int .i64 0] 160)):=by rw[<-hVb];exact qL iJ _
    obtain⟨W4,JB⟩:=ze (Vb.setRow iJ.heap.size #[.string yz.cond.name,.slice VO VP VQ,.slice ZO ZP ZQ,.string yz.with'.name,.slice WY WZ Xa,.slice VT OM VU,.int .i64 yz.line]);have aja:Hid (W4.heap[iJ.heap.size]? =some (.cells #[.string yz.cond.name,.slice VO VP VQ,.slice ZO ZP ZQ,.string yz.with'.name,.slice WY WZ Xa,.slice VT OM VU,.int .i64 yz.line] 160 (0,0))):=by rw[<-JB];exact setRow_heap _ _ _ _ _ _ H6b.out
    have xu:Hid (O0 W1 W4):=by exact zEK
    have uM:Hid (∀W,O0 W4 W->W.cell? ⟨iJ.heap.size,0,none⟩=some (.string yz.cond.name)/\W.cell? ⟨iJ.heap.size,1,none⟩=some (.slice VO VP VQ)/\W.cell? ⟨iJ.heap.size,2,none⟩=some (.slice ZO ZP ZQ)/\W.cell? ⟨iJ.heap.size,3,none⟩=some (.string yz.with'.name)/\W.cell? ⟨iJ.heap.size,4,none⟩=some (.slice WY WZ Xa)/\W.cell? ⟨iJ.heap.size,5,none⟩=some (.slice VT OM VU)/\W.cell? ⟨iJ.heap.size,6,none⟩=some (.int .i64 yz.line)):=fun W ho=>by have b1:=aC aja.out ho (fun f=>f);exact zCM
    clear k0 k1 k2 k3 k4 k5 k6 k7 k8 k9;obtain⟨k0,k1,k2,k3,k4,k5,k6,k7,k8,k9⟩:=aU.out W4 (aW.out.same xu.out);obtain⟨d0,d1,d2,d3,d4,d5,d6⟩:=uM.out W4 zr;obtain⟨m0,m1,m2,m3,m4,m5,m6,m7,m8,m9⟩:=aU.out iJ (aW.out.same Bh.out);obtain⟨e0,he0⟩:=ze yz.with'.name.toList.isEmpty;obtain⟨sb,hsb⟩:=ze (fJ p yz.cond.sets);simp only[hsb]at GR;have Ql:=zh hsb;have YD:=zh he0;clear hsb he0;go_wp2_with (first
     | (refine wpList_load_mid rfl 160 (.tmp 43) rfl NG (xM+j*7) rfl _ _ hrz.out Tryz.underlying160 rfl zk ?_)
     | (refine wpList_store_row rfl 160 (.tmp 9) (.tmp 44) rfl iJ.heap.size #[.string yz.cond.name,.slice VO VP VQ,.slice ZO ZP ZQ,.string yz.with'.name,.slice WY WZ Xa,.slice VT OM VU,.int .i64 yz.line] rfl rfl 160 #[.string ⟨#[]⟩,.slice none 0 0,.slice none 0 0,.string ⟨#[]⟩,.slice none 0 0,.slice none 0 0,.int .i64 0] H6b.out zk rfl zk ?_))
    clear hrz H6b;clear m0 m1 m2 m3 m4 m5 m6 m7 m8 m9 hVb JB;refine(GR.out W4 (aW.out.same xu.out)).mono ?_;rintro e w5 ⟨rfl,O1⟩;have CQ:=zh (xu.out.same O1);have HQ5:Hid (O0 W4 w5):=O1;clear O1 k0 k1 k2 k3 k4 k5 k6 k7 k8 k9 d0 d1 d2 d3 d4 d5 d6;obtain⟨k0,k1,k2,k3,k4,k5,k6,k7,k8,k9⟩:=aU.out w5 (aW.out.same CQ.out);obtain⟨d0,d1,d2,d3,d4,d5,d6⟩:=uM.out w5 HQ5.out;cases sb with
    |false=>
     have z88:((8:Int) != 0)=true:=rfl;have hr2:r=(8,yz.line):=by exact zDp
     subst hr2;go_wp2_with (refine wpList_store_row rfl 43 (.tmp 4) (.tmp 73) rfl (w.heap.size+2) #[.int .u8 8,.int .i64 yz.line] rfl rfl 43 #[.int .u8 0,.int .i64 0] (lG.out w5 CQ.out) zk rfl zk ?_);exact zDK
    |true=>
     cases e0 with
     |false=>
      have hst:yz.with'.name.toList.isEmpty=false:=YD.out;go_wp2_with fail;refine(HF.out w5 (aW.out.same CQ.out)).mono ?_;rintro e w6 ⟨rfl,O1⟩;have DC:=zh (CQ.out.same O1);have HQ6:Hid (O0 W4 w6):=HQ5.out.same O1;clear O1 k0 k1 k2 k3 k4 k5 k6 k7 k8 k9 d0 d1 d2 d3 d4 d5 d6;obtain⟨k0,k1,k2,k3,k4,k5,k6,k7,k8,k9⟩:=aU.out w6 (aW.out.same DC.out);obtain⟨d0,d1,d2,d3,d4,d5,d6⟩:=uM.out w6 HQ6.out;obtain⟨f,hf⟩:=ze (x.find yz.with'.name);rw[hf];by_cases fl:f<0
      ·have HFl:Hid (x.find yz.with'.name<0):=by rw[hf];exact fl
       clear hf;have hr2:r=(7,yz.line):=by rw[<-bD.out];exact mM VR.out RZ.out Bg.out (by unfold gq;rw[Ql.out,if_neg zBZ,YD.out,if_neg zAF,if_pos HFl.out]) zBq
       subst hr2;go_wp2_with (refine wpList_store_row rfl 43 (.tmp 4) (.tmp 73) rfl (w.heap.size+2) #[.int .u8 7,.int .i64 yz.line] rfl rfl 43 #[.int .u8 0,.int .i64 0] (lG.out w6 DC.out) zk rfl zk ?_);refine dn (p:=4) rfl rfl rfl rfl (setRow_heap _ _ _ _ _ _ (lG.out w6 DC.out)) ?_;exact⟨rfl,(bM.out.same (aW.out.same DC.out)).trans (aP _ _ _) (fun k hk=>.inr zAB)⟩
      have HFl:Hid (0<=x.find yz.with'.name):=by rw[hf,Hid];omega
      clear hf;go_wp2_with fail;refine(HWs.out w6 (aW.out.same DC.out)).mono ?_;rintro e w7 ⟨rfl,O1⟩;have Aq:=zh (DC.out.same O1);have HQ7:Hid (O0 W4 w7):=HQ6.out.same O1;clear O1 k0 k1 k2 k3 k4 k5 k6 k7 k8 k9 d0 d1 d2 d3 d4 d5 d6;obtain⟨k0,k1,k2,k3,k4,k5,k6,k7,k8,k9⟩:=aU.out w7 (aW.out.same Aq.out);obtain⟨d0,d1,d2,d3,d4,d5,d6⟩:=uM.out w7 HQ7.out;obtain⟨c,hc⟩:=ze (x.wish yz.with');rw[hc];have HC:=zh hc;clear hc;by_cases c0:c=0
      ·subst c0;have hcode:gq x p yz=0:=by unfold gq;rw[Ql.out,if_neg zBZ,YD.out,if_neg zAF,if_neg zBx,HC.out]
       have z00:((0:Int) != 0)=false:=rfl;exact zCb
      have c1:((c:Int) != 0)=true:=by rw[bne_iff_ne];exact c0
      have hr2:r=(c,yz.line):=by rw[<-bD.out];exact mM VR.out RZ.out Bg.out (by unfold gq;rw[Ql.out,if_neg zBZ,YD.out,if_neg zAF,if_neg zBx,HC.out]) zBq
      subst hr2;go_wp2_with (refine wpList_store_row rfl 43 (.tmp 4) (.tmp 73) rfl (w.heap.size+2) #[.int .u8 c,.int .i64 yz.line] rfl rfl 43 #[.int .u8 0,.int .i64 0] (lG.out w7 Aq.out) zk rfl zk ?_);exact zCC
     |true=>
      have hst:yz.with'.name.toList.isEmpty=true:=YD.out;have hcode:gq x p yz=0:=by unfold gq;rw[Ql.out,if_neg zAF,YD.out];simp
      have z00:((0:Int) != 0)=false:=rfl;exact zCa
   obtain rfl:iD=j:=by omega
   have hr2:r=(0,0):=by exact zEk
   subst hr2;go_wp2_with (refine wpList_store_row rfl 43 (.tmp 4) (.tmp 75) rfl (w.heap.size+2) #[.int .u8 0,.int .i64 0] rfl rfl 43 #[.int .u8 0,.int .i64 0] (lG.out iJ Bh.out) zk rfl zk ?_);exact zDN
end
end Go.Proofs.YtdmmebjjojimiaaGreatDoor
