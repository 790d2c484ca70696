/- Package check: pack. Printed by gen_ck2.py.; Package check: rules. Printed by gen_ck3.py. -/
import Derived.Test.YtdmmebjjojimiaaGreatDoorG36
set_option maxRecDepth 100000
set_option maxHeartbeats 8000000
set_option linter.all false
namespace Go.Proofs
theorem zBn{p:Prop}(h:p:=by
 go_wp2_with fail
 go_ret
 exact iR.mk _ rfl zAC hres (ig.out.same (bg.out.same HP2.out))):p:=h
theorem zBs{p:Prop}(h:p:=by exact⟨by rw[aj b1];rfl,by rw[aj b1];rfl,by rw[aj b1];rfl,by rw[aj b1];rfl,by rw[aj b1];rfl,by rw[aj b1];rfl,by rw[aj b1];rfl,by rw[aj b1];rfl⟩):p:=h
theorem zDJ{p:Prop}(h:p:=by
 rw[<-hW1,<-hV]
 exact(zr.alloc _).trans (aU _ _ _) fun k hk=>.inr (by have:=DU.out;omega)):p:=h
theorem zDX{p:Prop}(h:p:=by
 go_wp2_with fail
 go_ret
 exact iR.mk _ rfl zAC hres (ig.out.same (bg.out.same Qx.out))):p:=h
end Go.Proofs
namespace Go.Proofs.YtdmmebjjojimiaaGreatDoor
open Go.RowKit
section
variable {w w':World} {B:Nat}
def iR(ok:Bool)(w w':World)(e:Ending):Prop:= ∃c:Int,e= .returned (.int .u8 c)/\(0<=c/\c<=255)/\decide (c=0)=ok/\O0 w w'
theorem iR.mk{ok:Bool}(c:Int){w w':World}{e:Ending}(he:e= .returned (.int .u8 c))(hc:0<=c/\c<=255)(hb:decide (c=0)=ok)(ho:O0 w w'):iR ok w w' e:=⟨c,he,hc,hb,ho⟩
theorem aeG{Hg:List Value}{x:aC}(hx:gG B w Hg x)(hlen:x.packs.length<=1000000){i:Nat}(hi:i<x.packs.length)(hrel:(x.pack i).aP.length<=1000000)(hvar:(x.pack i).vars.length<=1000000):Calls Tryz.prog 104 #[.agg Hg.toArray,.int .i64 (i:Int)] w fun e w'=>iR (x.oH i) w w' e:=by
 obtain⟨dD,aY,bU,cZ,aZ,bF,rfl,pR,pU,jU,jV,aW,dU,JQ⟩:=open_rec hx;clear hx;try rw[aW.out]
 obtain⟨W0,hW0,ig,DU,bJ⟩:=ac2 w (.slice dD aY bU) (.slice cZ aZ bF) 25;obtain⟨qB,gQ,gU⟩:=JQ W0 ig.out;clear JQ;clear jU jV dU gU;rw[aW.out]at hlen hi;have hfl:=aC.aaS (x:=x) (i:=i) (by rw[aW.out];exact hi);obtain⟨yy,hxy⟩:=zG x.packs i zAa;obtain⟨LZ,uJ,uX,pV,uY,BK,BL,BM,BN,xX,BO,D9,Bo,Ea,MQ,Hl,MR,JV,Ez,JW,Dk,xw,Bq,Bv,Bz,Eb,Ec,Tf,WH,tY⟩:=nU (gQ.out W0 zr) hxy;first|subst Dk| (simp only[qG,qO,and_true]at Dk;obtain⟨rfl,rfl⟩:=Dk)
 have Ny1:=zh xw;have Ny2:=zh Bq;have Ny3:=zh Bv;have Ny4:=zh Bz;have Ny5:=zh Eb;have Ny6:=zh Ec;have sF:=zh tY;have Ti:=zh hxy;clear tY hxy xw Bq Bv Bz Eb Ec;have Qa:Hid (∀W,O0 W0 W->aJ 2 nK B W (.slice uX pV uY) yy.aP):=fun W ho=>(sF.out W ho).2.1;have Zv:Hid (∀W,O0 W0 W->aJ 2 jF B W (.slice BK BL BM) yy.vars):=fun W ho=>(sF.out W ho).2.2.1;have Zw:Hid (∀W,O0 W0 W->aJ 1 dK B W (.slice BN xX BO) yy.provides):=fun W ho=>(sF.out W ho).2.2.2.1;have aeH:Hid (∀W,O0 W0 W->aJ 1 dK B W (.slice JV Ez JW) yy.files):=fun W ho=>(sF.out W ho).2.2.2.2.2.2.1;have hpk:x.pack i=yy:=zAh;rw[hpk]at hfl hrel hvar;rw[Ny1.out]at hrel;rw[Ny2.out]at hvar;obtain⟨ok,hok⟩:=ze (x.oH i);obtain⟨f,hf⟩:=ze (x.find yy.name);obtain⟨pn,hpn⟩:=ze ((x.bZ yy.name).length);obtain⟨tw,htw⟩:=ze (fJ (yy.aP.map jY.version));obtain⟨mv,hmv⟩:=ze (y7 yy.vars);obtain⟨t3,ht3⟩:=ze (fJ yy.provides);obtain⟨t6,ht6⟩:=ze (fJ yy.files);have bH:Hid (ok=(decide (f=(i:Int))&&decide (pn=0)&&decide (0<pV)&&(decide (pV<=10)&&decide (Bo<=16)&&decide (Hl<=8)&&decide (xX<=4)&&decide (Ez<=8))&&tw&&mv&&t3&&t6)):=by show _=_;rw[<-hok];unfold aC.oH;dsimp only;rw[hpk,hf,hpn,htw,hmv,ht3,ht6,Ny1.out,Ny4.out,Ny5.out,Ny3.out,Ny6.out]
 rw[hok];rw[hf]at hfl;have HF:Hid (∀W,O0 W0 W->Calls Tryz.prog 182 #[.agg #[.slice (some ⟨LZ,uJ,none⟩) aY bU,.slice cZ aZ bF],.string yy.name] W fun e w'=>e= .returned (.int .i64 f)/\O0 W w'):=fun W hW=>by rw[<-hf];exact lK (qB.out W hW) yy.name
 have HPv:Hid (∀W,O0 W0 W->Calls Tryz.prog 165 #[.agg #[.slice (some ⟨LZ,uJ,none⟩) aY bU,.slice cZ aZ bF],.string yy.name] W fun e w'=> ∃a c,e= .returned (.slice a pn c)/\O0 W w'):=fun W hW=>(kG (qB.out W hW) zAV yy.name).mono fun e w' ⟨v,he,h1,_,h3⟩=>by rw[hpn]at h1;obtain⟨a,c,rfl,-,-⟩:=aH h1;exact⟨a,c,he,h3⟩
 have HPn:Hid (pn<=aY):=by rw[<-hpn,<-aW.out];unfold aC.bZ aC.jH;have:=yO (fun i=>lJ (x.pack i).provides yy.name) (List.range x.packs.length);simpa[Hid]using this
 have HVr:Hid (∀W,O0 W0 W->Calls Tryz.prog 184 #[.slice uX pV uY] W fun e w'=> ∃a c,e= .returned (.slice a pV c)/\aJ 1 dK w'.heap.size w' (.slice a pV c) (yy.aP.map jY.version)/\O0 W w'):=fun W hW=>(SX (Qa.out W hW) (by rw[Ny1.out];exact hrel)).mono fun e w' ⟨v,he,h1,h3⟩=>by obtain⟨a,c,rfl,-,-⟩:=h1.shape;rw[qM,Ny1.out]at h1 he;exact⟨a,c,he,h1,h3⟩
 have HTw:Hid (∀W a c,aJ 1 dK W.heap.size W (.slice a pV c) (yy.aP.map jY.version)->Calls Tryz.prog 183 #[.slice a pV c] W fun e w'=>e= .returned (.bool (!tw))/\O0 W w'):=fun W a c h=>by rw[<-htw];exact Ey h
 have HMv:Hid (∀W,O0 W0 W->Calls Tryz.prog 185 #[.slice BK BL BM] W fun e w'=>e= .returned (.bool mv)/\O0 W w'):=fun W hW=>by rw[<-hmv];exact aeF (Zv.out W hW) (by rw[Ny2.out];exact hvar)
 have HT3:Hid (∀W,O0 W0 W->Calls Tryz.prog 183 #[.slice BN xX BO] W fun e w'=>e= .returned (.bool (!t3))/\O0 W w'):=fun W hW=>by rw[<-ht3];exact Ey (Zw.out W hW)
 have HT6:Hid (∀W,O0 W0 W->Calls Tryz.prog 183 #[.slice JV Ez JW] W fun e w'=>e= .returned (.bool (!t6))/\O0 W w'):=fun W hW=>by rw[<-ht6];exact Ey (aeH.out W hW)
 clear hf hpn htw hmv ht3 ht6 hok hpk;have nJ:=zh (sF.out W0 zr).1;have hs:=DU.out;obtain⟨V,hV⟩:=ze (W0.alloc (.cells #[.string ⟨#[]⟩,.int .i64 0,.slice none 0 0,.slice none 0 0,.slice none 0 0,.slice none 0 0,.slice none 0 0,.slice none 0 0] 101));have H6:Hid (V.heap[w.heap.size+1]? =some (.cells #[.string ⟨#[]⟩,.int .i64 0,.slice none 0 0,.slice none 0 0,.slice none 0 0,.slice none 0 0,.slice none 0 0,.slice none 0 0] 101)):=by rw[<-hV,<-DU.out];exact qL W0 _
 obtain⟨W1,hW1⟩:=ze (V.setRow (w.heap.size+1) #[.string yy.name,.int .i64 yy.line,.slice uX pV uY,.slice BK BL BM,.slice BN xX BO,.slice D9 Bo Ea,.slice MQ Hl MR,.slice JV Ez JW]);have HB1:Hid (W1.heap[w.heap.size+1]? =some (.cells #[.string yy.name,.int .i64 yy.line,.slice uX pV uY,.slice BK BL BM,.slice BN xX BO,.slice D9 Bo Ea,.slice MQ Hl MR,.slice JV Ez JW] 101 (0,0))):=by rw[<-hW1];exact setRow_heap _ _ _ _ _ _ H6.out
 have bg:Hid (O0 W0 W1):=by exact zDJ
 have Qu:Hid (∀W,O0 W1 W->W.cell? ⟨w.heap.size+1,0,none⟩=some (.string yy.name)/\W.cell? ⟨w.heap.size+1,1,none⟩=some (.int .i64 yy.line)/\W.cell? ⟨w.heap.size+1,2,none⟩=some (.slice uX pV uY)/\W.cell? ⟨w.heap.size+1,3,none⟩=some (.slice BK BL BM)/\W.cell? ⟨w.heap.size+1,4,none⟩=some (.slice BN xX BO)/\W.cell? ⟨w.heap.size+1,5,none⟩=some (.slice D9 Bo Ea)/\W.cell? ⟨w.heap.size+1,6,none⟩=some (.slice MQ Hl MR)/\W.cell? ⟨w.heap.size+1,7,none⟩=some (.slice JV Ez JW)):=fun W ho=>by have b1:=ak HB1.out ho (fun f=>f);exact zBs
 have HP0:Hid (O0 W1 W1):=Only.refl _ _;obtain⟨k0,k1⟩:=bJ.out W0 zr;obtain⟨p0,p1,p2,p3,p4,p5,p6,p7⟩:=Qu.out W1 zr;have hk:=bJ.out W1 bg.out;obtain⟨m0,m1⟩:=hk;have hW0':=hW0.symm;clear hW0;go_enter Tryz.func104,Tryz.ntmps104;go_wp2_with (first
  | (refine wpList_load_mid rfl 101 (.tmp 9) rfl LZ (uJ+i*8) rfl _ _ nJ.out Tryz.underlying101 rfl zk ?_)
  | (refine wpList_store_row rfl 101 (.tmp 5) (.tmp 10) rfl (w.heap.size+1) #[.string yy.name,.int .i64 yy.line,.slice uX pV uY,.slice BK BL BM,.slice BN xX BO,.slice D9 Bo Ea,.slice MQ Hl MR,.slice JV Ez JW] rfl rfl 101 #[.string ⟨#[]⟩,.int .i64 0,.slice none 0 0,.slice none 0 0,.slice none 0 0,.slice none 0 0,.slice none 0 0,.slice none 0 0] H6.out zk rfl zk ?_))
 clear m0 m1;refine(HF.out W1 (bg.out.same HP0.out)).mono ?_;rintro e w1 ⟨rfl,O1⟩;have HP1:=zh (HP0.out.same O1);clear O1 k0 k1 p0 p1 p2 p3 p4 p5 p6 p7;obtain⟨k0,k1⟩:=bJ.out w1 (bg.out.same HP1.out);obtain⟨p0,p1,p2,p3,p4,p5,p6,p7⟩:=Qu.out w1 HP1.out;have hpn:=HPn.out;by_cases hlt:f<(i:Int)
 ·have hres:decide (((2:Int))=0)=ok:=by rw[bH.out,qP (show¬f=(i:Int) by omega)];simp
  go_wp2_with fail;go_ret;exact iR.mk _ rfl zAC hres (ig.out.same (bg.out.same HP1.out))
 have hfi:f=(i:Int):=by omega
 go_wp2_with fail;refine(HPv.out w1 (bg.out.same HP1.out)).mono ?_;rintro e w2 ⟨ap,cp,rfl,O1⟩;have HP2:=zh (HP1.out.same O1);clear O1 k0 k1 p0 p1 p2 p3 p4 p5 p6 p7;obtain⟨k0,k1⟩:=bJ.out w2 (bg.out.same HP2.out);obtain⟨p0,p1,p2,p3,p4,p5,p6,p7⟩:=Qu.out w2 HP2.out;by_cases cpn:0<pn
 ·have hres:decide (((3:Int))=0)=ok:=by rw[bH.out,qP (show¬pn=0 by omega)];simp
  exact zBn
 have alc:pn=0:=by omega
 by_cases z1:pV=0
 ·subst z1;have hres:decide (((4:Int))=0)=ok:=by rw[bH.out];simp
  exact zBn
 have z3:((pV:Int)==0)=false:=by rw[yC];omega
 by_cases q1:10<pV
 ·have hres:decide (((1:Int))=0)=ok:=by rw[bH.out,qP (show¬pV<=10 by omega)];simp
  exact zBn
 by_cases q2:16<Bo
 ·have hres:decide (((1:Int))=0)=ok:=by rw[bH.out,qP (show¬Bo<=16 by omega)];simp
  exact zBn
 by_cases q3:8<Hl
 ·have hres:decide (((1:Int))=0)=ok:=by rw[bH.out,qP (show¬Hl<=8 by omega)];simp
  exact zBn
 by_cases q4:4<xX
 ·have hres:decide (((1:Int))=0)=ok:=by rw[bH.out,qP (show¬xX<=4 by omega)];simp
  exact zBn
 by_cases q5:8<Ez
 ·have hres:decide (((1:Int))=0)=ok:=by rw[bH.out,qP (show¬Ez<=8 by omega)];simp
  exact zBn
 go_wp2_with fail;refine(HVr.out w2 (bg.out.same HP2.out)).mono ?_;rintro e w3 ⟨a3,c3,rfl,HRv,O1⟩;have BQ:=zh (HP2.out.same O1);clear O1 k0 k1 p0 p1 p2 p3 p4 p5 p6 p7;obtain⟨k0,k1⟩:=bJ.out w3 (bg.out.same BQ.out);obtain⟨p0,p1,p2,p3,p4,p5,p6,p7⟩:=Qu.out w3 BQ.out;go_wp2_with fail;refine(HTw.out w3 a3 c3 HRv).mono ?_;rintro e w4 ⟨rfl,O1⟩;have GV:=zh (BQ.out.same O1);clear O1 k0 k1 p0 p1 p2 p3 p4 p5 p6 p7;obtain⟨k0,k1⟩:=bJ.out w4 (bg.out.same GV.out);obtain⟨p0,p1,p2,p3,p4,p5,p6,p7⟩:=Qu.out w4 GV.out;cases tw with
 |false=>
  have hres:decide (((5:Int))=0)=ok:=by rw[bH.out];simp
  go_wp2_with fail;go_ret;exact iR.mk _ rfl zAC hres (ig.out.same (bg.out.same GV.out))
 |true=>
  go_wp2_with fail;refine(HMv.out w4 (bg.out.same GV.out)).mono ?_;rintro e w5 ⟨rfl,O1⟩;have Qv:=zh (GV.out.same O1);clear O1 k0 k1 p0 p1 p2 p3 p4 p5 p6 p7;obtain⟨k0,k1⟩:=bJ.out w5 (bg.out.same Qv.out);obtain⟨p0,p1,p2,p3,p4,p5,p6,p7⟩:=Qu.out w5 Qv.out;cases mv with
  |false=>
   have hres:decide (((6:Int))=0)=ok:=by rw[bH.out];simp
   go_wp2_with fail;go_ret;exact iR.mk _ rfl zAC hres (ig.out.same (bg.out.same Qv.out))
  |true=>
   go_wp2_with fail;refine(HT3.out w5 (bg.out.same Qv.out)).mono ?_;rintro e w6 ⟨rfl,O1⟩;have Qw:=zh (Qv.out.same O1);clear O1 k0 k1 p0 p1 p2 p3 p4 p5 p6 p7;obtain⟨k0,k1⟩:=bJ.out w6 (bg.out.same Qw.out);obtain⟨p0,p1,p2,p3,p4,p5,p6,p7⟩:=Qu.out w6 Qw.out;cases t3 with
   |false=>
    have hres:decide (((5:Int))=0)=ok:=by rw[bH.out];simp
    go_wp2_with fail;go_ret;exact iR.mk _ rfl zAC hres (ig.out.same (bg.out.same Qw.out))
   |true=>
    go_wp2_with fail;refine(HT6.out w6 (bg.out.same Qw.out)).mono ?_;rintro e w7 ⟨rfl,O1⟩;have Qx:=zh (Qw.out.same O1);clear O1 k0 k1 p0 p1 p2 p3 p4 p5 p6 p7;obtain⟨k0,k1⟩:=bJ.out w7 (bg.out.same Qx.out);obtain⟨p0,p1,p2,p3,p4,p5,p6,p7⟩:=Qu.out w7 Qx.out;cases t6 with
    |false=>
     have hres:decide (((5:Int))=0)=ok:=by rw[bH.out];simp
     exact zDX
    |true=>
     have hres:decide (((0:Int))=0)=ok:=by rw[bH.out,qX hfi,qX alc,qX (show 0<pV by omega),qX (show pV<=10 by omega),qX (show Bo<=16 by omega),qX (show Hl<=8 by omega),qX (show xX<=4 by omega),qX (show Ez<=8 by omega)];simp
     exact zDX
end
end Go.Proofs.YtdmmebjjojimiaaGreatDoor
namespace Go.Proofs
theorem zAY{p:Prop}(h:p:=by rw[<-hW2];exact setRow_heap _ _ _ _ _ _ Sz.out):p:=h
theorem zAe{p:Prop}(h:p:=by first|decide|assumption):p:=h
theorem zAr{p:Prop}(h:p:=by rw[<-hW1,<-DU.out];exact qL W0 _):p:=h
theorem zA5{p:Prop}(h:p:=by rw[<-hW1];exact zr.alloc _):p:=h
theorem zA9{p:Prop}(h:p:=by rw[hk];exact Ho.out.size):p:=h
theorem zCj{p:Prop}(h:p:=by
 rw[<-hW2,<-UN]
 exact(Ho.out.alloc _).trans (aU _ _ _) fun k hk=>.inr zA9):p:=h
theorem zCm{p:Prop}(h:p:=by exact⟨by rw[aj b1];rfl,by rw[aj b1];rfl,by rw[aj b1];rfl,by rw[aj b1];rfl,by rw[aj b1];rfl,by rw[aj b1];rfl,by rw[aj b1];rfl⟩):p:=h
theorem zC7{p:Prop}(h:p:=by
 have b0:W1.heap[w.heap.size+2]? =some (.cells #[.int .u8 0,.int .i64 0] 43):=zAr
 exact ak b0 ho (fun f=>f)):p:=h
theorem zDE{p:Prop}(h:p:=by
 rw[<-Rx,<-Zc]
 exact(Tj.out.alloc _).trans (aU _ _ _) fun k hk=>.inr (by rw[hk];exact Tj.out.size)):p:=h
end Go.Proofs
namespace Go.Proofs.YtdmmebjjojimiaaGreatDoor
open Go.RowKit
section
variable {w w':World} {B:Nat}
theorem Zx{Hg:List Value}{x:aC}(hx:gG B w Hg x){csp:List Value}{p:eP}(hp:fF B w csp p)(hlen:x.packs.length<=1000000):Calls Tryz.prog 105 #[.agg Hg.toArray,.agg csp.toArray] w fun e w'=>e= .returned (.agg #[.int .u8 (jw x p).1,.int .i64 (jw x p).2])/\O0 w w':=by
 obtain⟨dD,aY,bU,cZ,aZ,bF,rfl,pR,pU,jU,jV,aW,dU,JQ⟩:=open_rec hx;clear hx;try rw[aW.out]
 obtain⟨vW,vX,vY,vZ,wu,wz,lV,lW,lX,Bd,lY,wC,Bf,lZ,wE,tN,tV,tX,rfl,PX,PY,PZ,P5,Bg,Bh,Zn,Zo,Zp,Zq,JI,JJ,P6,P7,Bj,GL,GN,JK,F_p⟩:=I7 hp;clear hp;obtain⟨W0,hW0,ig,DU,bJ⟩:=ac4 w (.slice dD aY bU) (.slice cZ aZ bF) (.string p.name) (.int .i64 p.line) (.slice vW vX vY) (.slice vZ wu wz) (.slice lV lW lX) (.slice Bd lY wC) (.slice Bf lZ wE) (.slice tN tV tX) 25 101;obtain⟨qB,gQ,gU⟩:=JQ W0 ig.out;clear JQ;obtain⟨aez,JL,Di,xW,JM,JO,GR⟩:=F_p W0 ig.out;clear F_p;clear jU jV dU gU;clear PX PY P6 JL PZ P5 P7 Di Bg Bh Bj xW JI JJ JK GR;rw[aW.out]at hlen;obtain⟨r,hr⟩:=ze (jw x p);rw[hr];have bH:=zh hr;clear hr;have hs:=DU.out;obtain⟨W1,hW1⟩:=ze (W0.alloc (.cells #[.int .u8 0,.int .i64 0] 43));have bg:Hid (O0 W0 W1):=zA5;have uT:Hid (∀W,O0 W1 W->W.heap[w.heap.size+2]? =some (.cells #[.int .u8 0,.int .i64 0] 43)):=fun W ho=>by exact zC7
 have hW0':=hW0.symm;clear hW0;obtain⟨k0,k1,k2,k3,k4,k5,k6,k7,k8,k9⟩:=bJ.out W1 bg.out;go_enter Tryz.func105,Tryz.ntmps105;go_wp2_with fail;clear hW0' hW1 k0 k1 k2 k3 k4 k5 k6 k7 k8 k9;have Js:Hid (O0 W1 W1):=Only.refl _ _;go_loopw [14] (fun vi jq=>Hid (O0 W1 jq)/\∃i:Nat,vi= .int .i64 i/\i<=lY/\Hid (∀d∈p.deps.take i,jS x p d=0)) (fun v _=>lY-(RowKit.intOf v).toNat);case atStart=>exact⟨Js,0,rfl,qE _,show Hid _ from fun v hv=>by simp at hv⟩
 case round=>
  obtain⟨jq,rfl⟩:=zB wr;clear Js;obtain⟨Ho,i,rfl,hi,HZ⟩:=hrel;obtain⟨k0,k1,k2,k3,k4,k5,k6,k7,k8,k9⟩:=bJ.out jq (bg.out.same Ho.out);by_cases ci:i<lY
  ·have jg:=zw (i+1);obtain⟨yy,hxy⟩:=zG p.deps i (by rw[GL.out];omega);obtain⟨LZ,uJ,uX,pV,uY,BK,BL,BM,BN,xX,BO,D9,Bo,Ea,Dk,xw,Bq,Bv,Bz,Tf,apX,WH,tY⟩:=aaG (JM.out W0 zr) hxy;first|subst Dk| (simp only[qG,qO,and_true]at Dk;obtain⟨rfl,rfl⟩:=Dk)
   have sF:=zh tY;have Ti:=zh hxy;clear tY hxy xw Bq Bv Bz;have Qa:Hid (∀W,O0 W0 W->aJ 2 eX B W (.slice uX pV uY) yy.on.spans):=fun W ho=>(sF.out W ho).2.1;have Zv:Hid (∀W,O0 W0 W->aJ 2 je B W (.slice BK BL BM) yy.on.sets):=fun W ho=>(sF.out W ho).2.2.1;have aeI:Hid (∀W,O0 W0 W->aJ 2 je B W (.slice D9 Bo Ea) yy.cond.sets):=fun W ho=>(sF.out W ho).2.2.2.2.1;have HWs:Hid (∀W,O0 W0 W->Calls Tryz.prog 107 #[.agg #[.slice dD aY bU,.slice cZ aZ bF],.agg #[.string yy.on.name,.slice uX pV uY,.slice BK BL BM]] W fun e w'=>e= .returned (.int .u8 (x.wish yy.on))/\O0 W w'):=fun W hW=>Tc (qB.out W hW) (⟨_,_,rfl,Tf,Qa.out W hW,Zv.out W hW⟩:dh B W [.string yy.on.name,.slice uX pV uY,.slice BK BL BM] yy.on) zAV;have MN:Hid (∀W,O0 W0 W->Calls Tryz.prog 186 #[.agg #[.string p.name,.int .i64 p.line,.slice vW vX vY,.slice vZ wu wz,.slice lV lW lX,.slice (some ⟨LZ,uJ,none⟩) lY wC,.slice Bf lZ wE,.slice tN tV tX],.slice D9 Bo Ea] W fun e w'=>e= .returned (.bool (iG p yy.cond.sets))/\O0 W w'):=fun W hW=>aey (aez.out W hW) (aeI.out W hW);have nJ:=zh (sF.out jq (bg.out.same Ho.out)).1;obtain⟨Va,UN⟩:=ze (jq.alloc (.cells #[.string ⟨#[]⟩,.slice none 0 0,.slice none 0 0,.string ⟨#[]⟩,.slice none 0 0,.slice none 0 0,.int .i64 0] 132));have Sz:Hid (Va.heap[jq.heap.size]? =some (.cells #[.string ⟨#[]⟩,.slice none 0 0,.slice none 0 0,.string ⟨#[]⟩,.slice none 0 0,.slice none 0 0,.int .i64 0] 132)):=by rw[<-UN];exact qL jq _
   obtain⟨W2,hW2⟩:=ze (Va.setRow jq.heap.size #[.string yy.on.name,.slice uX pV uY,.slice BK BL BM,.string yy.cond.name,.slice BN xX BO,.slice D9 Bo Ea,.int .i64 yy.line]);have Zy:Hid (W2.heap[jq.heap.size]? =some (.cells #[.string yy.on.name,.slice uX pV uY,.slice BK BL BM,.string yy.cond.name,.slice BN xX BO,.slice D9 Bo Ea,.int .i64 yy.line] 132 (0,0))):=zAY;have HP2:Hid (O0 W1 W2):=by exact zCj
   have zF:Hid (∀W,O0 W2 W->W.cell? ⟨jq.heap.size,0,none⟩=some (.string yy.on.name)/\W.cell? ⟨jq.heap.size,1,none⟩=some (.slice uX pV uY)/\W.cell? ⟨jq.heap.size,2,none⟩=some (.slice BK BL BM)/\W.cell? ⟨jq.heap.size,3,none⟩=some (.string yy.cond.name)/\W.cell? ⟨jq.heap.size,4,none⟩=some (.slice BN xX BO)/\W.cell? ⟨jq.heap.size,5,none⟩=some (.slice D9 Bo Ea)/\W.cell? ⟨jq.heap.size,6,none⟩=some (.int .i64 yy.line)):=fun W ho=>by have b1:=ak Zy.out ho (fun f=>f);exact zCm
   clear k0 k1 k2 k3 k4 k5 k6 k7 k8 k9;obtain⟨k0,k1,k2,k3,k4,k5,k6,k7,k8,k9⟩:=bJ.out W2 (bg.out.same HP2.out);obtain⟨d0,d1,d2,d3,d4,d5,d6⟩:=zF.out W2 zr;obtain⟨m0,m1,m2,m3,m4,m5,m6,m7,m8,m9⟩:=bJ.out jq (bg.out.same Ho.out);go_wp2_with (first
    | (refine wpList_load_mid rfl 132 (.tmp 16) rfl LZ (uJ+i*7) rfl _ _ nJ.out Tryz.underlying132 rfl zk ?_)
    | (refine wpList_store_row rfl 132 (.tmp 6) (.tmp 17) rfl jq.heap.size #[.string yy.on.name,.slice uX pV uY,.slice BK BL BM,.string yy.cond.name,.slice BN xX BO,.slice D9 Bo Ea,.int .i64 yy.line] rfl rfl 132 #[.string ⟨#[]⟩,.slice none 0 0,.slice none 0 0,.string ⟨#[]⟩,.slice none 0 0,.slice none 0 0,.int .i64 0] Sz.out zk rfl zk ?_))
   clear nJ Sz;clear m0 m1 m2 m3 m4 m5 m6 m7 m8 m9;refine(HWs.out W2 (bg.out.same HP2.out)).mono ?_;rintro e w3 ⟨rfl,O1⟩;have BQ:=zh (HP2.out.same O1);have HQ3:Hid (O0 W2 w3):=O1;clear O1 k0 k1 k2 k3 k4 k5 k6 k7 k8 k9 d0 d1 d2 d3 d4 d5 d6;obtain⟨k0,k1,k2,k3,k4,k5,k6,k7,k8,k9⟩:=bJ.out w3 (bg.out.same BQ.out);obtain⟨d0,d1,d2,d3,d4,d5,d6⟩:=zF.out w3 HQ3.out;obtain⟨c,hc⟩:=ze (x.wish yy.on);obtain⟨sb,hsb⟩:=ze (iG p yy.cond.sets);simp only[hsb]at MN;rw[hc];have HC:=zh hc;have HSb:=zh hsb;clear hc hsb UN hW2;by_cases c0:c=0
   ·subst c0;have z00:((0:Int) != 0)=false:=rfl;go_wp2_with fail;refine(MN.out w3 (bg.out.same BQ.out)).mono ?_;rintro e w4 ⟨rfl,O1⟩;have GV:=zh (BQ.out.same O1);have HQ4:Hid (O0 W2 w4):=HQ3.out.same O1;clear O1 k0 k1 k2 k3 k4 k5 k6 k7 k8 k9 d0 d1 d2 d3 d4 d5 d6;obtain⟨k0,k1,k2,k3,k4,k5,k6,k7,k8,k9⟩:=bJ.out w4 (bg.out.same GV.out);obtain⟨d0,d1,d2,d3,d4,d5,d6⟩:=zF.out w4 HQ4.out;cases sb with
    |false=>
     have hr2:r=(8,yy.line):=by rw[<-bH.out];exact Fg HZ.out Ti.out (by unfold jS;rw[HC.out,HSb.out];simp) zAe
     subst hr2;go_wp2_with (refine wpList_store_row rfl 43 (.tmp 4) (.tmp 36) rfl (w.heap.size+2) #[.int .u8 8,.int .i64 yy.line] rfl rfl 43 #[.int .u8 0,.int .i64 0] (uT.out w4 GV.out) zk rfl zk ?_);refine gW (p:=4) rfl rfl rfl rfl (setRow_heap _ _ _ _ _ _ (uT.out w4 GV.out)) ?_;exact⟨rfl,(ig.out.same (bg.out.same GV.out)).trans (aU _ _ _) (fun k hk=>.inr zBB)⟩
    |true=>
     have hcode:jS x p yy=0:=by unfold jS;rw[HC.out,HSb.out];simp
     have HZ2:Hid (∀d∈p.deps.take (i+1),jS x p d=0):=fun v hv=>by
      rcases bY Ti.out hv with h|rfl;·exact HZ.out v h
      exact hcode
     go_wp2_with fail;go_roundw;case rel=>exact⟨GV,i+1,by first|rfl|go_num,by omega,HZ2⟩
     case measure=>simp[RowKit.intOf]<;>omega
   have c1:((c:Int) != 0)=true:=by rw[bne_iff_ne];exact c0
   have hr2:r=(c,yy.line):=by rw[<-bH.out];exact Fg HZ.out Ti.out (by unfold jS;rw[HC.out];simp[c0]) zAe
   subst hr2;go_wp2_with (refine wpList_store_row rfl 43 (.tmp 4) (.tmp 27) rfl (w.heap.size+2) #[.int .u8 c,.int .i64 yy.line] rfl rfl 43 #[.int .u8 0,.int .i64 0] (uT.out w3 BQ.out) zk rfl zk ?_);refine gW (p:=4) rfl rfl rfl rfl (setRow_heap _ _ _ _ _ _ (uT.out w3 BQ.out)) ?_;exact⟨rfl,(ig.out.same (bg.out.same BQ.out)).trans (aU _ _ _) (fun k hk=>.inr zBB)⟩
  obtain rfl:lY=i:=by omega
  have HZa:Hid (∀d∈p.deps,jS x p d=0):=fun d hd=>HZ.out d (by
   rw[qI (yG GL.out)]
   exact hd)
  have Js:=Ho;go_wp2_with fail;go_loopw [41] (fun vj jA=>Hid (O0 W1 jA)/\∃j:Nat,vj= .int .i64 j/\j<=lZ/\Hid (∀d∈p.cons.take j,jm x p d=0)) (fun v _=>lZ-(RowKit.intOf v).toNat);case atStart=>exact⟨Js,0,rfl,qE _,show Hid _ from fun v hv=>by simp at hv⟩
  case round=>
   obtain⟨jA,rfl⟩:=zB wr;clear Js;obtain⟨Tj,j,rfl,hj,HZj⟩:=hrel;clear k0 k1 k2 k3 k4 k5 k6 k7 k8 k9;obtain⟨k0,k1,k2,k3,k4,k5,k6,k7,k8,k9⟩:=bJ.out jA (bg.out.same Tj.out);by_cases cj:j<lZ
   ·have jg:=zw (j+1);obtain⟨yz,hxz⟩:=zG p.cons j (by rw[GN.out];omega);obtain⟨bkz,LY,az1,nz1,cz1,az2,nz2,cz2,az3,nz3,cz3,az4,nz4,cz4,SY,aeP,ald,ale,alf,aeC,alg,alh,GU⟩:=aaH (JO.out W0 zr) hxz;first|subst SY| (simp only[qG,qO,and_true]at SY;obtain⟨rfl,rfl⟩:=SY)
    have UO:=zh GU;have Zr:=zh hxz;clear GU hxz aeP ald ale alf;have ali:Hid (∀W,O0 W0 W->aJ 2 je B W (.slice az2 nz2 cz2) yz.cond.sets):=fun W ho=>(UO.out W ho).2.2.1;have alj:Hid (∀W,O0 W0 W->aJ 2 eX B W (.slice az3 nz3 cz3) yz.with'.spans):=fun W ho=>(UO.out W ho).2.2.2.1;have alk:Hid (∀W,O0 W0 W->aJ 2 je B W (.slice az4 nz4 cz4) yz.with'.sets):=fun W ho=>(UO.out W ho).2.2.2.2.1;have HWs:Hid (∀W,O0 W0 W->Calls Tryz.prog 107 #[.agg #[.slice dD aY bU,.slice cZ aZ bF],.agg #[.string yz.with'.name,.slice az3 nz3 cz3,.slice az4 nz4 cz4]] W fun e w'=>e= .returned (.int .u8 (x.wish yz.with'))/\O0 W w'):=fun W hW=>Tc (qB.out W hW) (⟨_,_,rfl,alg,alj.out W hW,alk.out W hW⟩:dh B W [.string yz.with'.name,.slice az3 nz3 cz3,.slice az4 nz4 cz4] yz.with') zAV;have HF:Hid (∀W,O0 W0 W->Calls Tryz.prog 182 #[.agg #[.slice dD aY bU,.slice cZ aZ bF],.string yz.with'.name] W fun e w'=>e= .returned (.int .i64 (x.find yz.with'.name))/\O0 W w'):=fun W hW=>lK (qB.out W hW) _;have MN:Hid (∀W,O0 W0 W->Calls Tryz.prog 186 #[.agg #[.string p.name,.int .i64 p.line,.slice vW vX vY,.slice vZ wu wz,.slice lV lW lX,.slice Bd lY wC,.slice (some ⟨bkz,LY,none⟩) lZ wE,.slice tN tV tX],.slice az2 nz2 cz2] W fun e w'=>e= .returned (.bool (iG p yz.cond.sets))/\O0 W w'):=fun W hW=>aey (aez.out W hW) (ali.out W hW);have hrz:=zh (UO.out jA (bg.out.same Tj.out)).1;obtain⟨Vb,Zc⟩:=ze (jA.alloc (.cells #[.string ⟨#[]⟩,.slice none 0 0,.slice none 0 0,.string ⟨#[]⟩,.slice none 0 0,.slice none 0 0,.int .i64 0] 160));have Zd:Hid (Vb.heap[jA.heap.size]? =some (.cells #[.string ⟨#[]⟩,.slice none 0 0,.slice none 0 0,.string ⟨#[]⟩,.slice none 0 0,.slice none 0 0,.int .i64 0] 160)):=by rw[<-Zc];exact qL jA _
    obtain⟨W4,Rx⟩:=ze (Vb.setRow jA.heap.size #[.string yz.cond.name,.slice az1 nz1 cz1,.slice az2 nz2 cz2,.string yz.with'.name,.slice az3 nz3 cz3,.slice az4 nz4 cz4,.int .i64 yz.line]);have aeQ:Hid (W4.heap[jA.heap.size]? =some (.cells #[.string yz.cond.name,.slice az1 nz1 cz1,.slice az2 nz2 cz2,.string yz.with'.name,.slice az3 nz3 cz3,.slice az4 nz4 cz4,.int .i64 yz.line] 160 (0,0))):=by rw[<-Rx];exact setRow_heap _ _ _ _ _ _ Zd.out
    have GV:Hid (O0 W1 W4):=by exact zDE
    have zF:Hid (∀W,O0 W4 W->W.cell? ⟨jA.heap.size,0,none⟩=some (.string yz.cond.name)/\W.cell? ⟨jA.heap.size,1,none⟩=some (.slice az1 nz1 cz1)/\W.cell? ⟨jA.heap.size,2,none⟩=some (.slice az2 nz2 cz2)/\W.cell? ⟨jA.heap.size,3,none⟩=some (.string yz.with'.name)/\W.cell? ⟨jA.heap.size,4,none⟩=some (.slice az3 nz3 cz3)/\W.cell? ⟨jA.heap.size,5,none⟩=some (.slice az4 nz4 cz4)/\W.cell? ⟨jA.heap.size,6,none⟩=some (.int .i64 yz.line)):=fun W ho=>by have b1:=ak aeQ.out ho (fun f=>f);exact zCm
    clear k0 k1 k2 k3 k4 k5 k6 k7 k8 k9;obtain⟨k0,k1,k2,k3,k4,k5,k6,k7,k8,k9⟩:=bJ.out W4 (bg.out.same GV.out);obtain⟨d0,d1,d2,d3,d4,d5,d6⟩:=zF.out W4 zr;obtain⟨m0,m1,m2,m3,m4,m5,m6,m7,m8,m9⟩:=bJ.out jA (bg.out.same Tj.out);obtain⟨e0,he0⟩:=ze yz.with'.name.toList.isEmpty;obtain⟨sb,hsb⟩:=ze (iG p yz.cond.sets);simp only[hsb]at MN;have HSb:=zh hsb;have HE0:=zh he0;clear hsb he0;go_wp2_with (first
     | (refine wpList_load_mid rfl 160 (.tmp 43) rfl bkz (LY+j*7) rfl _ _ hrz.out Tryz.underlying160 rfl zk ?_)
     | (refine wpList_store_row rfl 160 (.tmp 9) (.tmp 44) rfl jA.heap.size #[.string yz.cond.name,.slice az1 nz1 cz1,.slice az2 nz2 cz2,.string yz.with'.name,.slice az3 nz3 cz3,.slice az4 nz4 cz4,.int .i64 yz.line] rfl rfl 160 #[.string ⟨#[]⟩,.slice none 0 0,.slice none 0 0,.string ⟨#[]⟩,.slice none 0 0,.slice none 0 0,.int .i64 0] Zd.out zk rfl zk ?_))
    clear hrz Zd;clear m0 m1 m2 m3 m4 m5 m6 m7 m8 m9 Zc Rx;refine(MN.out W4 (bg.out.same GV.out)).mono ?_;rintro e w5 ⟨rfl,O1⟩;have Qv:=zh (GV.out.same O1);have HQ5:Hid (O0 W4 w5):=O1;clear O1 k0 k1 k2 k3 k4 k5 k6 k7 k8 k9 d0 d1 d2 d3 d4 d5 d6;obtain⟨k0,k1,k2,k3,k4,k5,k6,k7,k8,k9⟩:=bJ.out w5 (bg.out.same Qv.out);obtain⟨d0,d1,d2,d3,d4,d5,d6⟩:=zF.out w5 HQ5.out;cases sb with
    |false=>
     have z88:((8:Int) != 0)=true:=rfl;have hr2:r=(8,yz.line):=by rw[<-bH.out];exact yX HZa.out HZj.out Zr.out (by unfold jm;rw[HSb.out];simp) zAe
     subst hr2;go_wp2_with (refine wpList_store_row rfl 43 (.tmp 4) (.tmp 73) rfl (w.heap.size+2) #[.int .u8 8,.int .i64 yz.line] rfl rfl 43 #[.int .u8 0,.int .i64 0] (uT.out w5 Qv.out) zk rfl zk ?_);refine gW (p:=4) rfl rfl rfl rfl (setRow_heap _ _ _ _ _ _ (uT.out w5 Qv.out)) ?_;exact⟨rfl,(ig.out.same (bg.out.same Qv.out)).trans (aU _ _ _) (fun k hk=>.inr zBB)⟩
    |true=>
     cases e0 with
     |false=>
      have hst:yz.with'.name.toList.isEmpty=false:=HE0.out;go_wp2_with fail;refine(HF.out w5 (bg.out.same Qv.out)).mono ?_;rintro e w6 ⟨rfl,O1⟩;have Qw:=zh (Qv.out.same O1);have HQ6:Hid (O0 W4 w6):=HQ5.out.same O1;clear O1 k0 k1 k2 k3 k4 k5 k6 k7 k8 k9 d0 d1 d2 d3 d4 d5 d6;obtain⟨k0,k1,k2,k3,k4,k5,k6,k7,k8,k9⟩:=bJ.out w6 (bg.out.same Qw.out);obtain⟨d0,d1,d2,d3,d4,d5,d6⟩:=zF.out w6 HQ6.out;obtain⟨f,hf⟩:=ze (x.find yz.with'.name);rw[hf];by_cases fl:f<0
      ·have HFl:Hid (x.find yz.with'.name<0):=by rw[hf];exact fl
       clear hf;have hr2:r=(7,yz.line):=by rw[<-bH.out];exact yX HZa.out HZj.out Zr.out (by unfold jm;rw[HSb.out,if_neg zBF,HE0.out,if_neg zAE,if_pos HFl.out]) (by first|decide|assumption)
       subst hr2;go_wp2_with (refine wpList_store_row rfl 43 (.tmp 4) (.tmp 73) rfl (w.heap.size+2) #[.int .u8 7,.int .i64 yz.line] rfl rfl 43 #[.int .u8 0,.int .i64 0] (uT.out w6 Qw.out) zk rfl zk ?_);refine gW (p:=4) rfl rfl rfl rfl (setRow_heap _ _ _ _ _ _ (uT.out w6 Qw.out)) ?_;exact⟨rfl,(ig.out.same (bg.out.same Qw.out)).trans (aU _ _ _) (fun k hk=>.inr zBB)⟩
      have HFl:Hid (0<=x.find yz.with'.name):=by rw[hf,Hid];omega
      clear hf;go_wp2_with fail;refine(HWs.out w6 (bg.out.same Qw.out)).mono ?_;rintro e w7 ⟨rfl,O1⟩;have Qx:=zh (Qw.out.same O1);have HQ7:Hid (O0 W4 w7):=HQ6.out.same O1;clear O1 k0 k1 k2 k3 k4 k5 k6 k7 k8 k9 d0 d1 d2 d3 d4 d5 d6;obtain⟨k0,k1,k2,k3,k4,k5,k6,k7,k8,k9⟩:=bJ.out w7 (bg.out.same Qx.out);obtain⟨d0,d1,d2,d3,d4,d5,d6⟩:=zF.out w7 HQ7.out;obtain⟨c,hc⟩:=ze (x.wish yz.with');rw[hc];have HC:=zh hc;clear hc;by_cases c0:c=0
      ·subst c0;have hcode:jm x p yz=0:=by unfold jm;rw[HSb.out,if_neg zBF,HE0.out,if_neg zAE,if_neg (by have:=HFl.out;omega),HC.out]
       have z00:((0:Int) != 0)=false:=rfl;have HZ3:Hid (∀d∈p.cons.take (j+1),jm x p d=0):=fun v hv=>by
        rcases bY Zr.out hv with h|rfl;·exact HZj.out v h
        exact hcode
       go_wp2_with fail;go_roundw;case rel=>exact⟨Qx,j+1,by first|rfl|go_num,by omega,HZ3⟩
       case measure=>simp[RowKit.intOf]<;>omega
      have c1:((c:Int) != 0)=true:=by rw[bne_iff_ne];exact c0
      have hr2:r=(c,yz.line):=by rw[<-bH.out];exact yX HZa.out HZj.out Zr.out (by unfold jm;rw[HSb.out,if_neg zBF,HE0.out,if_neg zAE,if_neg (by have:=HFl.out;omega),HC.out]) (by first|decide|assumption)
      subst hr2;go_wp2_with (refine wpList_store_row rfl 43 (.tmp 4) (.tmp 73) rfl (w.heap.size+2) #[.int .u8 c,.int .i64 yz.line] rfl rfl 43 #[.int .u8 0,.int .i64 0] (uT.out w7 Qx.out) zk rfl zk ?_);refine gW (p:=4) rfl rfl rfl rfl (setRow_heap _ _ _ _ _ _ (uT.out w7 Qx.out)) ?_;exact⟨rfl,(ig.out.same (bg.out.same Qx.out)).trans (aU _ _ _) (fun k hk=>.inr zBB)⟩
     |true=>
      have hst:yz.with'.name.toList.isEmpty=true:=HE0.out;have hcode:jm x p yz=0:=by unfold jm;rw[HSb.out,if_neg zAE,HE0.out];simp
      have z00:((0:Int) != 0)=false:=rfl;have HZ3:Hid (∀d∈p.cons.take (j+1),jm x p d=0):=fun v hv=>by
       rcases bY Zr.out hv with h|rfl;·exact HZj.out v h
       exact hcode
      go_wp2_with fail;go_roundw;case rel=>exact⟨Qv,j+1,by first|rfl|go_num,by omega,HZ3⟩
      case measure=>simp[RowKit.intOf]<;>omega
   obtain rfl:lZ=j:=by omega
   have hr2:r=(0,0):=by rw[<-bH.out];refine QY HZa.out fun d hd=>HZj.out d ?_;rw[qI (yG GN.out)];exact hd
   subst hr2;go_wp2_with (refine wpList_store_row rfl 43 (.tmp 4) (.tmp 75) rfl (w.heap.size+2) #[.int .u8 0,.int .i64 0] rfl rfl 43 #[.int .u8 0,.int .i64 0] (uT.out jA Tj.out) zk rfl zk ?_);refine gW (p:=4) rfl rfl rfl rfl (setRow_heap _ _ _ _ _ _ (uT.out jA Tj.out)) ?_;exact⟨rfl,(ig.out.same (bg.out.same Tj.out)).trans (aU _ _ _) (fun k hk=>.inr zBB)⟩
end
end Go.Proofs.YtdmmebjjojimiaaGreatDoor
