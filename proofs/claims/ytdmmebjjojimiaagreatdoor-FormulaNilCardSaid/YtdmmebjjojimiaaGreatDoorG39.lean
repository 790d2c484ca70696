/- Package check: Recipe, Request. Printed by gen_ck5.py. -/
import Derived.Test.YtdmmebjjojimiaaGreatDoorG38
set_option maxRecDepth 100000
set_option maxHeartbeats 8000000
set_option linter.all false
namespace Go.Proofs
theorem zA1{p:Prop}(h:p:=by rw[jW.out];omega):p:=h
theorem zCO{p:Prop}(h:p:=by
 have z00:((0:Int) != 0)=false:=rfl
 go_wp2_with fail
 go_roundw
 case rel=>exact⟨BQ,i+1,by first|rfl|go_num,by omega,HZ2⟩
 case measure=>simp[RowKit.intOf]<;>omega):p:=h
theorem zD5{p:Prop}(h:p:=by exact kE.mk _ _ rfl (by rw[Jw.out];exact qP c0) ((ig.out.same (bg.out.same BQ.out)).trans (aU _ _ _) (fun k hk=>.inr zBB))):p:=h
end Go.Proofs
namespace Go.Proofs.YtdmmebjjojimiaaGreatDoor
open Go.RowKit
section
variable {w w':World} {B:Nat}
def aC.okB(x:aC):Bool:=decide (x.packs.length<=24)&&decide (x.cO.length<=8)&&(List.range x.packs.length).all x.oH&&x.packs.all (fun p=>decide ((jw x p).1=0))&&(List.range x.cO.length).all x.wF
def dG.okB(x:aC)(q:dG):Bool:=decide (0<q.roots.length)&&decide (q.roots.length<=8)&&q.roots.all fun r=>decide (x.wish r.spec=0)
theorem WL{x:aC}(h:24<x.packs.length):x.okB=false:=by unfold aC.okB;rw[qP zBB];simp
theorem WM{x:aC}(h:8<x.cO.length):x.okB=false:=by unfold aC.okB;rw[qP (show¬x.cO.length<=8 by omega)];simp
theorem ZB{x:aC}{i:Nat}(hi:i<x.packs.length)(h:x.oH i=false):x.okB=false:=by unfold aC.okB;have:(List.range x.packs.length).all x.oH=false:=List.all_eq_false.2 ⟨i,yI.2 hi,by rw[h];simp⟩;rw[this];simp
theorem ZC{x:aC}{p:eP}(hp:p∈x.packs)(h:(jw x p).1≠0):x.okB=false:=by unfold aC.okB;have:x.packs.all (fun p=>decide ((jw x p).1=0))=false:=List.all_eq_false.2 ⟨p,hp,by rw[qP h];simp⟩;rw[this];simp
theorem ZE{x:aC}{i:Nat}(hi:i<x.cO.length)(h:x.wF i=false):x.okB=false:=by unfold aC.okB;have:(List.range x.cO.length).all x.wF=false:=List.all_eq_false.2 ⟨i,yI.2 hi,by rw[h];simp⟩;rw[this];simp
theorem abK{x:aC}(h1:x.packs.length<=24)(h2:x.cO.length<=8)(h3:∀k,k<x.packs.length->x.oH k=true)(h4:∀p∈x.packs,(jw x p).1=0)(h5:∀k,k<x.cO.length->x.wF k=true):x.okB=true:=by unfold aC.okB;have e3:(List.range x.packs.length).all x.oH=true:=List.all_eq_true.2 fun k hk=>h3 k (yI.1 hk);have e4:x.packs.all (fun p=>decide ((jw x p).1=0))=true:=List.all_eq_true.2 fun p hp=>qX (h4 p hp);have e5:(List.range x.cO.length).all x.wF=true:=List.all_eq_true.2 fun k hk=>h5 k (yI.1 hk);rw[e3,e4,e5,qX h1,qX h2];rfl
def kE(ok:Bool)(w w':World)(e:Ending):Prop:= ∃c l:Int,e= .returned (.agg #[.int .u8 c,.int .i64 l])/\decide (c=0)=ok/\O0 w w'
theorem kE.mk{ok:Bool}(c l:Int){w w':World}{e:Ending}(he:e= .returned (.agg #[.int .u8 c,.int .i64 l]))(hf:decide (c=0)=ok)(ho:O0 w w'):kE ok w w' e:=⟨c,l,he,hf,ho⟩
theorem ZF{Hg:List Value}{x:aC}(hx:gG B w Hg x)(hlen:x.packs.length<=1000000)(hsm:∀p∈x.packs,p.aP.length<=1000000/\p.vars.length<=1000000):Calls Tryz.prog 50 #[.agg Hg.toArray] w fun e w'=>kE x.okB w w' e:=by
 obtain⟨dD,aY,bU,cZ,aZ,bF,rfl,pR,pU,jU,jV,aW,dU,JQ⟩:=open_rec hx;clear hx;try rw[aW.out]
 obtain⟨W0,hW0,ig,DU,bJ⟩:=ac2 w (.slice dD aY bU) (.slice cZ aZ bF) 25;obtain⟨qB,gQ,gU⟩:=JQ W0 ig.out;clear JQ;rw[aW.out]at hlen;have HSm:=zh hsm;clear hsm;have hs:=DU.out;obtain⟨W1,hW1⟩:=ze (W0.alloc (.cells #[.int .u8 0,.int .i64 0] 43));have bg:Hid (O0 W0 W1):=zA5;have uT:Hid (∀W,O0 W1 W->W.heap[w.heap.size+1]? =some (.cells #[.int .u8 0,.int .i64 0] 43)):=fun W ho=>by have b0:W1.heap[w.heap.size+1]? =some (.cells #[.int .u8 0,.int .i64 0] 43):=zAr;exact ak b0 ho (fun f=>f)
 have Qd:Hid (O0 W1 W1):=Only.refl _ _;have hW0':=hW0.symm;clear hW0;by_cases q1:24<aY
 ·obtain⟨yy,hxy⟩:=zG x.packs 24 zAa;obtain⟨LZ,uJ,uX,pV,uY,BK,BL,BM,BN,xX,BO,D9,Bo,Ea,MQ,Hl,MR,JV,Ez,JW,Dk,xw,Bq,Bv,Bz,Eb,Ec,Tf,WH,tY⟩:=nU (gQ.out W0 zr) hxy;first|subst Dk| (simp only[qG,qO,and_true]at Dk;obtain⟨rfl,rfl⟩:=Dk)
  have Ny1:=zh xw;have Ny2:=zh Bq;have Ny3:=zh Bv;have Ny4:=zh Bz;have Ny5:=zh Eb;have Ny6:=zh Ec;have sF:=zh tY;have Ti:=zh hxy;clear tY hxy xw Bq Bv Bz Eb Ec;have Qa:Hid (∀W,O0 W0 W->aJ 2 nK B W (.slice uX pV uY) yy.aP):=fun W ho=>(sF.out W ho).2.1;have Zv:Hid (∀W,O0 W0 W->aJ 2 jF B W (.slice BK BL BM) yy.vars):=fun W ho=>(sF.out W ho).2.2.1;have Zw:Hid (∀W,O0 W0 W->aJ 1 dK B W (.slice BN xX BO) yy.provides):=fun W ho=>(sF.out W ho).2.2.2.1;have aeI:Hid (∀W,O0 W0 W->aJ 7 l7 B W (.slice D9 Bo Ea) yy.deps):=fun W ho=>(sF.out W ho).2.2.2.2.1;have aln:Hid (∀W,O0 W0 W->aJ 7 oQ B W (.slice MQ Hl MR) yy.cons):=fun W ho=>(sF.out W ho).2.2.2.2.2.1;have aeH:Hid (∀W,O0 W0 W->aJ 1 dK B W (.slice JV Ez JW) yy.files):=fun W ho=>(sF.out W ho).2.2.2.2.2.2.1;have HCy:Hid (∀W,O0 W0 W->fF B W [.string yy.name,.int .i64 yy.line,.slice uX pV uY,.slice BK BL BM,.slice BN xX BO,.slice D9 Bo Ea,.slice MQ Hl MR,.slice JV Ez JW] yy):=fun W ho=>(sF.out W ho).2.2.2.2.2.2.2;have nJ:=(sF.out W1 bg.out).1;have gy1:=nJ 1 _ rfl;clear nJ;obtain⟨k0,k1⟩:=bJ.out W1 (bg.out.same Qd.out);have hz:=uT.out W1 Qd.out;go_enter Tryz.func50,Tryz.ntmps50;go_wp2_with (refine wpList_store_row rfl 43 (.tmp 2) (.tmp 20) rfl (w.heap.size+1) #[.int .u8 1,.int .i64 yy.line] rfl rfl 43 #[.int .u8 0,.int .i64 0] hz zk rfl zk ?_);refine gW (p:=2) rfl rfl rfl rfl (setRow_heap _ _ _ _ _ _ hz) ?_;exact kE.mk _ _ rfl (by rw[WL (x:=x) (by rw[aW.out];exact q1)];rfl) ((ig.out.same (bg.out.same Qd.out)).trans (aU _ _ _) (fun k hk=>.inr zBB))
 by_cases q2:8<aZ
 ·obtain⟨yz,hxz⟩:=zG x.cO 8 zBI;obtain⟨bkz,LY,az1,nz1,cz1,SY,aeP,aeC,alh,GU⟩:=Fa (gU.out W0 zr) hxz;first|subst SY| (simp only[qG,qO,and_true]at SY;obtain⟨rfl,rfl⟩:=SY)
  have UO:=zh GU;clear GU hxz aeP;have hrz:=(UO.out W1 bg.out).1;have gz2:=hrz 2 _ rfl;clear hrz;obtain⟨k0,k1⟩:=bJ.out W1 (bg.out.same Qd.out);have hz:=uT.out W1 Qd.out;go_enter Tryz.func50,Tryz.ntmps50;go_wp2_with (refine wpList_store_row rfl 43 (.tmp 2) (.tmp 30) rfl (w.heap.size+1) #[.int .u8 1,.int .i64 yz.line] rfl rfl 43 #[.int .u8 0,.int .i64 0] hz zk rfl zk ?_);refine gW (p:=2) rfl rfl rfl rfl (setRow_heap _ _ _ _ _ _ hz) ?_;exact kE.mk _ _ rfl (by rw[WM (x:=x) (by rw[dU.out];exact q2)];rfl) ((ig.out.same (bg.out.same Qd.out)).trans (aU _ _ _) (fun k hk=>.inr zBB))
 obtain⟨k0,k1⟩:=bJ.out W1 (bg.out.same Qd.out);go_enter Tryz.func50,Tryz.ntmps50;go_wp2_with fail;clear hW0' hW1 k0 k1;have Js:=Qd;go_loopw [34] (fun vi jq=>Hid (O0 W1 jq)/\∃i:Nat,vi= .int .i64 i/\i<=aY/\Hid (∀k,k<i->x.oH k=true)) (fun v _=>aY-(RowKit.intOf v).toNat);case atStart=>exact⟨Js,0,rfl,qE _,show Hid _ from fun k hk=>by omega⟩
 case round=>
  obtain⟨jq,rfl⟩:=zB wr;clear Js;obtain⟨Ho,i,rfl,hi,HZ⟩:=hrel;obtain⟨k0,k1⟩:=bJ.out jq (bg.out.same Ho.out);by_cases ci:i<aY
  ·have jg:=zw (i+1);obtain⟨yy,hxy⟩:=zG x.packs i zAa;obtain⟨LZ,uJ,uX,pV,uY,BK,BL,BM,BN,xX,BO,D9,Bo,Ea,MQ,Hl,MR,JV,Ez,JW,Dk,xw,Bq,Bv,Bz,Eb,Ec,Tf,WH,tY⟩:=nU (gQ.out W0 zr) hxy;first|subst Dk| (simp only[qG,qO,and_true]at Dk;obtain⟨rfl,rfl⟩:=Dk)
   have Ny1:=zh xw;have Ny2:=zh Bq;have Ny3:=zh Bv;have Ny4:=zh Bz;have Ny5:=zh Eb;have Ny6:=zh Ec;have sF:=zh tY;have Ti:=zh hxy;clear tY hxy xw Bq Bv Bz Eb Ec;have Qa:Hid (∀W,O0 W0 W->aJ 2 nK B W (.slice uX pV uY) yy.aP):=fun W ho=>(sF.out W ho).2.1;have Zv:Hid (∀W,O0 W0 W->aJ 2 jF B W (.slice BK BL BM) yy.vars):=fun W ho=>(sF.out W ho).2.2.1;have Zw:Hid (∀W,O0 W0 W->aJ 1 dK B W (.slice BN xX BO) yy.provides):=fun W ho=>(sF.out W ho).2.2.2.1;have aeI:Hid (∀W,O0 W0 W->aJ 7 l7 B W (.slice D9 Bo Ea) yy.deps):=fun W ho=>(sF.out W ho).2.2.2.2.1;have aln:Hid (∀W,O0 W0 W->aJ 7 oQ B W (.slice MQ Hl MR) yy.cons):=fun W ho=>(sF.out W ho).2.2.2.2.2.1;have aeH:Hid (∀W,O0 W0 W->aJ 1 dK B W (.slice JV Ez JW) yy.files):=fun W ho=>(sF.out W ho).2.2.2.2.2.2.1;have HCy:Hid (∀W,O0 W0 W->fF B W [.string yy.name,.int .i64 yy.line,.slice uX pV uY,.slice BK BL BM,.slice BN xX BO,.slice D9 Bo Ea,.slice MQ Hl MR,.slice JV Ez JW] yy):=fun W ho=>(sF.out W ho).2.2.2.2.2.2.2;have hpi:x.pack i=yy:=zAh;have hsz:=HSm.out yy (qT Ti.out);have HAl:Hid (∀W,O0 W0 W->Calls Tryz.prog 104 #[.agg #[.slice (some ⟨LZ,uJ,none⟩) aY bU,.slice cZ aZ bF],.int .i64 (i:Int)] W fun e w'=>iR (x.oH i) W w' e):=fun W hW=>aeG (qB.out W hW) zAV (by rw[aW.out];exact ci) (by rw[hpi];exact hsz.1) (by rw[hpi];exact hsz.2);have nJ:=zh (sF.out jq (bg.out.same Ho.out)).1;obtain⟨Va,UN⟩:=ze (jq.alloc (.cells #[.string ⟨#[]⟩,.int .i64 0,.slice none 0 0,.slice none 0 0,.slice none 0 0,.slice none 0 0,.slice none 0 0,.slice none 0 0] 101));have Sz:Hid (Va.heap[jq.heap.size]? =some (.cells #[.string ⟨#[]⟩,.int .i64 0,.slice none 0 0,.slice none 0 0,.slice none 0 0,.slice none 0 0,.slice none 0 0,.slice none 0 0] 101)):=by rw[<-UN];exact qL jq _
   obtain⟨W2,hW2⟩:=ze (Va.setRow jq.heap.size #[.string yy.name,.int .i64 yy.line,.slice uX pV uY,.slice BK BL BM,.slice BN xX BO,.slice D9 Bo Ea,.slice MQ Hl MR,.slice JV Ez JW]);have Zy:Hid (W2.heap[jq.heap.size]? =some (.cells #[.string yy.name,.int .i64 yy.line,.slice uX pV uY,.slice BK BL BM,.slice BN xX BO,.slice D9 Bo Ea,.slice MQ Hl MR,.slice JV Ez JW] 101 (0,0))):=zAY;have HP2:Hid (O0 W1 W2):=by exact zCj
   have zF:Hid (∀W,O0 W2 W->W.cell? ⟨jq.heap.size,0,none⟩=some (.string yy.name)/\W.cell? ⟨jq.heap.size,1,none⟩=some (.int .i64 yy.line)/\W.cell? ⟨jq.heap.size,2,none⟩=some (.slice uX pV uY)/\W.cell? ⟨jq.heap.size,3,none⟩=some (.slice BK BL BM)/\W.cell? ⟨jq.heap.size,4,none⟩=some (.slice BN xX BO)/\W.cell? ⟨jq.heap.size,5,none⟩=some (.slice D9 Bo Ea)/\W.cell? ⟨jq.heap.size,6,none⟩=some (.slice MQ Hl MR)/\W.cell? ⟨jq.heap.size,7,none⟩=some (.slice JV Ez JW)):=fun W ho=>by have b1:=ak Zy.out ho (fun f=>f);exact zBs
   clear k0 k1;obtain⟨k0,k1⟩:=bJ.out W2 (bg.out.same HP2.out);obtain⟨d0,d1,d2,d3,d4,d5,d6,d7⟩:=zF.out W2 zr;obtain⟨m0,m1⟩:=bJ.out jq (bg.out.same Ho.out);go_wp2_with (first
    | (refine wpList_load_mid rfl 101 (.tmp 37) rfl LZ (uJ+i*8) rfl _ _ nJ.out Tryz.underlying101 rfl zk ?_)
    | (refine wpList_store_row rfl 101 (.tmp 4) (.tmp 38) rfl jq.heap.size #[.string yy.name,.int .i64 yy.line,.slice uX pV uY,.slice BK BL BM,.slice BN xX BO,.slice D9 Bo Ea,.slice MQ Hl MR,.slice JV Ez JW] rfl rfl 101 #[.string ⟨#[]⟩,.int .i64 0,.slice none 0 0,.slice none 0 0,.slice none 0 0,.slice none 0 0,.slice none 0 0,.slice none 0 0] Sz.out zk rfl zk ?_))
   clear nJ Sz;clear m0 m1;refine(HAl.out W2 (bg.out.same HP2.out)).mono ?_;rintro e w3 ⟨c,rfl,-,hcd,O1⟩;have BQ:=zh (HP2.out.same O1);have HQ3:=zh O1;clear O1 HAl k0 k1 d0 d1 d2 d3 d4 d5 d6 d7 UN hW2;obtain⟨k0,k1⟩:=bJ.out w3 (bg.out.same BQ.out);obtain⟨d0,d1,d2,d3,d4,d5,d6,d7⟩:=zF.out w3 HQ3.out;by_cases c0:c=0
   ·subst c0;have HZ2:Hid (∀k,k<i+1->x.oH k=true):=fun k hk=>by
     rcases yK k i with h|h;·exact HZ.out k h
     obtain rfl:k=i:=by omega
     rw[<-hcd];rfl
    clear hcd hpi hsz;exact zCO
   have c1:((c:Int) != 0)=true:=by rw[bne_iff_ne];exact c0
   have Jw:Hid (x.okB=false):=ZB (i:=i) (by rw[aW.out];exact ci) (by rw[<-hcd];exact qP c0);clear hcd hpi hsz;go_wp2_with (refine wpList_store_row rfl 43 (.tmp 2) (.tmp 47) rfl (w.heap.size+1) #[.int .u8 c,.int .i64 yy.line] rfl rfl 43 #[.int .u8 0,.int .i64 0] (uT.out w3 BQ.out) zk rfl zk ?_);refine gW (p:=2) rfl rfl rfl rfl (setRow_heap _ _ _ _ _ _ (uT.out w3 BQ.out)) ?_;exact zD5
  obtain rfl:aY=i:=by omega
  have Js:=Ho;go_wp2_with fail;clear k0 k1;go_loopw [52] (fun vj jA=>Hid (O0 W1 jA)/\∃j:Nat,vj= .int .i64 j/\j<=aY/\Hid (∀p∈x.packs.take j,(jw x p).1=0)) (fun v _=>aY-(RowKit.intOf v).toNat);case atStart=>exact⟨Js,0,rfl,qE _,show Hid _ from fun v hv=>by simp at hv⟩
  case round=>
   obtain⟨jA,rfl⟩:=zB wr;clear Js;obtain⟨Tj,j,rfl,hj,HZj⟩:=hrel;obtain⟨k0,k1⟩:=bJ.out jA (bg.out.same Tj.out);by_cases cj:j<aY
   ·have jg:=zw (j+1);obtain⟨yv,hxv⟩:=zG x.packs j zAa;obtain⟨bkv,ah4,av1,nv1,cv1,av2,nv2,cv2,av3,nv3,cv3,av4,nv4,cv4,av5,nv5,cv5,av6,nv6,cv6,hev,alo,alp,alq,alr,als,alu,apZ,inv1,ah5⟩:=nU (gQ.out W0 zr) hxv;first|subst hev| (simp only[qG,qO,and_true]at hev;obtain⟨rfl,rfl⟩:=hev)
    have HEv:=zh ah5;have HXv:=zh hxv;clear ah5 hxv alo alp alq alr als alu;have HCv:Hid (∀W,O0 W0 W->fF B W [.string yv.name,.int .i64 yv.line,.slice av1 nv1 cv1,.slice av2 nv2 cv2,.slice av3 nv3 cv3,.slice av4 nv4 cv4,.slice av5 nv5 cv5,.slice av6 nv6 cv6] yv):=fun W ho=>(HEv.out W ho).2.2.2.2.2.2.2;obtain⟨c,l,hcl⟩:∃c l:Int,jw x yv=(c,l):=⟨_,_,rfl⟩;have HRl:Hid (∀W,O0 W0 W->Calls Tryz.prog 105 #[.agg #[.slice (some ⟨bkv,ah4,none⟩) aY bU,.slice cZ aZ bF],.agg #[.string yv.name,.int .i64 yv.line,.slice av1 nv1 cv1,.slice av2 nv2 cv2,.slice av3 nv3 cv3,.slice av4 nv4 cv4,.slice av5 nv5 cv5,.slice av6 nv6 cv6]] W fun e w'=>e= .returned (.agg #[.int .u8 c,.int .i64 l])/\O0 W w'):=fun W hW=>by have:=Zx (qB.out W hW) (HCv.out W hW) zAV;rw[hcl]at this;exact this
    have HCL:=zh hcl;clear hcl;have hrv:=zh (HEv.out jA (bg.out.same Tj.out)).1;obtain⟨Vb,Zc⟩:=ze (jA.alloc (.cells #[.string ⟨#[]⟩,.int .i64 0,.slice none 0 0,.slice none 0 0,.slice none 0 0,.slice none 0 0,.slice none 0 0,.slice none 0 0] 101));have Zd:Hid (Vb.heap[jA.heap.size]? =some (.cells #[.string ⟨#[]⟩,.int .i64 0,.slice none 0 0,.slice none 0 0,.slice none 0 0,.slice none 0 0,.slice none 0 0,.slice none 0 0] 101)):=by rw[<-Zc];exact qL jA _
    obtain⟨W4,Rx⟩:=ze (Vb.setRow jA.heap.size #[.string yv.name,.int .i64 yv.line,.slice av1 nv1 cv1,.slice av2 nv2 cv2,.slice av3 nv3 cv3,.slice av4 nv4 cv4,.slice av5 nv5 cv5,.slice av6 nv6 cv6]);have aeQ:Hid (W4.heap[jA.heap.size]? =some (.cells #[.string yv.name,.int .i64 yv.line,.slice av1 nv1 cv1,.slice av2 nv2 cv2,.slice av3 nv3 cv3,.slice av4 nv4 cv4,.slice av5 nv5 cv5,.slice av6 nv6 cv6] 101 (0,0))):=by rw[<-Rx];exact setRow_heap _ _ _ _ _ _ Zd.out
    have GV:Hid (O0 W1 W4):=by exact zDE
    have zF:Hid (∀W,O0 W4 W->W.cell? ⟨jA.heap.size,0,none⟩=some (.string yv.name)/\W.cell? ⟨jA.heap.size,1,none⟩=some (.int .i64 yv.line)/\W.cell? ⟨jA.heap.size,2,none⟩=some (.slice av1 nv1 cv1)/\W.cell? ⟨jA.heap.size,3,none⟩=some (.slice av2 nv2 cv2)/\W.cell? ⟨jA.heap.size,4,none⟩=some (.slice av3 nv3 cv3)/\W.cell? ⟨jA.heap.size,5,none⟩=some (.slice av4 nv4 cv4)/\W.cell? ⟨jA.heap.size,6,none⟩=some (.slice av5 nv5 cv5)/\W.cell? ⟨jA.heap.size,7,none⟩=some (.slice av6 nv6 cv6)):=fun W ho=>by have b1:=ak aeQ.out ho (fun f=>f);exact zBs
    clear k0 k1;obtain⟨k0,k1⟩:=bJ.out W4 (bg.out.same GV.out);obtain⟨d0,d1,d2,d3,d4,d5,d6,d7⟩:=zF.out W4 zr;obtain⟨m0,m1⟩:=bJ.out jA (bg.out.same Tj.out);go_wp2_with (first
     | (refine wpList_load_mid rfl 101 (.tmp 54) rfl bkv (ah4+j*8) rfl _ _ hrv.out Tryz.underlying101 rfl zk ?_)
     | (refine wpList_store_row rfl 101 (.tmp 7) (.tmp 55) rfl jA.heap.size #[.string yv.name,.int .i64 yv.line,.slice av1 nv1 cv1,.slice av2 nv2 cv2,.slice av3 nv3 cv3,.slice av4 nv4 cv4,.slice av5 nv5 cv5,.slice av6 nv6 cv6] rfl rfl 101 #[.string ⟨#[]⟩,.int .i64 0,.slice none 0 0,.slice none 0 0,.slice none 0 0,.slice none 0 0,.slice none 0 0,.slice none 0 0] Zd.out zk rfl zk ?_))
    clear hrv Zd;clear m0 m1;refine(HRl.out W4 (bg.out.same GV.out)).mono ?_;rintro e w5 ⟨rfl,O1⟩;have Qv:=zh (GV.out.same O1);clear O1 HRl k0 k1 d0 d1 d2 d3 d4 d5 d6 d7 Zc Rx;obtain⟨V9,hV9⟩:=ze (w5.alloc (.cells #[.int .u8 0,.int .i64 0] 43));have H69:Hid (V9.heap[w5.heap.size]? =some (.cells #[.int .u8 0,.int .i64 0] 43)):=by rw[<-hV9];exact qL w5 _
    obtain⟨W9,hW9⟩:=ze (V9.setRow w5.heap.size #[.int .u8 c,.int .i64 l]);have HB9:Hid (W9.heap[w5.heap.size]? =some (.cells #[.int .u8 c,.int .i64 l] 43 (0,0))):=by rw[<-hW9];exact setRow_heap _ _ _ _ _ _ H69.out
    have HP9:Hid (O0 W1 W9):=by rw[<-hW9,<-hV9];exact(Qv.out.alloc _).trans (aU _ _ _) fun k hk=>.inr (by rw[hk];exact Qv.out.size)
    have r0:W9.cell? ⟨w5.heap.size,0,none⟩=some (.int .u8 c):=by rw[aj HB9.out];rfl
    have r1:W9.cell? ⟨w5.heap.size,1,none⟩=some (.int .i64 l):=by rw[aj HB9.out];rfl
    obtain⟨k0,k1⟩:=bJ.out W9 (bg.out.same HP9.out);by_cases c0:c=0
    ·subst c0;have HZ3:Hid (∀p∈x.packs.take (j+1),(jw x p).1=0):=fun p hp=>by
      rcases bY HXv.out hp with h|rfl;·exact HZj.out p h
      rw[HCL.out]
     have z00:((0:Int) != 0)=false:=rfl;go_wp2_with (refine wpList_store_row rfl 43 (.tmp 8) (.tmp 58) rfl w5.heap.size #[.int .u8 0,.int .i64 l] rfl rfl 43 #[.int .u8 0,.int .i64 0] H69.out zk rfl zk ?_);go_roundw;case rel=>exact⟨HP9,j+1,by first|rfl|go_num,by omega,HZ3⟩
     case measure=>simp[RowKit.intOf]<;>omega
    have c1:((c:Int) != 0)=true:=by rw[bne_iff_ne];exact c0
    have Jw:Hid (x.okB=false):=ZC (qT HXv.out) (by rw[HCL.out];exact c0);go_wp2_with (first
     | (refine wpList_store_row rfl 43 (.tmp 8) (.tmp 58) rfl w5.heap.size #[.int .u8 c,.int .i64 l] rfl rfl 43 #[.int .u8 0,.int .i64 0] H69.out zk rfl zk ?_)
     | (refine wpList_store_row rfl 43 (.tmp 2) (.tmp 62) rfl (w.heap.size+1) #[.int .u8 c,.int .i64 l] rfl rfl 43 #[.int .u8 0,.int .i64 0] (uT.out W9 HP9.out) zk rfl zk ?_))
    refine gW (p:=2) rfl rfl rfl rfl (setRow_heap _ _ _ _ _ _ (uT.out W9 HP9.out)) ?_;exact kE.mk _ _ rfl (by rw[Jw.out];exact qP c0) ((ig.out.same (bg.out.same HP9.out)).trans (aU _ _ _) (fun k hk=>.inr zBB))
   obtain rfl:aY=j:=by omega
   have YL:Hid (∀p∈x.packs,(jw x p).1=0):=fun p hp=>HZj.out p (by
    rw[qI (yG aW.out)]
    exact hp)
   have Js:=Tj;go_wp2_with fail;clear k0 k1;go_loopw [67] (fun vm Qy=>Hid (O0 W1 Qy)/\∃m:Nat,vm= .int .i64 m/\m<=aZ/\Hid (∀k,k<m->x.wF k=true)) (fun v _=>aZ-(RowKit.intOf v).toNat);case atStart=>exact⟨Js,0,rfl,qE _,show Hid _ from fun k hk=>by omega⟩
   case round=>
    obtain⟨Qy,rfl⟩:=zB wr;clear Js;obtain⟨Xm,m,rfl,hm,HZm⟩:=hrel;obtain⟨k0,k1⟩:=bJ.out Qy (bg.out.same Xm.out);by_cases cm:m<aZ
    ·have jg:=zw (m+1);obtain⟨yf,hxf⟩:=zG x.cO m zBI;obtain⟨bkf,ah6,af1,nf1,cf1,hef,alx,ap1,ap2,ah7⟩:=Fa (gU.out W0 zr) hxf;first|subst hef| (simp only[qG,qO,and_true]at hef;obtain⟨rfl,rfl⟩:=hef)
     have HEf:=zh ah7;clear ah7 hxf alx;obtain⟨bb,hbb⟩:=ze (x.wF m);have HPf:Hid (∀W,O0 W0 W->Calls Tryz.prog 106 #[.agg #[.slice dD aY bU,.slice (some ⟨bkf,ah6,none⟩) aZ bF],.int .i64 (m:Int)] W fun e w'=>e= .returned (.bool bb)/\O0 W w'):=fun W hW=>by rw[<-hbb];exact ZA (qB.out W hW) zAV (by rw[dU.out];exact cm)
     have HBb:=zh hbb;clear hbb;have hrf:=zh (HEf.out Qy (bg.out.same Xm.out)).1;obtain⟨Vc,hVc⟩:=ze (Qy.alloc (.cells #[.string ⟨#[]⟩,.slice none 0 0,.int .i64 0] 103));have H6c:Hid (Vc.heap[Qy.heap.size]? =some (.cells #[.string ⟨#[]⟩,.slice none 0 0,.int .i64 0] 103)):=by rw[<-hVc];exact qL Qy _
     obtain⟨W6,hW6⟩:=ze (Vc.setRow Qy.heap.size #[.string yf.virtual,.slice af1 nf1 cf1,.int .i64 yf.line]);have alB:Hid (W6.heap[Qy.heap.size]? =some (.cells #[.string yf.virtual,.slice af1 nf1 cf1,.int .i64 yf.line] 103 (0,0))):=by rw[<-hW6];exact setRow_heap _ _ _ _ _ _ H6c.out
     have Qw:Hid (O0 W1 W6):=by rw[<-hW6,<-hVc];exact(Xm.out.alloc _).trans (aU _ _ _) fun k hk=>.inr (by rw[hk];exact Xm.out.size)
     have zF:Hid (∀W,O0 W6 W->W.cell? ⟨Qy.heap.size,0,none⟩=some (.string yf.virtual)/\W.cell? ⟨Qy.heap.size,1,none⟩=some (.slice af1 nf1 cf1)/\W.cell? ⟨Qy.heap.size,2,none⟩=some (.int .i64 yf.line)):=fun W ho=>by have b1:=ak alB.out ho (fun f=>f);exact⟨by rw[aj b1];rfl,by rw[aj b1];rfl,by rw[aj b1];rfl⟩
     clear k0 k1;obtain⟨k0,k1⟩:=bJ.out W6 (bg.out.same Qw.out);obtain⟨d0,d1,d2⟩:=zF.out W6 zr;obtain⟨n0,n1⟩:=bJ.out Qy (bg.out.same Xm.out);go_wp2_with (first
      | (refine wpList_load_mid rfl 103 (.tmp 70) rfl bkf (ah6+m*3) rfl _ _ hrf.out Tryz.underlying103 rfl zk ?_)
      | (refine wpList_store_row rfl 103 (.tmp 10) (.tmp 71) rfl Qy.heap.size #[.string yf.virtual,.slice af1 nf1 cf1,.int .i64 yf.line] rfl rfl 103 #[.string ⟨#[]⟩,.slice none 0 0,.int .i64 0] H6c.out zk rfl zk ?_))
     clear hrf H6c;clear n0 n1;refine(HPf.out W6 (bg.out.same Qw.out)).mono ?_;rintro e w7 ⟨rfl,O1⟩;have Qx:=zh (Qw.out.same O1);have HQ7:=zh O1;clear O1 HPf k0 k1 d0 d1 d2 hVc hW6;obtain⟨k0,k1⟩:=bJ.out w7 (bg.out.same Qx.out);obtain⟨d0,d1,d2⟩:=zF.out w7 HQ7.out;cases bb with
     |true=>
      have HZ4:Hid (∀k,k<m+1->x.wF k=true):=fun k hk=>by
       rcases yK k m with h|h;·exact HZm.out k h
       obtain rfl:k=m:=by omega
       exact HBb.out
      go_wp2_with fail;go_roundw;case rel=>exact⟨Qx,m+1,by first|rfl|go_num,by omega,HZ4⟩
      case measure=>simp[RowKit.intOf]<;>omega
     |false=>have Jw:Hid (x.okB=false):=ZE (i:=m) (by rw[dU.out];exact cm) HBb.out;go_wp2_with (refine wpList_store_row rfl 43 (.tmp 2) (.tmp 78) rfl (w.heap.size+1) #[.int .u8 10,.int .i64 yf.line] rfl rfl 43 #[.int .u8 0,.int .i64 0] (uT.out w7 Qx.out) zk rfl zk ?_);refine gW (p:=2) rfl rfl rfl rfl (setRow_heap _ _ _ _ _ _ (uT.out w7 Qx.out)) ?_;exact kE.mk _ _ rfl (by rw[Jw.out];rfl) ((ig.out.same (bg.out.same Qx.out)).trans (aU _ _ _) (fun k hk=>.inr zBB))
    obtain rfl:aZ=m:=by omega
    have aeR:Hid (x.okB=true):=abK zAa zBI (fun k hk=>HZ.out k (by rw[aW.out]at hk;exact hk)) YL.out (fun k hk=>HZm.out k (by rw[dU.out]at hk;exact hk));go_wp2_with (refine wpList_store_row rfl 43 (.tmp 2) (.tmp 80) rfl (w.heap.size+1) #[.int .u8 0,.int .i64 0] rfl rfl 43 #[.int .u8 0,.int .i64 0] (uT.out Qy Xm.out) zk rfl zk ?_);refine gW (p:=2) rfl rfl rfl rfl (setRow_heap _ _ _ _ _ _ (uT.out Qy Xm.out)) ?_;exact kE.mk _ _ rfl (by rw[aeR.out];rfl) ((ig.out.same (bg.out.same Xm.out)).trans (aU _ _ _) (fun k hk=>.inr zBB))
theorem ZG{x:aC}{q:dG}(h:q.roots.length=0):q.okB x=false:=by unfold dG.okB;rw[qP zBB];rfl
theorem ZH{x:aC}{q:dG}(h:8<q.roots.length):q.okB x=false:=by unfold dG.okB;rw[qP (show¬q.roots.length<=8 by omega)];simp
theorem abL{x:aC}{q:dG}{r:zM}(hr:r∈q.roots)(h:x.wish r.spec≠0):q.okB x=false:=by unfold dG.okB;have:(q.roots.all fun r=>decide (x.wish r.spec=0))=false:=List.all_eq_false.2 ⟨r,hr,by rw[qP h];simp⟩;rw[this];simp
theorem abM{x:aC}{q:dG}(h1:0<q.roots.length)(h2:q.roots.length<=8)(h3:∀r∈q.roots,x.wish r.spec=0):q.okB x=true:=by unfold dG.okB;have:(q.roots.all fun r=>decide (x.wish r.spec=0))=true:=List.all_eq_true.2 fun r hr=>qX (h3 r hr);rw[this,qX h1,qX h2];rfl
theorem WO{Hg:List Value}{x:aC}(hx:gG B w Hg x){csq:List Value}{q:dG}(hq:lI B w csq q)(hlen:x.packs.length<=1000000):Calls Tryz.prog 51 #[.agg Hg.toArray,.agg csq.toArray] w fun e w'=>kE (q.okB x) w w' e:=by
 obtain⟨dD,aY,bU,cZ,aZ,bF,rfl,pR,pU,jU,jV,aW,dU,JQ⟩:=open_rec hx;clear hx;try rw[aW.out]
 obtain⟨wO,jd,wP,rfl,WQ,WR,jW,F_q⟩:=Nl hq;clear hq;try rw[jW.out]
 obtain⟨W0,hW0,ig,DU,bJ⟩:=Xu w (.slice dD aY bU) (.slice cZ aZ bF) (.slice wO jd wP) 25 28;obtain⟨qB,gQ,gU⟩:=JQ W0 ig.out;clear JQ;obtain⟨abN,GX⟩:=F_q W0 ig.out;clear F_q;clear jU jV dU gU;rw[aW.out]at hlen;have hs:=DU.out;obtain⟨W1,hW1⟩:=ze (W0.alloc (.cells #[.int .u8 0,.int .i64 0] 43));have bg:Hid (O0 W0 W1):=zA5;have uT:Hid (∀W,O0 W1 W->W.heap[w.heap.size+2]? =some (.cells #[.int .u8 0,.int .i64 0] 43)):=fun W ho=>by exact zC7
 have Qd:Hid (O0 W1 W1):=Only.refl _ _;have hW0':=hW0.symm;clear hW0;by_cases q0:jd=0;·subst q0;obtain⟨k0,k1,k2⟩:=bJ.out W1 (bg.out.same Qd.out);have hz:=uT.out W1 Qd.out;go_enter Tryz.func51,Tryz.ntmps51;go_wp2_with (refine wpList_store_row rfl 43 (.tmp 4) (.tmp 13) rfl (w.heap.size+2) #[.int .u8 11,.int .i64 0] rfl rfl 43 #[.int .u8 0,.int .i64 0] hz zk rfl zk ?_);refine gW (p:=4) rfl rfl rfl rfl (setRow_heap _ _ _ _ _ _ hz) ?_;exact kE.mk _ _ rfl (by rw[ZG (x:=x) (q:=q) jW.out];rfl) ((ig.out.same (bg.out.same Qd.out)).trans (aU _ _ _) (fun k hk=>.inr zBB))
 by_cases q1:8<jd
 ·obtain⟨yr,hxr⟩:=zG q.roots 8 zA1;obtain⟨bkr,Wi,ZI,ZJ,ZK,ZL,ZM,ZN,her,ZO,ZP,ah9,alC,ZQ⟩:=NP (GX.out W0 zr) hxr;first|subst her| (simp only[qG,qO,and_true]at her;obtain⟨rfl,rfl⟩:=her)
  have Nr1:=zh ZO;have Nr2:=zh ZP;have HEr:=zh ZQ;have HXr:=zh hxr;clear ZQ hxr ZO ZP;have aia:Hid (∀W,O0 W0 W->aJ 2 eX B W (.slice ZI ZJ ZK) yr.spec.spans):=fun W ho=>(HEr.out W ho).2.1;have aib:Hid (∀W,O0 W0 W->aJ 2 je B W (.slice ZL ZM ZN) yr.spec.sets):=fun W ho=>(HEr.out W ho).2.2.1;have HCr:Hid (∀W,O0 W0 W->kX B W [.string yr.spec.name,.slice ZI ZJ ZK,.slice ZL ZM ZN,.int .i64 yr.line] yr):=fun W ho=>(HEr.out W ho).2.2.2;have hrr:=(HEr.out W1 bg.out).1;have gr3:=hrr 3 _ rfl;clear hrr;obtain⟨k0,k1,k2⟩:=bJ.out W1 (bg.out.same Qd.out);have hz:=uT.out W1 Qd.out;go_enter Tryz.func51,Tryz.ntmps51;go_wp2_with (refine wpList_store_row rfl 43 (.tmp 4) (.tmp 24) rfl (w.heap.size+2) #[.int .u8 1,.int .i64 yr.line] rfl rfl 43 #[.int .u8 0,.int .i64 0] hz zk rfl zk ?_);refine gW (p:=4) rfl rfl rfl rfl (setRow_heap _ _ _ _ _ _ hz) ?_;exact kE.mk _ _ rfl (by rw[ZH (x:=x) (q:=q) (by rw[jW.out];exact q1)];rfl) ((ig.out.same (bg.out.same Qd.out)).trans (aU _ _ _) (fun k hk=>.inr zBB))
 have z3:((jd:Int)==0)=false:=by rw[yC];omega
 obtain⟨k0,k1,k2⟩:=bJ.out W1 (bg.out.same Qd.out);go_enter Tryz.func51,Tryz.ntmps51;go_wp2_with fail;clear hW0' hW1 k0 k1 k2;have Js:=Qd;go_loopw [28] (fun vi jq=>Hid (O0 W1 jq)/\∃i:Nat,vi= .int .i64 i/\i<=jd/\Hid (∀r∈q.roots.take i,x.wish r.spec=0)) (fun v _=>jd-(RowKit.intOf v).toNat);case atStart=>exact⟨Js,0,rfl,qE _,show Hid _ from fun v hv=>by simp at hv⟩
 case round=>
  obtain⟨jq,rfl⟩:=zB wr;clear Js;obtain⟨Ho,i,rfl,hi,HZ⟩:=hrel;obtain⟨k0,k1,k2⟩:=bJ.out jq (bg.out.same Ho.out);by_cases ci:i<jd
  ·have jg:=zw (i+1);obtain⟨yr,hxr⟩:=zG q.roots i zA1;obtain⟨bkr,Wi,ZI,ZJ,ZK,ZL,ZM,ZN,her,ZO,ZP,ah9,alC,ZQ⟩:=NP (GX.out W0 zr) hxr;first|subst her| (simp only[qG,qO,and_true]at her;obtain⟨rfl,rfl⟩:=her)
   have Nr1:=zh ZO;have Nr2:=zh ZP;have HEr:=zh ZQ;have HXr:=zh hxr;clear ZQ hxr ZO ZP;have aia:Hid (∀W,O0 W0 W->aJ 2 eX B W (.slice ZI ZJ ZK) yr.spec.spans):=fun W ho=>(HEr.out W ho).2.1;have aib:Hid (∀W,O0 W0 W->aJ 2 je B W (.slice ZL ZM ZN) yr.spec.sets):=fun W ho=>(HEr.out W ho).2.2.1;have HCr:Hid (∀W,O0 W0 W->kX B W [.string yr.spec.name,.slice ZI ZJ ZK,.slice ZL ZM ZN,.int .i64 yr.line] yr):=fun W ho=>(HEr.out W ho).2.2.2;obtain⟨c,hc⟩:=ze (x.wish yr.spec);have HWs:Hid (∀W,O0 W0 W->Calls Tryz.prog 107 #[.agg #[.slice dD aY bU,.slice cZ aZ bF],.agg #[.string yr.spec.name,.slice ZI ZJ ZK,.slice ZL ZM ZN]] W fun e w'=>e= .returned (.int .u8 c)/\O0 W w'):=fun W hW=>by rw[<-hc];exact Tc (qB.out W hW) (⟨_,_,rfl,ah9,aia.out W hW,aib.out W hW⟩:dh B W [.string yr.spec.name,.slice ZI ZJ ZK,.slice ZL ZM ZN] yr.spec) zAV
   have HC:=zh hc;clear hc;have hrr:=zh (HEr.out jq (bg.out.same Ho.out)).1;obtain⟨Va,UN⟩:=ze (jq.alloc (.cells #[.string ⟨#[]⟩,.slice none 0 0,.slice none 0 0,.int .i64 0] 110));have Sz:Hid (Va.heap[jq.heap.size]? =some (.cells #[.string ⟨#[]⟩,.slice none 0 0,.slice none 0 0,.int .i64 0] 110)):=by rw[<-UN];exact qL jq _
   obtain⟨W2,hW2⟩:=ze (Va.setRow jq.heap.size #[.string yr.spec.name,.slice ZI ZJ ZK,.slice ZL ZM ZN,.int .i64 yr.line]);have Zy:Hid (W2.heap[jq.heap.size]? =some (.cells #[.string yr.spec.name,.slice ZI ZJ ZK,.slice ZL ZM ZN,.int .i64 yr.line] 110 (0,0))):=zAY;have HP2:Hid (O0 W1 W2):=by exact zCj
   have zF:Hid (∀W,O0 W2 W->W.cell? ⟨jq.heap.size,0,none⟩=some (.string yr.spec.name)/\W.cell? ⟨jq.heap.size,1,none⟩=some (.slice ZI ZJ ZK)/\W.cell? ⟨jq.heap.size,2,none⟩=some (.slice ZL ZM ZN)/\W.cell? ⟨jq.heap.size,3,none⟩=some (.int .i64 yr.line)):=fun W ho=>by have b1:=ak Zy.out ho (fun f=>f);exact⟨by rw[aj b1];rfl,by rw[aj b1];rfl,by rw[aj b1];rfl,by rw[aj b1];rfl⟩
   clear k0 k1 k2;obtain⟨k0,k1,k2⟩:=bJ.out W2 (bg.out.same HP2.out);obtain⟨d0,d1,d2,d3⟩:=zF.out W2 zr;obtain⟨m0,m1,m2⟩:=bJ.out jq (bg.out.same Ho.out);go_wp2_with (first
    | (refine wpList_load_mid rfl 110 (.tmp 30) rfl bkr (Wi+i*4) rfl _ _ hrr.out Tryz.underlying110 rfl zk ?_)
    | (refine wpList_store_row rfl 110 (.tmp 6) (.tmp 31) rfl jq.heap.size #[.string yr.spec.name,.slice ZI ZJ ZK,.slice ZL ZM ZN,.int .i64 yr.line] rfl rfl 110 #[.string ⟨#[]⟩,.slice none 0 0,.slice none 0 0,.int .i64 0] Sz.out zk rfl zk ?_))
   clear hrr Sz;clear m0 m1 m2;refine(HWs.out W2 (bg.out.same HP2.out)).mono ?_;rintro e w3 ⟨rfl,O1⟩;have BQ:=zh (HP2.out.same O1);have HQ3:=zh O1;clear O1 HWs k0 k1 k2 d0 d1 d2 d3 UN hW2;obtain⟨k0,k1,k2⟩:=bJ.out w3 (bg.out.same BQ.out);obtain⟨d0,d1,d2,d3⟩:=zF.out w3 HQ3.out;by_cases c0:c=0
   ·subst c0;have HZ2:Hid (∀r∈q.roots.take (i+1),x.wish r.spec=0):=fun p hp=>by
     rcases bY HXr.out hp with h|rfl;·exact HZ.out p h
     exact HC.out
    exact zCO
   have c1:((c:Int) != 0)=true:=by rw[bne_iff_ne];exact c0
   have Jw:Hid (q.okB x=false):=abL (qT HXr.out) (by rw[HC.out];exact c0);go_wp2_with (refine wpList_store_row rfl 43 (.tmp 4) (.tmp 41) rfl (w.heap.size+2) #[.int .u8 c,.int .i64 yr.line] rfl rfl 43 #[.int .u8 0,.int .i64 0] (uT.out w3 BQ.out) zk rfl zk ?_);refine gW (p:=4) rfl rfl rfl rfl (setRow_heap _ _ _ _ _ _ (uT.out w3 BQ.out)) ?_;exact zD5
  obtain rfl:jd=i:=by omega
  have aeR:Hid (q.okB x=true):=abM (by rw[jW.out];omega) zA1 (fun r hr=>HZ.out r (by
   rw[qI (yG jW.out)]
   exact hr))
  go_wp2_with (refine wpList_store_row rfl 43 (.tmp 4) (.tmp 43) rfl (w.heap.size+2) #[.int .u8 0,.int .i64 0] rfl rfl 43 #[.int .u8 0,.int .i64 0] (uT.out jq Ho.out) zk rfl zk ?_);refine gW (p:=4) rfl rfl rfl rfl (setRow_heap _ _ _ _ _ _ (uT.out jq Ho.out)) ?_;exact kE.mk _ _ rfl (by rw[aeR.out];rfl) ((ig.out.same (bg.out.same Ho.out)).trans (aU _ _ _) (fun k hk=>.inr zBB))
end
end Go.Proofs.YtdmmebjjojimiaaGreatDoor
