/- Gd2 Gd3 Gd4 Gd5 Gd6, in one text. -/
import Derived.Test.YtdmmebjjojimiaaGreatDoorG21
set_option maxRecDepth 100000
set_option maxHeartbeats 8000000
set_option linter.all false
namespace Go.Proofs
theorem zAA{p:Prop}(h:p:=by(intro w hSw;(try dsimp only at hSw);obtain⟨k0,k1,k2,k3,k4,k5,k6,k7⟩:=aG.out w (jg.out w (gI.out w hSw));obtain⟨e0,e1⟩:=HBe.out w hSw;have hrc:=(uo.out w (jg.out w (gI.out w hSw))).1;have pK:=hrc 0 _ rfl;rw[qF]at pK;clear hrc;rw[HRn.out]at pK;have hrt:=(TT.out w (jg.out w (gI.out w hSw))).1;have gt0:=hrt 0 _ rfl;have kF:=hrt 1 _ rfl;rw[qF]at gt0;clear hrt;have FM:=(uo.out w (jg.out w (gI.out w hSw))).1 1 _ rfl;have gv:=KA.out w (jg.out w (gI.out w hSw));have mM:=(FK.out w (jg.out w (gI.out w hSw))).1;have vU:=mM 0 _ rfl;rw[qF]at vU;rw[yH]at vU;clear mM;go_simp<;>(try with_reducible rfl))):p:=h
theorem zAE{p:Prop}(h:p:=by(intro w hSw;(try dsimp only at hSw);obtain⟨k0,k1,k2,k3,k4,k5,k6,k7,k8⟩:=aG.out w hSw;have hrc:=(uo.out w hSw).1;have FM:=hrc 1 _ rfl;clear hrc;have gv:=KA.out w hSw;go_simp<;>(try with_reducible rfl))):p:=h
theorem zAH{p:Prop}(h:p:=by(intro w hSw;obtain⟨k0,k1,k2,k3,k4,k5,k6,k7⟩:=aG.out w (jg.out w hSw);obtain⟨-,-,d2,-⟩:=wR.out w hSw;have hrc:=(uo.out w (jg.out w hSw)).1;have pK:=hrc 0 _ rfl;rw[qF]at pK;clear hrc;rw[HRn.out]at pK;have hrr:=(Qh.out w (jg.out w hSw)).1;have RQ:=hrr 0 _ rfl;rw[qF]at RQ;clear hrr;go_simp<;>(try with_reducible rfl))):p:=h
theorem zAK{p:Prop}(h:p:=by(intro w hSw;obtain⟨k0,k1,k2,k3,k4⟩:=aG.out w hSw;have dM:=(je.out w hSw).1;have Ag:=dM 5 _ rfl;clear dM;have hrz:=(nV.out w hSw).1;have gz3:=hrz 3 _ rfl;have gz4:=hrz 4 _ rfl;have gz5:=hrz 5 _ rfl;clear hrz;go_simp<;>(try with_reducible rfl))):p:=h
theorem zAU{p:Prop}(h:p:=by(intro w hSw;(try dsimp only at hSw);obtain⟨k0,k1,k2,k3,k4,k5,k6,k7,k8⟩:=aG.out w hSw;have hrc:=(uo.out w hSw).1;have pK:=hrc 0 _ rfl;rw[qF]at pK;clear hrc;go_simp<;>(try with_reducible rfl))):p:=h
theorem zAV{p:Prop}(h:p:=by(intro w hSw;(try dsimp only at hSw);obtain⟨k0,k1,k2,k3,k4,k5,k6,k7,k8⟩:=aG.out w hSw;have hrc:=(uo.out w hSw).1;have FM:=hrc 1 _ rfl;clear hrc;go_simp<;>(try with_reducible rfl))):p:=h
theorem zAh{p:Prop}(h:p:=by(intro w hSw;obtain⟨k0,k1,k2,k3,k4⟩:=aG.out w hSw;have hrz:=(nV.out w hSw).1;have yY:=hrz 0 _ rfl;rw[qF]at yY;clear hrz;go_simp<;>(try with_reducible rfl))):p:=h
theorem zA5{p:Prop}(h:p:=by rw[dn.out];omega):p:=h
theorem zBR{p:Prop}(h:p:=by rw[OM.out];exact r3):p:=h
theorem zBX{p:Prop}(h:p:=by rw[qC,HXc.out];rfl):p:=h
theorem zBZ{p:Prop}(h:p:=by rw[kZ.out];omega):p:=h
theorem zBh{p:Prop}(h:p:=by exact(Only.refl _ W2).drew):p:=h
theorem zBv{p:Prop}(h:p:=by rw[OM.out];exact r1):p:=h
theorem zB4{p:Prop}(h:p:=by have:=sS.out.size;simp;omega):p:=h
theorem zCP{p:Prop}(h:p:=by
 go_wp2_with fail
 go_ret
 exact dQ.mk false rfl (fun h=>by cases h) (bW.out.same bM.out)):p:=h
theorem zCQ{p:Prop}(h:p:=by
 refine aZ zk ?_ _
 have fK:=zh hHeld
 clear hHeld
 go_wp2_with fail
 go_ret
 exact dQ.mk false rfl (fun h=>by cases h) (bW.out.same fK.out)):p:=h
theorem zCY{p:Prop}(h:p:=by
 go_wp2_with fail
 go_roundw
 case rel=>exact⟨gV,i+1,by first|rfl|go_num,by omega⟩
 case measure=>simp[RowKit.intOf]<;>omega):p:=h
theorem zCm{p:Prop}(h:p:=by
 obtain⟨g,cap,rfl,-,-,hg⟩:=a
 simp only[Value.ownBlock,qG]at hk
 subst hk
 rcases hg with hg|hg
 ·exact h.new g hg
 ·omega):p:=h
theorem zCn{p:Prop}(h:p:=by
 go_enter Tryz.func26,Tryz.ntmps26
 go_wp2_with fail
 go_ret
 rw[<-hW0]
 exact⟨rfl,bW.out⟩):p:=h
theorem zDK{p:Prop}(h:p:=by
 go_enter Tryz.func82,Tryz.ntmps82
 go_wp2_with fail
 go_ret
 exact⟨rfl,Only.refl _ _⟩):p:=h
theorem zDi{p:Prop}(h:p:=by
 go_wp2_with fail
 go_roundw
 case rel=>exact⟨yx,i+1,by first|rfl|go_num,by omega⟩
 case measure=>simp[RowKit.intOf]<;>omega):p:=h
theorem zFO{p:Prop}(h:p:=by
 go_wp2_with fail
 go_ret
 exact DU.mk _ rfl zBk (by rw[HL.out,HLn.out];omega) (bW.out.same (bM.out.same gV.out))):p:=h
theorem zEN{p:Prop}(h:p:=by
 go_enter Tryz.func239,Tryz.ntmps239
 go_wp2_with fail
 go_ret
 rw[<-hW0]
 exact⟨rfl,bW.out⟩):p:=h
theorem zEX{p:Prop}(h:p:=by
 go_wp2_with fail
 go_ret
 exact dQ.mk false rfl (fun h=>by cases h) (bW.out.same gV.out)):p:=h
theorem zEt{p:Prop}(h:p:=by
 refine tW 6 ?_
 refine tW 7 ?_
 refine tS 8 ?_
 refine tS 9 ?_
 refine tS 10 ?_
 refine tS 11 ?_
 refine tS 12 ?_
 refine tS 13 ?_
 refine tS 14 ?_
 refine tS 15 ?_
 refine tS 16 ?_
 refine tS 17 ?_
 refine tS 18 ?_
 refine tS 19 ?_
 refine tS 20 ?_
 refine tS 21 ?_
 refine tW 22 ?_
 refine tW 23 ?_
 exact zCQ):p:=h
theorem zEz{p:Prop}(h:p:=by
 refine wpQuiet_nil ?_
 (intro w9 vH;have rY:=zh vH;clear vH)
 exact zCr):p:=h
theorem zE0{p:Prop}(h:p:=by
 have hr':false=r:=zBF
 subst hr'
 clear hr
 exact zC8):p:=h
end Go.Proofs
namespace Go.Proofs.YtdmmebjjojimiaaGreatDoor
open Go.RowKit
section
variable {w w':World} {B:Nat}
theorem pick_any{v:Value}{l:List Nat}(h:aQ 1 YI B w v l)(a n:Nat)(ha:a<=100000000)(hn:n<=100000000):Calls Tryz.prog 82 #[v,.int .i64 (a:Int),.int .i64 (n:Int)] w fun e w'=>e= .returned (.int .i64 (oZ l a n:Int))/\O0 w w':=by
 obtain⟨r,hr⟩:=ze (oZ l a n);obtain⟨ao,cap,rfl,g1,g2⟩:=h.shape;obtain⟨m,hm⟩:=ze l.length;rw[hr];unfold oZ at hr;by_cases c1:a<m
 ·obtain⟨y,hy⟩:=zG l a (by rw[hm];exact c1);obtain⟨b,off,e1,h256,hE⟩:=ahE h hy;subst e1;have g0:=hE w zr;rw[hm]at hr g1⊢;rw[qC,hy]at hr;by_cases c2:0<n
  ·rw[if_pos ⟨c1,c2⟩]at hr;have hr':y%n=r:=hr;have ht:Int.tmod (y:Int) (n:Int)=(r:Int):=by rw[<-hr',<-Int.ofNat_tmod]
   have hn0:((n:Int)==0)=false:=by rw[yC];omega
   have hrb:r<n:=by rw[<-hr'];exact Nat.mod_lt _ c2
   clear h hm hE hy hr hr';exact zDK
  rw[if_neg (fun h=>c2 h.2)]at hr;subst hr;clear h hm hE hy g0;exact zDK
 rw[hm]at hr g1⊢;rw[if_neg (fun h=>c1 h.1)]at hr;subst hr;clear h hm;exact zDK
theorem lF{ou:List Value}{g:GD}(hg:GC B w ou g)(p:Int)(hp:bU p):Calls Tryz.prog 26 #[.agg ou.toArray,.int .i64 p] w fun e w'=>e= .returned (.bool (fQ g.c p))/\O0 w w':=by
 obtain⟨bJ,ak,aV,aW,aX,aY,bG,aS,bC,dY,dW,dZ,cO,bZ,cZ,rfl,gX,gY,gZ,ig,iq,iw,pG,pI,jO,jP,dn,iy,fG,kZ,jB,pJ⟩:=kV hg;clear hg;obtain⟨W0,hW0,bW,nR,aG⟩:=N8 w (.slice bJ ak aV) (.slice aW aX aY) (.slice bG aS bC) (.slice dY dW dZ) (.slice cO bZ cZ) 60;obtain⟨jv,dS,fU,fF,kD,iY⟩:=pJ W0 bW.out;clear pJ;obtain⟨k0,k1,k2,k3,k4⟩:=aG.out W0 zr;obtain⟨r,hr⟩:=ze (fQ g.c p);rw[hr];unfold fQ at hr;by_cases c1:0<=p
 ·obtain⟨pn,rfl⟩:∃n:Nat,p=n:=⟨p.toNat,by omega⟩;rw[kZ.out,qX c1,yR,yT]at hr;by_cases c2:pn<dW
  ·rw[qX (show(pn:Int)<(dW:Int) by omega),yR]at hr;obtain⟨yc,hxc⟩:=zG g.c pn zBZ;obtain⟨bkc,ah0,ac1,nc1,cc1,OJ,RP,ah1,MS⟩:=YH (kD.out W0 zr) hxc;first|subst OJ| (simp only[qG,qO,and_true]at OJ;obtain⟨rfl,rfl⟩:=OJ)
   have uo:=zh MS;have HXc:=zh hxc;clear MS hxc RP;have hd:g.c.getD pn default=yc:=zBX;rw[hd]at hr;have hrc:=(uo.out W0 zr).1;have pK:=hrc 0 _ rfl;rw[qF]at pK;clear hrc;by_cases c3:0<=yc.rel;·rw[qX c3]at hr;subst hr;rw[hW0]at k0 k1 k2 k3 k4 pK;exact zCn
   rw[qP c3]at hr;subst hr;rw[hW0]at k0 k1 k2 k3 k4 pK;exact zCn
  rw[qP (show¬(pn:Int)<(dW:Int) by omega),yQ]at hr;subst hr;rw[hW0]at k0 k1 k2 k3 k4;exact zCn
 rw[qP c1,yQ,yQ]at hr;subst hr;exact zCn
def onB(off:List Bool)(i:Nat):Bool:=decide (off.length<=i)|| !off.getD i false
theorem XE{ou:List Value}{g:GD}(hg:GC B w ou g)(i:Nat)(hi:i<=1000000000):Calls Tryz.prog 239 #[.agg ou.toArray,.int .i64 (i:Int)] w fun e w'=>e= .returned (.bool (onB g.off i))/\O0 w w':=by
 obtain⟨bJ,ak,aV,aW,aX,aY,bG,aS,bC,dY,dW,dZ,cO,bZ,cZ,rfl,gX,gY,gZ,ig,iq,iw,pG,pI,jO,jP,dn,iy,fG,kZ,jB,pJ⟩:=kV hg;clear hg;obtain⟨W0,hW0,bW,nR,aG⟩:=N8 w (.slice bJ ak aV) (.slice aW aX aY) (.slice bG aS bC) (.slice dY dW dZ) (.slice cO bZ cZ) 60;obtain⟨jv,dS,fU,fF,kD,iY⟩:=pJ W0 bW.out;clear pJ;obtain⟨k0,k1,k2,k3,k4⟩:=aG.out W0 zr;obtain⟨r,hr⟩:=ze (onB g.off i);rw[hr];unfold onB at hr;rw[jB.out]at hr;by_cases c1:bZ<=i;·rw[qX c1,Bool.true_or]at hr;subst hr;rw[hW0]at k0 k1 k2 k3 k4;exact zEN
 obtain⟨y,hy⟩:=zG g.off i (by rw[jB.out];omega);obtain⟨b,off,e1,hE⟩:=acd (iY.out W0 zr) hy;subst e1;have g0:=hE W0 zr;rw[qP c1,Bool.false_or,qC,hy]at hr;have hr':(!y)=r:=hr;subst hr';clear hE hr;rw[hW0]at k0 k1 k2 k3 k4 g0;have c2:i<bZ:=zBk;exact zEN
structure GR (g:GD):Prop where
 ru:ZO g.x g.q (g.x.closure g.q.names)
 few:(dV g.x g.q (g.x.closure g.q.names)).length<=100000
 ok:GOk g
def DU(g:GD)(w w':World)(e:Ending):Prop:= ∃r:Int,e= .returned (.int .i64 r)/\ -1<=r/\r<(dV g.x g.q (g.x.closure g.q.names)).length/\O0 w w'
theorem DU.mk{g:GD}(r:Int){w w':World}{e:Ending}(he:e= .returned (.int .i64 r))(h1: -1<=r)(h2:r<(dV g.x g.q (g.x.closure g.q.names)).length)(ho:O0 w w'):DU g w w' e:=⟨r,he,h1,h2,ho⟩
theorem adb{ou:List Value}{g:GD}(hg:GC B w ou g)(hgr:GR g)(kd:Int)(hkd:0<=kd/\kd<=255)(p:Int)(hp:bU p)(j:Int)(hj:bU j):Calls Tryz.prog 316 #[.agg ou.toArray,.int .u8 kd,.int .i64 p,.int .i64 j] w fun e w'=>DU g w w' e:=by
 obtain⟨L,hL⟩:=ze (dV g.x g.q (g.x.closure g.q.names));obtain⟨nL,OL⟩:=ze L.length;have HLn:=zh OL;have HL:=zh hL;have apS:nL<=100000:=by rw[<-OL,<-hL];exact hgr.few
 obtain⟨bJ,ak,aV,aW,aX,aY,bG,aS,bC,dY,dW,dZ,cO,bZ,cZ,rfl,gX,gY,gZ,ig,iq,iw,pG,pI,jO,jP,dn,iy,fG,kZ,jB,pJ⟩:=kV hg;clear hg;obtain⟨W0,hW0,bW,nR,aG⟩:=N8 w (.slice bJ ak aV) (.slice aW aX aY) (.slice bG aS bC) (.slice dY dW dZ) (.slice cO bZ cZ) 60;obtain⟨jv,dS,fU,fF,kD,iY⟩:=pJ W0 bW.out;clear pJ;have xK:Hid (∀W,O0 W0 W->Calls Tryz.prog 25 #[.agg #[.slice bJ ak aV,.slice aW aX aY],.agg #[.slice bG aS bC]] W fun e w'=> ∃a cp,e= .returned (.slice a nL cp)/\jk W w' (.slice a nL cp) L/\O0 W w'):=fun W ho=>by have h0:=yB (jv.out W ho).BI (jv.out W ho).LQ hgr.ru;rw[hL]at h0;refine h0.mono ?_;rintro e w' ⟨v,he,hr,h3⟩;obtain⟨a,cp,rfl,-,-⟩:=aC hr.1;rw[HLn.out]at hr he;exact⟨a,cp,he,hr,h3⟩
 have ah3:Hid (∀r∈L,(0<=r.kind/\r.kind<=255)/\bU r.pack/\bU r.idx/\bU r.line):=by rw[<-hL];exact JD (jv.out W0 zr).BI (jv.out W0 zr).LQ hgr.ru
 clear hL OL hgr;obtain⟨k0,k1,k2,k3,k4⟩:=aG.out W0 zr;rw[hW0]at k0 k1 k2 k3 k4;go_enter Tryz.func316,Tryz.ntmps316;go_wp2_with fail;rw[<-hW0]at k0 k1 k2 k3 k4⊢;clear hW0;refine(xK.out W0 zr).mono ?_;rintro e w1 ⟨a1,cp1,rfl,hr1,O1⟩;have bM:=zh O1;have HA:Hid (∀W,O0 w1 W->aQ 4 uP w1.heap.size W (.slice a1 nL cp1) L):=fun W ho=>(jk.read hr1 ah3.out).keep uP.keep (Kp.iI ho);have kK:Hid (O0 w1 w1):=Only.refl _ _;clear O1 hr1 k0 k1 k2 k3 k4;go_wp2_with fail;go_loopw [18] (fun vi dG=>Hid (O0 w1 dG)/\∃i:Nat,vi= .int .i64 i/\i<=nL) (fun v _=>nL-(RowKit.intOf v).toNat);case atStart=>exact⟨kK,0,rfl,qE _⟩
 case round=>
  obtain⟨dG,rfl⟩:=zB wr;clear kK;obtain⟨gV,i,rfl,hi⟩:=hrel;by_cases ci:i<nL
  ·have jh:=zw (i+1);obtain⟨y,hy⟩:=zG L i (by rw[HLn.out];exact ci);obtain⟨b,off,e1,-,hE⟩:=ada (HA.out dG gV.out) hy;subst e1;have hr:=hE dG zr;have g0:=hr 0 _ rfl;have g1:=hr 1 _ rfl;have g2:=hr 2 _ rfl;rw[qF]at g0;clear hr hE hy;obtain⟨e1,he1⟩:∃b:Bool,((y.kind:Int)==kd)=b:=⟨_,rfl⟩;obtain⟨e2,he2⟩:∃b:Bool,((y.pack:Int)==p)=b:=⟨_,rfl⟩;obtain⟨e3,he3⟩:∃b:Bool,((y.idx:Int)==j)=b:=⟨_,rfl⟩;cases e1 with
   |false=>exact zCY
   |true=>
    cases e2 with
    |false=>exact zCY
    |true=>
     cases e3 with
     |false=>exact zCY
     |true=>exact zFO
  obtain rfl:nL=i:=by omega
  exact zFO
end
section
variable {w w':World} {B:Nat}
attribute [local irreducible] wpQuiet
theorem qg{c:List CD}{p:Int}(h:fQ c p=true):∃pn:Nat,p=pn/\pn<c.length/\0<=(c.getD pn default).rel:=by unfold fQ at h;simp only[Bool.and_eq_true,yP]at h;obtain⟨⟨h1,h2⟩,h3⟩:=h;exact⟨p.toNat,by omega,by omega,h3⟩
theorem Qj{ou:List Value}{g:GD}(hg:GC B w ou g){css:List Value}{s:jE}(hs:eF B w css s)(hgk:GOk g)(p:Int)(hp:bU p):Calls Tryz.prog 242 #[.agg ou.toArray,.int .i64 p,.agg css.toArray] w fun e w'=>dQ (fQ g.c p=true) w w' e:=by
 obtain⟨bJ,ak,aV,aW,aX,aY,bG,aS,bC,dY,dW,dZ,cO,bZ,cZ,rfl,gX,gY,gZ,ig,iq,iw,pG,pI,jO,jP,dn,iy,fG,kZ,jB,pJ⟩:=kV hg;clear hg;obtain⟨DF,uf,DI,Ce,nT,Ci,rfl,Zw,Zx,abC,abD,DJ,La,F_s⟩:=Pq hs;clear hs;obtain⟨W0,hW0,bW,nR,aG⟩:=ag7 w (.slice bJ ak aV) (.slice aW aX aY) (.slice bG aS bC) (.slice dY dW dZ) (.slice cO bZ cZ) (.string s.name) (.slice DF uf DI) (.slice Ce nT Ci) 60 108;obtain⟨jv,dS,fU,fF,kD,iY⟩:=pJ W0 bW.out;clear pJ;obtain⟨aos,EU,IX⟩:=F_s W0 bW.out;clear F_s;obtain⟨r,hr⟩:=ze (fQ g.c p);have MV:Hid (∀W,O0 W0 W->Calls Tryz.prog 26 #[.agg #[.slice bJ ak aV,.slice aW aX aY,.slice bG aS bC,.slice dY dW dZ,.slice cO bZ cZ],.int .i64 p] W fun e w'=>e= .returned (.bool r)/\O0 W w'):=fun W hW=>by rw[<-hr];exact lF (jv.out W hW) p hp
 rw[hr];obtain⟨k0,k1,k2,k3,k4,k5,k6,k7⟩:=aG.out W0 zr;rw[hW0]at k0 k1 k2 k3 k4 k5 k6 k7;go_enter Tryz.func242,Tryz.ntmps242;go_wp2_with fail;rw[<-hW0]at k0 k1 k2 k3 k4 k5 k6 k7⊢;clear hW0;refine(MV.out W0 zr).mono ?_;rintro e w1 ⟨rfl,O1⟩;have bM:=zh O1;clear O1 k0 k1 k2 k3 k4 k5 k6 k7;obtain⟨k0,k1,k2,k3,k4,k5,k6,k7⟩:=aG.out w1 bM.out;cases r with
 |false=>clear hgk;exact zCP
 |true=>
  have ah4:Hid (true=true):=rfl;obtain⟨pn,rfl,hpc,hrel⟩:=qg hr;have hpx:pn<g.x.packs.length:=by rw[<-hgk.len];exact hpc
  have hcd:=hgk.ok pn hpx;rw[dn.out]at hpx;rw[kZ.out]at hpc;obtain⟨yy,hxy⟩:=zG g.x.packs pn zA5;obtain⟨xO,lq,sW,mG,sZ,vI,mJ,vJ,Cj,BK,Cm,y7,oK,y8,DY,zK,DZ,EW,Eu,EX,mW,kM,l9,oQ,mY,oU,rZ,xP,BF,jw⟩:=jR (dS.out W0 zr) hxy;first|subst mW| (simp only[qG,qO,and_true]at mW;obtain⟨rfl,rfl⟩:=mW)
  have NQ:=zh kM;have Ny2:=zh l9;have je:=zh jw;have Af:=zh hxy;clear jw hxy kM l9 oQ mY oU rZ;have BD:Hid (∀W,O0 W0 W->aQ 2 uZ B W (.slice sW mG sZ) yy.bY):=fun W ho=>(je.out W ho).2.1;have IY:Hid (∀W,O0 W0 W->aQ 2 pR B W (.slice vI mJ vJ) yy.vars):=fun W ho=>(je.out W ho).2.2.1;obtain⟨yc,hxc⟩:=zG g.c pn zBZ;obtain⟨bkc,ah0,ac1,nc1,cc1,OJ,RP,ah1,MS⟩:=YH (kD.out W0 zr) hxc;first|subst OJ| (simp only[qG,qO,and_true]at OJ;obtain⟨rfl,rfl⟩:=OJ)
  have Nc1:=zh RP;have uo:=zh MS;have HXc:=zh hxc;clear MS hxc RP;have ah5:Hid (∀W,O0 W0 W->aQ 1 J6 B W (.slice ac1 nc1 cc1) yc.vals):=fun W ho=>(uo.out W ho).2.1;have e1:g.c.getD pn default=yc:=zBX;have e2:g.x.pack pn=yy:=zAv;rw[e1]at hrel hcd;rw[e2]at hcd;have HCd:=zh hcd;have HRl:=zh hrel;have hhi:=hcd.hi;have hlen:=hcd.len hrel;rw[Nc1.out,Ny2.out]at hlen;rw[NQ.out]at hhi;obtain⟨rn,hrn⟩:∃n:Nat,yc.rel=n:=⟨yc.rel.toNat,by omega⟩;have HRn:=zh hrn;have avM:rn<mG:=zBk;obtain⟨_,_,-,hb3,hb4⟩:=(IY.out W0 zr).shape;rw[Ny2.out]at hb3;obtain rfl:mJ=nc1:=hlen.symm;clear hcd hgk hr e1 e2 hrel hhi hrn;have dM:=zh (je.out w1 bM.out).1;obtain⟨W1,hW1⟩:=zB (w1.alloc (.cells #[.string yy.name,.int .i64 yy.line,.slice sW mG sZ,.slice vI mJ vJ,.slice Cj BK Cm,.slice y7 oK y8,.slice DY zK DZ,.slice EW Eu EX] 101));have Zz:Hid (O0 w1 W1):=zAp;have wR:Hid (∀W,O0 W1 W->W.cell? ⟨w1.heap.size,0,none⟩=some (.string yy.name)/\W.cell? ⟨w1.heap.size,1,none⟩=some (.int .i64 yy.line)/\W.cell? ⟨w1.heap.size,2,none⟩=some (.slice sW mG sZ)/\W.cell? ⟨w1.heap.size,3,none⟩=some (.slice vI mJ vJ)/\W.cell? ⟨w1.heap.size,4,none⟩=some (.slice Cj BK Cm)/\W.cell? ⟨w1.heap.size,5,none⟩=some (.slice y7 oK y8)/\W.cell? ⟨w1.heap.size,6,none⟩=some (.slice DY zK DZ)/\W.cell? ⟨w1.heap.size,7,none⟩=some (.slice EW Eu EX)):=fun W ho=>by
   have b0:W1.heap[w1.heap.size]? =some (.cells #[.string yy.name,.int .i64 yy.line,.slice sW mG sZ,.slice vI mJ vJ,.slice Cj BK Cm,.slice y7 oK y8,.slice DY zK DZ,.slice EW Eu EX] 101):=by rw[hW1];exact qL w1 _
   exact zCZ
  obtain⟨yr,hxr⟩:=zG yy.bY rn zBN;obtain⟨bkr,MP,her,XC,Hg⟩:=QH (BD.out W0 zr) hxr;first|subst her| (simp only[qG,qO,and_true]at her;obtain⟨rfl,rfl⟩:=her)
  have Qh:=zh Hg;clear Hg hxr;have jg:Hid (∀W,O0 W1 W->O0 W0 W):=fun W hW=>bM.out.same (Zz.out.same hW);have Y2:Hid (∀W,O0 W1 W->Calls Tryz.prog 213 #[.slice DF uf DI,.string yr.version] W fun e w'=>bD W w' e):=fun W hW=>Xz (EU.out W (jg.out W hW)) yr.version XC;go_wp2_with (refine wpList_load_mid rfl 101 (.tmp 20) rfl xO (lq+pn*8) rfl _ _ dM.out Tryz.underlying101 rfl zk ?_);rw[<-hW1];clear hW1 dM;clear k0 k1 k2 k3 k4 k5 k6 k7;go_wp2_with fail;refine bH (n:=15) (E:=fun _=>false) (S:=fun W=>O0 W1 W) zk rfl (by exact zr.drew) (fun hHeld=>?_);refine tW 0 ?_;refine tK 1 ?_ (hy:=zAH);refine tW 2 ?_;refine tK 3 ?_ (hy:=zAH);refine tW 4 ?_;refine tK 5 ?_ (hy:=zAH);refine tW 6 ?_;refine tW 7 ?_;refine tW 8 ?_;refine tK 9 ?_ (hy:=zAH);refine tW 10 ?_;refine tW 11 ?_;refine tK 12 ?_ (hy:=zAH);refine tO 13 fun K hK=>?_;(go_simp;refine(Y2.out _ hHeld).mono ?_;rintro e w5 ⟨b,rfl,o5⟩;try go_wp2_with fail);refine hK.out _ _ ?_ (fun hHeld=>?_);·exact zCa
  clear hK K;try simp only[Act.put,gJ,gK,gu,gy,gG]
  refine tW 14 ?_;refine aZ zk ?_ _;have PL:=zh hHeld;clear hHeld Y2;cases b with
  |false=>simp only[Bool.not_false];go_wp2_with fail;go_ret;exact dQ.mk false rfl (fun h=>by cases h) (bW.out.same (jg.out _ PL.out))
  |true=>
   simp only[Bool.not_true];have kK:=PL;obtain⟨k0,k1,k2,k3,k4,k5,k6,k7⟩:=aG.out _ (jg.out _ PL.out);go_wp2_with fail;clear k0 k1 k2 k3 k4 k5 k6 k7;go_loopw [40] (fun vi dG=>Hid (O0 W1 dG)/\∃i:Nat,vi= .int .i64 i/\i<=nT) (fun v _=>nT-(RowKit.intOf v).toNat);case atStart=>exact⟨kK,0,rfl,qE _⟩
   case round=>
    obtain⟨dG,rfl⟩:=zB wr;clear kK;obtain⟨PD,i,rfl,hi⟩:=hrel;by_cases ci:i<nT
    ·have jh:=zw (i+1);obtain⟨yt,hxt⟩:=zG s.sets i (by rw[La.out];omega);obtain⟨bkt,akn,het,ako,avN,TS⟩:=Yq (IX.out W0 zr) hxt;first|subst het| (simp only[qG,qO,and_true]at het;obtain⟨rfl,rfl⟩:=het)
     have TT:=zh TS;clear TS hxt;have d3:=(wR.out dG PD.out).2.2.2.1;have kK:=PD;go_wp2_with fail;clear d3;go_loopw [46,9] (fun vk vf jJ=>Hid (O0 W1 jJ)/\∃(k:Nat) (f:Bool),vk= .int .i64 k/\k<=mJ/\vf= .bool f) (fun v _ _=>mJ-(RowKit.intOf v).toNat);case atStart=>exact⟨kK,0,false,rfl,qE _,rfl⟩
     case round=>
      obtain⟨jJ,rfl⟩:=zB wr;clear kK;obtain⟨sS,k,f,rfl,hk,rfl⟩:=hrel;by_cases ck:k<mJ
      ·have jh:=zw (k+1);obtain⟨yz,hxz⟩:=zG yy.vars k (by rw[Ny2.out];omega);obtain⟨NR,xQ,II,Et,Gj,pV,rP,BR,kU⟩:=F9 (IY.out W0 zr) hxz;first|subst pV| (simp only[qG,qO,and_true]at pV;obtain⟨rfl,rfl⟩:=pV)
       have Nz1:=zh rP;have nV:=zh kU;have Ku:=zh hxz;clear kU hxz rP;have abB:Hid (∀W,O0 W0 W->aQ 1 fM B W (.slice II Et Gj) yz.values):=fun W ho=>(nV.out W ho).2.1;obtain⟨v,hv⟩:=zG yc.vals k (by rw[Nc1.out];omega);obtain⟨vlo,vhi⟩:=HCd.out.vals HRl.out k (by rw[Ny2.out];exact ck);rw[qC,hv]at vlo vhi;rw[qC,Ku.out]at vhi;have apV:0<=v:=vlo;have apW:v<(yz.values.length:Int):=vhi;obtain⟨vn,rfl⟩:∃n:Nat,v=n:=⟨v.toNat,by omega⟩;rw[Nz1.out]at apW;obtain⟨biv,oiv,eiv,-,hIv⟩:=YG (ah5.out W0 zr) hv;subst eiv;have KA:=zh hIv;clear hIv hv vlo vhi apV;have hrz:=zh (nV.out jJ (jg.out jJ sS.out)).1;obtain⟨W2,hW2⟩:=zB (jJ.alloc (.cells #[.string yz.name,.slice II Et Gj] 145));have HP2:Hid (O0 W1 W2):=by rw[hW2];exact(sS.out).alloc _
       have HBe:Hid (∀W,O0 W2 W->W.cell? ⟨jJ.heap.size,0,none⟩=some (.string yz.name)/\W.cell? ⟨jJ.heap.size,1,none⟩=some (.slice II Et Gj)):=fun W ho=>by
        have b0:W2.heap[jJ.heap.size]? =some (.cells #[.string yz.name,.slice II Et Gj] 145):=by rw[hW2];exact qL jJ _
        have b1:=aF b0 ho (fun f=>f);exact zC4
       obtain⟨yu,hxu⟩:=zG yz.values vn (by rw[Nz1.out];omega);obtain⟨Wh,Ea,heu,ac3,Hf⟩:=uy (abB.out W0 zr) hxu;first|subst heu| (simp only[qG,qO,and_true]at heu;obtain⟨rfl,rfl⟩:=heu)
       have FK:=zh Hf;clear Hf hxu;have gI:Hid (∀W,O0 W2 W->O0 W1 W):=fun W hW=>HP2.out.same hW;have d3:=(wR.out W2 HP2.out).2.2.2.1;have d3':=(wR.out jJ sS.out).2.2.2.1;have hbd:=jZ yz.name yt.name;obtain⟨bb,hbb⟩:∃b,decide (yz.name=yt.name)=b:=⟨_,rfl⟩;rw[hbb]at hbd;have hbd2:=jZ yu yt.value;obtain⟨b2,alx⟩:∃b,decide (yu=yt.value)=b:=⟨_,rfl⟩;rw[alx]at hbd2;clear hbb alx;go_wp2_with (refine wpList_load_mid rfl 145 (.tmp 52) rfl NR (xQ+k*2) rfl _ _ hrz.out Tryz.underlying145 rfl zk ?_);rw[<-hW2];clear hW2 hrz;cases f with
       |true=>
        go_wp2_with fail;refine eY (fun w'=>O0 W2 w') zk zk zBh ?_;iterate 2 refine qV ?_
        iterate 31 refine qS ?_
        iterate 2 refine qV ?_
        refine wpQuiet_nil ?_;(intro w9 vH;have rY:=zh vH;clear vH);have Xm:Hid (O0 W1 w9):=gI.out _ rY.out;go_wp2_with fail;go_roundw;case rel=>exact⟨Xm,k+1,true,by first|rfl|go_num,by omega,by first|rfl|simp⟩
        case measure=>simp[RowKit.intOf]<;>omega
       |false=>
        cases bb with
        |false=>
         go_wp2_with fail;refine eY (fun w'=>O0 W2 w') zk zk zBh ?_;iterate 3 refine qV ?_
         refine qV ?_ (hy:=zAA);refine qV ?_;refine qV ?_ (hy:=zAA);iterate 3 refine qV ?_
         refine qV ?_ (hy:=zAA);iterate 2 refine qV ?_
         iterate 20 refine qS ?_
         iterate 3 refine qV ?_
         refine wpQuiet_nil ?_;(intro w9 vH;have rY:=zh vH;clear vH);have Xm:Hid (O0 W1 w9):=gI.out _ rY.out;go_wp2_with fail;go_roundw;case rel=>exact⟨Xm,k+1,false,by first|rfl|go_num,by omega,by first|rfl|simp⟩
         case measure=>simp[RowKit.intOf]<;>omega
        |true=>
         go_wp2_with fail;refine eY (fun w'=>O0 W2 w') zk zk zBh ?_;iterate 3 refine qV ?_
         refine qV ?_ (hy:=zAA);refine qV ?_;refine qV ?_ (hy:=zAA);iterate 3 refine qV ?_
         refine qV ?_ (hy:=zAA);iterate 3 refine qV ?_
         refine qV ?_ (hy:=zAA);refine qV ?_;refine qV ?_ (hy:=zAA);iterate 3 refine qV ?_
         refine qV ?_ (hy:=zAA);iterate 2 refine qV ?_
         refine qV ?_ (hy:=zAA);refine qV ?_;refine qV ?_ (hy:=zAA);refine qV ?_;refine qV ?_ (hy:=zAA);iterate 3 refine qV ?_
         refine qV ?_ (hy:=zAA);iterate 4 refine qV ?_
         refine wpQuiet_nil ?_;(intro w9 vH;have rY:=zh vH;clear vH);have Xm:Hid (O0 W1 w9):=gI.out _ rY.out;go_wp2_with fail;go_roundw;case rel=>exact⟨Xm,k+1,b2,by first|rfl|go_num,by omega,by first|rfl|simp⟩
         case measure=>simp[RowKit.intOf]<;>omega
      obtain rfl:mJ=k:=by omega
      cases f with
      |false=>go_wp2_with fail;go_ret;exact dQ.mk false rfl (fun h=>by cases h) (bW.out.same (jg.out jJ sS.out))
      |true=>
       go_wp2_with fail;go_roundw;case rel=>exact⟨sS,i+1,by first|rfl|go_num,by omega⟩
       case measure=>simp[RowKit.intOf]<;>omega
    obtain rfl:nT=i:=by omega
    go_wp2_with fail;go_ret;exact dQ.mk true rfl (fun _=>ah4.out) (bW.out.same (jg.out dG PD.out))
end
section
variable {w w':World} {B:Nat}
def sN(g:GD):Prop:= ∃n,n<(dV g.x g.q (g.x.closure g.q.names)).length/\onB g.off n=true
theorem FN{ou:List Value}{g:GD}(hg:GC B w ou g)(hgr:GR g)(pn:Nat)(hpn:pn<g.x.packs.length)(i:Nat)(hi:i<(g.x.pack pn).deps.length):Calls Tryz.prog 240 #[.agg ou.toArray,.int .i64 (pn:Int),.int .i64 (i:Int)] w fun e w'=>dQ (sN g) w w' e:=by
 obtain⟨bJ,ak,aV,aW,aX,aY,bG,aS,bC,dY,dW,dZ,cO,bZ,cZ,rfl,gX,gY,gZ,ig,iq,iw,pG,pI,jO,jP,dn,iy,fG,kZ,jB,pJ⟩:=kV hg;clear hg;obtain⟨W0,hW0,bW,nR,aG⟩:=N8 w (.slice bJ ak aV) (.slice aW aX aY) (.slice bG aS bC) (.slice dY dW dZ) (.slice cO bZ cZ) 60;obtain⟨jv,dS,fU,fF,kD,iY⟩:=pJ W0 bW.out;clear pJ;have Uw:Hid (∀W,O0 W0 W->Calls Tryz.prog 316 #[.agg #[.slice bJ ak aV,.slice aW aX aY,.slice bG aS bC,.slice dY dW dZ,.slice cO bZ cZ],.int .u8 2,.int .i64 (pn:Int),.int .i64 (i:Int)] W fun e w'=>DU g W w' e):=fun W hW=>adb (jv.out W hW) hgr 2 ⟨by decide,by decide⟩ pn ⟨by omega,by have:=hgr.ru.packs;omega⟩ i ⟨by omega,by have:=hgr.ru.deps (g.x.pack pn) (aH.iW hpn);omega⟩;obtain⟨q,hq⟩:=ze (g.x.pack pn);rw[dn.out]at hpn;obtain⟨yy,hxy⟩:=zG g.x.packs pn zA5;obtain⟨xO,lq,sW,mG,sZ,vI,mJ,vJ,Cj,BK,Cm,y7,oK,y8,DY,zK,DZ,EW,Eu,EX,mW,kM,l9,oQ,mY,oU,rZ,xP,BF,jw⟩:=jR (dS.out W0 zr) hxy;first|subst mW| (simp only[qG,qO,and_true]at mW;obtain⟨rfl,rfl⟩:=mW)
 have Gs:=zh mY;have je:=zh jw;have Af:=zh hxy;clear jw hxy kM l9 oQ mY oU rZ;have BG:Hid (∀W,O0 W0 W->aQ 7 nC B W (.slice y7 oK y8) yy.deps):=fun W ho=>(je.out W ho).2.2.2.2.1;have e2:g.x.pack pn=yy:=zAv;rw[e2,Gs.out]at hi;obtain⟨yz,hxz⟩:=zG yy.deps i zBD;obtain⟨NR,xQ,II,Et,Gj,VZ,V3,V4,PE,PG,PK,Og,J4,Oh,pV,rP,EZ,Fa,D5,BR,Oe,QM,kU⟩:=xY (BG.out W0 zr) hxz;first|subst pV| (simp only[qG,qO,and_true]at pV;obtain⟨rfl,rfl⟩:=pV)
 have nV:=zh kU;clear kU hxz rP EZ Fa D5;have abH:Hid (∀W,O0 W0 W->aQ 2 gq B W (.slice PE PG PK) yz.cond.spans):=fun W ho=>(nV.out W ho).2.2.2.1;have Ud:Hid (∀W,O0 W0 W->aQ 2 lg B W (.slice Og J4 Oh) yz.cond.sets):=fun W ho=>(nV.out W ho).2.2.2.2.1;have HMe:Hid (∀W,O0 W0 W->Calls Tryz.prog 242 #[.agg #[.slice (some ⟨xO,lq,none⟩) ak aV,.slice aW aX aY,.slice bG aS bC,.slice dY dW dZ,.slice cO bZ cZ],.int .i64 (pn:Int),.agg #[.string yz.cond.name,.slice PE PG PK,.slice Og J4 Oh]] W fun e w'=>dQ (fQ g.c (pn:Int)=true) W w' e):=fun W hW=>Qj (css:=[.string yz.cond.name,.slice PE PG PK,.slice Og J4 Oh]) (s:=yz.cond) (jv.out W hW) ⟨_,_,rfl,Oe,abH.out W hW,Ud.out W hW⟩ hgr.ok pn ⟨by omega,by have:=hgr.ru.packs;rw[dn.out]at this;omega⟩;have hpb:=hgr.ru.packs;have hdb:=hgr.ru.deps yy (qT Af.out);rw[dn.out]at hpb;rw[Gs.out]at hdb;have hfew:=hgr.few;clear hq q e2 hgr;obtain⟨k0,k1,k2,k3,k4⟩:=aG.out W0 zr;rw[hW0]at k0 k1 k2 k3 k4;go_enter Tryz.func240,Tryz.ntmps240;go_wp2_with fail;rw[<-hW0]at k0 k1 k2 k3 k4⊢;clear hW0;refine(Uw.out W0 zr).mono ?_;rintro e w1 ⟨r,rfl,hr1,hr2,O1⟩;have bM:=zh O1;clear O1 k0 k1 k2 k3 k4 Uw;by_cases hr0:r<0;·have hge:decide (0<=r)=false:=qP zBk;go_wp2_with fail;refine bH (n:=24) (E:=fun _=>false) (S:=fun W=>O0 W0 W) zk rfl (by exact(bM.out).drew) (fun hHeld=>?_);refine tW 0 ?_;refine tW 1 ?_;refine tW 2 ?_;refine tS 3 ?_;refine tS 4 ?_;refine tS 5 ?_;exact zEt
 obtain⟨rn,rfl⟩:∃n:Nat,r=n:=⟨r.toNat,by omega⟩;obtain⟨bo,FP⟩:=ze (onB g.off rn);have Jv:Hid (∀W,O0 W0 W->Calls Tryz.prog 239 #[.agg #[.slice (some ⟨xO,lq,none⟩) ak aV,.slice aW aX aY,.slice bG aS bC,.slice dY dW dZ,.slice cO bZ cZ],.int .i64 (rn:Int)] W fun e w'=>e= .returned (.bool bo)/\O0 W w'):=fun W hW=>by rw[<-FP];exact XE (jv.out W hW) rn zBk
 have HBo:=zh FP;have aly:rn<(dV g.x g.q (g.x.closure g.q.names)).length:=zBk;have HRn:=zh aly;clear FP hr1 hr2 hfew aly;cases bo with
 |false=>
  go_wp2_with fail;refine bH (n:=24) (E:=fun _=>false) (S:=fun W=>O0 W0 W) zk rfl (by exact(bM.out).drew) (fun hHeld=>?_);refine tW 0 ?_;refine tW 1 ?_;refine tW 2 ?_;refine tK 3 ?_ (hy:=by(intro w hSw;obtain⟨k0,k1,k2,k3,k4⟩:=aG.out w hSw;go_simp<;>(try with_reducible rfl)));refine tW 4 ?_;refine tO 5 fun K hK=>?_;(go_simp;refine(Jv.out _ hHeld).mono ?_;rintro e w5 ⟨rfl,o5⟩;try go_wp2_with fail);refine hK.out _ _ ?_ (fun hHeld=>?_);·exact zCa
  clear hK K;try simp only[Act.put,gJ,gU,gK,gu,gy,gG]
  exact zEt
 |true=>
  go_wp2_with fail;refine bH (n:=24) (E:=fun _=>false) (S:=fun W=>O0 W0 W) zk rfl (by exact(bM.out).drew) (fun hHeld=>?_);refine tW 0 ?_;refine tW 1 ?_;refine tW 2 ?_;refine tK 3 ?_ (hy:=zAK);refine tW 4 ?_;refine tO 5 fun K hK=>?_;(go_simp;refine(Jv.out _ hHeld).mono ?_;rintro e w5 ⟨rfl,o5⟩;try go_wp2_with fail);refine hK.out _ _ ?_ (fun hHeld=>?_);·exact zCa
  clear hK K;try simp only[Act.put,gJ,gU,gK,gu,gy,gG]
  refine tW 6 ?_;refine tW 7 ?_;refine tK 8 ?_ (hy:=zAK);refine tW 9 ?_;refine tW 10 ?_;refine tW 11 ?_;refine tK 12 ?_ (hy:=zAK);refine tW 13 ?_;refine tW 14 ?_;refine tW 15 ?_;refine tK 16 ?_ (hy:=zAK);refine tW 17 ?_;refine tW 18 ?_;refine tW 19 ?_;refine tK 20 ?_ (hy:=zAK);refine tO 21 fun K hK=>?_;(go_simp;refine(HMe.out _ hHeld).mono ?_;rintro e w6 ⟨b,rfl,-,o6⟩;try go_wp2_with fail);refine hK.out _ _ ?_ (fun hHeld=>?_);·exact zDQ
  clear hK K;try simp only[Act.put,gJ,gK,gu,gy,gG]
  refine tW 22 ?_;refine tW 23 ?_;refine aZ zk ?_ _;have fK:=zh hHeld;clear hHeld;go_wp2_with fail;go_ret;exact dQ.mk b rfl (fun _=>⟨rn,HRn.out,HBo.out⟩) (bW.out.same fK.out)
theorem U8{ou:List Value}{g:GD}(hg:GC B w ou g)(hgr:GR g)(pn tn:Nat)(hpn:pn<=1000000)(htn:tn<=1000000):Calls Tryz.prog 241 #[.agg ou.toArray,.int .i64 (pn:Int),.int .i64 (tn:Int)] w fun e w'=>dQ (sN g) w w' e:=by
 obtain⟨bJ,ak,aV,aW,aX,aY,bG,aS,bC,dY,dW,dZ,cO,bZ,cZ,rfl,gX,gY,gZ,ig,iq,iw,pG,pI,jO,jP,dn,iy,fG,kZ,jB,pJ⟩:=kV hg;clear hg;obtain⟨W0,hW0,bW,nR,aG⟩:=N8 w (.slice bJ ak aV) (.slice aW aX aY) (.slice bG aS bC) (.slice dY dW dZ) (.slice cO bZ cZ) 60;obtain⟨jv,dS,fU,fF,kD,iY⟩:=pJ W0 bW.out;clear pJ;have mX:=zh hgr;obtain⟨bT1,ah6⟩:∃b,fQ g.c (pn:Int)=b:=⟨_,rfl⟩;obtain⟨bT2,alz⟩:∃b,fQ g.c (tn:Int)=b:=⟨_,rfl⟩;have T1:Hid (∀W,O0 W0 W->Calls Tryz.prog 26 #[.agg #[.slice bJ ak aV,.slice aW aX aY,.slice bG aS bC,.slice dY dW dZ,.slice cO bZ cZ],.int .i64 (pn:Int)] W fun e w'=>e= .returned (.bool bT1)/\O0 W w'):=fun W hW=>by rw[<-ah6];exact lF (jv.out W hW) pn ⟨by omega,by omega⟩
 have T2:Hid (∀W,O0 W0 W->Calls Tryz.prog 26 #[.agg #[.slice bJ ak aV,.slice aW aX aY,.slice bG aS bC,.slice dY dW dZ,.slice cO bZ cZ],.int .i64 (tn:Int)] W fun e w'=>e= .returned (.bool bT2)/\O0 W w'):=fun W hW=>by rw[<-alz];exact lF (jv.out W hW) tn ⟨by omega,by omega⟩
 obtain⟨k0,k1,k2,k3,k4⟩:=aG.out W0 zr;rw[hW0]at k0 k1 k2 k3 k4;go_enter Tryz.func241,Tryz.ntmps241;go_wp2_with fail;rw[<-hW0]at k0 k1 k2 k3 k4⊢;clear hW0;refine(T1.out W0 zr).mono ?_;rintro e w1 ⟨rfl,O1⟩;have bM:=zh O1;clear O1;clear k0 k1 k2 k3 k4;obtain⟨k0,k1,k2,k3,k4⟩:=aG.out w1 bM.out;cases bT1 with
 |false=>exact zCP
 |true=>
  go_wp2_with fail;refine(T2.out w1 bM.out).mono ?_;rintro e w2 ⟨rfl,O2⟩;have fK:=zh (bM.out.same O2);clear O2;clear k0 k1 k2 k3 k4;obtain⟨k0,k1,k2,k3,k4⟩:=aG.out w2 fK.out;cases bT2 with
  |false=>go_wp2_with fail;go_ret;exact dQ.mk false rfl (fun h=>by cases h) (bW.out.same fK.out)
  |true=>
   have hpx:pn<ak:=by obtain⟨p2,e1,h2,-⟩:=qg ah6;rw[hgr.ok.len,dn.out]at h2;omega
   clear ah6 alz T1 T2 hgr;obtain⟨yy,hxy⟩:=zG g.x.packs pn zA5;obtain⟨xO,lq,sW,mG,sZ,vI,mJ,vJ,Cj,BK,Cm,y7,oK,y8,DY,zK,DZ,EW,Eu,EX,mW,kM,l9,oQ,mY,oU,rZ,xP,BF,jw⟩:=jR (dS.out W0 zr) hxy;first|subst mW| (simp only[qG,qO,and_true]at mW;obtain⟨rfl,rfl⟩:=mW)
   have Gs:=zh mY;have je:=zh jw;have Af:=zh hxy;clear jw hxy kM l9 oQ mY oU rZ;have BG:Hid (∀W,O0 W0 W->aQ 7 nC B W (.slice y7 oK y8) yy.deps):=fun W ho=>(je.out W ho).2.2.2.2.1;have sS:Hid (g.x.pack pn=yy):=zAy;obtain⟨_,_,-,hb3,hb4⟩:=(BG.out W0 zr).shape;rw[Gs.out]at hb3;have dM:=(je.out w2 fK.out).1;have Ag:=dM 5 _ rfl;clear dM;have kK:=fK;go_wp2_with fail;clear Ag;clear k0 k1 k2 k3 k4;go_loopw [28] (fun vi dG=>Hid (O0 W0 dG)/\∃i:Nat,vi= .int .i64 i/\i<=oK) (fun v _=>oK-(RowKit.intOf v).toNat);case atStart=>exact⟨kK,0,rfl,qE _⟩
   case round=>
    obtain⟨dG,rfl⟩:=zB wr;clear kK;obtain⟨gV,i,rfl,hi⟩:=hrel;obtain⟨k0,k1,k2,k3,k4⟩:=aG.out dG gV.out;by_cases ci:i<oK
    ·have jh:=zw (i+1);obtain⟨yz,hxz⟩:=zG yy.deps i zBD;obtain⟨NR,xQ,II,Et,Gj,VZ,V3,V4,PE,PG,PK,Og,J4,Oh,pV,rP,EZ,Fa,D5,BR,Oe,QM,kU⟩:=xY (BG.out W0 zr) hxz;first|subst pV| (simp only[qG,qO,and_true]at pV;obtain⟨rfl,rfl⟩:=pV)
     have nV:=zh kU;clear kU hxz rP EZ Fa D5;have HAc:Hid (∀W,O0 W0 W->Calls Tryz.prog 240 #[.agg #[.slice (some ⟨xO,lq,none⟩) ak aV,.slice aW aX aY,.slice bG aS bC,.slice dY dW dZ,.slice cO bZ cZ],.int .i64 (pn:Int),.int .i64 (i:Int)] W fun e w'=>dQ (sN g) W w' e):=fun W hW=>FN (jv.out W hW) mX.out pn (by rw[dn.out];exact hpx) i (by rw[sS.out,Gs.out];exact ci);obtain⟨bb,hbb⟩:=ze (decide (tn∈g.x.targets yz.on.name));have Us:Hid (∀W,O0 W0 W->Calls Tryz.prog 146 #[.agg #[.slice (some ⟨xO,lq,none⟩) ak aV,.slice aW aX aY],.string yz.on.name] W fun e w'=> ∃v,e= .returned v/\Ints w' v (intsOf (g.x.targets yz.on.name))/\O0 W w'):=fun W hW=>zo (jv.out W hW).BI (by have:=mX.out.ru.packs;omega) _;have Y2:Hid (∀W v,Ints W v (intsOf (g.x.targets yz.on.name))->Calls Tryz.prog 39 #[v,.int .i64 (tn:Int)] W fun e w'=>e= .returned (.bool bb)/\O0 W w'):=fun W v hv=>by rw[<-hbb,<-uI];exact Ky hv _
     clear hbb;go_wp2_with fail;clear k0 k1 k2 k3 k4;refine bH (n:=17) (E:=fun _=>false) (S:=fun W=>O0 W0 W) zk rfl (by exact(gV.out).drew) (fun hHeld=>?_);refine tK 0 ?_ (hy:=zAh);refine tW 1 ?_;refine tW 2 ?_;refine tO 3 fun K hK=>?_;(go_simp;refine(HAc.out _ hHeld).mono ?_;rintro e w5 ⟨b,rfl,hb,o5⟩;try go_wp2_with fail);refine hK.out _ _ ?_ (fun hHeld=>?_);·exact zCa
     clear hK K;try simp only[Act.put,gJ,gU,gK,gu,gy,gG]
     refine tW 4 ?_;cases b with
     |false=>refine tS 5 ?_;refine tS 6 ?_;refine tS 7 ?_;refine tS 8 ?_;refine tS 9 ?_;refine tS 10 ?_;refine tS 11 ?_;refine tS 12 ?_;refine tS 13 ?_;refine tS 14 ?_;refine tS 15 ?_;refine tW 16 ?_;refine aZ zk ?_ _;have yx:=zh hHeld;clear hHeld;exact zDi
     |true=>
      have Fp:=zh (hb rfl);refine tW 5 ?_;refine tK 6 ?_ (hy:=zAh);refine tW 7 ?_;refine tW 8 ?_;refine tW 9 ?_;refine tW 10 ?_;refine tW 11 ?_;refine tK 12 ?_ (hy:=zAh);refine tW 14 ?_;refine tO 13 fun K hK=>?_;(go_simp;refine(Us.out _ hHeld).mono ?_;rintro e w6 ⟨vt,rfl,hI,o6⟩;try go_wp2_with fail);refine hK.out _ _ ?_ (fun hHeld=>?_);·exact zDQ
      clear hK K;try simp only[Act.put,gJ,gU,gK,gu,gy,gG]
      refine tO 15 fun K hK=>?_;(go_simp;refine(Y2.out _ _ hI).mono ?_;rintro e w7 ⟨rfl,o7⟩;try go_wp2_with fail);refine hK.out _ _ ?_ (fun hHeld=>?_);·(try dsimp only)<;>(exact Only.same hHeld o7)
      clear hK K;try simp only[Act.put,gJ,gU,gK,gu,gy,gG]
      refine tW 16 ?_;refine aZ zk ?_ _;have yx:=zh hHeld;clear hHeld;cases bb with
      |true=>go_wp2_with fail;go_ret;exact dQ.mk true rfl (fun _=>Fp.out) (bW.out.same yx.out)
      |false=>exact zDi
    obtain rfl:oK=i:=by omega
    exact zEX
end
section
variable {w w':World} {B:Nat}
theorem Hl:BM Tryz.prog 58 4 1 1:=BM.mk' (z:=.bool false) Tryz.underlying58 zk rfl zAG
theorem afn:BM Tryz.prog 204 58 1 24:=BM.mk' (z:=bP) Tryz.underlying204 zk rfl zAG
theorem U9{e e':TypeId}{s s' n n':Nat}{v v':Value}{xs xs':List Value}(hne:e≠e')(h:w.ownsRow 0 e s v n xs)(h':w.ownsRow 0 e' s' v' n' xs'){k:Nat}(hk:v.ownBlock=some k):v'.ownBlock≠some k:=by
 intro h2;rcases h.2 with⟨rfl,_⟩| ⟨g,cap,cur,rfl,-,hg,-⟩;·cases hk
 rcases h'.2 with⟨rfl,_⟩| ⟨g',cap',cur',rfl,-,hg',-⟩;·cases h2
 simp only[Value.ownBlock,qG]at hk h2;subst hk;subst h2;rw[hg]at hg';simp only[qG,Obj.cells.injEq]at hg';exact hne hg'.2.1
structure RB (w0 w:World) (v:Value) (bs:List Bool):Prop where
 own:w.ownsRow 0 4 1 v bs.length (bs.map Value.bool)
 new:∀k,v.ownBlock=some k->w0.heap.size<=k
structure BB (w0 w:World) (v:Value) (n:Nat) (L:List Value):Prop where
 own:w.ownsRow 0 58 1 v L.length L
 new:∀k,v.ownBlock=some k->w0.heap.size<=k
 rows:∀r∈L,∃bs:List Bool,bs.length=n/\w.ownsRow 0 4 1 r n (bs.map Value.bool)
theorem RB.app{w0 w1 w2:World}{v v':Value}{bs:List Bool}{b:Bool}(h:RB w0 w1 v bs)(hs:w0.heap.size<=w1.heap.size)(s1:w2.ownsRow 0 4 1 v' (bs.length+1) (bs.map Value.bool++[.bool b]))(a:BN w1 v v' (bs.length+1)):RB w0 w2 v' (bs++[b]):=by refine⟨by simpa using s1,fun k hk=>?_⟩;exact zCm
theorem BB.only{w0 w1 w2:World}{v:Value}{n:Nat}{L:List Value}{F:Nat->Prop}(h:BB w0 w1 v n L)(ho:Only F w1 w2)(hF:∀k,F k->w1.heap.size<=k):BB w0 w2 v n L:=by refine⟨aI h.own ho (fun k hk f=>by have:=dX h.own hk;have:=hF k f;omega),h.new,fun r hr=>?_⟩;obtain⟨bs,e,hb⟩:=h.rows r hr;exact⟨bs,e,aI hb ho (fun k hk f=>by have:=dX hb hk;have:=hF k f;omega)⟩
theorem BB.aN{w0 w1 w2:World}{v:Value}{n:Nat}{L:List Value}(h:BB w0 w1 v n L)(ho:O0 w1 w2):BB w0 w2 v n L:=h.only ho (fun _ f=>f.elim)
theorem BB.app{w0 w1 w2:World}{v v':Value}{n:Nat}{L:List Value}{r:Value}(h:BB w0 w1 v n L)(hs:w0.heap.size<=w1.heap.size)(s1:w2.ownsRow 0 58 1 v' (L.length+1) (L++[r]))(o:Only (fun k=>v.ownBlock=some k) w1 w2)(a:BN w1 v v' (L.length+1))(hr:∃bs:List Bool,bs.length=n/\w1.ownsRow 0 4 1 r n (bs.map Value.bool)):BB w0 w2 v' n (L++[r]):=by
 have keep:∀r',(∃bs:List Bool,bs.length=n/\w1.ownsRow 0 4 1 r' n (bs.map Value.bool))->∃bs:List Bool,bs.length=n/\w2.ownsRow 0 4 1 r' n (bs.map Value.bool):=by rintro r' ⟨bs,e,hb⟩;exact⟨bs,e,aI hb o (fun k hk f=>U9 zAG hb h.own hk f)⟩
 refine⟨by simpa using s1,fun k hk=>?_,fun r' hr'=>?_⟩;·exact zCm
 rcases qW.1 hr' with hr'|hr';·exact keep _ (h.rows r' hr')
 rw[yJ.1 hr'];exact keep _ hr
theorem BB.set{w0 w1:World}{g m cap n:Nat}{L:List Value}(h:BB w0 w1 (.slice (some ⟨g,0,none⟩) m cap) n L){i:Nat}{r:Value}(hr:∃bs:List Bool,bs.length=n/\w1.ownsRow 0 4 1 r n (bs.map Value.bool)):BB w0 (w1.setCell ⟨g,i,none⟩ r) (.slice (some ⟨g,0,none⟩) m cap) n (L.set i r):=by
 have o:Only (fun k=>k=g) w1 (w1.setCell ⟨g,i,none⟩ r):=(Only.refl (fun k=>k=g) w1).setCell (p:=⟨g,i,none⟩) (.inl rfl) _;have keep:∀r',(∃bs:List Bool,bs.length=n/\w1.ownsRow 0 4 1 r' n (bs.map Value.bool))->∃bs:List Bool,bs.length=n/\(w1.setCell ⟨g,i,none⟩ r).ownsRow 0 4 1 r' n (bs.map Value.bool):=by rintro r' ⟨bs,e,hb⟩;exact⟨bs,e,aI hb o (fun k hk f=>U9 zAG hb h.own hk (by rw[f];rfl))⟩
 have hm:m=L.length:=by obtain⟨ao,c,e,-,-⟩:=aC h.own;simp only[qU]at e;exact e.2.1
 subst hm;refine⟨by rw[List.length_set];exact(h.own.stored i r).1,h.new,fun r' hr'=>?_⟩;rcases List.mem_or_eq_of_mem_set hr' with hr'|rfl;·exact keep _ (h.rows r' hr')
 exact keep _ hr
theorem BB.get{w0:World}{v:Value}{n:Nat}{L:List Value}(h:BB w0 w v n L){i:Nat}(hi:i<L.length):∃g cap a c,v= .slice (some ⟨g,0,none⟩) L.length cap/\L[i]? =some (.slice a n c)/\w.cell? ⟨g,i,none⟩=some (.slice a n c)/\∀k,k<n->∃b y,a=some ⟨b,0,none⟩/\w.cell? ⟨b,k,none⟩=some (.bool y):=by
 obtain⟨g,cap,rfl,-,-⟩:=fJ h.own zBk;have hm:L[i]∈L:=qZ hi;obtain⟨bs,e,hb⟩:=h.rows _ hm;obtain⟨a,c,e2,-,-⟩:=aC hb;refine⟨g,cap,a,c,rfl,by rw[qA hi,e2],?_,fun k hk=>?_⟩;·rw[h.own.cellAt i zBk,qA hi,e2]
 rw[e2]at hb;obtain⟨b,c2,e3,-,-⟩:=fJ hb zBk;simp only[qU]at e3;obtain⟨rfl,-,rfl⟩:=e3;refine⟨b,bs[k]'zBk,rfl,?_⟩;rw[hb.cellAt k zBk];simp[show k<bs.length by omega]
theorem Qk(w:World):(w.alloc (.cells #[] 4)).ownsRow 0 4 1 (.slice (some ⟨w.heap.size,0,none⟩) 0 0) 0 []:=World.ownsRow_lit (base:=0) (e:=4) (size:=1) w #[] 0 (qE _) zAe zAM
theorem XF(w:World):(w.alloc (.cells #[] 58)).ownsRow 0 58 1 (.slice (some ⟨w.heap.size,0,none⟩) 0 0) 0 []:=World.ownsRow_lit (base:=0) (e:=58) (size:=1) w #[] 0 (qE _) zAe zAM
theorem aam{ou:List Value}{g:GD}(hg:GC B w ou g)(hgr:GR g):Calls Tryz.prog 237 #[.agg ou.toArray] w fun e w'=> ∃v L,e= .returned v/\L.length=g.x.packs.length/\BB w w' v g.x.packs.length L/\O0 w w':=by
 obtain⟨bJ,ak,aV,aW,aX,aY,bG,aS,bC,dY,dW,dZ,cO,bZ,cZ,rfl,gX,gY,gZ,ig,iq,iw,pG,pI,jO,jP,dn,iy,fG,kZ,jB,pJ⟩:=kV hg;clear hg;obtain⟨W0,hW0,bW,nR,aG⟩:=N8 w (.slice bJ ak aV) (.slice aW aX aY) (.slice bG aS bC) (.slice dY dW dZ) (.slice cO bZ cZ) 60;obtain⟨jv,dS,fU,fF,kD,iY⟩:=pJ W0 bW.out;clear pJ;try rw[dn.out]
 have hnb:=hgr.ru.packs;rw[dn.out]at hnb;have HEd:Hid (∀i k:Nat,i<ak->k<ak->∀W,O0 W0 W->Calls Tryz.prog 241 #[.agg #[.slice bJ ak aV,.slice aW aX aY,.slice bG aS bC,.slice dY dW dZ,.slice cO bZ cZ],.int .i64 (i:Int),.int .i64 (k:Int)] W fun e w'=>dQ (sN g) W w' e):=fun i k hi hk W hW=>U8 (jv.out W hW) hgr i k zAC zBk;have kK:Hid (O0 W0 (W0.alloc (.cells #[] 58))):=zr.alloc _;have HBC:Hid (BB W0 (W0.alloc (.cells #[] 58)) (.slice (some ⟨W0.heap.size,0,none⟩) 0 0) ak []):=⟨XF W0,fun k hk=>zAu,fun r hr=>by cases hr⟩;clear hgr;obtain⟨k0,k1,k2,k3,k4⟩:=aG.out W0 zr;rw[nR.out]at HBC;rw[hW0]at k0 k1 k2 k3 k4;go_enter Tryz.func237,Tryz.ntmps237;go_wp2_with fail;rw[<-hW0]at k0 k1 k2 k3 k4⊢;clear hW0;clear k0 k1 k2 k3 k4;go_loopw [3,12] (fun vo vi dG=>Hid (O0 W0 dG)/\∃(i:Nat) (L:List Value),vi= .int .i64 i/\i<=ak/\L.length=i/\Hid (BB W0 dG vo ak L)) (fun _ v _=>ak-(RowKit.intOf v).toNat);case atStart=>exact⟨kK,0,[],rfl,qE _,rfl,HBC⟩
 case round=>
  obtain⟨dG,rfl⟩:=zB wr;clear kK HBC;obtain⟨gV,i,L,rfl,hi,JJ,HB⟩:=hrel;obtain⟨k0,k1,k2,k3,k4⟩:=aG.out dG gV.out;by_cases ci:i<ak
  ·obtain⟨ao,co,rfl,-,-⟩:=aC HB.out.own;have Tt:=zh JJ;rw[JJ];have HB':Hid (BB W0 dG (.slice ao i co) ak L):=by have:=HB.out;rw[Tt.out]at this;exact this
   clear HB;have HB:=HB';clear HB' JJ;have HRC:Hid (RB dG (dG.alloc (.cells #[] 4)) (.slice (some ⟨dG.heap.size,0,none⟩) 0 0) []):=⟨Qk dG,fun k hk=>zAu⟩;have ade:Hid (O0 dG (dG.alloc (.cells #[] 4))):=zr.alloc _;obtain⟨m0,m1,m2,m3,m4⟩:=aG.out (dG.alloc (.cells #[] 4)) (gV.out.alloc _);go_wp2_with fail;clear m0 m1 m2 m3 m4;clear k0 k1 k2 k3 k4;go_loopw [5,20] (fun vr vk jJ=>Hid (O0 dG jJ)/\∃(k:Nat) (bs:List Bool),vk= .int .i64 k/\k<=ak/\bs.length=k/\Hid (RB dG jJ vr bs)) (fun _ v _=>ak-(RowKit.intOf v).toNat);case atStart=>exact⟨ade,0,[],rfl,qE _,rfl,HRC⟩
   case round=>
    obtain⟨jJ,rfl⟩:=zB wr;clear ade HRC;obtain⟨sS,k,bs,rfl,hk,hbl,HV⟩:=hrel;obtain⟨k0,k1,k2,k3,k4⟩:=aG.out jJ (gV.out.same sS.out);by_cases ck:k<ak
    ·have jh:=zw (k+1);obtain⟨ar,cr,Ql,-,-⟩:=aC HV.out.own;rw[hbl]at Ql;subst Ql;have OM:=zh hbl;clear hbl;go_wp2_with fail;refine(HEd.out i k ci ck jJ (gV.out.same sS.out)).mono ?_;rintro e w3 ⟨b,rfl,-,O3⟩;have BL:=zh (sS.out.same O3);have Tq:Hid (RB dG w3 (.slice ar k cr) bs):=⟨aI HV.out.own O3 (fun _ _ f=>f),HV.out.new⟩;have HVo:Hid (w3.ownsRow 0 4 1 (.slice ar k cr) k (bs.map Value.bool)):=by have:=Tq.out.own;rw[OM.out]at this;exact this
     clear O3 HV k0 k1 k2 k3 k4;go_wp2_with (at_builtin;go_must (refine tC (u:=.bool b) Hl rfl (.tmp 23) (.tmp 28) rfl rfl rfl (cell_new0 _ _ _) rfl (aI HVo.out ((Only.refl (fun _=>False) _).alloc _) (fun _ _ f=>f)) zBk zBl ?_));intro v' w4 r1 r2 r3;have HV4:Hid (RB dG w4 v' (bs++[b])):=RB.app (w1:=w3.alloc (.cells #[.bool b] 4)) ⟨aI Tq.out.own ((Only.refl (fun _=>False) _).alloc _) (fun _ _ f=>f),Tq.out.new⟩ (by have:=BL.out.size;simp;omega) zBv zBR;have Iq:Hid (O0 dG w4):=(BL.out.alloc _).trans r2 (fun k hk=>.inr (Tq.out.new k hk));obtain⟨g4,c4,rfl,-,-,-⟩:=r3;clear r1 r2;go_wp2_with fail;go_roundw;case rel=>exact⟨Iq,k+1,bs++[b],by first|rfl|go_num,by omega,by simp;exact OM.out,HV4⟩
     case measure=>simp[RowKit.intOf]<;>omega
    obtain rfl:ak=k:=by omega
    have jh:=zw (i+1);obtain⟨ar,cr,Ql,-,-⟩:=aC HV.out.own;rw[hbl]at Ql;subst Ql;have OM:=zh hbl;have Iz:Hid (jJ.ownsRow 0 4 1 (.slice ar ak cr) ak (bs.map Value.bool)):=by have:=HV.out.own;rw[OM.out]at this;exact this
    have HB2:Hid (BB W0 jJ (.slice ao i co) ak L):=HB.out.aN sS.out;clear hbl k0 k1 k2 k3 k4;obtain⟨nL,OL⟩:=ze L.length;have ap0:Hid (jJ.ownsRow 0 58 1 (.slice ao i co) i L):=by have:=HB2.out.own;rw[Tt.out]at this;exact this
    clear OL nL;go_wp2_with (at_builtin;go_must (refine tC (u:=.slice ar ak cr) afn rfl (.tmp 31) (.tmp 33) rfl rfl rfl (cell_new0 _ _ _) rfl (aI ap0.out ((Only.refl (fun _=>False) _).alloc _) (fun _ _ f=>f)) zBk zBl ?_));intro v' w4 r1 r2 r3;have HB4:Hid (BB W0 w4 v' ak (L++[.slice ar ak cr])):=BB.app (w1:=jJ.alloc (.cells #[.slice ar ak cr] 58)) (HB2.out.aN ((Only.refl (fun _=>False) _).alloc _)) (by have:=(gV.out.same sS.out).size;simp;omega) (by rw[Tt.out];exact r1) r2 (by rw[Tt.out];exact r3) ⟨bs,OM.out,aI Iz.out ((Only.refl (fun _=>False) _).alloc _) (fun _ _ f=>f)⟩;have xw:Hid (O0 W0 w4):=((gV.out.same sS.out).alloc _).trans r2 (fun k hk=>.inr (HB2.out.new k hk));obtain⟨g4,c4,rfl,-,-,-⟩:=r3;clear r1 r2;go_wp2_with fail;go_roundw;case rel=>exact⟨xw,i+1,L++[.slice ar ak cr],by first|rfl|go_num,by omega,by simp;exact Tt.out,HB4⟩
    case measure=>simp[RowKit.intOf]<;>omega
  obtain rfl:ak=i:=by omega
  obtain⟨ao,co,rfl,-,-⟩:=aC HB.out.own;rw[JJ];go_wp2_with fail;go_ret;refine⟨_,L,rfl,JJ,?_,bW.out.same gV.out⟩;have h2:=HB.out;rw[JJ]at h2;exact⟨h2.own,fun k hk=>qR bW.out.size (h2.new k hk),h2.rows⟩
theorem aao{ou:List Value}{g:GD}(hg:GC B w ou g)(hgr:GR g):Calls Tryz.prog 167 #[.agg ou.toArray] w fun e w'=> ∃v L,e= .returned v/\L.length=g.x.packs.length/\BB w w' v g.x.packs.length L/\O0 w w':=by
 have ap3:=hgr;obtain⟨bJ,ak,aV,aW,aX,aY,bG,aS,bC,dY,dW,dZ,cO,bZ,cZ,rfl,gX,gY,gZ,ig,iq,iw,pG,pI,jO,jP,dn,iy,fG,kZ,jB,pJ⟩:=kV hg;clear hg;obtain⟨W0,hW0,bW,nR,aG⟩:=N8 w (.slice bJ ak aV) (.slice aW aX aY) (.slice bG aS bC) (.slice dY dW dZ) (.slice cO bZ cZ) 60;obtain⟨jv,dS,fU,fF,kD,iY⟩:=pJ W0 bW.out;clear pJ;try rw[dn.out]
 have hnb:=hgr.ru.packs;rw[dn.out]at hnb;have Ip:=zh (aam (jv.out W0 zr) hgr);rw[dn.out]at Ip;clear hgr ap3;obtain⟨k0,k1,k2,k3,k4⟩:=aG.out W0 zr;rw[hW0]at k0 k1 k2 k3 k4;go_enter Tryz.func167,Tryz.ntmps167;go_wp2_with fail;rw[<-hW0]at k0 k1 k2 k3 k4⊢;clear hW0;refine Ip.out.mono ?_;rintro e w1 ⟨v,L,rfl,JJ,hB,O1⟩;have bM:=zh O1;clear k0 k1 k2 k3 k4;by_cases hz:ak=0
 ·have HHN:Hid (ak=0):=hz;obtain⟨ao,co,rfl,-,-⟩:=aC hB.own;rw[JJ,hz];have HB:=zh hB;have Tt:=zh JJ;clear hB O1 hz JJ;go_wp2_with fail;go_loopw [12] (fun vn NS=>vn= .int .i64 0/\NS=w1) (fun v _=>0);case atStart=>exact⟨rfl,rfl⟩
  case round=>obtain⟨rfl,rfl⟩:=hrel;go_wp2_with fail;go_ret;refine⟨_,L,rfl,Tt.out,?_,bW.out.same bM.out⟩;have h2:=HB.out;rw[Tt.out,HHN.out]at h2;rw[HHN.out];exact⟨by rw[Tt.out,HHN.out];have:=h2.own;rwa[Tt.out,HHN.out]at this,fun k hk=>qR bW.out.size (h2.new k hk),h2.rows⟩
 obtain⟨gg,cg,rfl,-,-⟩:=fJ hB.own zBk;rw[JJ]at hB⊢;have HB:Hid (BB W0 w1 (.slice (some ⟨gg,0,none⟩) ak cg) ak L):=hB;have HQC:Hid (O0 W0 w1):=O1;clear hB O1 hz Ip;go_wp2_with fail;go_loopw [12] (fun vn NS=>Hid (O0 W0 NS)/\∃(n:Nat) (L:List Value),vn= .int .i64 n/\n<=ak/\L.length=ak/\Hid (BB W0 NS (.slice (some ⟨gg,0,none⟩) ak cg) ak L)) (fun v _=>ak-(RowKit.intOf v).toNat);case atStart=>exact⟨HQC,0,L,rfl,qE _,JJ,HB⟩
 case round=>
  obtain⟨NS,rfl⟩:=zB wr;clear HQC HB JJ L;obtain⟨HQn,n,L,rfl,hn,JJ,HB⟩:=hrel;by_cases cn:n<ak
  ·go_wp2_with fail;go_loopw [17] (fun vi dG=>Hid (O0 W0 dG)/\∃(i:Nat) (L:List Value),vi= .int .i64 i/\i<=ak/\L.length=ak/\Hid (BB W0 dG (.slice (some ⟨gg,0,none⟩) ak cg) ak L)) (fun v _=>ak-(RowKit.intOf v).toNat);case atStart=>exact⟨HQn,0,L,rfl,qE _,JJ,HB⟩
   case round=>
    obtain⟨dG,rfl⟩:=zB wr;clear HQn HB JJ L;obtain⟨HQi,i,L,rfl,hi,JJ,HB⟩:=hrel;by_cases ci:i<ak
    ·have HRC:Hid (RB dG (dG.alloc (.cells #[] 4)) (.slice (some ⟨dG.heap.size,0,none⟩) 0 0) []):=⟨Qk dG,fun k hk=>zAu⟩;have ade:Hid (O0 dG (dG.alloc (.cells #[] 4))):=zr.alloc _;have Tt:=zh JJ;clear JJ;go_wp2_with fail;go_loopw [6,23] (fun vr vk jJ=>Hid (O0 dG jJ)/\∃(k:Nat) (bs:List Bool),vk= .int .i64 k/\k<=ak/\bs.length=k/\Hid (RB dG jJ vr bs)) (fun _ v _=>ak-(RowKit.intOf v).toNat);case atStart=>exact⟨ade,0,[],rfl,qE _,rfl,HRC⟩
     case round=>
      obtain⟨jJ,rfl⟩:=zB wr;clear ade HRC;obtain⟨sS,k,bs,rfl,hk,hbl,HV⟩:=hrel;by_cases ck:k<ak
      ·have jh:=zw (k+1);obtain⟨ar,cr,Ql,-,-⟩:=aC HV.out.own;rw[hbl]at Ql;subst Ql;have OM:=zh hbl;have Iz:Hid (jJ.ownsRow 0 4 1 (.slice ar k cr) k (bs.map Value.bool)):=by have:=HV.out.own;rw[OM.out]at this;exact this
       have hB2:BB W0 jJ (.slice (some ⟨gg,0,none⟩) ak cg) ak L:=HB.out.aN sS.out;obtain⟨g2,cp2,ai,ci2,e2,-,qi,fi⟩:=hB2.get (i:=i) (by rw[Tt.out];exact ci);obtain⟨g3,cp3,an,cn3,e3,-,qn,fn⟩:=hB2.get (i:=n) (by rw[Tt.out];exact cn);rw[Tt.out]at e2 e3;simp only[qU,qG,qO,and_true,true_and]at e2 e3;obtain⟨rfl,rfl⟩:=e2;obtain⟨rfl,rfl⟩:=e3;obtain⟨b1,y1,rfl,q1⟩:=fi k ck;obtain⟨b2,y2,e4,q2⟩:=fi n cn;simp only[qG,qO,and_true]at e4;subst e4;obtain⟨b3,y3,rfl,q3⟩:=fn k ck;clear hbl fi fn hB2;cases y1 with
       |true=>
        go_wp2_with (at_builtin;go_must (refine tC (u:=.bool true) Hl rfl (.tmp 26) (.tmp 52) rfl rfl rfl (cell_new0 _ _ _) rfl (aI Iz.out ((Only.refl (fun _=>False) _).alloc _) (fun _ _ f=>f)) zBk zBl ?_));intro v' w4 r1 r2 r3;have HV4:Hid (RB dG w4 v' (bs++[true])):=RB.app (w1:=jJ.alloc (.cells #[.bool true] 4)) ⟨aI HV.out.own ((Only.refl (fun _=>False) _).alloc _) (fun _ _ f=>f),HV.out.new⟩ zB4 zBv zBR;have Iq:Hid (O0 dG w4):=(sS.out.alloc _).trans r2 (fun k hk=>.inr (HV.out.new k hk));obtain⟨g4,c4,rfl,-,-,-⟩:=r3;clear r1 r2;go_wp2_with fail;go_roundw;case rel=>exact⟨Iq,k+1,bs++[true],by first|rfl|go_num,by omega,by simp;exact OM.out,HV4⟩
        case measure=>simp[RowKit.intOf]<;>omega
       |false=>
        cases y2 with
        |false=>
         go_wp2_with (at_builtin;go_must (refine tC (u:=.bool false) Hl rfl (.tmp 26) (.tmp 52) rfl rfl rfl (cell_new0 _ _ _) rfl (aI Iz.out ((Only.refl (fun _=>False) _).alloc _) (fun _ _ f=>f)) zBk zBl ?_));intro v' w4 r1 r2 r3;have HV4:Hid (RB dG w4 v' (bs++[false])):=RB.app (w1:=jJ.alloc (.cells #[.bool false] 4)) ⟨aI HV.out.own ((Only.refl (fun _=>False) _).alloc _) (fun _ _ f=>f),HV.out.new⟩ zB4 zBv zBR;have Iq:Hid (O0 dG w4):=(sS.out.alloc _).trans r2 (fun k hk=>.inr (HV.out.new k hk));obtain⟨g4,c4,rfl,-,-,-⟩:=r3;clear r1 r2;go_wp2_with fail;go_roundw;case rel=>exact⟨Iq,k+1,bs++[false],by first|rfl|go_num,by omega,by simp;exact OM.out,HV4⟩
         case measure=>simp[RowKit.intOf]<;>omega
        |true=>
         go_wp2_with (at_builtin;go_must (refine tC (u:=.bool y3) Hl rfl (.tmp 26) (.tmp 52) rfl rfl rfl (cell_new0 _ _ _) rfl (aI Iz.out ((Only.refl (fun _=>False) _).alloc _) (fun _ _ f=>f)) zBk zBl ?_));intro v' w4 r1 r2 r3;have HV4:Hid (RB dG w4 v' (bs++[y3])):=RB.app (w1:=jJ.alloc (.cells #[.bool y3] 4)) ⟨aI HV.out.own ((Only.refl (fun _=>False) _).alloc _) (fun _ _ f=>f),HV.out.new⟩ zB4 zBv zBR;have Iq:Hid (O0 dG w4):=(sS.out.alloc _).trans r2 (fun k hk=>.inr (HV.out.new k hk));obtain⟨g4,c4,rfl,-,-,-⟩:=r3;clear r1 r2;go_wp2_with fail;go_roundw;case rel=>exact⟨Iq,k+1,bs++[y3],by first|rfl|go_num,by omega,by simp;exact OM.out,HV4⟩
         case measure=>simp[RowKit.intOf]<;>omega
      obtain rfl:ak=k:=by omega
      have jh:=zw (i+1);obtain⟨ar,cr,Ql,-,-⟩:=aC HV.out.own;rw[hbl]at Ql;subst Ql;have OM:=zh hbl;have hB2:BB W0 jJ (.slice (some ⟨gg,0,none⟩) ak cg) ak L:=HB.out.aN sS.out;have hB3:=hB2.set (i:=i) (r:=.slice ar ak cr) ⟨bs,OM.out,by have:=HV.out.own;rw[OM.out]at this;exact this⟩;obtain⟨g2,cp2,ai,ci2,e2,-,qi,-⟩:=hB2.get (i:=i) (by rw[Tt.out];exact ci);rw[Tt.out]at e2;simp only[qU,qG,qO,and_true,true_and]at e2;obtain⟨rfl,rfl⟩:=e2;have HB3:=zh hB3;have hown:jJ.ownsRow 0 58 1 (.slice (some ⟨gg,0,none⟩) ak cg) ak L:=by have:=hB2.own;rwa[Tt.out]at this
      have hfr:=hown.frozenAt i;clear hown;have XG:Hid (O0 W0 (jJ.setCell ⟨gg,i,none⟩ (.slice ar ak cr))):=(HQi.out.same sS.out).setCell (p:=⟨gg,i,none⟩) (.inr (hB2.new gg rfl)) _;clear hbl hB2 hB3;go_wp2_with fail;go_roundw;case rel=>exact⟨XG,i+1,L.set i (.slice ar ak cr),by first|rfl|go_num,by omega,by simp;exact Tt.out,HB3⟩
      case measure=>simp[RowKit.intOf]<;>omega
    obtain rfl:ak=i:=by omega
    have jh:=zw (n+1);go_wp2_with fail;go_roundw;case rel=>exact⟨HQi,n+1,L,by first|rfl|go_num,by omega,JJ,HB⟩
    case measure=>simp[RowKit.intOf]<;>omega
  obtain rfl:ak=n:=by omega
  go_wp2_with fail;go_ret;refine⟨_,L,rfl,JJ,⟨HB.out.own,fun k hk=>qR bW.out.size (HB.out.new k hk),HB.out.rows⟩,bW.out.same HQn.out⟩
end
section
variable {w w':World} {B:Nat}
attribute [local irreducible] wpQuiet
theorem Y3(a b:Int):decide (a=b)=(a==b):=by rw[Bool.eq_iff_iff];simp
theorem afo{ou:List Value}{g:GD}(hg:GC B w ou g)(pn b d:Nat)(hb:pn<=1000000/\b<=1000000/\d<=1000000)(ar:Option Addr)(nr cr:Nat)(hpr:pn<nr)(hnr:nr<=1000000):Calls Tryz.prog 168 #[.agg ou.toArray,.agg #[.int .u8 1,.int .i64 (pn:Int),.int .i64 (b:Int),.int .i64 (d:Int)],.slice ar nr cr] w fun e w'=>e= .returned (.bool (soC g.c (1,pn,b,d)))/\O0 w w':=by
 obtain⟨bJ,ak,aV,aW,aX,aY,bG,aS,bC,dY,dW,dZ,cO,bZ,cZ,rfl,gX,gY,gZ,ig,iq,iw,pG,pI,jO,jP,dn,iy,fG,kZ,jB,pJ⟩:=kV hg;clear hg;obtain⟨W0,hW0,bW,nR,aG⟩:=vg w (.slice bJ ak aV) (.slice aW aX aY) (.slice bG aS bC) (.slice dY dW dZ) (.slice cO bZ cZ) (.int .u8 1) (.int .i64 (pn:Int)) (.int .i64 (b:Int)) (.int .i64 (d:Int)) 60 89;obtain⟨jv,dS,fU,fF,kD,iY⟩:=pJ W0 bW.out;clear pJ;obtain⟨r,hr⟩:=ze (soC g.c (1,pn,b,d));rw[hr];have hr1:(fQ g.c (pn:Int))=r:=hr;obtain⟨bT,EH⟩:∃x,fQ g.c (pn:Int)=x:=⟨_,rfl⟩;have MV:Hid (∀W,O0 W0 W->Calls Tryz.prog 26 #[.agg #[.slice bJ ak aV,.slice aW aX aY,.slice bG aS bC,.slice dY dW dZ,.slice cO bZ cZ],.int .i64 (pn:Int)] W fun e w'=>e= .returned (.bool bT)/\O0 W w'):=fun W hW=>by rw[<-EH];exact lF (jv.out W hW) pn ⟨by omega,by omega⟩
 rw[EH]at hr1;clear hr;have hr:=hr1;clear hr1;obtain⟨k0,k1,k2,k3,k4,k5,k6,k7,k8⟩:=aG.out W0 zr;rw[hW0]at k0 k1 k2 k3 k4 k5 k6 k7 k8;go_enter Tryz.func168,Tryz.ntmps168;go_wp2_with fail;rw[<-hW0]at k0 k1 k2 k3 k4 k5 k6 k7 k8⊢;clear hW0;refine(MV.out W0 zr).mono ?_;rintro e w1 ⟨rfl,O1⟩;have bM:=zh O1;clear O1;clear k0 k1 k2 k3 k4 k5 k6 k7 k8;obtain⟨k0,k1,k2,k3,k4,k5,k6,k7,k8⟩:=aG.out w1 bM.out;cases bT with
 |false=>exact zE0
 |true=>obtain⟨p2,e1,h2,h3⟩:=qg EH;have ep:p2=pn:=zBk;rw[ep]at h2;clear ep e1 h3;rw[kZ.out]at h2;clear EH h2;have hr':true=r:=hr;subst hr';exact zC8
theorem afp{ou:List Value}{g:GD}(hg:GC B w ou g)(pn b d:Nat)(hb:pn<=1000000/\b<=1000000/\d<=1000000)(ar:Option Addr)(nr cr:Nat)(hpr:pn<nr)(hnr:nr<=1000000):Calls Tryz.prog 168 #[.agg ou.toArray,.agg #[.int .u8 2,.int .i64 (pn:Int),.int .i64 (b:Int),.int .i64 (d:Int)],.slice ar nr cr] w fun e w'=>e= .returned (.bool (soC g.c (2,pn,b,d)))/\O0 w w':=by
 obtain⟨bJ,ak,aV,aW,aX,aY,bG,aS,bC,dY,dW,dZ,cO,bZ,cZ,rfl,gX,gY,gZ,ig,iq,iw,pG,pI,jO,jP,dn,iy,fG,kZ,jB,pJ⟩:=kV hg;clear hg;obtain⟨W0,hW0,bW,nR,aG⟩:=vg w (.slice bJ ak aV) (.slice aW aX aY) (.slice bG aS bC) (.slice dY dW dZ) (.slice cO bZ cZ) (.int .u8 2) (.int .i64 (pn:Int)) (.int .i64 (b:Int)) (.int .i64 (d:Int)) 60 89;obtain⟨jv,dS,fU,fF,kD,iY⟩:=pJ W0 bW.out;clear pJ;obtain⟨r,hr⟩:=ze (soC g.c (2,pn,b,d));rw[hr];have hr1:(fQ g.c (pn:Int)&&decide ((g.c.getD (pn:Int).toNat default).rel=(b:Int)))=r:=hr;obtain⟨bT,EH⟩:∃x,fQ g.c (pn:Int)=x:=⟨_,rfl⟩;have MV:Hid (∀W,O0 W0 W->Calls Tryz.prog 26 #[.agg #[.slice bJ ak aV,.slice aW aX aY,.slice bG aS bC,.slice dY dW dZ,.slice cO bZ cZ],.int .i64 (pn:Int)] W fun e w'=>e= .returned (.bool bT)/\O0 W w'):=fun W hW=>by rw[<-EH];exact lF (jv.out W hW) pn ⟨by omega,by omega⟩
 rw[EH]at hr1;clear hr;have hr:=hr1;clear hr1;obtain⟨k0,k1,k2,k3,k4,k5,k6,k7,k8⟩:=aG.out W0 zr;rw[hW0]at k0 k1 k2 k3 k4 k5 k6 k7 k8;go_enter Tryz.func168,Tryz.ntmps168;go_wp2_with fail;rw[<-hW0]at k0 k1 k2 k3 k4 k5 k6 k7 k8⊢;clear hW0;refine(MV.out W0 zr).mono ?_;rintro e w1 ⟨rfl,O1⟩;have bM:=zh O1;clear O1;clear k0 k1 k2 k3 k4 k5 k6 k7 k8;obtain⟨k0,k1,k2,k3,k4,k5,k6,k7,k8⟩:=aG.out w1 bM.out;cases bT with
 |false=>exact zE0
 |true=>
  obtain⟨p2,e1,h2,h3⟩:=qg EH;have ep:p2=pn:=zBk;rw[ep]at h2;clear ep e1 h3;rw[kZ.out]at h2;obtain⟨yc,hxc⟩:=zG g.c pn zBZ;obtain⟨bkc,ah0,ac1,nc1,cc1,OJ,RP,ah1,MS⟩:=YH (kD.out W0 zr) hxc;first|subst OJ| (simp only[qG,qO,and_true]at OJ;obtain⟨rfl,rfl⟩:=OJ)
  have uo:=zh MS;have HXc:=zh hxc;clear MS hxc RP;have hd:g.c.getD pn default=yc:=zBX;rw[yT,hd]at hr;clear EH hd;rw[yR,Y3]at hr;have eqb:((yc.rel:Int)==(b:Int))=r:=hr;clear hr;go_wp2_with fail;clear k0 k1 k2 k3 k4 k5 k6 k7 k8;refine eY (fun w'=>O0 W0 w') zk zk (by exact(bM.out).drew) ?_;refine qV ?_;refine qV ?_ (hy:=zAU);refine qV ?_;refine qV ?_ (hy:=zAU);iterate 2 refine qV ?_
  refine qV ?_ (hy:=zAU);refine qV ?_;refine qV ?_ (hy:=zAU);iterate 2 refine qV ?_
  exact zEz
theorem afq{ou:List Value}{g:GD}(hg:GC B w ou g)(pn b d:Nat)(hb:pn<=1000000/\b<=1000000/\d<=1000000)(ar:Option Addr)(nr cr:Nat)(hpr:pn<nr)(hnr:nr<=1000000):Calls Tryz.prog 168 #[.agg ou.toArray,.agg #[.int .u8 3,.int .i64 (pn:Int),.int .i64 (b:Int),.int .i64 (d:Int)],.slice ar nr cr] w fun e w'=>e= .returned (.bool (soC g.c (3,pn,b,d)))/\O0 w w':=by
 obtain⟨bJ,ak,aV,aW,aX,aY,bG,aS,bC,dY,dW,dZ,cO,bZ,cZ,rfl,gX,gY,gZ,ig,iq,iw,pG,pI,jO,jP,dn,iy,fG,kZ,jB,pJ⟩:=kV hg;clear hg;obtain⟨W0,hW0,bW,nR,aG⟩:=vg w (.slice bJ ak aV) (.slice aW aX aY) (.slice bG aS bC) (.slice dY dW dZ) (.slice cO bZ cZ) (.int .u8 3) (.int .i64 (pn:Int)) (.int .i64 (b:Int)) (.int .i64 (d:Int)) 60 89;obtain⟨jv,dS,fU,fF,kD,iY⟩:=pJ W0 bW.out;clear pJ;obtain⟨r,hr⟩:=ze (soC g.c (3,pn,b,d));rw[hr];have hr1:(fQ g.c (pn:Int)&&decide ((b:Int)<(g.c.getD (pn:Int).toNat default).vals.length)&&decide ((g.c.getD (pn:Int).toNat default).vals.getD (b:Int).toNat 0=(d:Int)))=r:=hr;obtain⟨bT,EH⟩:∃x,fQ g.c (pn:Int)=x:=⟨_,rfl⟩;have MV:Hid (∀W,O0 W0 W->Calls Tryz.prog 26 #[.agg #[.slice bJ ak aV,.slice aW aX aY,.slice bG aS bC,.slice dY dW dZ,.slice cO bZ cZ],.int .i64 (pn:Int)] W fun e w'=>e= .returned (.bool bT)/\O0 W w'):=fun W hW=>by rw[<-EH];exact lF (jv.out W hW) pn ⟨by omega,by omega⟩
 rw[EH]at hr1;clear hr;have hr:=hr1;clear hr1;obtain⟨k0,k1,k2,k3,k4,k5,k6,k7,k8⟩:=aG.out W0 zr;rw[hW0]at k0 k1 k2 k3 k4 k5 k6 k7 k8;go_enter Tryz.func168,Tryz.ntmps168;go_wp2_with fail;rw[<-hW0]at k0 k1 k2 k3 k4 k5 k6 k7 k8⊢;clear hW0;refine(MV.out W0 zr).mono ?_;rintro e w1 ⟨rfl,O1⟩;have bM:=zh O1;clear O1;clear k0 k1 k2 k3 k4 k5 k6 k7 k8;obtain⟨k0,k1,k2,k3,k4,k5,k6,k7,k8⟩:=aG.out w1 bM.out;cases bT with
 |false=>exact zE0
 |true=>
  obtain⟨p2,e1,h2,h3⟩:=qg EH;have ep:p2=pn:=zBk;rw[ep]at h2;clear ep e1 h3;rw[kZ.out]at h2;obtain⟨yc,hxc⟩:=zG g.c pn zBZ;obtain⟨bkc,ah0,ac1,nc1,cc1,OJ,RP,ah1,MS⟩:=YH (kD.out W0 zr) hxc;first|subst OJ| (simp only[qG,qO,and_true]at OJ;obtain⟨rfl,rfl⟩:=OJ)
  have Nc1:=zh RP;have uo:=zh MS;have HXc:=zh hxc;clear MS hxc RP;have ah5:Hid (∀W,O0 W0 W->aQ 1 J6 B W (.slice ac1 nc1 cc1) yc.vals):=fun W ho=>(uo.out W ho).2.1;have hd:g.c.getD pn default=yc:=zBX;rw[yT,hd]at hr;clear EH hd;by_cases cb:b<nc1
  ·obtain⟨v,hv⟩:=zG yc.vals b (by rw[Nc1.out];exact cb);obtain⟨biv,oiv,eiv,-,hIv⟩:=YG (ah5.out W0 zr) hv;subst eiv;have KA:=zh hIv;rw[Nc1.out,qX (show(b:Int)<(nc1:Int) by omega),yR,yR,yT,qC,hv,Y3]at hr;have eqb:((v:Int)==(d:Int))=r:=hr;clear hr hIv hv;go_wp2_with fail;clear k0 k1 k2 k3 k4 k5 k6 k7 k8;refine eY (fun w'=>O0 W0 w') zk zk (by exact(bM.out).drew) ?_;refine qV ?_;refine qV ?_ (hy:=zAE);refine qV ?_;refine qV ?_ (hy:=zAE);refine qV ?_;refine qV ?_ (hy:=zAE);iterate 2 refine qV ?_
   refine qV ?_ (hy:=zAE);iterate 4 refine qV ?_
   refine qV ?_ (hy:=zAE);refine qV ?_;refine qV ?_ (hy:=zAE);iterate 2 refine qV ?_
   refine qV ?_ (hy:=zAE);refine qV ?_;refine qV ?_ (hy:=zAE);refine qV ?_;refine qV ?_ (hy:=zAE);refine qV ?_;refine qV ?_ (hy:=zAE);iterate 3 refine qV ?_
   exact zEz
  rw[Nc1.out,qP (show¬(b:Int)<(nc1:Int) by omega),Bool.and_false,yQ]at hr;subst hr;go_wp2_with fail;clear k0 k1 k2 k3 k4 k5 k6 k7 k8;refine eY (fun w'=>O0 W0 w') zk zk (by exact(bM.out).drew) ?_;refine qV ?_;refine qV ?_ (hy:=zAV);refine qV ?_;refine qV ?_ (hy:=zAV);refine qV ?_;refine qV ?_ (hy:=zAV);iterate 2 refine qV ?_
  refine qV ?_ (hy:=zAV);iterate 3 refine qV ?_
  iterate 14 refine qS ?_
  iterate 2 refine qV ?_
  exact zEz
end
end Go.Proofs.YtdmmebjjojimiaaGreatDoor
