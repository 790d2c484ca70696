/- The document's checks: May, twice, settings, wish. Printed by gen_rf3.py.; The document's checks: wish. Printed by gen_rf4.py. -/
import Derived.Test.YtdmmebjjojimiaaGreatDoorG05
set_option maxRecDepth 100000
set_option maxHeartbeats 8000000
set_option linter.all false
namespace Go.Proofs
theorem zAD{p:Prop}(h:p:=by(intro w hSw;(try dsimp only at hSw);have q0:=Yw.out w hSw;have hrs:=(Ip.out w hSw).1;have gs0:=hrs 0 _ rfl;have gs1:=hrs 1 _ rfl;rw[qF]at gs0;clear hrs;have hrz:=(nV.out w hSw).1;have yY:=hrz 0 _ rfl;have VX:=hrz 1 _ rfl;rw[qF]at yY;clear hrz;go_simp<;>(try with_reducible rfl))):p:=h
theorem zBN{p:Prop}(h:p:=by rw[NQ.out];omega):p:=h
theorem zCM{p:Prop}(h:p:=by(intro w;go_simp<;>(try with_reducible rfl))):p:=h
theorem zDS{p:Prop}(h:p:=by
 go_wp2_with fail
 go_ret
 exact wP.mk _ rfl (fun h=>by cases h) (bW.out.same bM.out)):p:=h
theorem zDc{p:Prop}(h:p:=by
 go_wp2_with fail
 go_roundw
 case rel=>exact⟨mX,i+1,by first|rfl|go_num,by omega,HZ2⟩
 case measure=>simp[RowKit.intOf]<;>omega):p:=h
end Go.Proofs
namespace Go.Proofs.YtdmmebjjojimiaaGreatDoor
open Go.RowKit
def abA(v:kS):Prop:=1<=v.values.length/\v.values.length<=4
def WG(l:List kS):Prop:=l.length<=4/\∀v∈l,abA v
section
variable {w w':World} {B:Nat}
def wP(l:List kS)(w w':World)(e:Ending):Prop:= ∃b,e= .returned (.bool b)/\(b=true->WG l)/\O0 w w'
theorem wP.mk{l:List kS}(b:Bool){w w':World}{e:Ending}(he:e= .returned (.bool b))(hb:b=true->WG l)(ho:O0 w w'):wP l w w' e:=⟨b,he,hb,ho⟩
theorem aeN{vl:Value}{l:List kS}(hl:aQ 2 pR B w vl l):Calls Tryz.prog 126 #[vl] w fun e w'=>wP l w w' e:=by
 obtain⟨a_l,wu,IG,rfl,g_l,aby,DX,Yu⟩:=Zt hl;clear hl;obtain⟨W0,hW0⟩:=zB w;have bW:Hid (O0 w W0):=zA6;have wM:=Yu W0 bW.out;clear Yu;by_cases c4:4<wu;·subst hW0;go_enter Tryz.func126,Tryz.ntmps126;go_wp2_with fail;go_ret;exact wP.mk _ rfl (fun h=>by cases h) (bW.out.same zr)
 subst hW0;go_enter Tryz.func126,Tryz.ntmps126;go_wp2_with fail;have kK:Hid (O0 W0 W0):=Only.refl _ _;go_loopw [12] (fun vi dG=>Hid (O0 W0 dG)/\∃i:Nat,vi= .int .i64 i/\i<=wu/\Hid (∀v∈l.take i,abA v)) (fun v _=>wu-(RowKit.intOf v).toNat);case atStart=>exact⟨kK,0,rfl,qE _,show Hid _ from fun v hv=>by simp at hv⟩
 case round=>
  obtain⟨dG,rfl⟩:=zB wr;clear kK;obtain⟨gV,i,rfl,hi,HZ⟩:=hrel;by_cases ci:i<wu
  ·have jh:=zw (i+1);obtain⟨yy,hxy⟩:=zG l i zA1;obtain⟨xO,lq,sW,mG,sZ,mW,kM,xP,jw⟩:=F9 (wM.out W0 zr) hxy;first|subst mW| (simp only[qG,qO,and_true]at mW;obtain⟨rfl,rfl⟩:=mW)
   have NQ:=zh kM;have je:=zh jw;have Af:=zh hxy;clear jw hxy kM;have BD:Hid (∀W,O0 W0 W->aQ 1 fM B W (.slice sW mG sZ) yy.values):=fun W ho=>(je.out W ho).2.1;have dM:=(je.out dG gV.out).1;have ER:=dM 0 _ rfl;have Pz:=dM 1 _ rfl;rw[qF]at ER;clear dM;have J3:=zh (Py (w:=dG) yy.name xP);go_wp2_with fail;refine J3.out.mono ?_;rintro e w1 ⟨bb,rfl,O1⟩;have bM:=zh (gV.out.same O1);clear O1 J3 ER Pz;have dM:=(je.out w1 bM.out).1;have ER:=dM 0 _ rfl;have Pz:=dM 1 _ rfl;rw[qF]at ER;clear dM;cases bb with
   |false=>exact zDS
   |true=>
    by_cases z1:mG=0;·subst z1;exact zDS
    have z3:((mG:Int)==0)=false:=by rw[yC];omega
    by_cases z2:4<mG;·exact zDS
    have HZ2:Hid (∀v∈l.take (i+1),abA v):=fun v hv=>by
     rcases dI Af.out hv with h|rfl;·exact HZ.out v h
     exact⟨by rw[NQ.out];omega,by rw[NQ.out];omega⟩
    go_wp2_with fail;have kK:=bM;clear ER Pz z3;go_loopw [4] (fun vm Tf=>Hid (O0 W0 Tf)/\∃m:Nat,vm= .int .i64 m/\m<=i) (fun v _=>i-(RowKit.intOf v).toNat);case atStart=>exact⟨kK,0,rfl,qE _⟩
    case round=>
     obtain⟨Tf,rfl⟩:=zB wr;clear kK;obtain⟨HOm,m,rfl,hm⟩:=hrel;by_cases cm:m<i
     ·have ewm:=zw (m+1);obtain⟨yz,hxz⟩:=zG l m zA1;obtain⟨NR,xQ,II,Et,Gj,pV,rP,BR,kU⟩:=F9 (wM.out W0 zr) hxz;first|subst pV| (simp only[qG,qO,and_true]at pV;obtain⟨rfl,rfl⟩:=pV)
      have nV:=zh kU;clear kU hxz rP;have dM:=(je.out Tf HOm.out).1;have ER:=dM 0 _ rfl;rw[qF]at ER;clear dM;have hrz:=(nV.out Tf HOm.out).1;have yY:=hrz 0 _ rfl;rw[qF]at yY;clear hrz;have hbd:=jZ yz.name yy.name;obtain⟨bb,hbb⟩:∃b,decide (yz.name=yy.name)=b:=⟨_,rfl⟩;rw[hbb]at hbd;clear hbb;go_wp2_with fail;go_quiet (fail);cases bb with
      |true=>go_wp2_with fail;go_ret;exact wP.mk _ rfl (fun h=>by cases h) (bW.out.same (HOm.out.drewN _))
      |false=>
       go_wp2_with fail;go_roundw;case rel=>exact⟨show Hid _ from(HOm.out.drewN _),m+1,by first|rfl|go_num,by omega⟩
       case measure=>simp[RowKit.intOf]<;>omega
     obtain rfl:i=m:=by omega
     have dM:=(je.out Tf HOm.out).1;have Pz:=dM 1 _ rfl;clear dM;have kK:=HOm;go_wp2_with fail;clear Pz;go_loopw [62] (fun vk jJ=>Hid (O0 W0 jJ)/\∃k:Nat,vk= .int .i64 k/\k<=mG) (fun v _=>mG-(RowKit.intOf v).toNat);case atStart=>exact⟨kK,0,rfl,qE _⟩
     case round=>
      obtain⟨jJ,rfl⟩:=zB wr;clear kK;obtain⟨mX,k,rfl,hk⟩:=hrel;by_cases ck:k<mG
      ·have TR:=zw (k+1);obtain⟨ys,hxs⟩:=zG yy.values k zBN;obtain⟨bks,ag9,hes,aeO,KU⟩:=uy (BD.out W0 zr) hxs;first|subst hes| (simp only[qG,qO,and_true]at hes;obtain⟨rfl,rfl⟩:=hes)
       have Ip:=zh KU;clear KU hxs;have dM:=(je.out jJ mX.out).1;have Pz:=dM 1 _ rfl;clear dM;have hrs:=(Ip.out jJ mX.out).1;have gs0:=hrs 0 _ rfl;rw[qF]at gs0;rw[yH]at gs0;clear hrs;have HVl:=zh (WE (w:=jJ) ys aeO);go_wp2_with fail;refine HVl.out.mono ?_;rintro e w2 ⟨bb,rfl,O2⟩;have fK:=zh (mX.out.same O2);clear O2 HVl Pz gs0;cases bb with
       |false=>go_wp2_with fail;go_ret;exact wP.mk _ rfl (fun h=>by cases h) (bW.out.same fK.out)
       |true=>
        have kK:=fK;clear TR;go_wp2_with fail;go_loopw [6] (fun vn NS=>Hid (O0 W0 NS)/\∃n:Nat,vn= .int .i64 n/\n<=k) (fun v _=>k-(RowKit.intOf v).toNat);case atStart=>exact⟨kK,0,rfl,qE _⟩
        case round=>
         obtain⟨NS,rfl⟩:=zB wr;clear kK;obtain⟨Jv,n,rfl,hn⟩:=hrel;by_cases cn:n<k
         ·have ewn:=zw (n+1);obtain⟨yt,hxt⟩:=zG yy.values n zBN;obtain⟨bkt,akn,het,ako,TS⟩:=uy (BD.out W0 zr) hxt;first|subst het| (simp only[qG,qO,and_true]at het;obtain⟨rfl,rfl⟩:=het)
          have TT:=zh TS;clear TS hxt;have dM:=(je.out NS Jv.out).1;have Pz:=dM 1 _ rfl;clear dM;have hrs:=(Ip.out NS Jv.out).1;have gs0:=hrs 0 _ rfl;rw[qF]at gs0;rw[yH]at gs0;clear hrs;have hrt:=(TT.out NS Jv.out).1;have gt0:=hrt 0 _ rfl;rw[qF]at gt0;rw[yH]at gt0;clear hrt;have hbd:=jZ yt ys;obtain⟨bb,hbb⟩:∃b,decide (yt=ys)=b:=⟨_,rfl⟩;rw[hbb]at hbd;clear hbb;go_wp2_with fail;go_quiet (fail);cases bb with
          |true=>go_wp2_with fail;go_ret;exact wP.mk _ rfl (fun h=>by cases h) (bW.out.same (Jv.out.drewN _))
          |false=>
           go_wp2_with fail;go_roundw;case rel=>exact⟨show Hid _ from(Jv.out.drewN _),n+1,by first|rfl|go_num,by omega⟩
           case measure=>simp[RowKit.intOf]<;>omega
         obtain rfl:k=n:=by omega
         go_wp2_with fail;go_roundw;case rel=>exact⟨Jv,k+1,by first|rfl|go_num,by omega⟩
         case measure=>simp[RowKit.intOf]<;>omega
      obtain rfl:mG=k:=by omega
      exact zDc
  obtain rfl:wu=i:=by omega
  go_wp2_with fail;go_ret;refine wP.mk _ rfl (fun _=>⟨by rw[DX.out];omega,fun v hv=>HZ.out v ?_⟩) (bW.out.same gV.out);rw[qI (yG DX.out)];exact hv
theorem DC{vl:Value}{l:List Str}(hl:aQ 1 fM B w vl l):Calls Tryz.prog 125 #[vl] w fun e w'=>bD w w' e:=by
 obtain⟨a_l,wu,IG,rfl,g_l,aby,DX,Yu⟩:=open_strs hl;clear hl;obtain⟨W0,hW0⟩:=zB w;have bW:Hid (O0 w W0):=zA6;have wM:=Yu W0 bW.out;clear Yu;subst hW0;go_enter Tryz.func125,Tryz.ntmps125;go_wp2_with fail;have kK:Hid (O0 W0 W0):=Only.refl _ _;go_loopw [7] (fun vi dG=>Hid (O0 W0 dG)/\∃i:Nat,vi= .int .i64 i/\i<=wu) (fun v _=>wu-(RowKit.intOf v).toNat);case atStart=>exact⟨kK,0,rfl,qE _⟩
 case round=>
  obtain⟨dG,rfl⟩:=zB wr;clear kK;obtain⟨gV,i,rfl,hi⟩:=hrel;by_cases ci:i<wu
  ·have jh:=zw (i+1);obtain⟨ys,hxs⟩:=zG l i zA1;obtain⟨bks,ag9,hes,aeO,KU⟩:=uy (wM.out W0 zr) hxs;first|subst hes| (simp only[qG,qO,and_true]at hes;obtain⟨rfl,rfl⟩:=hes)
   have Ip:=zh KU;clear KU hxs;have kK:=gV;go_wp2_with fail;go_loopw [4] (fun vk jJ=>Hid (O0 W0 jJ)/\∃k:Nat,vk= .int .i64 k/\k<=i) (fun v _=>i-(RowKit.intOf v).toNat);case atStart=>exact⟨kK,0,rfl,qE _⟩
   case round=>
    obtain⟨jJ,rfl⟩:=zB wr;clear kK;obtain⟨mX,k,rfl,hk⟩:=hrel;by_cases ck:k<i
    ·have TR:=zw (k+1);obtain⟨yt,hxt⟩:=zG l k zA1;obtain⟨bkt,akn,het,ako,TS⟩:=uy (wM.out W0 zr) hxt;first|subst het| (simp only[qG,qO,and_true]at het;obtain⟨rfl,rfl⟩:=het)
     have TT:=zh TS;clear TS hxt;have hrs:=(Ip.out jJ mX.out).1;have gs0:=hrs 0 _ rfl;rw[qF]at gs0;rw[yH]at gs0;clear hrs;have hrt:=(TT.out jJ mX.out).1;have gt0:=hrt 0 _ rfl;rw[qF]at gt0;rw[yH]at gt0;clear hrt;have hbd:=jZ ys yt;obtain⟨bb,hbb⟩:∃b,decide (ys=yt)=b:=⟨_,rfl⟩;rw[hbb]at hbd;clear hbb;go_wp2_with fail;go_quiet (fail);cases bb with
     |true=>go_wp2_with fail;go_ret;exact bD.mk _ rfl (bW.out.same (mX.out.drewN _))
     |false=>
      go_wp2_with fail;go_roundw;case rel=>exact⟨show Hid _ from(mX.out.drewN _),k+1,by first|rfl|go_num,by omega⟩
      case measure=>simp[RowKit.intOf]<;>omega
    obtain rfl:i=k:=by omega
    go_wp2_with fail;go_roundw;case rel=>exact⟨mX,i+1,by first|rfl|go_num,by omega⟩
    case measure=>simp[RowKit.intOf]<;>omega
  obtain rfl:wu=i:=by omega
  go_wp2_with fail;go_ret;exact bD.mk _ rfl (bW.out.same gV.out)
attribute [local irreducible] wpQuiet
def Oc(s:nZ)(v:kS):Bool:=decide (v.name=s.name)&&tX v.values s.value
def Yv(p:iT)(s:nZ):Bool:=p.vars.any (Oc s)
def lZ(p:iT)(l:List nZ):Bool:=l.all (Yv p)
theorem yZ{α:Type}{g:α->Bool}{xs:List α}{k:Nat}{x:α}(hx:xs[k]? =some x):(xs.take (k+1)).any g=((xs.take k).any g||g x):=by rw[List.take_add_one,hx];simp[List.any_append]
theorem Ak{csp:List Value}{p:iT}(hp:iU B w csp p){vl:Value}{l:List nZ}(hl:aQ 2 lg B w vl l):Calls Tryz.prog 127 #[.agg csp.toArray,vl] w fun e w'=>e= .returned (.bool (lZ p l))/\O0 w w':=by
 obtain⟨BU,BX,BZ,zC,oO,zD,rQ,rU,rV,Gl,rW,Cb,Gm,rX,Cc,zF,zH,zJ,rfl,KW,KX,TU,TV,Am,Ap,TW,TY,Ua,Ub,IJ,IK,KY,Gn,Aq,Gp,Gq,IL,F_p⟩:=Pv hp;clear hp;obtain⟨a_l,wu,IG,rfl,g_l,aby,DX,Yu⟩:=Zr hl;clear hl;obtain⟨W0,hW0,bW,nR,aG⟩:=aoq w (.string p.name) (.int .i64 p.line) (.slice BU BX BZ) (.slice zC oO zD) (.slice rQ rU rV) (.slice Gl rW Cb) (.slice Gm rX Cc) (.slice zF zH zJ) 101;obtain⟨ahb,IQ,IU,y5,IV,IW,ET⟩:=F_p W0 bW.out;clear F_p;have wM:=Yu W0 bW.out;clear Yu;clear KW KX KY IQ Am Ap Aq y5 TW TY Gp IV Ua Ub Gq IW IJ IK IL ET;obtain⟨r,hr⟩:=ze (lZ p l);rw[hr];have jd:=zh hr;clear hr;go_enter Tryz.func127,Tryz.ntmps127;go_wp2_with fail;rw[<-hW0];clear hW0;have Yw:Hid (∀W,O0 W0 W->W.cell? ⟨w.heap.size,3,none⟩=some (.slice zC oO zD)):=fun W ho=>(aG.out W ho).2.2.2.1;clear aG;have kK:Hid (O0 W0 W0):=Only.refl _ _;go_wp2_with fail;go_loopw [10] (fun vi dG=>Hid (O0 W0 dG)/\∃i:Nat,vi= .int .i64 i/\i<=wu/\Hid (∀s∈l.take i,Yv p s=true)) (fun v _=>wu-(RowKit.intOf v).toNat);case atStart=>exact⟨kK,0,rfl,qE _,show Hid _ from fun v hv=>by simp at hv⟩
 case round=>
  obtain⟨dG,rfl⟩:=zB wr;clear kK;obtain⟨gV,i,rfl,hi,HZ⟩:=hrel;by_cases ci:i<wu
  ·have jh:=zw (i+1);obtain⟨ys,hxs⟩:=zG l i zA1;obtain⟨bks,ag9,hes,aeO,auU,KU⟩:=Yq (wM.out W0 zr) hxs;first|subst hes| (simp only[qG,qO,and_true]at hes;obtain⟨rfl,rfl⟩:=hes)
   have Ip:=zh KU;have HXs:=zh hxs;clear KU hxs;have kK:=gV;have q0:=Yw.out dG gV.out;go_wp2_with fail;clear q0;go_loopw [16,6] (fun vk vf jJ=>Hid (O0 W0 jJ)/\∃(k:Nat) (f:Bool),vk= .int .i64 k/\k<=oO/\vf= .bool f/\Hid ((p.vars.take k).any (Oc ys)=f)) (fun v _ _=>oO-(RowKit.intOf v).toNat);case atStart=>exact⟨kK,0,false,rfl,qE _,rfl,show Hid _ from rfl⟩
   case round=>
    obtain⟨jJ,rfl⟩:=zB wr;clear kK;obtain⟨mX,k,f,rfl,hk,rfl,HA⟩:=hrel;by_cases ck:k<oO
    ·have TR:=zw (k+1);obtain⟨yz,hxz⟩:=zG p.vars k (by rw[Gn.out];omega);obtain⟨NR,xQ,II,Et,Gj,pV,rP,BR,kU⟩:=F9 (IU.out W0 zr) hxz;first|subst pV| (simp only[qG,qO,and_true]at pV;obtain⟨rfl,rfl⟩:=pV)
     have nV:=zh kU;have Ku:=zh hxz;clear kU hxz rP;have abB:Hid (∀W,O0 W0 W->aQ 1 fM B W (.slice II Et Gj) yz.values):=fun W ho=>(nV.out W ho).2.1;have hrs:=(Ip.out jJ mX.out).1;have gs0:=hrs 0 _ rfl;have gs1:=hrs 1 _ rfl;rw[qF]at gs0;clear hrs;have hrz:=(nV.out jJ mX.out).1;have yY:=hrz 0 _ rfl;have VX:=hrz 1 _ rfl;rw[qF]at yY;clear hrz;have q0:=Yw.out jJ mX.out;have hbd:=jZ yz.name ys.name;obtain⟨bb,hbb⟩:∃b,decide (yz.name=ys.name)=b:=⟨_,rfl⟩;rw[hbb]at hbd;have HBB:=zh hbb;clear hbb;cases f with
     |true=>
      go_wp2_with fail;refine eY (fun w'=>O0 W0 w') zk zk (by exact mX.out.drew) ?_;iterate 2 refine qV ?_
      iterate 26 refine qS ?_
      iterate 2 refine qV ?_
      refine wpQuiet_nil ?_;(intro w9 vH;have rY:=zh vH;clear vH);have HA2:Hid ((p.vars.take (k+1)).any (Oc ys)=true):=by have h1:=yZ (g:=Oc ys) Ku.out;rw[HA.out]at h1;rw[Hid,h1];simp
      go_wp2_with fail;go_roundw;case rel=>exact⟨rY,k+1,true,by first|rfl|go_num,by omega,by first|rfl|simp,HA2⟩
      case measure=>simp[RowKit.intOf]<;>omega
     |false=>
      cases bb with
      |false=>
       go_wp2_with fail;refine eY (fun w'=>O0 W0 w') zk zk (by exact mX.out.drew) ?_;iterate 3 refine qV ?_
       refine qV ?_ (hy:=zAD);iterate 3 refine qV ?_
       refine qV ?_ (hy:=zAD);iterate 4 refine qV ?_
       refine qV ?_ (hy:=zAD);iterate 2 refine qV ?_
       iterate 12 refine qS ?_
       iterate 3 refine qV ?_
       refine wpQuiet_nil ?_;(intro w9 vH;have rY:=zh vH;clear vH);have HA2:Hid ((p.vars.take (k+1)).any (Oc ys)=false):=by have h1:=yZ (g:=Oc ys) Ku.out;rw[HA.out]at h1;rw[Hid,h1];simp only[Oc,HBB.out];rfl
       go_wp2_with fail;go_roundw;case rel=>exact⟨rY,k+1,false,by first|rfl|go_num,by omega,by first|rfl|simp,HA2⟩
       case measure=>simp[RowKit.intOf]<;>omega
      |true=>
       go_wp2_with fail;refine eY (fun w'=>O0 W0 w') zk zk (by exact mX.out.drew) ?_;iterate 3 refine qV ?_
       refine qV ?_ (hy:=zAD);iterate 3 refine qV ?_
       refine qV ?_ (hy:=zAD);iterate 4 refine qV ?_
       refine qV ?_ (hy:=zAD);iterate 3 refine qV ?_
       refine qV ?_ (hy:=zAD);iterate 3 refine qV ?_
       refine qV ?_ (hy:=zAD);iterate 4 refine qV ?_
       refine qV ?_ (hy:=zAD);refine kR (v:=.bool (tX yz.values ys.value)) (f:=128) (args:= #[.slice II Et Gj,.string ys.value]) (by rfl) ?_ ?_ ?_;·exact zCM
       ·(intro w hSw;exact(KT (abB.out w hSw) _).mono fun _ _ ⟨he,ho⟩=>⟨he,hSw.same ho⟩)
       try simp only[Act.put,gu,gy,gG]
       iterate 3 refine qV ?_
       refine wpQuiet_nil ?_;(intro w9 vH;have rY:=zh vH;clear vH);have HA2:Hid ((p.vars.take (k+1)).any (Oc ys)=(tX yz.values ys.value)):=by have h1:=yZ (g:=Oc ys) Ku.out;rw[HA.out]at h1;rw[Hid,h1];simp only[Oc,HBB.out];simp
       go_wp2_with fail;go_roundw;case rel=>exact⟨rY,k+1,(tX yz.values ys.value),by first|rfl|go_num,by omega,by first|rfl|simp,HA2⟩
       case measure=>simp[RowKit.intOf]<;>omega
    obtain rfl:oO=k:=by omega
    have HS:Hid (Yv p ys=f):=by have h1:=HA.out;rw[qI (yG Gn.out)]at h1;exact h1
    cases f with
    |false=>
     have hrf:r=false:=by rw[<-jd.out,Bool.eq_false_iff];intro h;have:=List.all_eq_true.1 h ys (qT HXs.out);rw[HS.out]at this;cases this
     subst hrf;go_wp2_with fail;go_ret;exact⟨rfl,bW.out.same mX.out⟩
    |true=>
     have HZ2:Hid (∀s∈l.take (i+1),Yv p s=true):=fun v hv=>by
      rcases dI HXs.out hv with h|rfl;·exact HZ.out v h
      exact HS.out
     exact zDc
  obtain rfl:wu=i:=by omega
  have hrt:r=true:=by rw[<-jd.out];refine List.all_eq_true.2 fun v hv=>HZ.out v ?_;rw[qI (yG DX.out)];exact hv
  subst hrt;go_wp2_with fail;go_ret;exact⟨rfl,bW.out.same gV.out⟩
end
end Go.Proofs.YtdmmebjjojimiaaGreatDoor
namespace Go.Proofs
theorem zAQ{p:Prop}(h:p:=by(intro w hSw;(try dsimp only at hSw);obtain⟨k0,k1,k2,k3,k4⟩:=aG.out w hSw;have dM:=(je.out w hSw).1;have ER:=dM 0 _ rfl;have Pz:=dM 1 _ rfl;have gy2:=dM 2 _ rfl;have gy3:=dM 3 _ rfl;have gy4:=dM 4 _ rfl;have Ag:=dM 5 _ rfl;have WH:=dM 6 _ rfl;have gy7:=dM 7 _ rfl;rw[qF]at ER;clear dM;go_simp<;>(try with_reducible rfl))):p:=h
theorem zAv{p:Prop}(h:p:=by unfold aH.pack;rw[qC,Af.out];rfl):p:=h
theorem zCh{p:Prop}(h:p:=by
 subst hres
 clear jd
 go_wp2_with fail
 go_ret
 exact⟨rfl,bW.out.same fK.out⟩):p:=h
theorem zCr{p:Prop}(h:p:=by
 go_wp2_with fail
 go_ret
 exact⟨rfl,bW.out.same rY.out⟩):p:=h
end Go.Proofs
namespace Go.Proofs.YtdmmebjjojimiaaGreatDoor
open Go.RowKit
section
variable {w w':World} {B:Nat}
attribute [local irreducible] wpQuiet
def QL:List jY->Bool
 | [a]=>a.lo.toList.isEmpty&&a.hi.toList.isEmpty
 |_=>false
def aH.wish(x:aH)(s:jE):Int:=
 if 0<=x.find s.name then (if lZ (x.pack (x.find s.name).toNat) s.sets then 0 else 8)
 else if x.rO s.name then (if 0<s.sets.length then 9 else if QL s.spans then 0 else 9)else 7
theorem KZ{tZ:List Value}{x:aH}(hx:jl B w tZ x){css:List Value}{s:jE}(hs:eF B w css s)(hlen:x.packs.length<=1000000):Calls Tryz.prog 56 #[.agg tZ.toArray,.agg css.toArray] w fun e w'=>e= .returned (.int .u8 (x.wish s))/\O0 w w':=by
 obtain⟨bQ,aj,aT,bg,aP,aU,rfl,jm,jo,iO,iP,aB,fO,uK⟩:=open_rec hx;clear hx;try rw[aB.out]
 obtain⟨DF,uf,DI,Ce,nT,Ci,rfl,Zw,Zx,abC,abD,DJ,La,F_s⟩:=Pq hs;clear hs;obtain⟨W0,hW0,bW,nR,aG⟩:=ag5 w (.slice bQ aj aT) (.slice bg aP aU) (.string s.name) (.slice DF uf DI) (.slice Ce nT Ci) 25 108;obtain⟨kC,dP,eP⟩:=uK W0 bW.out;clear uK;obtain⟨aos,EU,IX⟩:=F_s W0 bW.out;clear F_s;rw[aB.out]at hlen;obtain⟨f,hf⟩:=ze (x.find s.name);obtain⟨vb,hvb⟩:=ze (x.rO s.name);have abE:=x.vP s.name;rw[hf,aB.out]at abE;have HF:Hid (∀W,O0 W0 W->Calls Tryz.prog 38 #[.agg #[.slice bQ aj aT,.slice bg aP aU],.string s.name] W fun e w'=>e= .returned (.int .i64 f)/\O0 W w'):=fun W hW=>by rw[<-hf];exact wz (kC.out W hW) s.name
 have HVt:Hid (∀W,O0 W0 W->Calls Tryz.prog 129 #[.agg #[.slice bQ aj aT,.slice bg aP aU],.string s.name] W fun e w'=>e= .returned (.bool vb)/\O0 W w'):=fun W hW=>by rw[<-hvb];exact vS (kC.out W hW) zAg s.name
 obtain⟨r,hr⟩:=ze (x.wish s);rw[hr];have jd:Hid (r=if 0<=f then (if lZ (x.pack f.toNat) s.sets then 0 else 8)
  else if vb then (if 0<nT then 9 else if QL s.spans then 0 else 9)else 7):=by
  rw[<-hr,aH.wish,hf,hvb,La.out]
  exact rfl
 clear hf hvb hr;go_enter Tryz.func56,Tryz.ntmps56;go_wp2_with fail;rw[<-hW0];clear hW0;obtain⟨k0,k1,k2,k3,k4⟩:=aG.out W0 zr;go_wp2_with fail;refine(HF.out W0 zr).mono ?_;rintro e w1 ⟨rfl,O1⟩;have bM:=zh O1;clear O1 k0 k1 k2 k3 k4;obtain⟨k0,k1,k2,k3,k4⟩:=aG.out w1 bM.out;by_cases hf:0<=f
 ·obtain⟨i,rfl⟩:∃i:Nat,f=i:=⟨f.toNat,by omega⟩;have ci:i<aj:=zBk;obtain⟨yy,hxy⟩:=zG x.packs i zAk;obtain⟨xO,lq,sW,mG,sZ,vI,mJ,vJ,Cj,BK,Cm,y7,oK,y8,DY,zK,DZ,EW,Eu,EX,mW,kM,l9,oQ,mY,oU,rZ,xP,BF,jw⟩:=jR (dP.out W0 zr) hxy;first|subst mW| (simp only[qG,qO,and_true]at mW;obtain⟨rfl,rfl⟩:=mW)
  have je:=zh jw;have Af:=zh hxy;clear jw hxy kM l9 oQ mY oU rZ;have HCy:Hid (∀W,O0 W0 W->iU B W [.string yy.name,.int .i64 yy.line,.slice sW mG sZ,.slice vI mJ vJ,.slice Cj BK Cm,.slice y7 oK y8,.slice DY zK DZ,.slice EW Eu EX] yy):=fun W ho=>(je.out W ho).2.2.2.2.2.2.2;have hpk:x.pack i=yy:=zAv;obtain⟨sb,hsb⟩:=ze (lZ yy s.sets);have hres:=jd.out;rw[if_pos hf,yT,hpk,hsb]at hres;have NT:Hid (∀W,O0 W0 W->Calls Tryz.prog 127 #[.agg #[.string yy.name,.int .i64 yy.line,.slice sW mG sZ,.slice vI mJ vJ,.slice Cj BK Cm,.slice y7 oK y8,.slice DY zK DZ,.slice EW Eu EX],.slice Ce nT Ci] W fun e w'=>e= .returned (.bool sb)/\O0 W w'):=fun W hW=>by rw[<-hsb];exact Ak (HCy.out W hW) (IX.out W hW)
  clear hpk hsb;go_wp2_with fail;refine eY (fun w'=>O0 W0 w') zk zk (by exact(bM.out).drew) ?_;refine qV ?_;refine qV ?_ (hy:=zAQ);iterate 2 refine qV ?_
  refine qV ?_ (hy:=zAQ);refine qV ?_;refine qV ?_ (hy:=zAQ);refine kR (v:=.bool sb) (f:=127) (args:= #[.agg #[.string yy.name,.int .i64 yy.line,.slice sW mG sZ,.slice vI mJ vJ,.slice Cj BK Cm,.slice y7 oK y8,.slice DY zK DZ,.slice EW Eu EX],.slice Ce nT Ci]) (by rfl) ?_ ?_ ?_;·exact zCM
  ·(intro w hSw;exact(NT.out w hSw).mono fun _ _ ⟨he,ho⟩=>⟨he,hSw.same ho⟩)
  try simp only[Act.put,gu,gy,gG]
  refine qV ?_;refine wpQuiet_nil ?_;(intro w9 vH;have rY:=zh vH;clear vH);cases sb with
  |true=>rw[if_pos rfl]at hres;subst hres;clear jd;exact zCr
  |false=>rw[if_neg zAM]at hres;subst hres;clear jd;exact zCr
 have hf2:f<0:=by omega
 go_wp2_with fail;refine(HVt.out w1 bM.out).mono ?_;rintro e w2 ⟨rfl,O2⟩;have fK:=zh (bM.out.same O2);clear O2 HF HVt;clear k0 k1 k2 k3 k4;obtain⟨k0,k1,k2,k3,k4⟩:=aG.out w2 fK.out;have hres:=jd.out;rw[if_neg (by omega:¬(0<=f))]at hres;cases vb with
 |false=>
  replace hres:r=7:=by simpa using hres
  exact zCh
 |true=>
  rw[if_pos rfl]at hres;by_cases c1:0<nT;·rw[if_pos c1]at hres;exact zCh
  rw[if_neg c1]at hres;by_cases c2:uf=1
  ·have c3:0<uf:=by omega
   subst c2;obtain⟨yz,hxz⟩:=zG s.spans 0 (by rw[DJ.out];omega);obtain⟨NR,xQ,pV,BR,Oe,kU⟩:=TL (EU.out W0 zr) hxz;first|subst pV| (simp only[qG,qO,and_true]at pV;obtain⟨rfl,rfl⟩:=pV)
   have nV:=zh kU;have Ku:=zh hxz;clear kU hxz;obtain⟨za,hza⟩:=List.length_eq_one_iff.1 DJ.out;have hzz:za=yz:=by have:=Ku.out;rw[hza]at this;simpa using this
   subst hzz;rw[hza]at hres;clear hza;obtain⟨b1,hb1⟩:=ze za.lo.toList.isEmpty;obtain⟨b2,hb2⟩:=ze za.hi.toList.isEmpty;simp only[QL,hb1,hb2]at hres;have hrz:=(nV.out w2 fK.out).1;have yY:=hrz 0 _ rfl;have VX:=hrz 1 _ rfl;rw[qF]at yY;clear hrz;simp only[Nat.zero_mul,qF]at yY VX;cases b1 with
   |false=>
    replace hres:r=9:=by simpa using hres
    exact zCh
   |true=>
    cases b2 with
    |false=>
     replace hres:r=9:=by simpa using hres
     exact zCh
    |true=>
     replace hres:r=0:=by simpa using hres
     subst hres;clear jd;go_wp2_with fail;go_wp2_with fail;go_ret;exact⟨rfl,bW.out.same fK.out⟩
  have c3:((uf:Int)==1)=false:=by rw[yC];omega
  replace hres:r=9:=by
   rw[hres,if_neg];intro h;have:=DJ.out;unfold QL at h;split at h;·next h2=>rw[h2]at this;simp at this;omega
   cases h
  exact zCh
end
end Go.Proofs.YtdmmebjjojimiaaGreatDoor
