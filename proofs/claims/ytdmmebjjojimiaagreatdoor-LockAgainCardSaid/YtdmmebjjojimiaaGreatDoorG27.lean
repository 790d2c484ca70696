/- The document's graphs, exact: others, needs. Printed by gen_gr8.py. -/
import Derived.Test.YtdmmebjjojimiaaGreatDoorG25
import Derived.Test.YtdmmebjjojimiaaGreatDoorG26
set_option maxRecDepth 100000
set_option maxHeartbeats 8000000
set_option linter.all false
namespace Go.Proofs
theorem zAG{p:Prop}(h:p:=by(intro w hSw;(try dsimp only at hSw);obtain⟨k0,k1,k2,k3⟩:=aF.out w (aI.out.same (HP2.out.same hSw));have hrz:=(jd.out w (HP2.out.same hSw)).1;have gz3:=hrz 3 _ rfl;clear hrz;go_simp<;>(try with_reducible rfl))):p:=h
theorem zAL{p:Prop}(h:p:=by(intro w hSw;(try dsimp only at hSw);obtain⟨k0,k1,k2,k3⟩:=aF.out w (aI.out.same (HP2.out.same hSw));have Qk:=(x9.out w hSw).1 0 _ rfl;rw[yH,qF]at Qk;go_simp<;>(try with_reducible rfl))):p:=h
theorem zAd{p:Prop}(h:p:=by(intro w hSw;obtain⟨k0,k1,k2,k3,k4,k5,k6,k7,k8,k9⟩:=aF.out w hSw;have hrz:=(jd.out w hSw).1;have nY:=hrz 0 _ rfl;rw[qF]at nY;clear hrz;go_simp<;>(try with_reducible rfl))):p:=h
theorem zA5{p:Prop}(h:p:=by(intro w hSw;(try dsimp only at hSw);obtain⟨k0,k1,k2,k3⟩:=aF.out w (aI.out.same (HP2.out.same hSw));go_simp<;>(try with_reducible rfl))):p:=h
theorem zBe{p:Prop}(h:p:=by rw[Io.out,show(aX g fun _ n=>Bf x g n)=some yn.name from nJ uJ.out HQ.out (by rw[Jh];exact yU.2 ⟨yz,qT vS.out,by rw[hW];simp⟩)];rfl):p:=h
theorem zDS{p:Prop}(h:p:=by
 have h2:=h.symm.trans aZ.out
 exact⟨congrArg Prod.fst h2,congrArg Prod.snd h2⟩):p:=h
theorem zES{p:Prop}(h:p:=by
 refine wpQuiet_nil ?_
 (intro w9 dR;have JG:=zh dR;have jZ:Hid (O0 W1 w9):=HP2.out.same dR;clear dR)
 have FD:Hid (((bY x yn).cons.take (k+1)).any (QM x g yn)=false):=zh (eY vS.out HQc.out zBj)
 go_wp2_with fail
 go_roundw
 case rel=>exact⟨JG,k+1,by first|rfl|go_num,by omega,FD⟩
 case measure=>simp[RowKit.intOf]<;>omega):p:=h
theorem zEc{p:Prop}(h:p:=by(intro w hSw;exact(HH.out w (HP2.out.same hSw)).mono fun _ _ ⟨he,ho⟩=>⟨he,hSw.same ho⟩)):p:=h
theorem zEo{p:Prop}(h:p:=by
 refine qV ?_
 refine wpQuiet_nil ?_
 (intro w9 dR;have JG:=zh dR;have jZ:Hid (O0 W1 w9):=HP2.out.same dR;clear dR)
 go_wp2_with fail
 go_roundw
 case rel=>exact⟨JG,i+1,by first|rfl|go_num,by omega,pI⟩
 case measure=>simp[RowKit.intOf]<;>omega):p:=h
theorem zEu{p:Prop}(h:p:=by exact⟨rfl,(aV.out.same (aI.out.same sJ.out)).trans (aK _ _ _) fun k hk=>.inr zAO⟩):p:=h
theorem zE0{p:Prop}(h:p:=by
 refine wpQuiet_nil ?_
 (intro w9 dR;have JG:=zh dR;have jZ:Hid (O0 W1 w9):=HP2.out.same dR;clear dR)
 obtain⟨k0,k1,k2,k3⟩:=aF.out w9 (aI.out.same jZ.out)
 have hrn:=(jg.out w9 (aI.out.same jZ.out)).1
 have Je:=hrn 0 _ rfl
 rw[qF]at Je
 clear hrn
 obtain⟨rfl,rfl⟩:7=rc/\yn.name=rs:=by
  have h:dB [(6,xg x q g),(7,aX g fun _ n=>Bf x g n)]=(7,yn.name):=zBe
  exact zDS
 go_wp2_with fail
 refine(jX (w:=w9) _ _).mono ?_
 rintro e Fv ⟨rfl,Fz⟩
 have kZ:=zh ((jZ.out).same Fz)
 clear Fz
 go_wp2_with (refine wpList_store_row rfl 38 (.tmp 6) (.tmp 116) rfl W0.heap.size #[.int .u8 7,.string yn.name] rfl rfl 38 #[.int .u8 0,.string ⟨#[]⟩] (iM.out Fv kZ.out) zk rfl zk ?_)
 exact zDX):p:=h
theorem zFG{p:Prop}(h:p:=by
 have FD:Hid (((bY x n).deps.take (k+1)).any (fun d:Aj=>jr n d.cond&&(intsOf (x.targets d.on.name)).contains (x.find o.name))=false):=zh (eY vS.out EG.out (by first|exact HW.out| (rw[HW.out];simp)))
 exact zED):p:=h
theorem zFu{p:Prop}(h:p:=by
 refine cO (p:=6) rfl rfl rfl (run_loadVar_row _ _ _ _ _ (0,0) _ (setRow_heap _ _ _ _ _ _ (iM.out bD sJ.out)) Tryz.underlying38 rfl zk) ?_
 exact zEu):p:=h
theorem zF2{p:Prop}(h:p:=by
 go_wp2_with fail
 go_roundw
 case rel=>exact⟨EG,i+1,by first|rfl|go_num,by omega,pI⟩
 case measure=>simp[RowKit.intOf]<;>omega):p:=h
theorem zGe{p:Prop}(h:p:=by(intro w hSw;exact(HAs.out w (HP2.out.same hSw)).mono fun _ _ ⟨he,ho⟩=>⟨he,hSw.same ho⟩)):p:=h
theorem zGf{p:Prop}(h:p:=by(intro w hSw;exact(kS.out w (HP2.out.same hSw)).mono fun _ _ ⟨he,ho⟩=>⟨he,hSw.same ho⟩)):p:=h
theorem zGg{p:Prop}(h:p:=by(intro w hSw;exact(HM.out w (HP2.out.same hSw)).mono fun _ _ ⟨he,ho⟩=>⟨he,hSw.same ho⟩)):p:=h
theorem zGv{p:Prop}(h:p:=by
 cases b with
 |true=>rw[if_pos rfl];simp[hb]
 |false=>rw[if_neg zAP];simp[hb]):p:=h
end Go.Proofs
namespace Go.Proofs.YtdmmebjjojimiaaGreatDoor
open Go.RowKit
section
variable {w w':World} {B:Nat}
attribute [local irreducible] wpQuiet
theorem aaD{α:Type}{p:α->Bool}{l:List α}{i:Nat}{a:α}(ha:l[i]? =some a)(h0:(l.take i).any p=false)(h:p a=true):l.find? p=some a:=by obtain⟨hlt,rfl⟩:=qJ.1 ha;have e:l.find? p=(l.take i++l[i]::l.drop (i+1)).find? p:=zCa;rw[e,List.find?_append,List.find?_eq_none.2 (fun d hd=>List.any_eq_false.1 h0 d hd),Option.none_or,List.find?_cons_of_pos h]
theorem aaE{α:Type}{p:α->Bool}{l:List α}(h0:l.any p=false):l.find? p=none:=List.find?_eq_none.2 fun d hd=>List.any_eq_false.1 h0 d hd
def aaF(x:aQ)(s:Str)(n:aC):Bool:=iC (bY x n).provides s
def oL(x:aQ)(g:List aC)(s:Str)(k:Nat):Nat:=((g.take k).filter (aaF x s)).length
theorem OT{x:aQ}{g:List aC}{s:Str}{k:Nat}{n:aC}{b:Bool}(hn:g[k]? =some n)(hb:aaF x s n=b):oL x g s (k+1)=oL x g s k+(if b=true then 1 else 0):=by unfold oL;rw[List.take_add_one,hn,List.filter_append,qK];exact zGv
theorem Jg(x:aQ)(g:List aC)(s:Str)(k:Nat):oL x g s k<=k:=by unfold oL;refine qR (yO _ _) ?_;rw[List.length_take];omega
def Me(x:aQ)(q:dD)(g:List aC)(s:Str):Bool:=zN x q g s&&decide (Si x g s≠1)
def QM(x:aQ)(g:List aC)(n:aC)(y:Iq):Bool:=jr n y.cond&&(decide (y.with'.name=ByteArray.empty)||Bd g y.with')
theorem Jh(x:aQ)(g:List aC)(n:aC):Bf x g n=(bY x n).cons.any (QM x g n):=rfl
theorem Zj{lC:List Value}{x:aQ}(hx:fO B w lC x){Ba:List Value}{q:dD}(hq:mg B w Ba q){CS:List Value}{g:List aC}(hg:rU B w CS g)(hNm:Named x g)(hok:agx x q (x.closure q.names)):Calls Tryz.prog 62 #[.agg lC.toArray,.agg Ba.toArray,.agg CS.toArray] w fun e w'=>iY (dB [(6,xg x q g),(7,aX g fun _ n=>Bf x g n)]) w w' e:=by
 obtain⟨aP,ak,aJ,aO,aG,aH,rfl,fF,fG,dP,dQ,aB,bJ,mY⟩:=open_rec hx;clear hx;try rw[aB.out]
 obtain⟨dw,aY,dA,rfl,oU,oV,bQ,E8⟩:=lM hq;clear hq;try rw[bQ.out]
 obtain⟨dI,ay,dh,rfl,rC,rD,bG,Jd⟩:=nH hg;clear hg;try rw[bG.out]
 obtain⟨W0,hW0,aV,jK,aF⟩:=zO w (.slice aP ak aJ) (.slice aO aG aH) (.slice dw aY dA) (.slice dI ay dh) 25 28 31;obtain⟨eX,bK,bT⟩:=mY W0 aV.out;clear mY;obtain⟨zL,gu⟩:=E8 W0 aV.out;clear E8;obtain⟨Bg,dU⟩:=Jd W0 aV.out;clear Jd;have En:=zh hNm;obtain⟨rc,rs,hr⟩:∃c s,dB [(6,xg x q g),(7,aX g fun _ n=>Bf x g n)]=(c,s):=⟨_,_,rfl⟩;have aZ:=zh hr;rw[hr];unfold iY;dsimp only;obtain⟨W1,hW1⟩:=ze (W0.alloc (.cells #[.int .u8 0,.string ⟨#[]⟩] 38));have aI:Hid (O0 W0 W1):=zAc;have iM:Hid (∀W,O0 W1 W->W.heap[W0.heap.size]? =some (.cells #[.int .u8 0,.string ⟨#[]⟩] 38 (0,0))):=fun W ho=>by exact zDt
 have wZ:Hid (O0 W1 W1):=Only.refl _ _;clear hr;have NI:=zh (ab6 (eX.out W1 aI.out) (zL.out W1 aI.out) hok);obtain⟨k0,k1,k2,k3⟩:=aF.out W1 (aI.out.same wZ.out);have hW0':=hW0.symm;clear hW0;go_enter Tryz.func62,Tryz.ntmps62;go_wp2_with fail;clear hW1 hW0' k0 k1 k2 k3;refine NI.out.mono ?_;rintro e W2 ⟨vN,rfl,hNr,O2⟩;have HP2:=zh O2;obtain⟨nN,hnN⟩:=ze ((x.names q).length);obtain⟨aN,cN,rfl,gN1,gN2⟩:=hNr.shape;rw[hnN]at hNr gN1⊢;have HNn:=zh hnN;have HNr:=zh hNr;clear O2 hnN hNr NI;have fQ:Hid (O0 W2 W2):=Only.refl _ _;go_wp2_with fail;go_loopw [19] (fun vi bD=>Hid (O0 W2 bD)/\∃i:Nat,vi= .int .i64 i/\i<=nN/\Hid (((x.names q).take i).any (Me x q g)=false)) (fun v _=>nN-(RowKit.intOf v).toNat);case atStart=>exact⟨fQ,0,rfl,qE _,show Hid _ from rfl⟩
 case round=>
  obtain⟨bD,rfl⟩:=zB wr;clear fQ;obtain⟨rM,i,rfl,hi,HQ⟩:=hrel;by_cases ci:i<nN
  ·have iE:=zw (i+1);obtain⟨ys,hxs⟩:=zG (x.names q) i (by rw[HNn.out];omega);have AV:=zh hxs;obtain⟨X5,Gv,hes,oks,hEs⟩:=iR HNr.out hxs;subst hes;have x9:Hid (∀W,O0 W2 W->W.rangeAt X5 (Gv+i*1) [.string ys]/\bU W2.heap.size W [.string ys] ys):=hEs;clear hEs hxs;have fQ:=rM;obtain⟨k0,k1,k2,k3⟩:=aF.out bD (aI.out.same (HP2.out.same rM.out));go_wp2_with fail;clear k0 k1 k2 k3;go_loopw [25,9] (fun vk vc iJ=>Hid (O0 W2 iJ)/\∃k:Nat,vk= .int .i64 k/\k<=ay/\vc= .int .i64 (oL x g ys k:Int)) (fun v _ _=>ay-(RowKit.intOf v).toNat);case atStart=>exact⟨fQ,0,rfl,qE _,rfl⟩
   case round=>
    obtain⟨iJ,rfl⟩:=zB wr;clear fQ;obtain⟨EG,k,rfl,hk,rfl⟩:=hrel;obtain⟨k0,k1,k2,k3⟩:=aF.out iJ (aI.out.same (HP2.out.same EG.out));by_cases ck:k<ay
    ·have iE:=zw (k+1);obtain⟨yn,hxn⟩:=zG g k zAp;obtain⟨Kv,wI,nR,nU,nV,mV,lD,mP,hen,lY,lG,Fp,Eo,jO⟩:=jf (dU.out W0 zr) hxn;first|subst hen| (simp only[qG,qO,and_true]at hen;obtain⟨rfl,rfl⟩:=hen)
     have Nn1:=zh lY;have Nn2:=zh lG;have jg:=zh jO;have uJ:=zh hxn;clear jO hxn lY lG;have U2:Hid (∀W,O0 W0 W->aS 2 dO B W (.slice nR nU nV) yn.sets):=fun W ho=>(jg.out W ho).2.1;have Kw:Hid (∀W,O0 W0 W->aS 1 bU B W (.slice mV lD mP) yn.needs):=fun W ho=>(jg.out W ho).2.2.1;have vG:Hid (∀W,O0 W0 W->dH B W [.string yn.name,.string yn.version,.slice nR nU nV,.slice mV lD mP] yn):=fun W ho=>(jg.out W ho).2.2.2;have hfd:0<=x.find yn.name:=by have h:=En.out.found k zAp;rw[jU uJ.out]at h;exact h
     obtain⟨OI,qm,kS⟩:=zX (eX.out W1 aI.out) (vG.out W1 aI.out) hfd;obtain⟨F9,Gf,Gg,Ea,Eb,Ec,Ep,Es,Et,Gh,xB,Gi,FB,DJ,FC,Gj,Gl,Gm,zY,gd1,hd1,gd2,hd2,gd3,hd3,gd4,hd4,gd5,hd5,gd6,hd6,Nd1,Nd2,Nd3,SH,Nd5,Nd6,Fd⟩:=iO qm;subst zY;obtain⟨HKd,OJ,Ky,Kz,Hu,KA,OL⟩:=Fd W1 zr;replace kS:=zh kS;clear Fd qm;have hfv:=fun W=>Xm (.string (bY x yn).name) (.int .i64 (bY x yn).line) (.slice F9 Gf Gg) (.slice Ea Eb Ec) (.slice Ep Es Et) (.slice Gh xB Gi) (.slice FB DJ FC) (.slice Gj Gl Gm) W;obtain⟨hb,hhb⟩:=ze (aaF x ys yn);have aeW:Hid (oL x g ys (k+1)=oL x g ys k+(if hb=true then 1 else 0)):=OT uJ.out hhb;have L9:Hid (∀W,O0 W1 W->Calls Tryz.prog 128 #[.slice Ep Es Et,.string ys] W fun e w'=>e= .returned (.bool hb)/\O0 W w'):=fun W hW=>by rw[<-hhb];exact EK (Kz.out W hW) ys
     have hck:=Jg x g ys k;clear hhb;go_wp2_with fail;clear k0 k1 k2 k3;refine aU (fun w'=>O0 W2 w') zk zk (by exact(EG.out).drew) ?_;refine qV ?_ (hy:=zAL);refine qV ?_;refine qV ?_ (hy:=zAL);iterate 2 refine qV ?_
     refine bM (by rfl) rfl rfl (fun w hSw=>(jg.out w (aI.out.same (HP2.out.same hSw))).1) Tryz.underlying83 rfl zk ?_;try simp only[Act.put,fA,fD,fB,dW,dX,dY]
     refine bF (v:=.agg #[.string (bY x yn).name,.int .i64 (bY x yn).line,.slice F9 Gf Gg,.slice Ea Eb Ec,.slice Ep Es Et,.slice Gh xB Gi,.slice FB DJ FC,.slice Gj Gl Gm]) (f:=137) (args:= #[.agg #[.slice aP ak aJ,.slice aO aG aH],.agg #[.string yn.name,.string yn.version,.slice nR nU nV,.slice mV lD mP]]) (by rfl) ?_ ?_ ?_;·exact zDQ
     ·exact zGf
     try simp only[Act.put,fA,fD,fB,dW,dX,dY]
     refine qV ?_ (hy:=zAL);iterate 3 refine qV ?_
     refine qV ?_ (hy:=zAL);refine bF (v:=.bool hb) (f:=128) (args:= #[.slice Ep Es Et,.string ys]) (by rfl) ?_ ?_ ?_;·exact zDQ
     ·(intro w hSw;exact(L9.out w (HP2.out.same hSw)).mono fun _ _ ⟨he,ho⟩=>⟨he,hSw.same ho⟩)
     try simp only[Act.put,fA,fD,fB,dW,dX,dY]
     refine wpQuiet_nil ?_;(intro w9 dR;have JG:=zh dR;have jZ:Hid (O0 W1 w9):=HP2.out.same dR;clear dR);clear hfv;cases hb with
     |true=>
      have ewc:IntKind.i64.wrap ((oL x g ys k:Int)+1)=(oL x g ys (k+1):Int):=by rw[qD,aeW.out,if_pos rfl];omega
      go_wp2_with fail;go_roundw;case rel=>exact⟨JG,k+1,by first|rfl|go_num,by omega,rfl⟩
      case measure=>simp[RowKit.intOf]<;>omega
     |false=>
      have ewc:(oL x g ys k:Int)=(oL x g ys (k+1):Int):=by rw[aeW.out];rfl
      go_wp2_with fail;go_roundw;case rel=>exact⟨JG,k+1,by first|rfl|go_num,by omega,by rw[<-ewc]⟩
      case measure=>simp[RowKit.intOf]<;>omega
    obtain rfl:ay=k:=by omega
    have OU:Si x g ys=oL x g ys ay:=by unfold Si oL;rw[qI (yG bG.out)];rfl
    have hcl:=Jg x g ys ay;obtain⟨c,hc⟩:=ze (oL x g ys ay);rw[hc]at OU hcl⊢;obtain⟨ab,hab⟩:=ze (zN x q g ys);have hW:Me x q g ys=(ab&&decide (c≠1)):=by unfold Me;rw[hab,OU]
    have HAs:Hid (∀W,O0 W1 W->Calls Tryz.prog 142 #[.agg #[.slice aP ak aJ,.slice aO aG aH],.agg #[.slice dw aY dA],.agg #[.slice dI ay dh],.string ys] W fun e w'=>e= .returned (.bool ab)/\O0 W w'):=fun W hW=>by rw[<-hab];exact ab4 (eX.out W (aI.out.same hW)) (zL.out W (aI.out.same hW)) (Bg.out W (aI.out.same hW)) En.out ys
    clear hab OU hc;by_cases c1:c=1
    ·subst c1;have hne:(((1:Nat):Int) != 1)=false:=zAP;have pI:Hid (((x.names q).take (i+1)).any (Me x q g)=false):=zh (eY AV.out HQ.out zBj);go_wp2_with fail;clear k0 k1 k2 k3;refine aU (fun w'=>O0 W2 w') zk zk (by exact(EG.out).drew) ?_;iterate 3 refine qV ?_
     iterate 8 refine qS ?_
     exact zEo
    have hne:((c:Int) != 1)=true:=by simp;omega
    rw[qX c1,Bool.and_true]at hW;go_wp2_with fail;clear k0 k1 k2 k3;cases ab with
    |true=>
     refine aU (fun w'=>O0 W2 w') zk zk (by exact(EG.out).drew) ?_;iterate 3 refine qV ?_
     iterate 3 refine qV ?_ (hy:=zAL)
     iterate 3 refine qV ?_
     refine qV ?_ (hy:=zAL);refine bF (v:=.bool true) (f:=142) (args:= #[.agg #[.slice aP ak aJ,.slice aO aG aH],.agg #[.slice dw aY dA],.agg #[.slice dI ay dh],.string ys]) (by rfl) ?_ ?_ ?_;·exact zDQ
     ·exact zGe
     try simp only[Act.put,fA,fD,fB,dW,dX,dY]
     refine qV ?_;refine wpQuiet_nil ?_;(intro w9 dR;have JG:=zh dR;have jZ:Hid (O0 W1 w9):=HP2.out.same dR;clear dR);have Qk:=(x9.out w9 JG.out).1 0 _ rfl;rw[yH,qF]at Qk;obtain⟨rfl,rfl⟩:6=rc/\ys=rs:=by
      have h:dB [(6,xg x q g),(7,aX g fun _ n=>Bf x g n)]=(6,ys):=by rw[show xg x q g=some ys from aaD AV.out HQ.out hW];rfl
      exact zDS
     go_wp2_with fail;refine(jX (w:=w9) _ _).mono ?_;rintro e Fv ⟨rfl,Fz⟩;have kZ:=zh ((jZ.out).same Fz);clear Fz;go_wp2_with (refine wpList_store_row rfl 38 (.tmp 6) (.tmp 60) rfl W0.heap.size #[.int .u8 6,.string ys] rfl rfl 38 #[.int .u8 0,.string ⟨#[]⟩] (iM.out Fv kZ.out) zk rfl zk ?_);exact zDX
    |false=>
     have pI:Hid (((x.names q).take (i+1)).any (Me x q g)=false):=zh (eY AV.out HQ.out hW);refine aU (fun w'=>O0 W2 w') zk zk (by exact(EG.out).drew) ?_;iterate 3 refine qV ?_
     iterate 3 refine qV ?_ (hy:=zAL)
     iterate 3 refine qV ?_
     refine qV ?_ (hy:=zAL);refine bF (v:=.bool false) (f:=142) (args:= #[.agg #[.slice aP ak aJ,.slice aO aG aH],.agg #[.slice dw aY dA],.agg #[.slice dI ay dh],.string ys]) (by rfl) ?_ ?_ ?_;·exact zDQ
     ·exact zGe
     try simp only[Act.put,fA,fD,fB,dW,dX,dY]
     exact zEo
  obtain rfl:nN=i:=by omega
  have Io:Hid (xg x q g=none):=aaE (by
   have h:=HQ.out
   rw[qI (yG HNn.out)]at h
   exact h)
  have fQ:=rM;clear HQ;obtain⟨k0,k1,k2,k3⟩:=aF.out bD (aI.out.same (HP2.out.same rM.out));go_wp2_with fail;clear k0 k1 k2 k3;go_loopw [65] (fun vi bD=>Hid (O0 W2 bD)/\∃i:Nat,vi= .int .i64 i/\i<=ay/\Hid (∀j,j<i->Bf x g (nodeAt g j)=false)) (fun v _=>ay-(RowKit.intOf v).toNat);case atStart=>exact⟨fQ,0,rfl,qE _,show Hid _ from fun j hj=>by omega⟩
  case round=>
   obtain⟨bD,rfl⟩:=zB wr;clear fQ;obtain⟨rM,i,rfl,hi,HQ⟩:=hrel;obtain⟨k0,k1,k2,k3⟩:=aF.out bD (aI.out.same (HP2.out.same rM.out));by_cases ci:i<ay
   ·have iE:=zw (i+1);obtain⟨yn,hxn⟩:=zG g i zAp;obtain⟨Kv,wI,nR,nU,nV,mV,lD,mP,hen,lY,lG,Fp,Eo,jO⟩:=jf (dU.out W0 zr) hxn;first|subst hen| (simp only[qG,qO,and_true]at hen;obtain⟨rfl,rfl⟩:=hen)
    have Nn1:=zh lY;have Nn2:=zh lG;have jg:=zh jO;have uJ:=zh hxn;clear jO hxn lY lG;have U2:Hid (∀W,O0 W0 W->aS 2 dO B W (.slice nR nU nV) yn.sets):=fun W ho=>(jg.out W ho).2.1;have Kw:Hid (∀W,O0 W0 W->aS 1 bU B W (.slice mV lD mP) yn.needs):=fun W ho=>(jg.out W ho).2.2.1;have vG:Hid (∀W,O0 W0 W->dH B W [.string yn.name,.string yn.version,.slice nR nU nV,.slice mV lD mP] yn):=fun W ho=>(jg.out W ho).2.2.2;have hfd:0<=x.find yn.name:=by exact zFs
    obtain⟨OI,qm,kS⟩:=zX (eX.out W1 aI.out) (vG.out W1 aI.out) hfd;obtain⟨F9,Gf,Gg,Ea,Eb,Ec,Ep,Es,Et,Gh,xB,Gi,FB,DJ,FC,Gj,Gl,Gm,zY,gd1,hd1,gd2,hd2,gd3,hd3,gd4,hd4,gd5,hd5,gd6,hd6,Nd1,Nd2,Nd3,SH,Nd5,Nd6,Fd⟩:=iO qm;subst zY;obtain⟨HKd,OJ,Ky,Kz,Hu,KA,OL⟩:=Fd W1 zr;replace kS:=zh kS;clear Fd qm;have hfv:=fun W=>Xn (.string (bY x yn).name) (.int .i64 (bY x yn).line) (.slice F9 Gf Gg) (.slice Ea Eb Ec) (.slice Ep Es Et) (.slice Gh xB Gi) (.slice FB DJ FC) (.slice Gj Gl Gm) W;go_wp2_with fail;clear k0 k1 k2 k3;refine aU (fun w'=>O0 W2 w') zk zk (by exact(rM.out).drew) ?_;refine qV ?_ (hy:=zA5);refine qV ?_;refine qV ?_ (hy:=zA5);iterate 2 refine qV ?_
    refine bM (by rfl) rfl rfl (fun w hSw=>(jg.out w (aI.out.same (HP2.out.same hSw))).1) Tryz.underlying83 rfl zk ?_;try simp only[Act.put,fA,fD,fB,dW,dX,dY]
    refine bF (v:=.agg #[.string (bY x yn).name,.int .i64 (bY x yn).line,.slice F9 Gf Gg,.slice Ea Eb Ec,.slice Ep Es Et,.slice Gh xB Gi,.slice FB DJ FC,.slice Gj Gl Gm]) (f:=137) (args:= #[.agg #[.slice aP ak aJ,.slice aO aG aH],.agg #[.string yn.name,.string yn.version,.slice nR nU nV,.slice mV lD mP]]) (by rfl) ?_ ?_ ?_;·exact zDQ
    ·exact zGf
    try simp only[Act.put,fA,fD,fB,dW,dX,dY]
    refine qV ?_ (hy:=zA5);refine qV ?_;refine wpQuiet_nil ?_;(intro w9 dR;have JG:=zh dR;have jZ:Hid (O0 W1 w9):=HP2.out.same dR;clear dR);clear hfv;have fQ:=JG;go_wp2_with fail;go_loopw [78] (fun vk iJ=>Hid (O0 W2 iJ)/\∃k:Nat,vk= .int .i64 k/\k<=DJ/\Hid (((bY x yn).cons.take k).any (QM x g yn)=false)) (fun v _=>DJ-(RowKit.intOf v).toNat);case atStart=>exact⟨fQ,0,rfl,qE _,show Hid _ from rfl⟩
    case round=>
     obtain⟨iJ,rfl⟩:=zB wr;clear fQ;obtain⟨EG,k,rfl,hk,HQc⟩:=hrel;obtain⟨k0,k1,k2,k3⟩:=aF.out iJ (aI.out.same (HP2.out.same EG.out));by_cases ck:k<DJ
     ·have iE:=zw (k+1);obtain⟨yz,hxz⟩:=zG ((bY x yn).cons) k (by rw[Nd5.out];omega);obtain⟨JD,vP,vW,vX,vY,wS,wU,wV,sU,sV,sW,sD,ru,sF,qc,wC,EP,ER,Eh,AX,He,NC,jM⟩:=TN (KA.out W1 zr) hxz;first|subst qc| (simp only[qG,qO,and_true]at qc;obtain⟨rfl,rfl⟩:=qc)
      have jd:=zh jM;have vS:=zh hxz;clear jM hxz wC EP ER Eh;have Yo:Hid (∀W,O0 W1 W->aS 2 fE B W (.slice vW vX vY) yz.cond.spans):=fun W ho=>(jd.out W ho).2.1;have TQ:Hid (∀W,O0 W1 W->aS 2 dO B W (.slice wS wU wV) yz.cond.sets):=fun W ho=>(jd.out W ho).2.2.1;have JQ:Hid (∀W,O0 W1 W->aS 2 fE B W (.slice sU sV sW) yz.with'.spans):=fun W ho=>(jd.out W ho).2.2.2.1;have Gx:Hid (∀W,O0 W1 W->aS 2 dO B W (.slice sD ru sF) yz.with'.sets):=fun W ho=>(jd.out W ho).2.2.2.2.1;obtain⟨hb,hhb⟩:=ze (jr yn yz.cond);obtain⟨mb,hmb⟩:=ze (Bd g yz.with');obtain⟨eb,heb⟩:=ze yz.with'.name.toList.isEmpty;have hW:QM x g yn yz=(hb&&(eb||mb)):=by unfold QM;rw[hhb,hmb,BN,heb]
      have HH:Hid (∀W,O0 W1 W->Calls Tryz.prog 140 #[.agg #[.string yn.name,.string yn.version,.slice nR nU nV,.slice mV lD mP],.agg #[.string yz.cond.name,.slice vW vX vY,.slice wS wU wV]] W fun e w'=>e= .returned (.bool hb)/\O0 W w'):=fun W hW=>by rw[<-hhb];exact Fh (vG.out W (aI.out.same hW)) (⟨_,_,rfl,AX,Yo.out W hW,TQ.out W hW⟩:dJ B W [.string yz.cond.name,.slice vW vX vY,.slice wS wU wV] yz.cond)
      have HM:Hid (∀W,O0 W1 W->Calls Tryz.prog 139 #[.agg #[.slice (some ⟨Kv,wI,none⟩) ay dh],.agg #[.string yz.with'.name,.slice sU sV sW,.slice sD ru sF]] W fun e w'=>e= .returned (.bool mb)/\O0 W w'):=fun W hW=>by rw[<-hmb];exact U1 (Bg.out W (aI.out.same hW)) (⟨_,_,rfl,He,JQ.out W hW,Gx.out W hW⟩:dJ B W [.string yz.with'.name,.slice sU sV sW,.slice sD ru sF] yz.with')
      clear hhb hmb;go_wp2_with fail;clear k0 k1 k2 k3;cases hb with
      |false=>
       refine aU (fun w'=>O0 W2 w') zk zk (by exact(EG.out).drew) ?_;refine qV ?_;refine qV ?_ (hy:=zAG);iterate 2 refine qV ?_
       refine bM (by rfl) rfl rfl (fun w hSw=>(jg.out w (aI.out.same (HP2.out.same hSw))).1) Tryz.underlying83 rfl zk ?_;try simp only[Act.put,fA,fD,fB,dW,dX,dY]
       iterate 4 refine qV ?_
       refine bM (by rfl) rfl rfl (fun w hSw=>(qo (cs:=[.string yz.cond.name,.slice vW vX vY,.slice wS wU wV]) (ds:=[.string yz.with'.name,.slice sU sV sW,.slice sD ru sF,.int .i64 yz.line]) (jd.out w (HP2.out.same hSw)).1)) Tryz.underlying108 rfl zk ?_;try simp only[Act.put,fA,fD,fB,dW,dX,dY]
       refine bF (v:=.bool false) (f:=140) (args:= #[.agg #[.string yn.name,.string yn.version,.slice nR nU nV,.slice mV lD mP],.agg #[.string yz.cond.name,.slice vW vX vY,.slice wS wU wV]]) (by rfl) ?_ ?_ ?_;·exact zDQ
       ·exact zEc
       try simp only[Act.put,fA,fD,fB,dW,dX,dY]
       refine qV ?_;iterate 16 refine qS ?_
       refine qV ?_;exact zES
      |true=>
       cases eb with
       |true=>
        refine aU (fun w'=>O0 W2 w') zk zk (by exact(EG.out).drew) ?_;refine qV ?_;refine qV ?_ (hy:=zAG);iterate 2 refine qV ?_
        refine bM (by rfl) rfl rfl (fun w hSw=>(jg.out w (aI.out.same (HP2.out.same hSw))).1) Tryz.underlying83 rfl zk ?_;try simp only[Act.put,fA,fD,fB,dW,dX,dY]
        iterate 4 refine qV ?_
        refine bM (by rfl) rfl rfl (fun w hSw=>(qo (cs:=[.string yz.cond.name,.slice vW vX vY,.slice wS wU wV]) (ds:=[.string yz.with'.name,.slice sU sV sW,.slice sD ru sF,.int .i64 yz.line]) (jd.out w (HP2.out.same hSw)).1)) Tryz.underlying108 rfl zk ?_;try simp only[Act.put,fA,fD,fB,dW,dX,dY]
        refine bF (v:=.bool true) (f:=140) (args:= #[.agg #[.string yn.name,.string yn.version,.slice nR nU nV,.slice mV lD mP],.agg #[.string yz.cond.name,.slice vW vX vY,.slice wS wU wV]]) (by rfl) ?_ ?_ ?_;·exact zDQ
        ·exact zEc
        try simp only[Act.put,fA,fD,fB,dW,dX,dY]
        iterate 6 refine qV ?_
        refine qV ?_ (hy:=zAG);iterate 2 refine qV ?_
        iterate 7 refine qS ?_
        iterate 2 refine qV ?_
        exact zE0
       |false=>
        cases mb with
        |true=>
         refine aU (fun w'=>O0 W2 w') zk zk (by exact(EG.out).drew) ?_;refine qV ?_;refine qV ?_ (hy:=zAG);iterate 2 refine qV ?_
         refine bM (by rfl) rfl rfl (fun w hSw=>(jg.out w (aI.out.same (HP2.out.same hSw))).1) Tryz.underlying83 rfl zk ?_;try simp only[Act.put,fA,fD,fB,dW,dX,dY]
         iterate 4 refine qV ?_
         refine bM (by rfl) rfl rfl (fun w hSw=>(qo (cs:=[.string yz.cond.name,.slice vW vX vY,.slice wS wU wV]) (ds:=[.string yz.with'.name,.slice sU sV sW,.slice sD ru sF,.int .i64 yz.line]) (jd.out w (HP2.out.same hSw)).1)) Tryz.underlying108 rfl zk ?_;try simp only[Act.put,fA,fD,fB,dW,dX,dY]
         refine bF (v:=.bool true) (f:=140) (args:= #[.agg #[.string yn.name,.string yn.version,.slice nR nU nV,.slice mV lD mP],.agg #[.string yz.cond.name,.slice vW vX vY,.slice wS wU wV]]) (by rfl) ?_ ?_ ?_;·exact zDQ
         ·exact zEc
         try simp only[Act.put,fA,fD,fB,dW,dX,dY]
         iterate 6 refine qV ?_
         refine qV ?_ (hy:=zAG);iterate 2 refine qV ?_
         refine qV ?_ (hy:=zAG);iterate 4 refine qV ?_
         refine bM (by rfl) rfl rfl (fun w hSw=>(kN (cs0:=[.string yz.cond.name,.slice vW vX vY,.slice wS wU wV]) (cs:=[.string yz.with'.name,.slice sU sV sW,.slice sD ru sF]) (ds:=[.int .i64 yz.line]) (jd.out w (HP2.out.same hSw)).1)) Tryz.underlying108 rfl zk ?_;try simp only[Act.put,fA,fD,fB,dW,dX,dY]
         refine bF (v:=.bool true) (f:=139) (args:= #[.agg #[.slice (some ⟨Kv,wI,none⟩) ay dh],.agg #[.string yz.with'.name,.slice sU sV sW,.slice sD ru sF]]) (by rfl) ?_ ?_ ?_;·exact zDQ
         ·exact zGg
         try simp only[Act.put,fA,fD,fB,dW,dX,dY]
         iterate 2 refine qV ?_
         exact zE0
        |false=>
         refine aU (fun w'=>O0 W2 w') zk zk (by exact(EG.out).drew) ?_;refine qV ?_;refine qV ?_ (hy:=zAG);iterate 2 refine qV ?_
         refine bM (by rfl) rfl rfl (fun w hSw=>(jg.out w (aI.out.same (HP2.out.same hSw))).1) Tryz.underlying83 rfl zk ?_;try simp only[Act.put,fA,fD,fB,dW,dX,dY]
         iterate 4 refine qV ?_
         refine bM (by rfl) rfl rfl (fun w hSw=>(qo (cs:=[.string yz.cond.name,.slice vW vX vY,.slice wS wU wV]) (ds:=[.string yz.with'.name,.slice sU sV sW,.slice sD ru sF,.int .i64 yz.line]) (jd.out w (HP2.out.same hSw)).1)) Tryz.underlying108 rfl zk ?_;try simp only[Act.put,fA,fD,fB,dW,dX,dY]
         refine bF (v:=.bool true) (f:=140) (args:= #[.agg #[.string yn.name,.string yn.version,.slice nR nU nV,.slice mV lD mP],.agg #[.string yz.cond.name,.slice vW vX vY,.slice wS wU wV]]) (by rfl) ?_ ?_ ?_;·exact zDQ
         ·exact zEc
         try simp only[Act.put,fA,fD,fB,dW,dX,dY]
         iterate 6 refine qV ?_
         refine qV ?_ (hy:=zAG);iterate 2 refine qV ?_
         refine qV ?_ (hy:=zAG);iterate 4 refine qV ?_
         refine bM (by rfl) rfl rfl (fun w hSw=>(kN (cs0:=[.string yz.cond.name,.slice vW vX vY,.slice wS wU wV]) (cs:=[.string yz.with'.name,.slice sU sV sW,.slice sD ru sF]) (ds:=[.int .i64 yz.line]) (jd.out w (HP2.out.same hSw)).1)) Tryz.underlying108 rfl zk ?_;try simp only[Act.put,fA,fD,fB,dW,dX,dY]
         refine bF (v:=.bool false) (f:=139) (args:= #[.agg #[.slice (some ⟨Kv,wI,none⟩) ay dh],.agg #[.string yz.with'.name,.slice sU sV sW,.slice sD ru sF]]) (by rfl) ?_ ?_ ?_;·exact zDQ
         ·exact zGg
         try simp only[Act.put,fA,fD,fB,dW,dX,dY]
         iterate 2 refine qV ?_
         exact zES
     obtain rfl:DJ=k:=by omega
     have pI:Hid (∀j,j<i+1->Bf x g (nodeAt g j)=false):=zh (kM (p:=fun _ n=>Bf x g n) uJ.out HQ.out (by
      have h:=HQc.out
      rw[qI (yG Nd5.out)]at h
      rw[Jh];exact h))
     exact zF2
   obtain rfl:ay=i:=by omega
   have hq:(aX g fun _ n=>Bf x g n)=none:=kL.2 fun j hj=>HQ.out j zBP;have sJ:Hid (O0 W1 bD):=HP2.out.same rM.out;obtain⟨rfl,rfl⟩:0=rc/\ByteArray.empty=rs:=by
    have h:dB [(6,xg x q g),(7,aX g fun _ n=>Bf x g n)]=(0,ByteArray.empty):=by rw[Io.out,hq];rfl
    exact zDS
   go_wp2_with (refine wpList_store_row rfl 38 (.tmp 6) (.tmp 119) rfl W0.heap.size #[.int .u8 0,.string ByteArray.empty] rfl rfl 38 #[.int .u8 0,.string ⟨#[]⟩] (iM.out bD sJ.out) zk rfl zk ?_);exact zFu
theorem ab7{lC:List Value}{x:aQ}(hx:fO B w lC x){zQ:List Value}{n:aC}(hn:dH B w zQ n){cso:List Value}{o:aC}(ho:dH B w cso o)(hlen:x.packs.length<=1000000)(hfd:0<=x.find n.name):Calls Tryz.prog 143 #[.agg lC.toArray,.agg zQ.toArray,.agg cso.toArray] w fun e w'=>e= .returned (.bool (wP x n o))/\O0 w w':=by
 obtain⟨aP,ak,aJ,aO,aG,aH,rfl,fF,fG,dP,dQ,aB,bJ,mY⟩:=open_rec hx;clear hx;try rw[aB.out]
 obtain⟨zS,zT,zU,y9,zf,zi,rfl,aew,aex,abL,abM,aey,abN,F_n⟩:=open_node hn;clear hn;obtain⟨aeX,aeY,aeZ,ab8,ab9,acd,rfl,alS,alT,akw,akx,alU,aky,F_o⟩:=open_node ho;clear ho;obtain⟨W0,hW0,aV,jK,aF⟩:=aem w (.slice aP ak aJ) (.slice aO aG aH) (.string n.name) (.string n.version) (.slice zS zT zU) (.slice y9 zf zi) (.string o.name) (.string o.version) (.slice aeX aeY aeZ) (.slice ab8 ab9 acd) 25 83 83;obtain⟨eX,bK,bT⟩:=mY W0 aV.out;clear mY;obtain⟨ajp,Sm,Y9⟩:=F_n W0 aV.out;clear F_n;obtain⟨asO,akz,ajD⟩:=F_o W0 aV.out;clear F_o;obtain⟨r,hr⟩:=ze (wP x n o);rw[hr];have DF:=zh hr;clear hr;have vG:=ajp;obtain⟨OI,qm,kS⟩:=zX (eX.out W0 zr) (vG.out W0 zr) hfd;obtain⟨F9,Gf,Gg,Ea,Eb,Ec,Ep,Es,Et,Gh,xB,Gi,FB,DJ,FC,Gj,Gl,Gm,zY,gd1,hd1,gd2,hd2,gd3,hd3,gd4,hd4,gd5,hd5,gd6,hd6,Nd1,Nd2,Nd3,SH,Nd5,Nd6,Fd⟩:=iO qm;subst zY;obtain⟨HKd,OJ,Ky,Kz,Hu,KA,OL⟩:=Fd W0 zr;replace kS:=zh kS;clear Fd qm;have hfv:=fun W=>Jf (.string (bY x n).name) (.int .i64 (bY x n).line) (.slice F9 Gf Gg) (.slice Ea Eb Ec) (.slice Ep Es Et) (.slice Gh xB Gi) (.slice FB DJ FC) (.slice Gj Gl Gm) W;have HRg:Hid (∀W,O0 W0 W->W.rangeAt (w.heap.size+1) 0 [.string n.name,.string n.version,.slice zS zT zU,.slice y9 zf zi]):=fun W hW i u hu=>by
  obtain⟨-,-,k2,k3,k4,k5,-⟩:=aF.out W hW
  match i,hu with
  |0,hu=>simp at hu;subst hu;exact k2
  |1,hu=>simp at hu;subst hu;exact k3
  |2,hu=>simp at hu;subst hu;exact k4
  |3,hu=>simp at hu;subst hu;exact k5
  |i+4,hu=>simp at hu
 obtain⟨k0,k1,k2,k3,k4,k5,k6,k7,k8,k9⟩:=aF.out W0 zr;have hW0':=hW0.symm;clear hW0;go_enter Tryz.func143,Tryz.ntmps143;go_wp2_with fail;clear hW0' k0 k1 k2 k3 k4 k5 k6 k7 k8 k9;refine(kS.out W0 zr).mono ?_;rintro e w1 ⟨rfl,O1⟩;have fQ:=zh O1;clear O1 kS;go_wp2_with fail;clear hfv;go_loopw [15] (fun vk iJ=>Hid (O0 W0 iJ)/\∃k:Nat,vk= .int .i64 k/\k<=xB/\Hid (((bY x n).deps.take k).any (fun d:Aj=>jr n d.cond&&(intsOf (x.targets d.on.name)).contains (x.find o.name))=false)) (fun v _=>xB-(RowKit.intOf v).toNat);case atStart=>exact⟨fQ,0,rfl,qE _,show Hid _ from rfl⟩
 case round=>
  obtain⟨iJ,rfl⟩:=zB wr;clear fQ;obtain⟨kU,k,rfl,hk,EG⟩:=hrel;obtain⟨k0,k1,k2,k3,k4,k5,k6,k7,k8,k9⟩:=aF.out iJ kU.out;by_cases ck:k<xB
  ·have iE:=zw (k+1);obtain⟨yz,hxz⟩:=zG ((bY x n).deps) k zCX;obtain⟨JD,vP,vW,vX,vY,wS,wU,wV,sU,sV,sW,sD,ru,sF,qc,wC,EP,ER,Eh,AX,He,NC,jM⟩:=Aq (Hu.out W0 zr) hxz;first|subst qc| (simp only[qG,qO,and_true]at qc;obtain⟨rfl,rfl⟩:=qc)
   have jd:=zh jM;have vS:=zh hxz;clear jM hxz wC EP ER Eh;have JQ:Hid (∀W,O0 W0 W->aS 2 fE B W (.slice sU sV sW) yz.cond.spans):=fun W ho=>(jd.out W ho).2.2.2.1;have Gx:Hid (∀W,O0 W0 W->aS 2 dO B W (.slice sD ru sF) yz.cond.sets):=fun W ho=>(jd.out W ho).2.2.2.2.1;obtain⟨hb,hhb⟩:=ze (jr n yz.cond);obtain⟨tb,htb⟩:=ze ((intsOf (x.targets yz.on.name)).contains (x.find o.name));have HW:Hid ((jr n yz.cond&&(intsOf (x.targets yz.on.name)).contains (x.find o.name))=(hb&&tb)):=by rw[Hid,hhb,htb]
   have HH:Hid (∀W,O0 W0 W->Calls Tryz.prog 140 #[.agg #[.string n.name,.string n.version,.slice zS zT zU,.slice y9 zf zi],.agg #[.string yz.cond.name,.slice sU sV sW,.slice sD ru sF]] W fun e w'=>e= .returned (.bool hb)/\O0 W w'):=fun W hW=>by rw[<-hhb];exact Fh (ajp.out W hW) (⟨_,_,rfl,He,JQ.out W hW,Gx.out W hW⟩:dJ B W [.string yz.cond.name,.slice sU sV sW,.slice sD ru sF] yz.cond)
   clear hhb;go_wp2_with fail;clear k0 k1 k2 k3 k4 k5 k6 k7 k8 k9;cases hb with
   |false=>
    refine aU (fun w'=>O0 W0 w') zk zk (by exact(kU.out).drew) ?_;refine bM (b:=w.heap.size+1) (off:=0) (by rfl) rfl rfl (fun w hSw=>HRg.out w hSw) Tryz.underlying83 rfl zk ?_;try simp only[Act.put,fA,fD,fB,dW,dX,dY]
    iterate 4 refine qV ?_
    refine bM (by rfl) rfl rfl (fun w hSw=>(kN (cs0:=[.string yz.on.name,.slice vW vX vY,.slice wS wU wV]) (cs:=[.string yz.cond.name,.slice sU sV sW,.slice sD ru sF]) (ds:=[.int .i64 yz.line]) (jd.out w hSw).1)) Tryz.underlying108 rfl zk ?_;try simp only[Act.put,fA,fD,fB,dW,dX,dY]
    refine bF (v:=.bool false) (f:=140) (args:= #[.agg #[.string n.name,.string n.version,.slice zS zT zU,.slice y9 zf zi],.agg #[.string yz.cond.name,.slice sU sV sW,.slice sD ru sF]]) (by rfl) ?_ ?_ ?_;·exact zDQ
    ·exact zD6
    try simp only[Act.put,fA,fD,fB,dW,dX,dY]
    refine qV ?_;iterate 13 refine qS ?_
    refine qV ?_;refine wpQuiet_nil ?_;(intro w9 dR;have fK:=zh dR;clear dR);exact zFG
   |true=>
    rw[yR]at HW;obtain⟨fo,hfo⟩:=ze (x.find o.name);rw[hfo]at htb;have HF:Hid (∀W,O0 W0 W->Calls Tryz.prog 38 #[.agg #[.slice aP ak aJ,.slice aO aG aH],.string o.name] W fun e w'=>e= .returned (.int .i64 fo)/\O0 W w'):=fun W hW=>by rw[<-hfo];exact lI (eX.out W hW) _
    have Rq:Hid (∀W,O0 W0 W->Calls Tryz.prog 146 #[.agg #[.slice aP ak aJ,.slice aO aG aH],.string yz.on.name] W fun e w'=> ∃v,e= .returned v/\Ints w' v (intsOf (x.targets yz.on.name))/\O0 W w'):=fun W hW=>wO (eX.out W hW) hlen _;have L9:Hid (∀W v,Ints W v (intsOf (x.targets yz.on.name))->Calls Tryz.prog 39 #[v,.int .i64 fo] W fun e w'=>e= .returned (.bool tb)/\O0 W w'):=fun W v hv=>by rw[<-htb];exact MV hv _
    clear htb hfo;refine dn (n:=22) (E:=fun _=>false) (S:=fun W=>O0 W0 W) zk rfl (by exact(kU.out).drew) (fun hHeld=>?_);refine tK 0 ?_ (hy:=by(intro w hSw;obtain⟨k0,k1,k2,k3,k4,k5,k6,k7,k8,k9⟩:=aF.out w hSw;have hrz:=(jd.out w hSw).1;have nY:=hrz 0 _ rfl;rw[qF]at nY;clear hrz;exact oz rfl rfl (HRg.out w hSw) Tryz.underlying83 rfl zk));refine tW 1 ?_;refine tW 2 ?_;refine tW 3 ?_;refine tW 4 ?_;refine tK 5 ?_ (hy:=by(intro w hSw;obtain⟨k0,k1,k2,k3,k4,k5,k6,k7,k8,k9⟩:=aF.out w hSw;have hrz:=(jd.out w hSw).1;have nY:=hrz 0 _ rfl;rw[qF]at nY;clear hrz;exact oz rfl rfl ((kN (cs0:=[.string yz.on.name,.slice vW vX vY,.slice wS wU wV]) (cs:=[.string yz.cond.name,.slice sU sV sW,.slice sD ru sF]) (ds:=[.int .i64 yz.line]) (jd.out w hSw).1)) Tryz.underlying108 rfl zk));refine tO 6 fun K hK=>?_;(go_simp;refine(HH.out _ hHeld).mono ?_;rintro e w4 ⟨rfl,o4⟩;try go_wp2_with fail);refine hK.out _ _ ?_ (fun hHeld=>?_);·(try dsimp only)<;>(exact Only.same hHeld o4)
    clear hK K;try simp only[Act.put,fA,fD,fB,dW,dX,dY]
    refine tW 7 ?_;refine tK 8 ?_ (hy:=zAd);refine tW 9 ?_;refine tW 10 ?_;refine tW 11 ?_;refine tW 12 ?_;refine tW 13 ?_;refine tK 14 ?_ (hy:=zAd);refine tK 16 ?_ (hy:=zAd);refine tW 17 ?_;refine tK 18 ?_ (hy:=zAd);refine tO 15 fun K hK=>?_;(go_simp;refine(Rq.out _ hHeld).mono ?_;rintro e w5 ⟨vt,rfl,hI,o5⟩;try go_wp2_with fail);refine hK.out _ _ ?_ (fun hHeld=>?_);·exact zD8
    clear hK K;try simp only[Act.put,fA,fD,fB,dW,dX,dY]
    refine tO 19 fun K hK=>?_;(go_simp;refine(HF.out _ hHeld).mono ?_;rintro e w6 ⟨rfl,o6⟩;try replace hI:=hI.dK o6;try go_wp2_with fail);refine hK.out _ _ ?_ (fun hHeld=>?_);·exact zFQ
    clear hK K;try simp only[Act.put,fA,fD,fB,dW,dX,dY]
    refine tO 20 fun K hK=>?_;(go_simp;refine(L9.out _ _ hI).mono ?_;rintro e w7 ⟨rfl,o7⟩;try go_wp2_with fail);refine hK.out _ _ ?_ (fun hHeld=>?_);·(try dsimp only)<;>(exact Only.same hHeld o7)
    clear hK K;try simp only[Act.put,fA,fD,fB,dW,dX,dY]
    refine tW 21 ?_;refine bV zk ?_ _;have fK:=zh hHeld;clear hHeld Rq L9 HF HH;obtain⟨k0,k1,k2,k3,k4,k5,k6,k7,k8,k9⟩:=aF.out _ fK.out;cases tb with
    |true=>
     obtain rfl:r=true:=by rw[<-DF.out];unfold wP;exact yU.2 ⟨yz,qT vS.out,HW.out⟩
     exact zDk
    |false=>exact zFG
  obtain rfl:xB=k:=by omega
  have h2:=EG.out;rw[qI (yG SH.out)]at h2;obtain rfl:r=false:=by rw[<-DF.out];unfold wP;exact h2
  go_wp2_with fail;go_ret;exact⟨rfl,aV.out.same kU.out⟩
end
end Go.Proofs.YtdmmebjjojimiaaGreatDoor
