/- The document's graphs, exact: rules, asked. Printed by gen_gr7.py. -/
import Derived.Test.YtdmmebjjojimiaaGreatDoorG24
set_option maxRecDepth 100000
set_option maxHeartbeats 8000000
set_option linter.all false
namespace Go.Proofs
theorem zAE{p:Prop}(h:p:=by(intro w hSw;(try dsimp only at hSw);obtain⟨k0,k1,k2,k3⟩:=aF.out w (aI.out.same hSw);have hrz:=(jd.out w hSw).1;have nY:=hrz 0 _ rfl;rw[qF]at nY;clear hrz;go_simp<;>(try with_reducible rfl))):p:=h
theorem zAV{p:Prop}(h:p:=by(intro w hSw;(try dsimp only at hSw);obtain⟨k0,k1,k2,k3⟩:=aF.out w hSw;have hrz:=(jd.out w hSw).1;have nY:=hrz 0 _ rfl;rw[qF]at nY;clear hrz;go_simp<;>(try with_reducible rfl))):p:=h
theorem zBC{p:Prop}(h:p:=by(intro w hSw;(try dsimp only at hSw);obtain⟨k0,k1,k2,k3⟩:=aF.out w (aI.out.same hSw);go_simp<;>(try with_reducible rfl))):p:=h
theorem zBj{p:Prop}(h:p:=by rw[hW];simp):p:=h
theorem zCI{p:Prop}(h:p:=by rw[show uy x q g=some yr.spec.name from OM QJ.out HQ.out (by rw[hW];rfl)];rfl):p:=h
theorem zCX{p:Prop}(h:p:=by rw[SH.out];omega):p:=h
theorem zCa{p:Prop}(h:p:=by rw[<-List.drop_eq_getElem_cons hlt,List.take_append_drop]):p:=h
theorem zDX{p:Prop}(h:p:=by
 refine cO (p:=6) rfl rfl rfl (run_loadVar_row _ _ _ _ _ (0,0) _ (setRow_heap _ _ _ _ _ _ (iM.out Fv kZ.out)) Tryz.underlying38 rfl zk) ?_
 exact⟨rfl,(aV.out.same (aI.out.same kZ.out)).trans (aK _ _ _) fun k hk=>.inr zAO⟩):p:=h
theorem zDj{p:Prop}(h:p:=by(intro w hSw;exact(HF.out w hSw).mono fun _ _ ⟨he,ho⟩=>⟨he,hSw.same ho⟩)):p:=h
theorem zDz{p:Prop}(h:p:=by
 refine wpQuiet_nil ?_
 (intro w9 dR;have jZ:=zh dR;clear dR)
 have FD:Hid (((bY x yn).deps.take (k+1)).any (Ze x g yn)=false):=zh (eY vS.out EG.out zBj)
 go_wp2_with fail
 go_roundw
 case rel=>exact⟨jZ,k+1,by first|rfl|go_num,by omega,FD⟩
 case measure=>simp[RowKit.intOf]<;>omega):p:=h
theorem zD1{p:Prop}(h:p:=by
 go_wp2_with fail
 go_roundw
 case rel=>exact⟨jZ,i+1,by first|rfl|go_num,by omega,pI⟩
 case measure=>simp[RowKit.intOf]<;>omega):p:=h
theorem zD6{p:Prop}(h:p:=by(intro w hSw;exact(HH.out w hSw).mono fun _ _ ⟨he,ho⟩=>⟨he,hSw.same ho⟩)):p:=h
theorem zED{p:Prop}(h:p:=by
 go_wp2_with fail
 go_roundw
 case rel=>exact⟨fK,k+1,by first|rfl|go_num,by omega,FD⟩
 case measure=>simp[RowKit.intOf]<;>omega):p:=h
theorem zET{p:Prop}(h:p:=by(intro w hSw;exact(HM.out w hSw).mono fun _ _ ⟨he,ho⟩=>⟨he,hSw.same ho⟩)):p:=h
theorem zFE{p:Prop}(h:p:=by
 refine cO (p:=6) rfl rfl rfl (run_loadVar_row _ _ _ _ _ (0,0) _ (setRow_heap _ _ _ _ _ _ (iM.out bD jD.out)) Tryz.underlying38 rfl zk) ?_
 exact⟨rfl,(aV.out.same (aI.out.same jD.out)).trans (aK _ _ _) fun k hk=>.inr zAO⟩):p:=h
theorem zFW{p:Prop}(h:p:=by
 refine qV ?_
 refine wpQuiet_nil ?_
 (intro w9 dR;have fK:=zh dR;clear dR)
 have FD:Hid (((bY x yn).deps.take (k+1)).any (U4 yn s)=false):=zh (eY vS.out EG.out zBj)
 exact zED):p:=h
theorem zFs{p:Prop}(h:p:=by
 have h:=En.out.found i zAp
 rw[jU uJ.out]at h
 exact h):p:=h
theorem zGS{p:Prop}(h:p:=by
 have pI:Hid ((q.roots.take (i+1)).any (xW x g)=false):=zh (eY QJ.out HQ.out (by rw[hW];rfl))
 exact zD1):p:=h
theorem zHB{p:Prop}(h:p:=by
 have b1:=aA Am.out hW (fun f=>f)
 exact zEt):p:=h
end Go.Proofs
namespace Go.Proofs.YtdmmebjjojimiaaGreatDoor
open Go.RowKit
section
variable {w w':World} {B:Nat}
attribute [local irreducible] wpQuiet
theorem qo{w:World}{b o:Nat}{cs ds:List Value}(h:w.rangeAt b o (cs++ds)):w.rangeAt b o cs:=fun i u hu=>h i u (by
 have:=(qJ.1 hu).1
 rw[yM this];exact hu)
theorem kN{w:World}{b o:Nat}{cs0 cs ds:List Value}(h:w.rangeAt b o (cs0++(cs++ds))):w.rangeAt b (o+cs0.length) cs:=fun i u hu=>by
 have hi:=(qJ.1 hu).1
 have:=h (cs0.length+i) u (by rw[yN zAA,Nat.add_sub_cancel_left,yM hi];exact hu)
 rw[Nat.add_assoc];exact this
def Ze(x:aQ)(g:List aC)(n:aC)(d:Aj):Bool:=jr n d.cond&&(decide (0<=x.find d.on.name)&& !Bd g d.on)
theorem Xo(x:aQ)(g:List aC)(n:aC):BQ x g n=(bY x n).deps.any (Ze x g n):=by unfold BQ mQ;rw[List.any_map,List.any_filter];rfl
theorem OM{x:aQ}{q:dD}{g:List aC}{i:Nat}{r:tN}(hr:q.roots[i]? =some r)(h0:(q.roots.take i).any (xW x g)=false)(h:xW x g r=true):uy x q g=some r.spec.name:=by obtain⟨hlt,rfl⟩:=qJ.1 hr;have e:q.roots.find? (xW x g)=(q.roots.take i++q.roots[i]::q.roots.drop (i+1)).find? (xW x g):=zCa;unfold uy;rw[e,List.find?_append,List.find?_eq_none.2 (fun d hd=>by rw[List.any_eq_false.1 h0 d hd|>Bool.eq_false_iff.2];simp),Option.none_or,List.find?_cons_of_pos h];rfl
theorem OO{x:aQ}{q:dD}{g:List aC}(h0:q.roots.any (xW x g)=false):uy x q g=none:=by unfold uy;rw[List.find?_eq_none.2 (fun d hd=>List.any_eq_false.1 h0 d hd)];rfl
theorem ab3{lC:List Value}{x:aQ}(hx:fO B w lC x){Ba:List Value}{q:dD}(hq:mg B w Ba q){CS:List Value}{g:List aC}(hg:rU B w CS g)(hNm:Named x g):Calls Tryz.prog 61 #[.agg lC.toArray,.agg Ba.toArray,.agg CS.toArray] w fun e w'=>iY (dB [(4,uy x q g),(5,aX g fun _ n=>BQ x g n)]) w w' e:=by
 obtain⟨aP,ak,aJ,aO,aG,aH,rfl,fF,fG,dP,dQ,aB,bJ,mY⟩:=open_rec hx;clear hx;try rw[aB.out]
 obtain⟨dw,aY,dA,rfl,oU,oV,bQ,E8⟩:=lM hq;clear hq;try rw[bQ.out]
 obtain⟨dI,ay,dh,rfl,rC,rD,bG,Jd⟩:=nH hg;clear hg;try rw[bG.out]
 obtain⟨W0,hW0,aV,jK,aF⟩:=zO w (.slice aP ak aJ) (.slice aO aG aH) (.slice dw aY dA) (.slice dI ay dh) 25 28 31;obtain⟨eX,bK,bT⟩:=mY W0 aV.out;clear mY;obtain⟨zL,gu⟩:=E8 W0 aV.out;clear E8;obtain⟨Bg,dU⟩:=Jd W0 aV.out;clear Jd;have En:=zh hNm;obtain⟨rc,rs,hr⟩:∃c s,dB [(4,uy x q g),(5,aX g fun _ n=>BQ x g n)]=(c,s):=⟨_,_,rfl⟩;have aZ:=zh hr;rw[hr];unfold iY;dsimp only;obtain⟨W1,hW1⟩:=ze (W0.alloc (.cells #[.int .u8 0,.string ⟨#[]⟩] 38));have aI:Hid (O0 W0 W1):=zAc;have iM:Hid (∀W,O0 W1 W->W.heap[W0.heap.size]? =some (.cells #[.int .u8 0,.string ⟨#[]⟩] 38 (0,0))):=fun W ho=>by exact zDt
 have wZ:Hid (O0 W1 W1):=Only.refl _ _;clear hr;obtain⟨k0,k1,k2,k3⟩:=aF.out W1 (aI.out.same wZ.out);have hW0':=hW0.symm;clear hW0;go_enter Tryz.func61,Tryz.ntmps61;go_wp2_with fail;clear hW1 hW0' k0 k1 k2 k3;have fQ:=wZ;go_loopw [15] (fun vi bD=>Hid (O0 W1 bD)/\∃i:Nat,vi= .int .i64 i/\i<=aY/\Hid ((q.roots.take i).any (xW x g)=false)) (fun v _=>aY-(RowKit.intOf v).toNat);case atStart=>exact⟨fQ,0,rfl,qE _,show Hid _ from rfl⟩
 case round=>
  obtain⟨bD,rfl⟩:=zB wr;clear fQ;obtain⟨jD,i,rfl,hi,HQ⟩:=hrel;obtain⟨k0,k1,k2,k3⟩:=aF.out bD (aI.out.same jD.out);by_cases ci:i<aY
  ·have iE:=zw (i+1);obtain⟨yr,hxr⟩:=zG q.roots i zBE;obtain⟨bkr,Ou,Ew,Ey,Ez,EC,ED,EF,her,Fe,Fg,Ov,Y8,zM⟩:=pU (gu.out W0 zr) hxr;first|subst her| (simp only[qG,qO,and_true]at her;obtain⟨rfl,rfl⟩:=her)
   have GL:=zh zM;have QJ:=zh hxr;clear zM hxr Fe Fg;have abH:Hid (∀W,O0 W0 W->aS 2 fE B W (.slice Ew Ey Ez) yr.spec.spans):=fun W ho=>(GL.out W ho).2.1;have abI:Hid (∀W,O0 W0 W->aS 2 dO B W (.slice EC ED EF) yr.spec.sets):=fun W ho=>(GL.out W ho).2.2.1;obtain⟨f,hf⟩:=ze (x.find yr.spec.name);obtain⟨mb,hmb⟩:=ze (Bd g yr.spec);have hW:xW x g yr=(decide (0<=f)&& !mb):=by unfold xW;rw[hf,hmb]
   have HF:Hid (∀W,O0 W1 W->Calls Tryz.prog 38 #[.agg #[.slice aP ak aJ,.slice aO aG aH],.string yr.spec.name] W fun e w'=>e= .returned (.int .i64 f)/\O0 W w'):=fun W hW=>by rw[<-hf];exact lI (eX.out W (aI.out.same hW)) _
   have HM:Hid (∀W,O0 W1 W->Calls Tryz.prog 139 #[.agg #[.slice dI ay dh],.agg #[.string yr.spec.name,.slice Ew Ey Ez,.slice EC ED EF]] W fun e w'=>e= .returned (.bool mb)/\O0 W w'):=fun W hW=>by rw[<-hmb];exact U1 (Bg.out W (aI.out.same hW)) (⟨_,_,rfl,Ov,abH.out W (aI.out.same hW),abI.out W (aI.out.same hW)⟩:dJ B W [.string yr.spec.name,.slice Ew Ey Ez,.slice EC ED EF] yr.spec)
   have hrow:=zh (qo (cs:=[.string yr.spec.name,.slice Ew Ey Ez,.slice EC ED EF]) (ds:=[.int .i64 yr.line]) (GL.out bD (aI.out.same jD.out)).1);have Na:Hid ((bD.alloc (.cells #[.string ⟨#[]⟩,.slice none 0 0,.slice none 0 0] 108)).heap[bD.heap.size]? =some (.cells #[.string ⟨#[]⟩,.slice none 0 0,.slice none 0 0] 108)):=qL bD _;obtain⟨tJ,vV⟩:=ze ((bD.alloc (.cells #[.string ⟨#[]⟩,.slice none 0 0,.slice none 0 0] 108)).setRow bD.heap.size #[.string yr.spec.name,.slice Ew Ey Ez,.slice EC ED EF]);have Am:Hid (tJ.heap[bD.heap.size]? =some (.cells #[.string yr.spec.name,.slice Ew Ey Ez,.slice EC ED EF] 108 (0,0))):=by rw[<-vV];exact setRow_heap _ _ _ _ _ _ Na.out
   have iP:Hid (O0 W1 tJ):=zCz;have CP:Hid (∀W,O0 tJ W->W.cell? ⟨bD.heap.size,0,none⟩=some (.string yr.spec.name)/\W.cell? ⟨bD.heap.size,1,none⟩=some (.slice Ew Ey Ez)/\W.cell? ⟨bD.heap.size,2,none⟩=some (.slice EC ED EF)):=fun W hW=>by exact zHB
   clear hf hmb;obtain⟨k0,k1,k2,k3⟩:=aF.out tJ (aI.out.same iP.out);obtain⟨n0,n1,n2⟩:=CP.out tJ zr;go_wp2_with (first
    | (refine wpList_load_mid rfl 108 (.tmp 22) rfl bkr (Ou+i*4) rfl _ _ hrow.out Tryz.underlying108 rfl zk ?_)
    | (refine wpList_store_row rfl 108 (.tmp 8) (.tmp 23) rfl bD.heap.size #[.string yr.spec.name,.slice Ew Ey Ez,.slice EC ED EF] rfl rfl 108 #[.string ⟨#[]⟩,.slice none 0 0,.slice none 0 0] Na.out zk rfl zk ?_))
   clear hrow Na vV Am n0 n1 n2 k0 k1 k2 k3;refine(HF.out tJ iP.out).mono ?_;rintro e w21 ⟨rfl,O21⟩;have ag4:=zh (iP.out.same O21);obtain⟨n0,n1,n2⟩:=CP.out w21 O21;have ajA:=zh O21;clear O21;obtain⟨k0,k1,k2,k3⟩:=aF.out w21 (aI.out.same ag4.out);by_cases h0:0<=f
   ·have d0:decide (0<=f)=true:=qX h0;rw[d0,yR]at hW;go_wp2_with fail;refine(HM.out w21 ag4.out).mono ?_;rintro e w22 ⟨rfl,O22⟩;have jZ:=zh (ag4.out.same O22);obtain⟨n0,n1,n2⟩:=CP.out w22 (ajA.out.same O22);clear O22;cases mb with
    |false=>
     obtain⟨rfl,rfl⟩:rc=4/\rs=yr.spec.name:=by have h:dB [(4,uy x q g),(5,aX g fun _ n=>BQ x g n)]=(4,yr.spec.name):=zCI;exact zFB
     go_wp2_with fail;refine(jX (w:=w22) _ _).mono ?_;rintro e Fv ⟨rfl,Fz⟩;have kZ:=zh ((jZ.out).same Fz);clear Fz;go_wp2_with (refine wpList_store_row rfl 38 (.tmp 6) (.tmp 37) rfl W0.heap.size #[.int .u8 4,.string yr.spec.name] rfl rfl 38 #[.int .u8 0,.string ⟨#[]⟩] (iM.out Fv kZ.out) zk rfl zk ?_);exact zDX
    |true=>exact zGS
   have d0:decide (0<=f)=false:=qP h0;rw[d0,yQ]at hW;have pI:Hid ((q.roots.take (i+1)).any (xW x g)=false):=zh (eY QJ.out HQ.out hW);go_wp2_with fail;go_roundw;case rel=>exact⟨ag4,i+1,by first|rfl|go_num,by omega,pI⟩
   case measure=>simp[RowKit.intOf]<;>omega
  obtain rfl:aY=i:=by omega
  have Io:Hid (uy x q g=none):=OO (by
   have h:=HQ.out
   rw[qI (yG bQ.out)]at h
   exact h)
  have fQ:=jD;clear HQ;obtain⟨k0,k1,k2,k3⟩:=aF.out bD (aI.out.same jD.out);go_wp2_with fail;clear k0 k1 k2 k3;go_loopw [42] (fun vi bD=>Hid (O0 W1 bD)/\∃i:Nat,vi= .int .i64 i/\i<=ay/\Hid (∀j,j<i->BQ x g (nodeAt g j)=false)) (fun v _=>ay-(RowKit.intOf v).toNat);case atStart=>exact⟨fQ,0,rfl,qE _,show Hid _ from fun j hj=>by omega⟩
  case round=>
   obtain⟨bD,rfl⟩:=zB wr;clear fQ;obtain⟨jD,i,rfl,hi,HQ⟩:=hrel;by_cases ci:i<ay
   ·have iE:=zw (i+1);obtain⟨yn,hxn⟩:=zG g i zAp;obtain⟨Kv,wI,nR,nU,nV,mV,lD,mP,hen,lY,lG,Fp,Eo,jO⟩:=jf (dU.out W0 zr) hxn;first|subst hen| (simp only[qG,qO,and_true]at hen;obtain⟨rfl,rfl⟩:=hen)
    have jg:=zh jO;have uJ:=zh hxn;clear jO hxn lY lG;have vG:Hid (∀W,O0 W0 W->dH B W [.string yn.name,.string yn.version,.slice nR nU nV,.slice mV lD mP] yn):=fun W ho=>(jg.out W ho).2.2.2;have hfd:0<=x.find yn.name:=by exact zFs
    obtain⟨OI,qm,kS⟩:=zX (eX.out W1 aI.out) (vG.out W1 aI.out) hfd;obtain⟨F9,Gf,Gg,Ea,Eb,Ec,Ep,Es,Et,Gh,xB,Gi,FB,DJ,FC,Gj,Gl,Gm,zY,gd1,hd1,gd2,hd2,gd3,hd3,gd4,hd4,gd5,hd5,gd6,hd6,Nd1,Nd2,Nd3,SH,Nd5,Nd6,Fd⟩:=iO qm;subst zY;obtain⟨HKd,OJ,Ky,Kz,Hu,KA,OL⟩:=Fd W1 zr;replace kS:=zh kS;clear Fd qm;have hfv:=fun W=>Jf (.string (bY x yn).name) (.int .i64 (bY x yn).line) (.slice F9 Gf Gg) (.slice Ea Eb Ec) (.slice Ep Es Et) (.slice Gh xB Gi) (.slice FB DJ FC) (.slice Gj Gl Gm) W;go_wp2_with fail;clear k0 k1 k2 k3;refine aU (fun w'=>O0 W1 w') zk zk (by exact(jD.out).drew) ?_;refine qV ?_ (hy:=zBC);refine qV ?_;refine qV ?_ (hy:=zBC);iterate 2 refine qV ?_
    refine bM (by rfl) rfl rfl (fun w hSw=>(jg.out w (aI.out.same hSw)).1) Tryz.underlying83 rfl zk ?_;try simp only[Act.put,fA,fD,fB,dW,dX,dY]
    refine bF (v:=.agg #[.string (bY x yn).name,.int .i64 (bY x yn).line,.slice F9 Gf Gg,.slice Ea Eb Ec,.slice Ep Es Et,.slice Gh xB Gi,.slice FB DJ FC,.slice Gj Gl Gm]) (f:=137) (args:= #[.agg #[.slice aP ak aJ,.slice aO aG aH],.agg #[.string yn.name,.string yn.version,.slice nR nU nV,.slice mV lD mP]]) (by rfl) ?_ ?_ ?_;·exact zDQ
    ·exact zEI
    try simp only[Act.put,fA,fD,fB,dW,dX,dY]
    refine qV ?_ (hy:=zBC);refine qV ?_;refine wpQuiet_nil ?_;(intro w9 dR;have jZ:=zh dR;clear dR);clear hfv;have fQ:=jZ;go_wp2_with fail;go_loopw [55] (fun vk iJ=>Hid (O0 W1 iJ)/\∃k:Nat,vk= .int .i64 k/\k<=xB/\Hid (((bY x yn).deps.take k).any (Ze x g yn)=false)) (fun v _=>xB-(RowKit.intOf v).toNat);case atStart=>exact⟨fQ,0,rfl,qE _,show Hid _ from rfl⟩
    case round=>
     obtain⟨iJ,rfl⟩:=zB wr;clear fQ;obtain⟨tu,k,rfl,hk,EG⟩:=hrel;obtain⟨k0,k1,k2,k3⟩:=aF.out iJ (aI.out.same tu.out);by_cases ck:k<xB
     ·have iE:=zw (k+1);obtain⟨yz,hxz⟩:=zG ((bY x yn).deps) k zCX;obtain⟨JD,vP,vW,vX,vY,wS,wU,wV,sU,sV,sW,sD,ru,sF,qc,wC,EP,ER,Eh,AX,He,NC,jM⟩:=Aq (Hu.out W1 zr) hxz;first|subst qc| (simp only[qG,qO,and_true]at qc;obtain⟨rfl,rfl⟩:=qc)
      have jd:=zh jM;have vS:=zh hxz;clear jM hxz wC EP ER Eh;have Yo:Hid (∀W,O0 W1 W->aS 2 fE B W (.slice vW vX vY) yz.on.spans):=fun W ho=>(jd.out W ho).2.1;have TQ:Hid (∀W,O0 W1 W->aS 2 dO B W (.slice wS wU wV) yz.on.sets):=fun W ho=>(jd.out W ho).2.2.1;have JQ:Hid (∀W,O0 W1 W->aS 2 fE B W (.slice sU sV sW) yz.cond.spans):=fun W ho=>(jd.out W ho).2.2.2.1;have Gx:Hid (∀W,O0 W1 W->aS 2 dO B W (.slice sD ru sF) yz.cond.sets):=fun W ho=>(jd.out W ho).2.2.2.2.1;obtain⟨hb,hhb⟩:=ze (jr yn yz.cond);obtain⟨f,hf⟩:=ze (x.find yz.on.name);obtain⟨mb,hmb⟩:=ze (Bd g yz.on);have hW:Ze x g yn yz=(hb&&(decide (0<=f)&& !mb)):=by unfold Ze;rw[hhb,hf,hmb]
      have HH:Hid (∀W,O0 W1 W->Calls Tryz.prog 140 #[.agg #[.string yn.name,.string yn.version,.slice nR nU nV,.slice mV lD mP],.agg #[.string yz.cond.name,.slice sU sV sW,.slice sD ru sF]] W fun e w'=>e= .returned (.bool hb)/\O0 W w'):=fun W hW=>by rw[<-hhb];exact Fh (vG.out W (aI.out.same hW)) (⟨_,_,rfl,He,JQ.out W hW,Gx.out W hW⟩:dJ B W [.string yz.cond.name,.slice sU sV sW,.slice sD ru sF] yz.cond)
      have HF:Hid (∀W,O0 W1 W->Calls Tryz.prog 38 #[.agg #[.slice aP ak aJ,.slice aO aG aH],.string yz.on.name] W fun e w'=>e= .returned (.int .i64 f)/\O0 W w'):=fun W hW=>by rw[<-hf];exact lI (eX.out W (aI.out.same hW)) _
      have HM:Hid (∀W,O0 W1 W->Calls Tryz.prog 139 #[.agg #[.slice (some ⟨Kv,wI,none⟩) ay dh],.agg #[.string yz.on.name,.slice vW vX vY,.slice wS wU wV]] W fun e w'=>e= .returned (.bool mb)/\O0 W w'):=fun W hW=>by rw[<-hmb];exact U1 (Bg.out W (aI.out.same hW)) (⟨_,_,rfl,AX,Yo.out W hW,TQ.out W hW⟩:dJ B W [.string yz.on.name,.slice vW vX vY,.slice wS wU wV] yz.on)
      clear hhb hf hmb;go_wp2_with fail;clear k0 k1 k2 k3;cases hb with
      |false=>
       refine aU (fun w'=>O0 W1 w') zk zk (by exact(tu.out).drew) ?_;refine qV ?_;refine qV ?_ (hy:=zAE);iterate 2 refine qV ?_
       refine bM (by rfl) rfl rfl (fun w hSw=>(jg.out w (aI.out.same hSw)).1) Tryz.underlying83 rfl zk ?_;try simp only[Act.put,fA,fD,fB,dW,dX,dY]
       iterate 4 refine qV ?_
       refine bM (by rfl) rfl rfl (fun w hSw=>(kN (cs0:=[.string yz.on.name,.slice vW vX vY,.slice wS wU wV]) (cs:=[.string yz.cond.name,.slice sU sV sW,.slice sD ru sF]) (ds:=[.int .i64 yz.line]) (jd.out w hSw).1)) Tryz.underlying108 rfl zk ?_;try simp only[Act.put,fA,fD,fB,dW,dX,dY]
       refine bF (v:=.bool false) (f:=140) (args:= #[.agg #[.string yn.name,.string yn.version,.slice nR nU nV,.slice mV lD mP],.agg #[.string yz.cond.name,.slice sU sV sW,.slice sD ru sF]]) (by rfl) ?_ ?_ ?_;·exact zDQ
       ·exact zD6
       try simp only[Act.put,fA,fD,fB,dW,dX,dY]
       refine qV ?_;iterate 9 refine qS ?_
       iterate 2 refine qV ?_
       iterate 8 refine qS ?_
       refine qV ?_;exact zDz
      |true=>
       by_cases h0:0<=f
       ·have d0:decide (0<=f)=true:=qX h0;rw[d0]at hW;cases mb with
        |true=>
         refine aU (fun w'=>O0 W1 w') zk zk (by exact(tu.out).drew) ?_;refine qV ?_;refine qV ?_ (hy:=zAE);iterate 2 refine qV ?_
         refine bM (by rfl) rfl rfl (fun w hSw=>(jg.out w (aI.out.same hSw)).1) Tryz.underlying83 rfl zk ?_;try simp only[Act.put,fA,fD,fB,dW,dX,dY]
         iterate 4 refine qV ?_
         refine bM (by rfl) rfl rfl (fun w hSw=>(kN (cs0:=[.string yz.on.name,.slice vW vX vY,.slice wS wU wV]) (cs:=[.string yz.cond.name,.slice sU sV sW,.slice sD ru sF]) (ds:=[.int .i64 yz.line]) (jd.out w hSw).1)) Tryz.underlying108 rfl zk ?_;try simp only[Act.put,fA,fD,fB,dW,dX,dY]
         refine bF (v:=.bool true) (f:=140) (args:= #[.agg #[.string yn.name,.string yn.version,.slice nR nU nV,.slice mV lD mP],.agg #[.string yz.cond.name,.slice sU sV sW,.slice sD ru sF]]) (by rfl) ?_ ?_ ?_;·exact zDQ
         ·exact zD6
         try simp only[Act.put,fA,fD,fB,dW,dX,dY]
         refine qV ?_;refine qV ?_ (hy:=zAE);iterate 5 refine qV ?_
         refine qV ?_ (hy:=zAE);refine bF (v:=.int .i64 f) (f:=38) (args:= #[.agg #[.slice aP ak aJ,.slice aO aG aH],.string yz.on.name]) (by rfl) ?_ ?_ ?_;·exact zDQ
         ·exact zDj
         try simp only[Act.put,fA,fD,fB,dW,dX,dY]
         iterate 3 refine qV ?_
         refine qV ?_ (hy:=zAE);iterate 4 refine qV ?_
         refine bM (by rfl) rfl rfl (fun w hSw=>(qo (cs:=[.string yz.on.name,.slice vW vX vY,.slice wS wU wV]) (ds:=[.string yz.cond.name,.slice sU sV sW,.slice sD ru sF,.int .i64 yz.line]) (jd.out w hSw).1)) Tryz.underlying108 rfl zk ?_;try simp only[Act.put,fA,fD,fB,dW,dX,dY]
         refine bF (v:=.bool true) (f:=139) (args:= #[.agg #[.slice (some ⟨Kv,wI,none⟩) ay dh],.agg #[.string yz.on.name,.slice vW vX vY,.slice wS wU wV]]) (by rfl) ?_ ?_ ?_;·exact zDQ
         ·exact zET
         try simp only[Act.put,fA,fD,fB,dW,dX,dY]
         iterate 2 refine qV ?_
         exact zDz
        |false=>
         refine aU (fun w'=>O0 W1 w') zk zk (by exact(tu.out).drew) ?_;refine qV ?_;refine qV ?_ (hy:=zAE);iterate 2 refine qV ?_
         refine bM (by rfl) rfl rfl (fun w hSw=>(jg.out w (aI.out.same hSw)).1) Tryz.underlying83 rfl zk ?_;try simp only[Act.put,fA,fD,fB,dW,dX,dY]
         iterate 4 refine qV ?_
         refine bM (by rfl) rfl rfl (fun w hSw=>(kN (cs0:=[.string yz.on.name,.slice vW vX vY,.slice wS wU wV]) (cs:=[.string yz.cond.name,.slice sU sV sW,.slice sD ru sF]) (ds:=[.int .i64 yz.line]) (jd.out w hSw).1)) Tryz.underlying108 rfl zk ?_;try simp only[Act.put,fA,fD,fB,dW,dX,dY]
         refine bF (v:=.bool true) (f:=140) (args:= #[.agg #[.string yn.name,.string yn.version,.slice nR nU nV,.slice mV lD mP],.agg #[.string yz.cond.name,.slice sU sV sW,.slice sD ru sF]]) (by rfl) ?_ ?_ ?_;·exact zDQ
         ·exact zD6
         try simp only[Act.put,fA,fD,fB,dW,dX,dY]
         refine qV ?_;refine qV ?_ (hy:=zAE);iterate 5 refine qV ?_
         refine qV ?_ (hy:=zAE);refine bF (v:=.int .i64 f) (f:=38) (args:= #[.agg #[.slice aP ak aJ,.slice aO aG aH],.string yz.on.name]) (by rfl) ?_ ?_ ?_;·exact zDQ
         ·exact zDj
         try simp only[Act.put,fA,fD,fB,dW,dX,dY]
         iterate 3 refine qV ?_
         refine qV ?_ (hy:=zAE);iterate 4 refine qV ?_
         refine bM (by rfl) rfl rfl (fun w hSw=>(qo (cs:=[.string yz.on.name,.slice vW vX vY,.slice wS wU wV]) (ds:=[.string yz.cond.name,.slice sU sV sW,.slice sD ru sF,.int .i64 yz.line]) (jd.out w hSw).1)) Tryz.underlying108 rfl zk ?_;try simp only[Act.put,fA,fD,fB,dW,dX,dY]
         refine bF (v:=.bool false) (f:=139) (args:= #[.agg #[.slice (some ⟨Kv,wI,none⟩) ay dh],.agg #[.string yz.on.name,.slice vW vX vY,.slice wS wU wV]]) (by rfl) ?_ ?_ ?_;·exact zDQ
         ·exact zET
         try simp only[Act.put,fA,fD,fB,dW,dX,dY]
         iterate 2 refine qV ?_
         refine wpQuiet_nil ?_;(intro w9 dR;have jZ:=zh dR;clear dR);obtain⟨k0,k1,k2,k3⟩:=aF.out w9 (aI.out.same jZ.out);have hrn:=(jg.out w9 (aI.out.same jZ.out)).1;have Je:=hrn 0 _ rfl;rw[qF]at Je;clear hrn;obtain⟨rfl,rfl⟩:rc=5/\rs=yn.name:=by
          have h:dB [(4,uy x q g),(5,aX g fun _ n=>BQ x g n)]=(5,yn.name):=by rw[Io.out,show(aX g fun _ n=>BQ x g n)=some yn.name from nJ uJ.out HQ.out (by rw[Xo];exact yU.2 ⟨yz,qT vS.out,by rw[hW];simp⟩)];rfl
          exact zFB
         go_wp2_with fail;refine(jX (w:=w9) _ _).mono ?_;rintro e Fv ⟨rfl,Fz⟩;have kZ:=zh ((jZ.out).same Fz);clear Fz;go_wp2_with (refine wpList_store_row rfl 38 (.tmp 6) (.tmp 96) rfl W0.heap.size #[.int .u8 5,.string yn.name] rfl rfl 38 #[.int .u8 0,.string ⟨#[]⟩] (iM.out Fv kZ.out) zk rfl zk ?_);exact zDX
       have d0:decide (0<=f)=false:=qP h0;rw[d0]at hW;refine aU (fun w'=>O0 W1 w') zk zk (by exact(tu.out).drew) ?_;refine qV ?_;refine qV ?_ (hy:=zAE);iterate 2 refine qV ?_
       refine bM (by rfl) rfl rfl (fun w hSw=>(jg.out w (aI.out.same hSw)).1) Tryz.underlying83 rfl zk ?_;try simp only[Act.put,fA,fD,fB,dW,dX,dY]
       iterate 4 refine qV ?_
       refine bM (by rfl) rfl rfl (fun w hSw=>(kN (cs0:=[.string yz.on.name,.slice vW vX vY,.slice wS wU wV]) (cs:=[.string yz.cond.name,.slice sU sV sW,.slice sD ru sF]) (ds:=[.int .i64 yz.line]) (jd.out w hSw).1)) Tryz.underlying108 rfl zk ?_;try simp only[Act.put,fA,fD,fB,dW,dX,dY]
       refine bF (v:=.bool true) (f:=140) (args:= #[.agg #[.string yn.name,.string yn.version,.slice nR nU nV,.slice mV lD mP],.agg #[.string yz.cond.name,.slice sU sV sW,.slice sD ru sF]]) (by rfl) ?_ ?_ ?_;·exact zDQ
       ·exact zD6
       try simp only[Act.put,fA,fD,fB,dW,dX,dY]
       refine qV ?_;refine qV ?_ (hy:=zAE);iterate 5 refine qV ?_
       refine qV ?_ (hy:=zAE);refine bF (v:=.int .i64 f) (f:=38) (args:= #[.agg #[.slice aP ak aJ,.slice aO aG aH],.string yz.on.name]) (by rfl) ?_ ?_ ?_;·exact zDQ
       ·exact zDj
       try simp only[Act.put,fA,fD,fB,dW,dX,dY]
       iterate 3 refine qV ?_
       iterate 8 refine qS ?_
       refine qV ?_;exact zDz
     obtain rfl:xB=k:=by omega
     have pI:Hid (∀j,j<i+1->BQ x g (nodeAt g j)=false):=zh (kM (p:=fun _ n=>BQ x g n) uJ.out HQ.out (by
      have h:=EG.out
      rw[qI (yG SH.out)]at h
      rw[Xo];exact h))
     go_wp2_with fail;go_roundw;case rel=>exact⟨tu,i+1,by first|rfl|go_num,by omega,pI⟩
     case measure=>simp[RowKit.intOf]<;>omega
   obtain rfl:ay=i:=by omega
   have hq:(aX g fun _ n=>BQ x g n)=none:=kL.2 fun j hj=>HQ.out j zBP;obtain⟨rfl,rfl⟩:rc=0/\rs=ByteArray.empty:=by
    have h:dB [(4,uy x q g),(5,aX g fun _ n=>BQ x g n)]=(0,ByteArray.empty):=by rw[Io.out,hq];rfl
    exact zFB
   go_wp2_with (refine wpList_store_row rfl 38 (.tmp 6) (.tmp 99) rfl W0.heap.size #[.int .u8 0,.string ByteArray.empty] rfl rfl 38 #[.int .u8 0,.string ⟨#[]⟩] (iM.out bD jD.out) zk rfl zk ?_);exact zFE
def U4(n:aC)(s:Str)(d:Aj):Bool:=decide (d.on.name=s)&&jr n d.cond
theorem Hw(x:aQ)(q:dD)(g:List aC)(s:Str):zN x q g s=((q.roots.any fun r=>decide (r.spec.name=s))||g.any fun n=>(bY x n).deps.any (U4 n s)):=by unfold zN mQ;congr 1;congr 1;funext n;rw[List.any_map,List.any_filter];congr 1;funext d;unfold U4;rw[Bool.and_comm];rfl
theorem ab4{lC:List Value}{x:aQ}(hx:fO B w lC x){Ba:List Value}{q:dD}(hq:mg B w Ba q){CS:List Value}{g:List aC}(hg:rU B w CS g)(hNm:Named x g)(s:Str):Calls Tryz.prog 142 #[.agg lC.toArray,.agg Ba.toArray,.agg CS.toArray,.string s] w fun e w'=>e= .returned (.bool (zN x q g s))/\O0 w w':=by
 obtain⟨aP,ak,aJ,aO,aG,aH,rfl,fF,fG,dP,dQ,aB,bJ,mY⟩:=open_rec hx;clear hx;try rw[aB.out]
 obtain⟨dw,aY,dA,rfl,oU,oV,bQ,E8⟩:=lM hq;clear hq;try rw[bQ.out]
 obtain⟨dI,ay,dh,rfl,rC,rD,bG,Jd⟩:=nH hg;clear hg;try rw[bG.out]
 obtain⟨W0,hW0,aV,jK,aF⟩:=zO w (.slice aP ak aJ) (.slice aO aG aH) (.slice dw aY dA) (.slice dI ay dh) 25 28 31;obtain⟨eX,bK,bT⟩:=mY W0 aV.out;clear mY;obtain⟨zL,gu⟩:=E8 W0 aV.out;clear E8;obtain⟨Bg,dU⟩:=Jd W0 aV.out;clear Jd;have En:=zh hNm;obtain⟨r,hr⟩:=ze (zN x q g s);rw[hr];have DF:=zh hr;clear hr;obtain⟨k0,k1,k2,k3⟩:=aF.out W0 zr;have hW0':=hW0.symm;clear hW0;go_enter Tryz.func142,Tryz.ntmps142;go_wp2_with fail;clear hW0' k0 k1 k2 k3;have fQ:Hid (O0 W0 W0):=Only.refl _ _;go_loopw [16] (fun vi bD=>Hid (O0 W0 bD)/\∃i:Nat,vi= .int .i64 i/\i<=aY/\Hid ((q.roots.take i).any (fun r=>decide (r.spec.name=s))=false)) (fun v _=>aY-(RowKit.intOf v).toNat);case atStart=>exact⟨fQ,0,rfl,qE _,show Hid _ from rfl⟩
 case round=>
  obtain⟨bD,rfl⟩:=zB wr;clear fQ;obtain⟨gK,i,rfl,hi,HQ⟩:=hrel;obtain⟨k0,k1,k2,k3⟩:=aF.out bD gK.out;by_cases ci:i<aY
  ·have iE:=zw (i+1);obtain⟨yr,hxr⟩:=zG q.roots i zBE;obtain⟨bkr,Ou,Ew,Ey,Ez,EC,ED,EF,her,Fe,Fg,Ov,Y8,zM⟩:=pU (gu.out W0 zr) hxr;first|subst her| (simp only[qG,qO,and_true]at her;obtain⟨rfl,rfl⟩:=her)
   have GL:=zh zM;have QJ:=zh hxr;clear zM hxr Fe Fg;have hrr:=(GL.out bD gK.out).1;have QK:=hrr 0 _ rfl;rw[qF]at QK;clear hrr;have hbd:=fP yr.spec.name s;obtain⟨bb,hbb⟩:∃b,decide (yr.spec.name=s)=b:=⟨_,rfl⟩;have D6:=zh hbb;rw[hbb]at hbd;clear hbb;cases bb with
   |true=>
    obtain rfl:r=true:=by rw[<-DF.out];rw[Hw,yU.2 ⟨yr,qT QJ.out,D6.out⟩];rfl
    exact zDv
   |false=>have pI:Hid ((q.roots.take (i+1)).any (fun r=>decide (r.spec.name=s))=false):=zh (eY QJ.out HQ.out D6.out);exact zEh
  obtain rfl:aY=i:=by omega
  have Io:Hid ((q.roots.any fun r=>decide (r.spec.name=s))=false):=by have h:=HQ.out;rw[qI (yG bQ.out)]at h;exact h
  have fQ:=gK;clear HQ;obtain⟨k0,k1,k2,k3⟩:=aF.out bD gK.out;go_wp2_with fail;clear k0 k1 k2 k3;go_loopw [32] (fun vi bD=>Hid (O0 W0 bD)/\∃i:Nat,vi= .int .i64 i/\i<=ay/\Hid ((g.take i).any (fun n=>(bY x n).deps.any (U4 n s))=false)) (fun v _=>ay-(RowKit.intOf v).toNat);case atStart=>exact⟨fQ,0,rfl,qE _,show Hid _ from rfl⟩
  case round=>
   obtain⟨bD,rfl⟩:=zB wr;clear fQ;obtain⟨gK,i,rfl,hi,HQ⟩:=hrel;by_cases ci:i<ay
   ·have iE:=zw (i+1);obtain⟨yn,hxn⟩:=zG g i zAp;obtain⟨Kv,wI,nR,nU,nV,mV,lD,mP,hen,lY,lG,Fp,Eo,jO⟩:=jf (dU.out W0 zr) hxn;first|subst hen| (simp only[qG,qO,and_true]at hen;obtain⟨rfl,rfl⟩:=hen)
    have jg:=zh jO;have uJ:=zh hxn;clear jO hxn lY lG;have vG:Hid (∀W,O0 W0 W->dH B W [.string yn.name,.string yn.version,.slice nR nU nV,.slice mV lD mP] yn):=fun W ho=>(jg.out W ho).2.2.2;have hfd:0<=x.find yn.name:=by exact zFs
    obtain⟨OI,qm,kS⟩:=zX (eX.out W0 zr) (vG.out W0 zr) hfd;obtain⟨F9,Gf,Gg,Ea,Eb,Ec,Ep,Es,Et,Gh,xB,Gi,FB,DJ,FC,Gj,Gl,Gm,zY,gd1,hd1,gd2,hd2,gd3,hd3,gd4,hd4,gd5,hd5,gd6,hd6,Nd1,Nd2,Nd3,SH,Nd5,Nd6,Fd⟩:=iO qm;subst zY;obtain⟨HKd,OJ,Ky,Kz,Hu,KA,OL⟩:=Fd W0 zr;replace kS:=zh kS;clear Fd qm;have hfv:=fun W=>Jf (.string (bY x yn).name) (.int .i64 (bY x yn).line) (.slice F9 Gf Gg) (.slice Ea Eb Ec) (.slice Ep Es Et) (.slice Gh xB Gi) (.slice FB DJ FC) (.slice Gj Gl Gm) W;go_wp2_with fail;clear k0 k1 k2 k3;refine aU (fun w'=>O0 W0 w') zk zk (by exact(gK.out).drew) ?_;refine qV ?_ (hy:=zAX);refine qV ?_;refine qV ?_ (hy:=zAX);iterate 2 refine qV ?_
    refine bM (by rfl) rfl rfl (fun w hSw=>(jg.out w hSw).1) Tryz.underlying83 rfl zk ?_;try simp only[Act.put,fA,fD,fB,dW,dX,dY]
    refine bF (v:=.agg #[.string (bY x yn).name,.int .i64 (bY x yn).line,.slice F9 Gf Gg,.slice Ea Eb Ec,.slice Ep Es Et,.slice Gh xB Gi,.slice FB DJ FC,.slice Gj Gl Gm]) (f:=137) (args:= #[.agg #[.slice aP ak aJ,.slice aO aG aH],.agg #[.string yn.name,.string yn.version,.slice nR nU nV,.slice mV lD mP]]) (by rfl) ?_ ?_ ?_;·exact zDQ
    ·exact zEI
    try simp only[Act.put,fA,fD,fB,dW,dX,dY]
    refine qV ?_ (hy:=zAX);refine qV ?_;refine wpQuiet_nil ?_;(intro w9 dR;have fK:=zh dR;clear dR);clear hfv;have fQ:=fK;go_wp2_with fail;go_loopw [45] (fun vk iJ=>Hid (O0 W0 iJ)/\∃k:Nat,vk= .int .i64 k/\k<=xB/\Hid (((bY x yn).deps.take k).any (U4 yn s)=false)) (fun v _=>xB-(RowKit.intOf v).toNat);case atStart=>exact⟨fQ,0,rfl,qE _,show Hid _ from rfl⟩
    case round=>
     obtain⟨iJ,rfl⟩:=zB wr;clear fQ;obtain⟨kU,k,rfl,hk,EG⟩:=hrel;obtain⟨k0,k1,k2,k3⟩:=aF.out iJ kU.out;by_cases ck:k<xB
     ·have iE:=zw (k+1);obtain⟨yz,hxz⟩:=zG ((bY x yn).deps) k zCX;obtain⟨JD,vP,vW,vX,vY,wS,wU,wV,sU,sV,sW,sD,ru,sF,qc,wC,EP,ER,Eh,AX,He,NC,jM⟩:=Aq (Hu.out W0 zr) hxz;first|subst qc| (simp only[qG,qO,and_true]at qc;obtain⟨rfl,rfl⟩:=qc)
      have jd:=zh jM;have vS:=zh hxz;clear jM hxz wC EP ER Eh;have JQ:Hid (∀W,O0 W0 W->aS 2 fE B W (.slice sU sV sW) yz.cond.spans):=fun W ho=>(jd.out W ho).2.2.2.1;have Gx:Hid (∀W,O0 W0 W->aS 2 dO B W (.slice sD ru sF) yz.cond.sets):=fun W ho=>(jd.out W ho).2.2.2.2.1;obtain⟨hb,hhb⟩:=ze (jr yn yz.cond);have hbd:=fP yz.on.name s;obtain⟨bb,hbb⟩:∃b,decide (yz.on.name=s)=b:=⟨_,rfl⟩;have hW:U4 yn s yz=(bb&&hb):=by unfold U4;rw[hhb,hbb]
      rw[hbb]at hbd;have HH:Hid (∀W,O0 W0 W->Calls Tryz.prog 140 #[.agg #[.string yn.name,.string yn.version,.slice nR nU nV,.slice mV lD mP],.agg #[.string yz.cond.name,.slice sU sV sW,.slice sD ru sF]] W fun e w'=>e= .returned (.bool hb)/\O0 W w'):=fun W hW=>by rw[<-hhb];exact Fh (vG.out W hW) (⟨_,_,rfl,He,JQ.out W hW,Gx.out W hW⟩:dJ B W [.string yz.cond.name,.slice sU sV sW,.slice sD ru sF] yz.cond)
      clear hhb hbb;go_wp2_with fail;clear k0 k1 k2 k3;cases bb with
      |false=>
       refine aU (fun w'=>O0 W0 w') zk zk (by exact(kU.out).drew) ?_;iterate 5 refine qV ?_
       refine qV ?_ (hy:=zAV);iterate 3 refine qV ?_
       iterate 11 refine qS ?_
       exact zFW
      |true=>
       cases hb with
       |false=>
        refine aU (fun w'=>O0 W0 w') zk zk (by exact(kU.out).drew) ?_;iterate 5 refine qV ?_
        refine qV ?_ (hy:=zAV);iterate 4 refine qV ?_
        refine qV ?_ (hy:=zAV);iterate 2 refine qV ?_
        refine bM (by rfl) rfl rfl (fun w hSw=>(jg.out w hSw).1) Tryz.underlying83 rfl zk ?_;try simp only[Act.put,fA,fD,fB,dW,dX,dY]
        iterate 4 refine qV ?_
        refine bM (by rfl) rfl rfl (fun w hSw=>(kN (cs0:=[.string yz.on.name,.slice vW vX vY,.slice wS wU wV]) (cs:=[.string yz.cond.name,.slice sU sV sW,.slice sD ru sF]) (ds:=[.int .i64 yz.line]) (jd.out w hSw).1)) Tryz.underlying108 rfl zk ?_;try simp only[Act.put,fA,fD,fB,dW,dX,dY]
        refine bF (v:=.bool false) (f:=140) (args:= #[.agg #[.string yn.name,.string yn.version,.slice nR nU nV,.slice mV lD mP],.agg #[.string yz.cond.name,.slice sU sV sW,.slice sD ru sF]]) (by rfl) ?_ ?_ ?_;·exact zDQ
        ·exact zD6
        try simp only[Act.put,fA,fD,fB,dW,dX,dY]
        exact zFW
       |true=>
        refine aU (fun w'=>O0 W0 w') zk zk (by exact(kU.out).drew) ?_;iterate 5 refine qV ?_
        refine qV ?_ (hy:=zAV);iterate 4 refine qV ?_
        refine qV ?_ (hy:=zAV);iterate 2 refine qV ?_
        refine bM (by rfl) rfl rfl (fun w hSw=>(jg.out w hSw).1) Tryz.underlying83 rfl zk ?_;try simp only[Act.put,fA,fD,fB,dW,dX,dY]
        iterate 4 refine qV ?_
        refine bM (by rfl) rfl rfl (fun w hSw=>(kN (cs0:=[.string yz.on.name,.slice vW vX vY,.slice wS wU wV]) (cs:=[.string yz.cond.name,.slice sU sV sW,.slice sD ru sF]) (ds:=[.int .i64 yz.line]) (jd.out w hSw).1)) Tryz.underlying108 rfl zk ?_;try simp only[Act.put,fA,fD,fB,dW,dX,dY]
        refine bF (v:=.bool true) (f:=140) (args:= #[.agg #[.string yn.name,.string yn.version,.slice nR nU nV,.slice mV lD mP],.agg #[.string yz.cond.name,.slice sU sV sW,.slice sD ru sF]]) (by rfl) ?_ ?_ ?_;·exact zDQ
        ·exact zD6
        try simp only[Act.put,fA,fD,fB,dW,dX,dY]
        refine qV ?_;refine wpQuiet_nil ?_;(intro w9 dR;have fK:=zh dR;clear dR);obtain rfl:r=true:=by rw[<-DF.out];rw[Hw,yU.2 ⟨yn,qT uJ.out,yU.2 ⟨yz,qT vS.out,by rw[hW];rfl⟩⟩];simp
        exact zDk
     obtain rfl:xB=k:=by omega
     have pI:Hid ((g.take (i+1)).any (fun n=>(bY x n).deps.any (U4 n s))=false):=zh (eY uJ.out HQ.out (by
      have h:=EG.out
      rw[qI (yG SH.out)]at h
      exact h))
     go_wp2_with fail;go_roundw;case rel=>exact⟨kU,i+1,by first|rfl|go_num,by omega,pI⟩
     case measure=>simp[RowKit.intOf]<;>omega
   obtain rfl:ay=i:=by omega
   have h2:=HQ.out;rw[qI (yG bG.out)]at h2;obtain rfl:r=false:=by rw[<-DF.out];rw[Hw,Io.out,h2];rfl
   exact zDv
end
end Go.Proofs.YtdmmebjjojimiaaGreatDoor
