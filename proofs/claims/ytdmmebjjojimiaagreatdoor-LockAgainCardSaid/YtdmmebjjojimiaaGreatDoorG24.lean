/- The document's ranks, what is preferred, what a name may be. Printed by gen_nkr1.py.; The document's graphs, exact: breach, plain. Printed by gen_gr6.py. -/
import Derived.Test.YtdmmebjjojimiaaGreatDoorG23
set_option maxRecDepth 100000
set_option maxHeartbeats 8000000
set_option linter.all false
namespace Go.Proofs
theorem zFC{p:Prop}(h:p:=by rw[Hid,List.take_add_one,HX.out,List.filter_append,qK,HK.out];simp[HZ.out]):p:=h
end Go.Proofs
namespace Go.Proofs.YtdmmebjjojimiaaGreatDoor
open Go.RowKit
section
variable {w w':World} {B:Nat}
theorem aeH{LY:List Value}{p:iI}(hp:gY B w LY p)(v:Str)(hv:okS v):Calls Tryz.prog 136 #[.agg LY.toArray,.string v] w fun e w'=>e= .returned (.int .i64 (Ob p v))/\O0 w w':=by
 obtain⟨mZ,jL,ng,lN,jA,lQ,gZ,ig,iq,pV,iF,ni,pW,iG,ny,kP,kQ,kR,rfl,zq,zu,zx,zy,lS,lT,BD,BF,BG,BH,uf,ug,pX,uQ,lU,rZ,su,uh,Z5⟩:=iO hp;clear hp;obtain⟨W0,hW0,aV,jK,aF⟩:=aiv w (.string p.name) (.int .i64 p.line) (.slice mZ jL ng) (.slice lN jA lQ) (.slice gZ ig iq) (.slice pV iF ni) (.slice pW iG ny) (.slice kP kQ kR) 101;obtain⟨VO,uj,qy,kJ,um,uo,pY⟩:=Z5 W0 aV.out;clear Z5;obtain⟨r,hr⟩:=ze (Ob p v);rw[hr];have aZ:=zh hr;have HV:=zh hv;clear hr hv;clear zx zy uQ qy lS lT lU kJ BD BF rZ um BG BH su uo uf ug uh pY;go_enter Tryz.func136,Tryz.ntmps136;go_wp2_with fail;rw[<-hW0];clear hW0;obtain⟨k0,k1,k2,k3,k4,k5,k6,k7⟩:=aF.out W0 zr;go_wp2_with fail;go_loopw [5,6,7,11] (fun vn vt _ vi wr=>Hid (O0 W0 wr)/\∃(i k:Nat) (q:Bool),vn= .int .i64 k/\vt= .bool q/\vi= .int .i64 i/\i<=jL/\k<=i/\Hid (((p.jc.take i).filter fun r=>pJ v.toList r.version.toList).length=k)/\Hid (((p.jc.take i).any fun r=>decide (r.version=v))=q)) (fun _ _ _ v _=>jL-(RowKit.intOf v).toNat);case atStart=>exact⟨show Hid _ from Only.refl _ _,0,0,false,rfl,rfl,rfl,qE _,qH _,show Hid _ from by simp[Hid],show Hid _ from by simp[Hid]⟩
 case round=>
  clear k0 k1 k2 k3 k4 k5 k6 k7;obtain⟨HO,i,k,q,rfl,rfl,rfl,hi,hk,HK,HA⟩:=hrel;have k2:=(aF.out wr HO.out).2.2.1;by_cases ci:i<jL
  ·have hrow:=uj.out wr HO.out;have hrow0:=hrow;rw[<-pX.out]at hrow0;obtain⟨b,off,he,-,-⟩:=hrow0.at (by have:=pX.out;omega);subst he;obtain⟨y,hx⟩:=zG p.jc i (by rw[pX.out];omega);obtain⟨cs,hl,hr,hC⟩:=hrow.get hx;clear hrow hrow0;obtain⟨rfl,hok⟩:=hC;have hcell:=hr 0 _ rfl;simp only[qF]at hcell;have iE:=zw (i+1);have ewk:=zw (k+1);obtain⟨z,hz⟩:=ze (pJ v.toList y.version.toList);have YU:Hid (∀W,Calls Tryz.prog 211 #[.string v,.string y.version] W (fun e w'=>e= .returned (.bool z)/\O0 W w')):=fun W=>TW v y.version HV.out hok z hz;have HX:=zh hx;have HZ:=zh hz;clear hx hr hl hz;cases q with
   |true=>
    have HA2:Hid (((p.jc.take (i+1)).any fun r=>decide (r.version=v))=true):=by rw[Hid,List.take_add_one,HX.out,List.any_append,HA.out];simp
    go_wp2_with fail;refine(YU.out _).mono ?_;rintro e w2 ⟨rfl,O2⟩;have eF:=zh (HO.out.same O2);clear O2;cases z with
    |true=>
     have HK2:Hid (((p.jc.take (i+1)).filter fun r=>pJ v.toList r.version.toList).length=k+1):=by exact zFC
     go_wp2_with fail;go_roundw;case rel=>exact⟨eF,i+1,k+1,true,by first|rfl|go_num,rfl,by first|rfl|go_num,by omega,by omega,HK2,HA2⟩
     case measure=>simp[RowKit.intOf]<;>omega
    |false=>
     have HK2:Hid (((p.jc.take (i+1)).filter fun r=>pJ v.toList r.version.toList).length=k):=by exact zFC
     go_wp2_with fail;go_roundw;case rel=>exact⟨eF,i+1,k,true,by first|rfl|go_num,rfl,by first|rfl|go_num,by omega,by omega,HK2,HA2⟩
     case measure=>simp[RowKit.intOf]<;>omega
   |false=>
    obtain⟨d,hbd⟩:∃d,(y.version.toList==v.toList)=d:=⟨_,rfl⟩;have hd2:decide (y.version=v)=d:=by rw[<-fP,hbd]
    have HA2:Hid (((p.jc.take (i+1)).any fun r=>decide (r.version=v))=d):=by rw[Hid,List.take_add_one,HX.out,List.any_append,HA.out];simp[hd2]
    clear hd2;go_wp2_with fail;refine(YU.out _).mono ?_;rintro e w2 ⟨rfl,O2⟩;have eF:=zh (HO.out.same O2);clear O2;cases z with
    |true=>
     have HK2:Hid (((p.jc.take (i+1)).filter fun r=>pJ v.toList r.version.toList).length=k+1):=by exact zFC
     go_wp2_with fail;go_roundw;case rel=>exact⟨eF,i+1,k+1,d,by first|rfl|go_num,rfl,by first|rfl|go_num,by omega,by omega,HK2,HA2⟩
     case measure=>simp[RowKit.intOf]<;>omega
    |false=>
     have HK2:Hid (((p.jc.take (i+1)).filter fun r=>pJ v.toList r.version.toList).length=k):=by exact zFC
     go_wp2_with fail;go_roundw;case rel=>exact⟨eF,i+1,k,d,by first|rfl|go_num,rfl,by first|rfl|go_num,by omega,by omega,HK2,HA2⟩
     case measure=>simp[RowKit.intOf]<;>omega
  obtain rfl:jL=i:=by omega
  have hK:=HK.out;have hA:=HA.out;rw[qI (yG pX.out)]at hK hA;have HR2:=aZ.out;unfold Ob at HR2;rw[hA,hK]at HR2;cases q with
  |true=>obtain rfl:(k:Int)=r:=HR2;exact zEr
  |false=>obtain rfl:(-1:Int)=r:=HR2;exact zEr
end
end Go.Proofs.YtdmmebjjojimiaaGreatDoor
namespace Go.Proofs
theorem zAC{p:Prop}(h:p:=by(intro w hSw;(try dsimp only at hSw);obtain⟨k0,k1,k2⟩:=aF.out w (aI.out.same (iP.out.same hSw));have q5:=CP.out w hSw;have hrq:=(HEq.out w (aI.out.same (iP.out.same hSw))).1;have U3:=hrq 0 _ rfl;rw[qF]at U3;clear hrq;go_simp<;>(try with_reducible rfl))):p:=h
theorem zAO{p:Prop}(h:p:=by rw[hk];exact aV.out.size):p:=h
theorem zAT{p:Prop}(h:p:=by(intro w hSw;(try dsimp only at hSw);obtain⟨k0,k1,k2⟩:=aF.out w (aI.out.same hSw);have hrn:=(jg.out w (aI.out.same hSw)).1;have gn2:=hrn 2 _ rfl;clear hrn;go_simp<;>(try with_reducible rfl))):p:=h
theorem zAb{p:Prop}(h:p:=by(intro w hSw;(try dsimp only at hSw);obtain⟨k0,k1,k2⟩:=aF.out w (aI.out.same hSw);have hrn:=(jg.out w (aI.out.same hSw)).1;have gn1:=hrn 1 _ rfl;clear hrn;go_simp<;>(try with_reducible rfl))):p:=h
theorem zAk{p:Prop}(h:p:=by(intro w hSw;(try dsimp only at hSw);obtain⟨k0,k1,k2⟩:=aF.out w (aI.out.same (iP.out.same hSw));have q5:=CP.out w hSw;go_simp<;>(try with_reducible rfl))):p:=h
theorem zBP{p:Prop}(h:p:=by rw[bG.out]at hj;exact hj):p:=h
theorem zBV{p:Prop}(h:p:=by rw[hk];exact qH _):p:=h
theorem zCR{p:Prop}(h:p:=by rw[show aX g (jH x g)=some yn.name from nJ uJ.out HQ.out (hW)];rfl):p:=h
theorem zCz{p:Prop}(h:p:=by rw[<-vV];exact(jD.out.alloc _).trans (aK _ _ _) fun k hk=>.inr zBu):p:=h
theorem zDT{p:Prop}(h:p:=by exact⟨congrArg Prod.fst h2,congrArg Prod.snd h2⟩):p:=h
theorem zDl{p:Prop}(h:p:=by exact⟨rfl,(aV.out.same (aI.out.same kZ.out)).trans (aK _ _ _) fun k hk=>.inr zAO⟩):p:=h
theorem zDt{p:Prop}(h:p:=by
 have b0:W1.heap[W0.heap.size]? =some (.cells #[.int .u8 0,.string ⟨#[]⟩] 38):=zBK
 exact aA b0 ho (fun f=>f)):p:=h
theorem zEI{p:Prop}(h:p:=by(intro w hSw;exact(kS.out w hSw).mono fun _ _ ⟨he,ho⟩=>⟨he,hSw.same ho⟩)):p:=h
theorem zEe{p:Prop}(h:p:=by(intro w hSw;exact(HF.out w (iP.out.same hSw)).mono fun _ _ ⟨he,ho⟩=>⟨he,hSw.same ho⟩)):p:=h
theorem zEj{p:Prop}(h:p:=by
 unfold Instr.field
 rw[Sem.run_bind,run_underlying Tryz.underlying101]
 simp[asAgg,part,isAgg]):p:=h
theorem zEz{p:Prop}(h:p:=by
 refine wpQuiet_nil ?_
 (intro w9 dR;have jZ:Hid (O0 W1 w9):=iP.out.same dR;have q6:=CP.out w9 dR;clear dR)
 obtain⟨rfl,rfl⟩:rc=1/\rs=yn.name:=by
  have h:dB [(1,aX g (jH x g)),(2,aX g fun _ n=>yx x n),(3,aX g fun _ n=>setW x n)]=(1,yn.name):=zCR
  have h2:=aZ.out.symm.trans h
  exact zDT
 go_wp2_with fail
 refine(jX (w:=w9) _ _).mono ?_
 rintro e Fv ⟨rfl,Fz⟩
 have kZ:=zh ((jZ.out).same Fz)
 clear Fz
 go_wp2_with (refine wpList_store_row rfl 38 (.tmp 4) (.tmp 43) rfl W0.heap.size #[.int .u8 1,.string yn.name] rfl rfl 38 #[.int .u8 0,.string ⟨#[]⟩] (iM.out Fv kZ.out) zk rfl zk ?_)
 refine cO (p:=4) rfl rfl rfl (run_loadVar_row _ _ _ _ _ (0,0) _ (setRow_heap _ _ _ _ _ _ (iM.out Fv kZ.out)) Tryz.underlying38 rfl zk) ?_
 exact zDl):p:=h
theorem zE3{p:Prop}(h:p:=by
 refine cO (p:=4) rfl rfl rfl (run_loadVar_row _ _ _ _ _ (0,0) _ (setRow_heap _ _ _ _ _ _ (iM.out Fv kZ.out)) Tryz.underlying38 rfl zk) ?_
 exact zDl):p:=h
theorem zFB{p:Prop}(h:p:=by
 have h2:=aZ.out.symm.trans h
 exact zDT):p:=h
theorem zGw{p:Prop}(h:p:=by(intro w hSw;exact(HRk.out w hSw).mono fun _ _ ⟨he,ho⟩=>⟨he,hSw.same ho⟩)):p:=h
theorem zGx{p:Prop}(h:p:=by(intro w hSw;exact(HLg.out w hSw).mono fun _ _ ⟨he,ho⟩=>⟨he,hSw.same ho⟩)):p:=h
end Go.Proofs
namespace Go.Proofs.YtdmmebjjojimiaaGreatDoor
open Go.RowKit
section
variable {w w':World} {B:Nat}
attribute [local irreducible] wpQuiet
theorem Xl(u0 u1 u2 u3 u4 u5 u6 u7:Value)(W:World):(Instr.field 101 (.agg #[u0,u1,u2,u3,u4,u5,u6,u7]) 3).run Tryz.prog W= .ok u3 W:=by exact zEj
theorem Xm(u0 u1 u2 u3 u4 u5 u6 u7:Value)(W:World):(Instr.field 101 (.agg #[u0,u1,u2,u3,u4,u5,u6,u7]) 4).run Tryz.prog W= .ok u4 W:=by exact zEj
theorem Jf(u0 u1 u2 u3 u4 u5 u6 u7:Value)(W:World):(Instr.field 101 (.agg #[u0,u1,u2,u3,u4,u5,u6,u7]) 5).run Tryz.prog W= .ok u5 W:=by exact zEj
theorem Xn(u0 u1 u2 u3 u4 u5 u6 u7:Value)(W:World):(Instr.field 101 (.agg #[u0,u1,u2,u3,u4,u5,u6,u7]) 6).run Tryz.prog W= .ok u6 W:=by exact zEj
def iY(r:Int×Str)(w w':World)(e:Ending):Prop:=e= .returned (.agg #[.int .u8 r.1,.string r.2])/\O0 w w'
theorem BU{c:Int}{r:List (Int×Option Str)}:dB ((c,none)::r)=dB r:=rfl
theorem BZ{c:Int}{s:Str}{r:List (Int×Option Str)}:dB ((c,some s)::r)=(c,s):=rfl
theorem nJ{g:List aC}{p:Nat->aC->Bool}{i:Nat}{n:aC}(hn:g[i]? =some n)(h0:∀j,j<i->p j (nodeAt g j)=false)(h:p i n=true):aX g p=some n.name:=Xc hn h0 h
theorem kM{g:List aC}{p:Nat->aC->Bool}{i:Nat}{n:aC}(hn:g[i]? =some n)(h0:∀j,j<i->p j (nodeAt g j)=false)(h:p i n=false):∀j,j<i+1->p j (nodeAt g j)=false:=fun j hj=>by
 rcases yK j i with h1|h1
 ·exact h0 j h1
 ·obtain rfl:j=i:=by omega
  have e:nodeAt g j=n:=by unfold nodeAt;rw[qC,hn];rfl
  rw[e];exact h
theorem jU{g:List aC}{i:Nat}{n:aC}(hn:g[i]? =some n):nodeAt g i=n:=by unfold nodeAt;rw[qC,hn];rfl
theorem jX(c:Int)(s:Str):Calls Tryz.prog 135 #[.int .u8 c,.string s] w fun e w'=>e= .returned (.agg #[.int .u8 c,.string s])/\O0 w w':=by have hz:(w.alloc (.cells #[.int .u8 0,.string ⟨#[]⟩] 38)).heap[w.heap.size]? =some (.cells #[.int .u8 0,.string ⟨#[]⟩] 38):=qL w _;go_enter Tryz.func135,Tryz.ntmps135;go_wp2_with (refine wpList_store_row rfl 38 (.tmp 4) (.tmp 7) rfl w.heap.size #[.int .u8 c,.string s] rfl rfl 38 #[.int .u8 0,.string ⟨#[]⟩] hz zk rfl zk ?_);refine cO (p:=4) rfl rfl rfl (run_loadVar_row _ _ _ _ _ (0,0) _ (setRow_heap _ _ _ _ _ _ hz) Tryz.underlying38 rfl zk) ?_;exact⟨rfl,(zr.alloc _).trans (aK _ _ _) fun k hk=>.inr zBV⟩
theorem abZ{lC:List Value}{x:aQ}(hx:fO B w lC x){CS:List Value}{g:List aC}(hg:rU B w CS g):Calls Tryz.prog 60 #[.agg lC.toArray,.agg CS.toArray] w fun e w'=>iY (dB [(1,aX g (jH x g)),(2,aX g fun _ n=>yx x n),(3,aX g fun _ n=>setW x n)]) w w' e:=by
 obtain⟨aP,ak,aJ,aO,aG,aH,rfl,fF,fG,dP,dQ,aB,bJ,mY⟩:=open_rec hx;clear hx;try rw[aB.out]
 obtain⟨dI,ay,dh,rfl,rC,rD,bG,Jd⟩:=nH hg;clear hg;try rw[bG.out]
 obtain⟨W0,hW0,aV,jK,aF⟩:=G9 w (.slice aP ak aJ) (.slice aO aG aH) (.slice dI ay dh) 25 31;obtain⟨eX,bK,bT⟩:=mY W0 aV.out;clear mY;obtain⟨Bg,dU⟩:=Jd W0 aV.out;clear Jd;obtain⟨rc,rs,hr⟩:∃c s,dB [(1,aX g (jH x g)),(2,aX g fun _ n=>yx x n),(3,aX g fun _ n=>setW x n)]=(c,s):=⟨_,_,rfl⟩;have aZ:=zh hr;rw[hr];unfold iY;dsimp only;obtain⟨W1,hW1⟩:=ze (W0.alloc (.cells #[.int .u8 0,.string ⟨#[]⟩] 38));have aI:Hid (O0 W0 W1):=zAc;have iM:Hid (∀W,O0 W1 W->W.heap[W0.heap.size]? =some (.cells #[.int .u8 0,.string ⟨#[]⟩] 38 (0,0))):=fun W ho=>by exact zDt
 have wZ:Hid (O0 W1 W1):=Only.refl _ _;clear hr;obtain⟨k0,k1,k2⟩:=aF.out W1 (aI.out.same wZ.out);have hW0':=hW0.symm;clear hW0;go_enter Tryz.func60,Tryz.ntmps60;go_wp2_with fail;clear hW1 hW0' k0 k1 k2;have fQ:=wZ;go_loopw [12] (fun vi bD=>Hid (O0 W1 bD)/\∃i:Nat,vi= .int .i64 i/\i<=ay/\Hid (∀j,j<i->jH x g j (nodeAt g j)=false)) (fun v _=>ay-(RowKit.intOf v).toNat);case atStart=>exact⟨fQ,0,rfl,qE _,show Hid _ from fun j hj=>by omega⟩
 case round=>
  obtain⟨bD,rfl⟩:=zB wr;clear fQ;obtain⟨jD,i,rfl,hi,HQ⟩:=hrel;obtain⟨k0,k1,k2⟩:=aF.out bD (aI.out.same jD.out);by_cases ci:i<ay
  ·have iE:=zw (i+1);obtain⟨yn,hxn⟩:=zG g i zAp;obtain⟨Kv,wI,nR,nU,nV,mV,lD,mP,hen,lY,lG,Fp,Eo,jO⟩:=jf (dU.out W0 zr) hxn;first|subst hen| (simp only[qG,qO,and_true]at hen;obtain⟨rfl,rfl⟩:=hen)
   have Nn1:=zh lY;have Nn2:=zh lG;have jg:=zh jO;have uJ:=zh hxn;clear jO hxn lY lG;have U2:Hid (∀W,O0 W0 W->aS 2 dO B W (.slice nR nU nV) yn.sets):=fun W ho=>(jg.out W ho).2.1;have Kw:Hid (∀W,O0 W0 W->aS 1 bU B W (.slice mV lD mP) yn.needs):=fun W ho=>(jg.out W ho).2.2.1;have vG:Hid (∀W,O0 W0 W->dH B W [.string yn.name,.string yn.version,.slice nR nU nV,.slice mV lD mP] yn):=fun W ho=>(jg.out W ho).2.2.2;obtain⟨f,hf⟩:=ze (x.find yn.name);have HFx:Hid (x.find yn.name=f):=hf;have HF:Hid (∀W,O0 W1 W->Calls Tryz.prog 38 #[.agg #[.slice aP ak aJ,.slice aO aG aH],.string yn.name] W fun e w'=>e= .returned (.int .i64 f)/\O0 W w'):=fun W hW=>by rw[<-hf];exact lI (eX.out W (aI.out.same hW)) yn.name
   have hrow:=zh (jg.out bD (aI.out.same jD.out)).1;have Na:Hid ((bD.alloc (.cells #[.string ⟨#[]⟩,.string ⟨#[]⟩,.slice none 0 0,.slice none 0 0] 83)).heap[bD.heap.size]? =some (.cells #[.string ⟨#[]⟩,.string ⟨#[]⟩,.slice none 0 0,.slice none 0 0] 83)):=qL bD _;obtain⟨tJ,vV⟩:=ze ((bD.alloc (.cells #[.string ⟨#[]⟩,.string ⟨#[]⟩,.slice none 0 0,.slice none 0 0] 83)).setRow bD.heap.size #[.string yn.name,.string yn.version,.slice nR nU nV,.slice mV lD mP]);have Am:Hid (tJ.heap[bD.heap.size]? =some (.cells #[.string yn.name,.string yn.version,.slice nR nU nV,.slice mV lD mP] 83 (0,0))):=by rw[<-vV];exact setRow_heap _ _ _ _ _ _ Na.out
   have iP:Hid (O0 W1 tJ):=zCz;have CP:Hid (∀W,O0 tJ W->W.cell? ⟨bD.heap.size,0,none⟩=some (.string yn.name)):=fun W hW=>by rw[aj (aA Am.out hW (fun f=>f))];rfl
   clear hf;go_wp2_with (first
    | (refine wpList_load_mid rfl 83 (.tmp 18) rfl Kv (wI+i*4) rfl _ _ hrow.out Tryz.underlying83 rfl zk ?_)
    | (refine wpList_store_row rfl 83 (.tmp 6) (.tmp 19) rfl bD.heap.size #[.string yn.name,.string yn.version,.slice nR nU nV,.slice mV lD mP] rfl rfl 83 #[.string ⟨#[]⟩,.string ⟨#[]⟩,.slice none 0 0,.slice none 0 0] Na.out zk rfl zk ?_))
   rw[vV];clear hrow Na vV Am k0 k1 k2;by_cases hneg:f<0
   ·have hW:jH x g i yn=true:=by unfold jH;rw[HFx.out,qX hneg];rfl
    refine aU (fun w'=>O0 tJ w') zk zk (by exact zr.drew) ?_;refine qV ?_ (hy:=zAk);refine qV ?_;refine qV ?_ (hy:=zAk);refine bF (v:=.int .i64 f) (f:=38) (args:= #[.agg #[.slice aP ak aJ,.slice aO aG aH],.string yn.name]) (by rfl) ?_ ?_ ?_;·exact zDQ
    ·exact zEe
    try simp only[Act.put,fA,fD,fB,dW,dX,dY]
    iterate 2 refine qV ?_
    iterate 14 refine qS ?_
    refine qV ?_;exact zEz
   have hd0:decide (f<0)=false:=qP hneg;cases i with
   |zero=>
    have hW:jH x g 0 yn=false:=by unfold jH;rw[HFx.out,qP hneg];rfl
    refine aU (fun w'=>O0 tJ w') zk zk (by exact zr.drew) ?_;refine qV ?_ (hy:=zAk);refine qV ?_;refine qV ?_ (hy:=zAk);refine bF (v:=.int .i64 f) (f:=38) (args:= #[.agg #[.slice aP ak aJ,.slice aO aG aH],.string yn.name]) (by rfl) ?_ ?_ ?_;·exact zDQ
    ·exact zEe
    try simp only[Act.put,fA,fD,fB,dW,dX,dY]
    iterate 5 refine qV ?_
    iterate 10 refine qS ?_
    iterate 2 refine qV ?_
    refine wpQuiet_nil ?_;(intro w9 dR;have jZ:Hid (O0 W1 w9):=iP.out.same dR;have q6:=CP.out w9 dR;clear dR);have pI:Hid (∀k,k<0+1->jH x g k (nodeAt g k)=false):=zh (kM uJ.out HQ.out (hW));go_wp2_with fail;go_roundw;case rel=>exact⟨jZ,0+1,by first|rfl|go_num,by omega,pI⟩
    case measure=>simp[RowKit.intOf]<;>omega
   |succ j=>
    obtain⟨yq,hxq⟩:=zG g j zAp;obtain⟨bkq,asG,aq1,nq1,cq1,aq2,nq2,cq2,heq,aoy,aoz,asH,asI,alO⟩:=jf (dU.out W0 zr) hxq;first|subst heq| (simp only[qG,qO,and_true]at heq;obtain⟨rfl,rfl⟩:=heq)
    have HEq:=zh alO;have HXq:=zh hxq;clear alO hxq aoy aoz;have ewj:IntKind.i64.wrap (j:Int)=(j:Int):=zBR;have hj5:j<ay:=zAA;obtain⟨b,hb⟩:∃b,decide (yq.name.toList<yn.name.toList)=b:=⟨_,rfl⟩;have hbl:Op.bytesLess yq.name.toList yn.name.toList=b:=by rw[iD];exact hb
    have hW:jH x g (j+1) yn= !b:=by unfold jH;rw[HFx.out,qP hneg,Nat.add_sub_cancel,jU HXq.out,hb,qX (show 0<j+1 by omega)];rfl
    clear hb;cases b with
    |true=>
     refine aU (fun w'=>O0 tJ w') zk zk (by exact zr.drew) ?_;refine qV ?_ (hy:=zAC);refine qV ?_;refine qV ?_ (hy:=zAC);refine bF (v:=.int .i64 f) (f:=38) (args:= #[.agg #[.slice aP ak aJ,.slice aO aG aH],.string yn.name]) (by rfl) ?_ ?_ ?_;·exact zDQ
     ·exact zEe
     try simp only[Act.put,fA,fD,fB,dW,dX,dY]
     iterate 6 refine qV ?_
     refine qV ?_ (hy:=zAC);iterate 4 refine qV ?_
     refine qV ?_ (hy:=zAC);refine qV ?_;refine qV ?_ (hy:=zAC);iterate 3 refine qV ?_
     refine wpQuiet_nil ?_;(intro w9 dR;have jZ:Hid (O0 W1 w9):=iP.out.same dR;have q6:=CP.out w9 dR;clear dR);have pI:Hid (∀k,k<(j+1)+1->jH x g k (nodeAt g k)=false):=zh (kM uJ.out HQ.out (hW));go_wp2_with fail;go_roundw;case rel=>exact⟨jZ,(j+1)+1,by first|rfl|go_num,by omega,pI⟩
     case measure=>simp[RowKit.intOf]<;>omega
    |false=>
     refine aU (fun w'=>O0 tJ w') zk zk (by exact zr.drew) ?_;refine qV ?_ (hy:=zAC);refine qV ?_;refine qV ?_ (hy:=zAC);refine bF (v:=.int .i64 f) (f:=38) (args:= #[.agg #[.slice aP ak aJ,.slice aO aG aH],.string yn.name]) (by rfl) ?_ ?_ ?_;·exact zDQ
     ·exact zEe
     try simp only[Act.put,fA,fD,fB,dW,dX,dY]
     iterate 6 refine qV ?_
     refine qV ?_ (hy:=zAC);iterate 4 refine qV ?_
     refine qV ?_ (hy:=zAC);refine qV ?_;refine qV ?_ (hy:=zAC);iterate 3 refine qV ?_
     exact zEz
  obtain rfl:ay=i:=by omega
  have hq1:aX g (jH x g)=none:=kL.2 fun j hj=>HQ.out j zBP;have En:Hid (Named x g):=Kt.1 hq1;have Io:=zh hq1;clear hq1;have fQ:=jD;obtain⟨k0,k1,k2⟩:=aF.out bD (aI.out.same jD.out);go_wp2_with fail;clear k0 k1 k2;go_loopw [48] (fun vk iJ=>Hid (O0 W1 iJ)/\∃k:Nat,vk= .int .i64 k/\k<=ay/\Hid (∀j,j<k->yx x (nodeAt g j)=false)) (fun v _=>ay-(RowKit.intOf v).toNat);case atStart=>exact⟨fQ,0,rfl,qE _,show Hid _ from fun j hj=>by omega⟩
  case round=>
   obtain⟨iJ,rfl⟩:=zB wr;clear fQ;obtain⟨tu,k,rfl,hk,HQ⟩:=hrel;by_cases ck:k<ay
   ·have iE:=zw (k+1);obtain⟨yn,hxn⟩:=zG g k zAp;obtain⟨Kv,wI,nR,nU,nV,mV,lD,mP,hen,lY,lG,Fp,Eo,jO⟩:=jf (dU.out W0 zr) hxn;first|subst hen| (simp only[qG,qO,and_true]at hen;obtain⟨rfl,rfl⟩:=hen)
    have Nn1:=zh lY;have Nn2:=zh lG;have jg:=zh jO;have uJ:=zh hxn;clear jO hxn lY lG;have U2:Hid (∀W,O0 W0 W->aS 2 dO B W (.slice nR nU nV) yn.sets):=fun W ho=>(jg.out W ho).2.1;have Kw:Hid (∀W,O0 W0 W->aS 1 bU B W (.slice mV lD mP) yn.needs):=fun W ho=>(jg.out W ho).2.2.1;have vG:Hid (∀W,O0 W0 W->dH B W [.string yn.name,.string yn.version,.slice nR nU nV,.slice mV lD mP] yn):=fun W ho=>(jg.out W ho).2.2.2;have hfd:0<=x.find yn.name:=by have h:=En.out.found k zAp;rw[jU uJ.out]at h;exact h
    obtain⟨OI,qm,kS⟩:=zX (eX.out W1 aI.out) (vG.out W1 aI.out) hfd;obtain⟨F9,Gf,Gg,Ea,Eb,Ec,Ep,Es,Et,Gh,xB,Gi,FB,DJ,FC,Gj,Gl,Gm,zY,gd1,hd1,gd2,hd2,gd3,hd3,gd4,hd4,gd5,hd5,gd6,hd6,Nd1,Nd2,Nd3,SH,Nd5,Nd6,Fd⟩:=iO qm;subst zY;obtain⟨HKd,OJ,Ky,Kz,Hu,KA,OL⟩:=Fd W1 zr;replace kS:=zh kS;clear Fd qm;obtain⟨rk,hrk⟩:=ze (Lh (bY x yn) yn.version);have HRk:Hid (∀W,O0 W1 W->Calls Tryz.prog 136 #[.agg #[.string (bY x yn).name,.int .i64 (bY x yn).line,.slice F9 Gf Gg,.slice Ea Eb Ec,.slice Ep Es Et,.slice Gh xB Gi,.slice FB DJ FC,.slice Gj Gl Gm],.string yn.version] W fun e w'=>e= .returned (.int .i64 rk)/\O0 W w'):=fun W hW=>by rw[<-hrk,abm];exact aeH (HKd.out W hW) yn.version Eo
    go_wp2_with fail;clear k0 k1 k2;refine aU (fun w'=>O0 W1 w') zk zk (by exact(tu.out).drew) ?_;refine qV ?_ (hy:=zAb);refine qV ?_;refine qV ?_ (hy:=zAb);iterate 2 refine qV ?_
    refine bM (by rfl) rfl rfl (fun w hSw=>(jg.out w (aI.out.same hSw)).1) Tryz.underlying83 rfl zk ?_;try simp only[Act.put,fA,fD,fB,dW,dX,dY]
    refine bF (v:=.agg #[.string (bY x yn).name,.int .i64 (bY x yn).line,.slice F9 Gf Gg,.slice Ea Eb Ec,.slice Ep Es Et,.slice Gh xB Gi,.slice FB DJ FC,.slice Gj Gl Gm]) (f:=137) (args:= #[.agg #[.slice aP ak aJ,.slice aO aG aH],.agg #[.string yn.name,.string yn.version,.slice nR nU nV,.slice mV lD mP]]) (by rfl) ?_ ?_ ?_;·exact zDQ
    ·exact zEI
    try simp only[Act.put,fA,fD,fB,dW,dX,dY]
    refine qV ?_;refine qV ?_ (hy:=zAb);iterate 3 refine qV ?_
    refine qV ?_ (hy:=zAb);refine bF (v:=.int .i64 rk) (f:=136) (args:= #[.agg #[.string (bY x yn).name,.int .i64 (bY x yn).line,.slice F9 Gf Gg,.slice Ea Eb Ec,.slice Ep Es Et,.slice Gh xB Gi,.slice FB DJ FC,.slice Gj Gl Gm],.string yn.version]) (by rfl) ?_ ?_ ?_;·exact zDQ
    ·exact zGw
    try simp only[Act.put,fA,fD,fB,dW,dX,dY]
    refine qV ?_;refine wpQuiet_nil ?_;(intro w9 dR;have jZ:=zh dR;clear dR);obtain⟨k0,k1,k2⟩:=aF.out w9 (aI.out.same jZ.out);have hrn:=(jg.out w9 (aI.out.same jZ.out)).1;have Je:=hrn 0 _ rfl;rw[qF]at Je;clear hrn;by_cases hneg:rk<0
    ·have hd0:decide (rk<0)=true:=qX hneg;have hW:yx x yn=true:=by unfold yx;rw[hrk];exact hd0
     obtain⟨rfl,rfl⟩:rc=2/\rs=yn.name:=by
      have h:dB [(1,aX g (jH x g)),(2,aX g fun _ n=>yx x n),(3,aX g fun _ n=>setW x n)]=(2,yn.name):=by rw[Io.out,show(aX g fun _ n=>yx x n)=some yn.name from nJ uJ.out HQ.out hW];rfl
      exact zFB
     go_wp2_with fail;refine(jX (w:=w9) _ _).mono ?_;rintro e Fv ⟨rfl,Fz⟩;have kZ:=zh ((jZ.out).same Fz);clear Fz;go_wp2_with (refine wpList_store_row rfl 38 (.tmp 4) (.tmp 72) rfl W0.heap.size #[.int .u8 2,.string yn.name] rfl rfl 38 #[.int .u8 0,.string ⟨#[]⟩] (iM.out Fv kZ.out) zk rfl zk ?_);exact zE3
    have hd0:decide (rk<0)=false:=qP hneg;have pI:Hid (∀j,j<k+1->yx x (nodeAt g j)=false):=zh (kM (p:=fun _ n=>yx x n) uJ.out HQ.out (by unfold yx;rw[hrk];exact hd0));go_wp2_with fail;go_roundw;case rel=>exact⟨jZ,k+1,by first|rfl|go_num,by omega,pI⟩
    case measure=>simp[RowKit.intOf]<;>omega
   obtain rfl:ay=k:=by omega
   have HQV:Hid ((aX g fun _ n=>yx x n)=none):=kL.2 fun j hj=>HQ.out j zBP;have fQ:=tu;obtain⟨k0,k1,k2⟩:=aF.out iJ (aI.out.same tu.out);go_wp2_with fail;clear k0 k1 k2;go_loopw [77] (fun vm CQ=>Hid (O0 W1 CQ)/\∃m:Nat,vm= .int .i64 m/\m<=ay/\Hid (∀j,j<m->setW x (nodeAt g j)=false)) (fun v _=>ay-(RowKit.intOf v).toNat);case atStart=>exact⟨fQ,0,rfl,qE _,show Hid _ from fun j hj=>by omega⟩
   case round=>
    obtain⟨CQ,rfl⟩:=zB wr;clear fQ;obtain⟨Lr,m,rfl,hm,HQ⟩:=hrel;by_cases cm:m<ay
    ·have iE:=zw (m+1);obtain⟨yn,hxn⟩:=zG g m zAp;obtain⟨Kv,wI,nR,nU,nV,mV,lD,mP,hen,lY,lG,Fp,Eo,jO⟩:=jf (dU.out W0 zr) hxn;first|subst hen| (simp only[qG,qO,and_true]at hen;obtain⟨rfl,rfl⟩:=hen)
     have Nn1:=zh lY;have Nn2:=zh lG;have jg:=zh jO;have uJ:=zh hxn;clear jO hxn lY lG;have U2:Hid (∀W,O0 W0 W->aS 2 dO B W (.slice nR nU nV) yn.sets):=fun W ho=>(jg.out W ho).2.1;have Kw:Hid (∀W,O0 W0 W->aS 1 bU B W (.slice mV lD mP) yn.needs):=fun W ho=>(jg.out W ho).2.2.1;have vG:Hid (∀W,O0 W0 W->dH B W [.string yn.name,.string yn.version,.slice nR nU nV,.slice mV lD mP] yn):=fun W ho=>(jg.out W ho).2.2.2;have hfd:0<=x.find yn.name:=by have h:=En.out.found m zAp;rw[jU uJ.out]at h;exact h
     obtain⟨OI,qm,kS⟩:=zX (eX.out W1 aI.out) (vG.out W1 aI.out) hfd;obtain⟨F9,Gf,Gg,Ea,Eb,Ec,Ep,Es,Et,Gh,xB,Gi,FB,DJ,FC,Gj,Gl,Gm,zY,gd1,hd1,gd2,hd2,gd3,hd3,gd4,hd4,gd5,hd5,gd6,hd6,Nd1,Nd2,Nd3,SH,Nd5,Nd6,Fd⟩:=iO qm;subst zY;obtain⟨HKd,OJ,Ky,Kz,Hu,KA,OL⟩:=Fd W1 zr;replace kS:=zh kS;clear Fd qm;obtain⟨lg,hlg⟩:=ze (vH (bY x yn).vars yn.sets);have HLg:Hid (∀W,O0 W1 W->Calls Tryz.prog 138 #[.slice Ea Eb Ec,.slice nR nU nV] W fun e w'=>e= .returned (.bool lg)/\O0 W w'):=fun W hW=>by rw[<-hlg];exact aeA (Ky.out W hW) (U2.out W (aI.out.same hW))
     have hfv:=fun W=>Xl (.string (bY x yn).name) (.int .i64 (bY x yn).line) (.slice F9 Gf Gg) (.slice Ea Eb Ec) (.slice Ep Es Et) (.slice Gh xB Gi) (.slice FB DJ FC) (.slice Gj Gl Gm) W;go_wp2_with fail;clear k0 k1 k2;refine aU (fun w'=>O0 W1 w') zk zk (by exact(Lr.out).drew) ?_;refine qV ?_ (hy:=zAT);refine qV ?_;refine qV ?_ (hy:=zAT);iterate 2 refine qV ?_
     refine bM (by rfl) rfl rfl (fun w hSw=>(jg.out w (aI.out.same hSw)).1) Tryz.underlying83 rfl zk ?_;try simp only[Act.put,fA,fD,fB,dW,dX,dY]
     refine bF (v:=.agg #[.string (bY x yn).name,.int .i64 (bY x yn).line,.slice F9 Gf Gg,.slice Ea Eb Ec,.slice Ep Es Et,.slice Gh xB Gi,.slice FB DJ FC,.slice Gj Gl Gm]) (f:=137) (args:= #[.agg #[.slice aP ak aJ,.slice aO aG aH],.agg #[.string yn.name,.string yn.version,.slice nR nU nV,.slice mV lD mP]]) (by rfl) ?_ ?_ ?_;·exact zDQ
     ·exact zEI
     try simp only[Act.put,fA,fD,fB,dW,dX,dY]
     refine qV ?_ (hy:=zAT);refine qV ?_;refine qV ?_ (hy:=zAT);iterate 3 refine qV ?_
     refine qV ?_ (hy:=zAT);refine bF (v:=.bool lg) (f:=138) (args:= #[.slice Ea Eb Ec,.slice nR nU nV]) (by rfl) ?_ ?_ ?_;·exact zDQ
     ·exact zGx
     try simp only[Act.put,fA,fD,fB,dW,dX,dY]
     refine qV ?_;refine wpQuiet_nil ?_;(intro w9 dR;have jZ:=zh dR;clear dR);obtain⟨k0,k1,k2⟩:=aF.out w9 (aI.out.same jZ.out);have hrn:=(jg.out w9 (aI.out.same jZ.out)).1;have Je:=hrn 0 _ rfl;rw[qF]at Je;clear hrn;cases lg with
     |false=>
      have hW:setW x yn=true:=by unfold setW;rw[hlg];rfl
      obtain⟨rfl,rfl⟩:rc=3/\rs=yn.name:=by
       have h:dB [(1,aX g (jH x g)),(2,aX g fun _ n=>yx x n),(3,aX g fun _ n=>setW x n)]=(3,yn.name):=by rw[Io.out,HQV.out,show(aX g fun _ n=>setW x n)=some yn.name from nJ uJ.out HQ.out hW];rfl
       exact zFB
      go_wp2_with fail;refine(jX (w:=w9) _ _).mono ?_;rintro e Fv ⟨rfl,Fz⟩;have kZ:=zh ((jZ.out).same Fz);clear Fz;go_wp2_with (refine wpList_store_row rfl 38 (.tmp 4) (.tmp 102) rfl W0.heap.size #[.int .u8 3,.string yn.name] rfl rfl 38 #[.int .u8 0,.string ⟨#[]⟩] (iM.out Fv kZ.out) zk rfl zk ?_);exact zE3
     |true=>
      have pI:Hid (∀j,j<m+1->setW x (nodeAt g j)=false):=zh (kM (p:=fun _ n=>setW x n) uJ.out HQ.out (by unfold setW;rw[hlg];rfl));go_wp2_with fail;go_roundw;case rel=>exact⟨jZ,m+1,by first|rfl|go_num,by omega,pI⟩
      case measure=>simp[RowKit.intOf]<;>omega
    obtain rfl:ay=m:=by omega
    have hq:(aX g fun _ n=>setW x n)=none:=kL.2 fun j hj=>HQ.out j zBP;obtain⟨rfl,rfl⟩:rc=0/\rs=ByteArray.empty:=by
     have h:dB [(1,aX g (jH x g)),(2,aX g fun _ n=>yx x n),(3,aX g fun _ n=>setW x n)]=(0,ByteArray.empty):=by rw[Io.out,HQV.out,hq];rfl
     exact zFB
    go_wp2_with (refine wpList_store_row rfl 38 (.tmp 4) (.tmp 104) rfl W0.heap.size #[.int .u8 0,.string ByteArray.empty] rfl rfl 38 #[.int .u8 0,.string ⟨#[]⟩] (iM.out CQ Lr.out) zk rfl zk ?_);refine cO (p:=4) rfl rfl rfl (run_loadVar_row _ _ _ _ _ (0,0) _ (setRow_heap _ _ _ _ _ _ (iM.out CQ Lr.out)) Tryz.underlying38 rfl zk) ?_;exact⟨rfl,(aV.out.same (aI.out.same Lr.out)).trans (aK _ _ _) fun k hk=>.inr zAO⟩
end
end Go.Proofs.YtdmmebjjojimiaaGreatDoor
