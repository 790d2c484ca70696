/- The document's graphs, exact: shape. Printed by gen_gr10.py. -/
import Derived.Test.YtdmmebjjojimiaaGreatDoorG28
set_option maxRecDepth 100000
set_option maxHeartbeats 8000000
set_option linter.all false
namespace Go.Proofs
theorem zAI{p:Prop}(h:p:=by(intro w hSw;obtain⟨k0,k1,k2,k3⟩:=aF.out w (aI.out.same (Cb.out.same hSw));have hrn:=(jg.out w (aI.out.same (Cb.out.same hSw))).1;have Je:=hrn 0 _ rfl;rw[qF]at Je;clear hrn;have hrr:=(GL.out w (aI.out.same (Cb.out.same hSw))).1;have QK:=hrr 0 _ rfl;rw[qF]at QK;clear hrr;go_simp<;>(try with_reducible rfl))):p:=h
theorem zAU{p:Prop}(h:p:=by(intro w hSw;(try dsimp only at hSw);obtain⟨k0,k1,k2,k3⟩:=aF.out w (aI.out.same ((jD.out.same tu.out).same hSw));go_simp<;>(try with_reducible rfl))):p:=h
theorem zEY{p:Prop}(h:p:=by
 go_wp2_with fail
 go_roundw
 case rel=>exact⟨HTf,f+1,by first|rfl|go_num,by omega,by rw[HF2]⟩
 case measure=>simp[RowKit.intOf]<;>omega):p:=h
theorem zGO{p:Prop}(h:p:=by(intro w hSw;exact(BJ.out w ((jD.out.same tu.out).same hSw)).mono fun _ _ ⟨he,ho⟩=>⟨he,hSw.same ho⟩)):p:=h
end Go.Proofs
namespace Go.Proofs.YtdmmebjjojimiaaGreatDoor
open Go.RowKit
section
variable {w w':World} {B:Nat}
attribute [local irreducible] wpQuiet
theorem Xr{α:Type}{p:α->Bool}{l:List α}{i:Nat}{a:α}(ha:l[i]? =some a):(l.take (i+1)).any p=((l.take i).any p||p a):=by rw[List.take_add_one,ha];simp
structure SX (w0 w:World) (v:Value) (l:List Str):Prop where
 own:w.ownsRow 0 9 1 v l.length (bZ l)
 new:∀k,v.ownBlock=some k->w0.heap.size<=k
theorem SX.app{w0 w1 w2:World}{v v':Value}{l:List Str}{s:Str}(h:SX w0 w1 v l)(hs:w0.heap.size<=w1.heap.size)(s1:w2.ownsRow 0 9 1 v' (l.length+1) (bZ l++[.string s]))(a:Rk w1 v v' (l.length+1)):SX w0 w2 v' (l++[s]):=by refine⟨by simpa[bZ]using s1,fun k hk=>?_⟩;exact zEm
theorem RX.cell{w0:World}{v:Value}{bs:List Bool}(h:RX w0 w v bs){k n:Nat}(hn:bs.length=n)(hk:k<n):∃b cap,v= .slice (some ⟨b,0,none⟩) n cap/\w.cell? ⟨b,k,none⟩=some (.bool (bs.getD k false)):=by subst hn;obtain⟨b,cap,rfl,-,-⟩:=gQ h.own zAA;refine⟨b,cap,rfl,?_⟩;rw[h.own.cellAt k zAA,List.getElem?_map,qA hk,qC,qA hk];rfl
def ndl(x:aQ)(g:List aC)(n:aC)(k:Nat):List Str:=((g.take k).filter (wP x n)).map aC.name
theorem Xt{x:aQ}{g:List aC}{n y:aC}{k:Nat}{b:Bool}(hy:g[k]? =some y)(hb:wP x n y=b):ndl x g n (k+1)=ndl x g n k++(if b=true then [y.name]else []):=by unfold ndl;rw[List.take_add_one,hy,List.filter_append,List.map_append];exact zGv
theorem ag8{x:aQ}{g:List aC}{n:aC}{k:Nat}(hk:g.length=k):ndl x g n k=DI x g n:=by unfold ndl DI;rw[qI (yG hk)]
theorem ajF(x:aQ)(g:List aC)(n:aC)(k:Nat):(ndl x g n k).length<=k:=by unfold ndl;rw[qM];refine qR (yO _ _) ?_;rw[List.length_take];omega
theorem ajG{x:aQ}{g:List aC}{n:aC}{k:Nat}(h:∀y∈g,okS y.name):∀s∈ndl x g n k,okS s:=by intro s hs;unfold ndl at hs;obtain⟨y,hy,rfl⟩:=yD.1 hs;exact h y (List.mem_of_mem_take (List.mem_filter.1 hy).1)
def rO(g:List aC):OE:=nI (rV g) g.length g.length
def SV(x:aQ)(g:List aC)(i:Nat)(r:tN):Bool:=(intsOf (x.targets r.spec.name)).contains (x.find (nodeAt g i).name)
def MG(x:aQ)(q:dD)(g:List aC)(i:Nat):List Bool:=(List.range i).map (tC x q g)
theorem FH(x:aQ)(q:dD)(g:List aC)(i:Nat):(MG x q g i).length=i:=by simp[MG]
theorem acg(x:aQ)(q:dD)(g:List aC)(i:Nat):MG x q g (i+1)=MG x q g i++[tC x q g i]:=by simp[MG,List.range_succ]
theorem aaG(x:aQ)(q:dD)(g:List aC){i k:Nat}(hk:k<i):(MG x q g i).getD k false=tC x q g k:=by unfold MG;rw[qC,List.getElem?_map,List.getElem?_range hk];rfl
def KD(x:aQ)(q:dD)(g:List aC)(i f:Nat):Bool:=tC x q g i||(List.range f).any fun k=>tC x q g k&&rJ (rO g) k i
theorem KE(x:aQ)(q:dD)(g:List aC)(i f:Nat):KD x q g i (f+1)=(KD x q g i f||tC x q g f&&rJ (rO g) f i):=by unfold KD;rw[List.range_succ,List.any_append];simp[Bool.or_assoc]
def FI(x:aQ)(q:dD)(g:List aC)(i:Nat):Bool:= !KD x q g i g.length
def xq(x:aQ)(g:List aC)(n:aC):Bool:= !decide (n.needs=DI x g n)
theorem ach{lC:List Value}{x:aQ}(hx:fO B w lC x){Ba:List Value}{q:dD}(hq:mg B w Ba q){CS:List Value}{g:List aC}(hg:rU B w CS g)(hNm:Named x g)(hlp:x.packs.length<=1000000)(hlg:g.length<=1000000):Calls Tryz.prog 63 #[.agg lC.toArray,.agg Ba.toArray,.agg CS.toArray] w fun e w'=>iY (dB [(8,aX g fun _ n=>xq x g n),(9,aX g fun i _=>rJ (rO g) i i),(10,aX g fun i _=>FI x q g i)]) w w' e:=by
 have alY:∀y∈g,okS y.name:=fun y hy=>by obtain⟨i,hi⟩:=List.mem_iff_getElem?.1 hy;obtain⟨v,-,hv⟩:=id hg;obtain⟨_,_,rfl,-,-⟩:=hv.shape;obtain⟨_,_,_,_,_,_,_,_,-,-,-,o1,-⟩:=jf hv hi;exact o1
 have aoS:=zh alY;clear alY;obtain⟨aP,ak,aJ,aO,aG,aH,rfl,fF,fG,dP,dQ,aB,bJ,mY⟩:=open_rec hx;clear hx;try rw[aB.out]
 obtain⟨dw,aY,dA,rfl,oU,oV,bQ,E8⟩:=lM hq;clear hq;try rw[bQ.out]
 obtain⟨dI,ay,dh,rfl,rC,rD,bG,Jd⟩:=nH hg;clear hg;try rw[bG.out]
 obtain⟨W0,hW0,aV,jK,aF⟩:=zO w (.slice aP ak aJ) (.slice aO aG aH) (.slice dw aY dA) (.slice dI ay dh) 25 28 31;obtain⟨eX,bK,bT⟩:=mY W0 aV.out;clear mY;obtain⟨zL,gu⟩:=E8 W0 aV.out;clear E8;obtain⟨Bg,dU⟩:=Jd W0 aV.out;clear Jd;have En:=zh hNm;have aoT:=hlg;rw[bG.out]at aoT;obtain⟨rc,rs,hr⟩:∃c s,dB [(8,aX g fun _ n=>xq x g n),(9,aX g fun i _=>rJ (rO g) i i),(10,aX g fun i _=>FI x q g i)]=(c,s):=⟨_,_,rfl⟩;have aZ:=zh hr;rw[hr];unfold iY;dsimp only;obtain⟨W1,hW1⟩:=ze (W0.alloc (.cells #[.int .u8 0,.string ⟨#[]⟩] 38));have aI:Hid (O0 W0 W1):=zAc;have iM:Hid (∀W,O0 W1 W->W.heap[W0.heap.size]? =some (.cells #[.int .u8 0,.string ⟨#[]⟩] 38 (0,0))):=fun W ho=>by exact zDt
 have wZ:Hid (O0 W1 W1):=Only.refl _ _;clear hr;obtain⟨k0,k1,k2,k3⟩:=aF.out W1 (aI.out.same wZ.out);have hW0':=hW0.symm;clear hW0;go_enter Tryz.func63,Tryz.ntmps63;go_wp2_with fail;clear hW1 hW0' k0 k1 k2 k3;have fQ:=wZ;go_loopw [22] (fun vi bD=>Hid (O0 W1 bD)/\∃i:Nat,vi= .int .i64 i/\i<=ay/\Hid (∀j,j<i->xq x g (nodeAt g j)=false)) (fun v _=>ay-(RowKit.intOf v).toNat);case atStart=>exact⟨fQ,0,rfl,qE _,show Hid _ from fun j hj=>by omega⟩
 case round=>
  obtain⟨bD,rfl⟩:=zB wr;clear fQ;obtain⟨jD,i,rfl,hi,HQ⟩:=hrel;obtain⟨k0,k1,k2,k3⟩:=aF.out bD (aI.out.same jD.out);by_cases ci:i<ay
  ·obtain⟨yn,hxn⟩:=zG g i zAp;obtain⟨Kv,wI,nR,nU,nV,mV,lD,mP,hen,lY,lG,Fp,Eo,jO⟩:=jf (dU.out W0 zr) hxn;first|subst hen| (simp only[qG,qO,and_true]at hen;obtain⟨rfl,rfl⟩:=hen)
   have Nn1:=zh lY;have Nn2:=zh lG;have jg:=zh jO;have uJ:=zh hxn;clear jO hxn lY lG;have U2:Hid (∀W,O0 W0 W->aS 2 dO B W (.slice nR nU nV) yn.sets):=fun W ho=>(jg.out W ho).2.1;have Kw:Hid (∀W,O0 W0 W->aS 1 bU B W (.slice mV lD mP) yn.needs):=fun W ho=>(jg.out W ho).2.2.1;have vG:Hid (∀W,O0 W0 W->dH B W [.string yn.name,.string yn.version,.slice nR nU nV,.slice mV lD mP] yn):=fun W ho=>(jg.out W ho).2.2.2;have hfd:0<=x.find yn.name:=by exact zFs
   have HFd:=zh hfd;clear hfd;have HRC:Hid (SX bD (bD.alloc (.cells #[] 9)) (.slice (some ⟨bD.heap.size,0,none⟩) 0 0) (ndl x g yn 0)):=⟨zn bD,fun k hk=>zBD⟩;have Jk:Hid (O0 bD (bD.alloc (.cells #[] 9))):=zr.alloc _;clear k0 k1 k2 k3;obtain⟨k0,k1,k2,k3⟩:=aF.out (bD.alloc (.cells #[] 9)) (aI.out.same (jD.out.alloc _));go_wp2_with fail;clear k0 k1 k2 k3;go_loopw [8,29] (fun vr vk iJ=>Hid (O0 bD iJ)/\∃k:Nat,vk= .int .i64 k/\k<=ay/\Hid (SX bD iJ vr (ndl x g yn k))) (fun _ v _=>ay-(RowKit.intOf v).toNat);case atStart=>exact⟨Jk,0,rfl,qE _,HRC⟩
   case round=>
    obtain⟨iJ,rfl⟩:=zB wr;clear Jk HRC;obtain⟨tu,k,rfl,hk,HV⟩:=hrel;obtain⟨k0,k1,k2,k3⟩:=aF.out iJ (aI.out.same (jD.out.same tu.out));by_cases ck:k<ay
    ·have iE:=zw (k+1);obtain⟨ym,hxm⟩:=zG g k zAp;obtain⟨bkm,alV,am1,nm1,cm1,am2,nm2,cm2,hem,ae2,ae3,alW,alX,Xq⟩:=jf (dU.out W0 zr) hxm;first|subst hem| (simp only[qG,qO,and_true]at hem;obtain⟨rfl,rfl⟩:=hem)
     have Jl:=zh Xq;have HXm:=zh hxm;clear Xq hxm ae2 ae3;have HCm:Hid (∀W,O0 W0 W->dH B W [.string ym.name,.string ym.version,.slice am1 nm1 cm1,.slice am2 nm2 cm2] ym):=fun W ho=>(Jl.out W ho).2.2.2;obtain⟨ar,cr,Nb,-,-⟩:=bg HV.out.own;obtain⟨lk,hlk⟩:=ze ((ndl x g yn k).length);have hle:=ajF x g yn k;rw[hlk]at Nb hle;subst Nb;have MC:Hid ((ndl x g yn k).length=lk):=hlk;clear hlk;obtain⟨hb,hhb⟩:=ze (wP x yn ym);have HEd:=zh hhb;have BJ:Hid (∀W,O0 W1 W->Calls Tryz.prog 143 #[.agg #[.slice aP ak aJ,.slice aO aG aH],.agg #[.string yn.name,.string yn.version,.slice nR nU nV,.slice mV lD mP],.agg #[.string ym.name,.string ym.version,.slice am1 nm1 cm1,.slice am2 nm2 cm2]] W fun e w'=>e= .returned (.bool hb)/\O0 W w'):=fun W hW=>by rw[<-hhb];exact ab7 (eX.out W (aI.out.same hW)) (vG.out W (aI.out.same hW)) (HCm.out W (aI.out.same hW)) hlp HFd.out
     clear hhb;go_wp2_with fail;clear k0 k1 k2 k3;cases hb with
     |true=>
      refine aU (fun w'=>O0 iJ w') zk zk (by exact((Only.refl (fun _=>False) iJ)).drew) ?_;refine qV ?_ (hy:=zAU);refine qV ?_;refine qV ?_ (hy:=zAU);iterate 2 refine qV ?_
      refine bM (by rfl) rfl rfl (fun w hSw=>(jg.out w (aI.out.same ((jD.out.same tu.out).same hSw))).1) Tryz.underlying83 rfl zk ?_;try simp only[Act.put,fA,fD,fB,dW,dX,dY]
      refine qV ?_;refine qV ?_ (hy:=zAU);iterate 2 refine qV ?_
      refine bM (by rfl) rfl rfl (fun w hSw=>(Jl.out w (aI.out.same ((jD.out.same tu.out).same hSw))).1) Tryz.underlying83 rfl zk ?_;try simp only[Act.put,fA,fD,fB,dW,dX,dY]
      refine bF (v:=.bool true) (f:=143) (args:= #[.agg #[.slice aP ak aJ,.slice aO aG aH],.agg #[.string yn.name,.string yn.version,.slice nR nU nV,.slice mV lD mP],.agg #[.string ym.name,.string ym.version,.slice am1 nm1 cm1,.slice am2 nm2 cm2]]) (by rfl) ?_ ?_ ?_;·exact zDQ
      ·exact zGO
      try simp only[Act.put,fA,fD,fB,dW,dX,dY]
      refine wpQuiet_nil ?_;(intro w9 dR;have fK:=zh dR;clear dR);obtain⟨k0,k1,k2,k3⟩:=aF.out w9 (aI.out.same ((jD.out.same tu.out).same fK.out));have hrm:=(Jl.out w9 (aI.out.same ((jD.out.same tu.out).same fK.out))).1;have Aa:=hrm 0 _ rfl;rw[qF]at Aa;clear hrm;have HVo:Hid (w9.ownsRow 0 9 1 (.slice ar lk cr) lk (bZ (ndl x g yn k))):=by have:=aW HV.out.own fK.out (fun _ _ f=>f);rw[MC.out]at this;exact this
      go_wp2_with (at_builtin;go_must (refine Ai (u:=.string ym.name) iU rfl (.tmp 44) (.tmp 51) rfl rfl rfl (cell_new0 _ _ _) rfl (aW HVo.out ((Only.refl (fun _=>False) _).alloc _) (fun _ _ f=>f)) zAA zHZ ?_));intro v' w4 r1 r2 r3;have MF:Hid (SX bD w4 v' (ndl x g yn (k+1))):=by rw[Xt HXm.out HEd.out,if_pos rfl];exact SX.app (w1:=w9.alloc (.cells #[.string ym.name] 9)) ⟨aW HV.out.own (fK.out.alloc _) (fun _ _ f=>f),HV.out.new⟩ (by have:=(tu.out.same fK.out).size;simp;omega) zCr zBX
      have rF:Hid (O0 bD w4):=((tu.out.same fK.out).alloc _).trans r2 (fun k hk=>.inr (HV.out.new k hk));obtain⟨g4,c4,rfl,-,-,-⟩:=r3;clear r1 r2;exact zDi
     |false=>
      refine aU (fun w'=>O0 iJ w') zk zk (by exact((Only.refl (fun _=>False) iJ)).drew) ?_;refine qV ?_ (hy:=zAU);refine qV ?_;refine qV ?_ (hy:=zAU);iterate 2 refine qV ?_
      refine bM (by rfl) rfl rfl (fun w hSw=>(jg.out w (aI.out.same ((jD.out.same tu.out).same hSw))).1) Tryz.underlying83 rfl zk ?_;try simp only[Act.put,fA,fD,fB,dW,dX,dY]
      refine qV ?_;refine qV ?_ (hy:=zAU);iterate 2 refine qV ?_
      refine bM (by rfl) rfl rfl (fun w hSw=>(Jl.out w (aI.out.same ((jD.out.same tu.out).same hSw))).1) Tryz.underlying83 rfl zk ?_;try simp only[Act.put,fA,fD,fB,dW,dX,dY]
      refine bF (v:=.bool false) (f:=143) (args:= #[.agg #[.slice aP ak aJ,.slice aO aG aH],.agg #[.string yn.name,.string yn.version,.slice nR nU nV,.slice mV lD mP],.agg #[.string ym.name,.string ym.version,.slice am1 nm1 cm1,.slice am2 nm2 cm2]]) (by rfl) ?_ ?_ ?_;·exact zDQ
      ·exact zGO
      try simp only[Act.put,fA,fD,fB,dW,dX,dY]
      refine wpQuiet_nil ?_;(intro w9 dR;have fK:=zh dR;clear dR);have MF:Hid (SX bD w9 (.slice ar lk cr) (ndl x g yn (k+1))):=by rw[Xt HXm.out HEd.out,if_neg zAP,List.append_nil];refine⟨?_,HV.out.new⟩;exact aW HV.out.own fK.out (fun _ _ f=>f)
      have rF:Hid (O0 bD w9):=tu.out.same fK.out;exact zDi
    obtain rfl:ay=k:=by omega
    have iE:=zw (i+1);obtain⟨ar,cr,Nb,-,-⟩:=bg HV.out.own;have hal:ndl x g yn ay=DI x g yn:=ag8 bG.out;obtain⟨lk,hlk⟩:=ze ((DI x g yn).length);obtain⟨b,hb⟩:∃b,decide (DI x g yn=yn.needs)=b:=⟨_,rfl⟩;have hok:=ajG (x:=x) (g:=g) (n:=yn) (k:=ay) aoS.out;rw[hal]at Nb hok;rw[hlk]at Nb;subst Nb;have QI:Hid (Calls Tryz.prog 144 #[.slice ar lk cr,.slice mV lD mP] iJ fun e w'=>e= .returned (.bool b)/\O0 iJ w'):=by refine Xd (oO hlk (by have:=HV.out.own;rw[hal,hlk]at this;exact this) hok) (Kw.out iJ (aI.out.same (jD.out.same tu.out))) b ?_;rw[<-hb];exact decide_eq_true_iff
    have HW:Hid (xq x g yn= !b):=by unfold xq;rw[<-hb,decide_eq_decide.2 eq_comm];rfl
    clear hal hok hlk hb;have hrn:=(jg.out iJ (aI.out.same (jD.out.same tu.out))).1;have U7:=hrn 3 _ rfl;clear hrn;go_wp2_with fail;clear U7;clear k0 k1 k2 k3;refine QI.out.mono ?_;rintro e w9 ⟨rfl,O9⟩;have jZ:Hid (O0 W1 w9):=(jD.out.same tu.out).same O9;clear O9 QI;cases b with
    |true=>have pI:Hid (∀j,j<i+1->xq x g (nodeAt g j)=false):=zh (kM (p:=fun _ n=>xq x g n) uJ.out HQ.out (by exact HW.out));exact zD1
    |false=>
     obtain⟨k0,k1,k2,k3⟩:=aF.out w9 (aI.out.same jZ.out);have hrn:=(jg.out w9 (aI.out.same jZ.out)).1;have Je:=hrn 0 _ rfl;rw[qF]at Je;clear hrn;obtain⟨rfl,rfl⟩:8=rc/\yn.name=rs:=by
      have h:dB [(8,aX g fun _ n=>xq x g n),(9,aX g fun i _=>rJ (rO g) i i),(10,aX g fun i _=>FI x q g i)]=(8,yn.name):=by rw[show(aX g fun _ n=>xq x g n)=some yn.name from nJ uJ.out HQ.out (by exact HW.out)];rfl
      exact zDS
     go_wp2_with fail;refine(jX (w:=w9) _ _).mono ?_;rintro e Fv ⟨rfl,Fz⟩;have kZ:=zh ((jZ.out).same Fz);clear Fz;go_wp2_with (refine wpList_store_row rfl 38 (.tmp 6) (.tmp 69) rfl W0.heap.size #[.int .u8 8,.string yn.name] rfl rfl 38 #[.int .u8 0,.string ⟨#[]⟩] (iM.out Fv kZ.out) zk rfl zk ?_);exact zDX
  obtain rfl:ay=i:=by omega
  have Io:Hid ((aX g fun _ n=>xq x g n)=none):=zh (kL.2 fun j hj=>HQ.out j zBP);have alZ:=zh (acf (Bg.out bD (aI.out.same jD.out)) hlg);clear HQ;go_wp2_with fail;clear k0 k1 k2 k3;refine alZ.out.mono ?_;rintro e W2 ⟨v,L,rfl,MB,hB,O2⟩;have HP2:Hid (O0 W1 W2):=jD.out.same O2;rw[bG.out]at MB;obtain⟨ao,co,rfl,-,-⟩:=bg hB.own;rw[bG.out,MB]at hB;have Ip:=zh MB;have HB:Hid (BX bD W2 (.slice ao ay co) ay L (rO g)):=by have h:=hB;rw[<-bG.out]at h⊢;exact h
  rw[MB];clear O2 MB hB alZ;have fQ:Hid (O0 W2 W2):=Only.refl _ _;go_wp2_with fail;go_loopw [75] (fun vb VF=>Hid (O0 W2 VF)/\∃b:Nat,vb= .int .i64 b/\b<=ay/\Hid (∀j,j<b->rJ (rO g) j j=false)) (fun v _=>ay-(RowKit.intOf v).toNat);case atStart=>exact⟨fQ,0,rfl,qE _,show Hid _ from fun j hj=>by omega⟩
  case round=>
   obtain⟨VF,rfl⟩:=zB wr;clear fQ;obtain⟨HQb,b,rfl,hb,HQ⟩:=hrel;by_cases cb:b<ay
   ·have iE:=zw (b+1);obtain⟨yn,hxn⟩:=zG g b zAp;obtain⟨Kv,wI,nR,nU,nV,mV,lD,mP,hen,lY,lG,Fp,Eo,jO⟩:=jf (dU.out W0 zr) hxn;first|subst hen| (simp only[qG,qO,and_true]at hen;obtain⟨rfl,rfl⟩:=hen)
    have Nn1:=zh lY;have Nn2:=zh lG;have jg:=zh jO;have uJ:=zh hxn;clear jO hxn lY lG;have U2:Hid (∀W,O0 W0 W->aS 2 dO B W (.slice nR nU nV) yn.sets):=fun W ho=>(jg.out W ho).2.1;have Kw:Hid (∀W,O0 W0 W->aS 1 bU B W (.slice mV lD mP) yn.needs):=fun W ho=>(jg.out W ho).2.2.1;have vG:Hid (∀W,O0 W0 W->dH B W [.string yn.name,.string yn.version,.slice nR nU nV,.slice mV lD mP] yn):=fun W ho=>(jg.out W ho).2.2.2;obtain⟨g2,cp2,a2,c2,e2,-,q2,f2⟩:=(HB.out.dK HQb.out).get (i:=b) (by rw[Ip.out];omega);rw[Ip.out]at e2;simp only[qU,true_and]at e2;obtain⟨rfl,rfl⟩:=e2;obtain⟨b2,rfl,q1⟩:=f2 b zAA;obtain⟨y1,hy1⟩:=ze (rJ (rO g) b b);rw[hy1]at q1;have HY1:=zh hy1;clear f2 hy1;cases y1 with
    |true=>
     obtain⟨k0,k1,k2,k3⟩:=aF.out VF (aI.out.same (HP2.out.same HQb.out));have hrn:=(jg.out VF (aI.out.same (HP2.out.same HQb.out))).1;have Je:=hrn 0 _ rfl;rw[qF]at Je;clear hrn;obtain⟨rfl,rfl⟩:9=rc/\yn.name=rs:=by
      have h:dB [(8,aX g fun _ n=>xq x g n),(9,aX g fun i _=>rJ (rO g) i i),(10,aX g fun i _=>FI x q g i)]=(9,yn.name):=by rw[Io.out,show(aX g fun i _=>rJ (rO g) i i)=some yn.name from nJ uJ.out HQ.out HY1.out];rfl
      exact zDS
     go_wp2_with fail;refine(jX (w:=VF) _ _).mono ?_;rintro e Fv ⟨rfl,Fz⟩;have kZ:=zh (((HP2.out.same HQb.out)).same Fz);clear Fz;go_wp2_with (refine wpList_store_row rfl 38 (.tmp 6) (.tmp 91) rfl W0.heap.size #[.int .u8 9,.string yn.name] rfl rfl 38 #[.int .u8 0,.string ⟨#[]⟩] (iM.out Fv kZ.out) zk rfl zk ?_);exact zDX
    |false=>
     have pI:Hid (∀j,j<b+1->rJ (rO g) j j=false):=zh (kM (p:=fun i _=>rJ (rO g) i i) uJ.out HQ.out HY1.out);go_wp2_with fail;go_roundw;case rel=>exact⟨HQb,b+1,by first|rfl|go_num,by omega,pI⟩
     case measure=>simp[RowKit.intOf]<;>omega
   obtain rfl:ay=b:=by omega
   have JG:Hid ((aX g fun i _=>rJ (rO g) i i)=none):=zh (kL.2 fun j hj=>HQ.out j zBP);clear HQ;have HRC:Hid (RX VF (VF.alloc (.cells #[] 4)) (.slice (some ⟨VF.heap.size,0,none⟩) 0 0) (MG x q g 0)):=⟨KC VF,fun k hk=>zBD⟩;have al0:Hid (O0 VF (VF.alloc (.cells #[] 4))):=zr.alloc _;obtain⟨k0,k1,k2,k3⟩:=aF.out (VF.alloc (.cells #[] 4)) (aI.out.same ((HP2.out.same HQb.out).alloc _));go_wp2_with fail;clear k0 k1 k2 k3;go_loopw [12,97] (fun vr vc Zn=>Hid (O0 VF Zn)/\∃c:Nat,vc= .int .i64 c/\c<=ay/\Hid (RX VF Zn vr (MG x q g c))) (fun _ v _=>ay-(RowKit.intOf v).toNat);case atStart=>exact⟨al0,0,rfl,qE _,HRC⟩
   case round=>
    obtain⟨Zn,rfl⟩:=zB wr;clear al0 HRC;obtain⟨HRc,c,rfl,hc,HV⟩:=hrel;obtain⟨k0,k1,k2,k3⟩:=aF.out Zn (aI.out.same (HP2.out.same (HQb.out.same HRc.out)));by_cases cc:c<ay
    ·have yj:Hid (O0 W2 Zn):=HQb.out.same HRc.out;have Jk:Hid (O0 Zn Zn):=Only.refl _ _;obtain⟨yn,hxn⟩:=zG g c zAp;obtain⟨Kv,wI,nR,nU,nV,mV,lD,mP,hen,lY,lG,Fp,Eo,jO⟩:=jf (dU.out W0 zr) hxn;first|subst hen| (simp only[qG,qO,and_true]at hen;obtain⟨rfl,rfl⟩:=hen)
     have Nn1:=zh lY;have Nn2:=zh lG;have jg:=zh jO;have uJ:=zh hxn;clear jO hxn lY lG;have U2:Hid (∀W,O0 W0 W->aS 2 dO B W (.slice nR nU nV) yn.sets):=fun W ho=>(jg.out W ho).2.1;have Kw:Hid (∀W,O0 W0 W->aS 1 bU B W (.slice mV lD mP) yn.needs):=fun W ho=>(jg.out W ho).2.2.1;have vG:Hid (∀W,O0 W0 W->dH B W [.string yn.name,.string yn.version,.slice nR nU nV,.slice mV lD mP] yn):=fun W ho=>(jg.out W ho).2.2.2;go_wp2_with fail;clear k0 k1 k2 k3;go_loopw [14,103] (fun vs vd wrd=>Hid (O0 Zn wrd)/\∃d:Nat,vd= .int .i64 d/\d<=aY/\vs= .bool ((q.roots.take d).any (SV x g c))) (fun _ v _=>aY-(RowKit.intOf v).toNat);case atStart=>exact⟨Jk,0,rfl,qE _,rfl⟩
     case round=>
      obtain⟨wrd,rfl⟩:=zB wr;clear Jk;obtain⟨Qi,d,rfl,hd,rfl⟩:=hrel;obtain⟨k0,k1,k2,k3⟩:=aF.out wrd (aI.out.same (HP2.out.same (yj.out.same Qi.out)));by_cases cd:d<aY
      ·have iE:=zw (d+1);obtain⟨yr,hxr⟩:=zG q.roots d zBE;obtain⟨bkr,Ou,Ew,Ey,Ez,EC,ED,EF,her,Fe,Fg,Ov,Y8,zM⟩:=pU (gu.out W0 zr) hxr;first|subst her| (simp only[qG,qO,and_true]at her;obtain⟨rfl,rfl⟩:=her)
       have GL:=zh zM;have QJ:=zh hxr;clear zM hxr Fe Fg;obtain⟨is,his⟩:=ze ((q.roots.take d).any (SV x g c));rw[his];have HIs:=zh his;have Cb:Hid (O0 W1 wrd):=(HP2.out.same (yj.out.same Qi.out));clear his;go_wp2_with fail;clear k0 k1 k2 k3;cases is with
       |true=>
        have HQd:(q.roots.take (d+1)).any (SV x g c)=true:=by rw[Xr QJ.out,HIs.out];rfl
        refine dn (n:=22) (E:=fun _=>false) (S:=fun W=>O0 wrd W) zk rfl (by exact((Only.refl (fun _=>False) wrd)).drew) (fun hHeld=>?_);refine tW 0 ?_;refine tW 1 ?_;refine tS 2 ?_;refine tS 3 ?_;refine tS 4 ?_;refine tS 5 ?_;refine tS 6 ?_;refine tS 7 ?_;refine tS 8 ?_;refine tS 9 ?_;refine tS 10 ?_;refine tS 11 ?_;refine tS 12 ?_;refine tS 13 ?_;refine tS 14 ?_;refine tS 15 ?_;refine tS 16 ?_;refine tS 17 ?_;refine tS 18 ?_;refine tS 19 ?_;refine tW 20 ?_;refine tW 21 ?_;refine bV zk ?_ _;have ajH:Hid (O0 Zn _):=Qi.out.same hHeld;clear hHeld;go_wp2_with fail;go_roundw;case rel=>exact⟨ajH,d+1,by first|rfl|go_num,by omega,by rw[HQd]⟩
        case measure=>simp[RowKit.intOf]<;>omega
       |false=>
        obtain⟨fo,hfo⟩:=ze (x.find yn.name);obtain⟨tb,htb⟩:=ze ((intsOf (x.targets yr.spec.name)).contains fo);have HQd:(q.roots.take (d+1)).any (SV x g c)=tb:=by rw[Xr QJ.out,HIs.out,Bool.false_or];unfold SV;rw[jU uJ.out,hfo,htb]
        have HF:Hid (∀W,O0 W1 W->Calls Tryz.prog 38 #[.agg #[.slice aP ak aJ,.slice aO aG aH],.string yn.name] W fun e w'=>e= .returned (.int .i64 fo)/\O0 W w'):=fun W hW=>by rw[<-hfo];exact lI (eX.out W (aI.out.same hW)) _
        have Rq:Hid (∀W,O0 W1 W->Calls Tryz.prog 146 #[.agg #[.slice aP ak aJ,.slice aO aG aH],.string yr.spec.name] W fun e w'=> ∃v,e= .returned v/\Ints w' v (intsOf (x.targets yr.spec.name))/\O0 W w'):=fun W hW=>wO (eX.out W (aI.out.same hW)) hlp _;have L9:Hid (∀W v,Ints W v (intsOf (x.targets yr.spec.name))->Calls Tryz.prog 39 #[v,.int .i64 fo] W fun e w'=>e= .returned (.bool tb)/\O0 W w'):=fun W v hv=>by rw[<-htb];exact MV hv _
        have aoU:=zh HQd;clear htb hfo HQd;refine dn (n:=22) (E:=fun _=>false) (S:=fun W=>O0 wrd W) zk rfl (by exact((Only.refl (fun _=>False) wrd)).drew) (fun hHeld=>?_);refine tW 0 ?_;refine tW 1 ?_;refine tK 2 ?_ (hy:=zAI);refine tW 3 ?_;refine tK 4 ?_ (hy:=zAI);refine tW 5 ?_;refine tW 6 ?_;refine tW 7 ?_;refine tW 8 ?_;refine tK 9 ?_ (hy:=zAI);refine tK 11 ?_ (hy:=zAI);refine tW 12 ?_;refine tK 13 ?_ (hy:=zAI);refine tW 14 ?_;refine tW 15 ?_;refine tW 16 ?_;refine tK 17 ?_ (hy:=zAI);refine tO 10 fun K hK=>?_;(go_simp;refine(Rq.out _ (Cb.out.same hHeld)).mono ?_;rintro e w5 ⟨vt,rfl,hI,o5⟩;try go_wp2_with fail);refine hK.out _ _ ?_ (fun hHeld=>?_);·exact zD8
        clear hK K;try simp only[Act.put,fA,fD,fB,dW,dX,dY]
        refine tO 18 fun K hK=>?_;(go_simp;refine(HF.out _ (Cb.out.same hHeld)).mono ?_;rintro e w6 ⟨rfl,o6⟩;try replace hI:=hI.dK o6;try go_wp2_with fail);refine hK.out _ _ ?_ (fun hHeld=>?_);·exact zFQ
        clear hK K;try simp only[Act.put,fA,fD,fB,dW,dX,dY]
        refine tO 19 fun K hK=>?_;(go_simp;refine(L9.out _ _ hI).mono ?_;rintro e w7 ⟨rfl,o7⟩;try go_wp2_with fail);refine hK.out _ _ ?_ (fun hHeld=>?_);·(try dsimp only)<;>(exact Only.same hHeld o7)
        clear hK K;try simp only[Act.put,fA,fD,fB,dW,dX,dY]
        refine tW 20 ?_;refine tW 21 ?_;refine bV zk ?_ _;have ajH:Hid (O0 Zn _):=Qi.out.same hHeld;clear hHeld Rq HF L9;go_wp2_with fail;go_roundw;case rel=>exact⟨ajH,d+1,by first|rfl|go_num,by omega,by rw[aoU.out]⟩
        case measure=>simp[RowKit.intOf]<;>omega
      obtain rfl:aY=d:=by omega
      have iE:=zw (c+1);obtain⟨is,his⟩:=ze ((q.roots.take aY).any (SV x g c));rw[his];have HIs:Hid (tC x q g c=is):=by have h:=his;rw[qI (yG bQ.out)]at h;exact h
      clear his;obtain⟨ar,cr,Nb,-,-⟩:=bg HV.out.own;rw[FH]at Nb;subst Nb;have MC:Hid ((MG x q g c).length=c):=FH _ _ _ _;have HVo:Hid (wrd.ownsRow 0 4 1 (.slice ar c cr) c ((MG x q g c).map Value.bool)):=by have:=aW HV.out.own Qi.out (fun _ _ f=>f);rw[MC.out]at this;exact this
      clear k0 k1 k2 k3;go_wp2_with (at_builtin;go_must (refine Ai (u:=.bool is) DL rfl (.tmp 128) (.tmp 130) rfl rfl rfl (cell_new0 _ _ _) rfl (aW HVo.out ((Only.refl (fun _=>False) _).alloc _) (fun _ _ f=>f)) zAA zHZ ?_));intro v' w4 r1 r2 r3;have MF:Hid (RX VF w4 v' (MG x q g (c+1))):=by rw[acg,HIs.out];exact RX.app (w1:=wrd.alloc (.cells #[.bool is] 4)) ⟨aW HV.out.own (Qi.out.alloc _) (fun _ _ f=>f),HV.out.new⟩ (by have:=(HRc.out.same Qi.out).size;simp;omega) zCr zBX
      have HR4:Hid (O0 VF w4):=((HRc.out.same Qi.out).alloc _).trans r2 (fun k hk=>.inr (HV.out.new k hk));obtain⟨g4,c4,rfl,-,-,-⟩:=r3;clear r1 r2;go_wp2_with fail;go_roundw;case rel=>exact⟨HR4,c+1,by first|rfl|go_num,by omega,MF⟩
      case measure=>simp[RowKit.intOf]<;>omega
    obtain rfl:ay=c:=by omega
    have yj:Hid (O0 W2 Zn):=HQb.out.same HRc.out;have fQ:Hid (O0 Zn Zn):=Only.refl _ _;obtain⟨ar,cr,Nb,-,-⟩:=bg HV.out.own;rw[FH]at Nb;subst Nb;go_wp2_with fail;clear k0 k1 k2 k3;go_loopw [135] (fun ve wre=>Hid (O0 Zn wre)/\∃e:Nat,ve= .int .i64 e/\e<=ay/\Hid (∀j,j<e->FI x q g j=false)) (fun v _=>ay-(RowKit.intOf v).toNat);case atStart=>exact⟨fQ,0,rfl,qE _,show Hid _ from fun j hj=>by omega⟩
    case round=>
     obtain⟨wre,rfl⟩:=zB wr;clear fQ;obtain⟨HSe,e,rfl,he,HQ⟩:=hrel;by_cases ce:e<ay
     ·have iE:=zw (e+1);obtain⟨yn,hxn⟩:=zG g e zAp;obtain⟨Kv,wI,nR,nU,nV,mV,lD,mP,hen,lY,lG,Fp,Eo,jO⟩:=jf (dU.out W0 zr) hxn;first|subst hen| (simp only[qG,qO,and_true]at hen;obtain⟨rfl,rfl⟩:=hen)
      have Nn1:=zh lY;have Nn2:=zh lG;have jg:=zh jO;have uJ:=zh hxn;clear jO hxn lY lG;have U2:Hid (∀W,O0 W0 W->aS 2 dO B W (.slice nR nU nV) yn.sets):=fun W ho=>(jg.out W ho).2.1;have Kw:Hid (∀W,O0 W0 W->aS 1 bU B W (.slice mV lD mP) yn.needs):=fun W ho=>(jg.out W ho).2.2.1;have vG:Hid (∀W,O0 W0 W->dH B W [.string yn.name,.string yn.version,.slice nR nU nV,.slice mV lD mP] yn):=fun W ho=>(jg.out W ho).2.2.2;obtain⟨be,cr3,e3,q3⟩:=RX.cell (w:=_) (v:=_) (w0:=VF) ⟨aW HV.out.own HSe.out (fun _ _ f=>f),HV.out.new⟩ (FH x q g ay) (k:=e) zAA;first| (simp only[qU,qG,qO,and_true,true_and]at e3;obtain⟨rfl,rfl⟩:=e3)| (simp only[qU,true_and]at e3;obtain⟨rfl,rfl⟩:=e3)
      rw[aaG x q g zAA]at q3;obtain⟨y3,hy3⟩:=ze (tC x q g e);rw[hy3]at q3;have HY3:=zh hy3;clear hy3;have Jk:Hid (O0 wre wre):=Only.refl _ _;go_wp2_with fail;clear q3;go_loopw [17,144] (fun vs vf wrf=>Hid (O0 wre wrf)/\∃f:Nat,vf= .int .i64 f/\f<=ay/\vs= .bool (KD x q g e f)) (fun _ v _=>ay-(RowKit.intOf v).toNat);case atStart=>exact⟨Jk,0,rfl,qE _,by rw[show KD x q g e 0=tC x q g e from by unfold KD;simp,HY3.out]⟩
      case round=>
       obtain⟨wrf,rfl⟩:=zB wr;clear Jk HY3;obtain⟨HTf,f,rfl,hf,rfl⟩:=hrel;by_cases cf:f<ay
       ·have iE:=zw (f+1);obtain⟨fo,hfo⟩:=ze (KD x q g e f);rw[hfo];have HFo:=zh hfo;clear hfo;obtain⟨bf,cr3,e3,q3⟩:=RX.cell (w:=_) (v:=_) (w0:=VF) ⟨aW HV.out.own (HSe.out.same HTf.out) (fun _ _ f=>f),HV.out.new⟩ (FH x q g ay) (k:=f) zAA;first| (simp only[qU,qG,qO,and_true,true_and]at e3;obtain⟨rfl,rfl⟩:=e3)| (simp only[qU,true_and]at e3;obtain⟨rfl,rfl⟩:=e3)
        rw[aaG x q g zAA]at q3;obtain⟨y3,hy3⟩:=ze (tC x q g f);rw[hy3]at q3;have HY3:=zh hy3;clear hy3;obtain⟨g2,cp2,a2,c2,e2,-,q2,f2⟩:=(HB.out.dK (yj.out.same (HSe.out.same HTf.out))).get (i:=f) (by rw[Ip.out];omega);rw[Ip.out]at e2;simp only[qU,true_and]at e2;obtain⟨rfl,rfl⟩:=e2;obtain⟨b2,rfl,q1⟩:=f2 e zAA;obtain⟨y1,hy1⟩:=ze (rJ (rO g) f e);rw[hy1]at q1;have HY1:=zh hy1;clear f2 hy1;have Ho:Hid ((tC x q g f&&rJ (rO g) f e)=(y3&&y1)):=by rw[Hid,HY3.out,HY1.out]
        cases fo with
        |true=>
         have HF2:KD x q g e (f+1)=true:=by rw[KE,HFo.out,Ho.out];rfl
         exact zEY
        |false=>
         cases y3 with
         |false=>
          have HF2:KD x q g e (f+1)=false:=by rw[KE,HFo.out,Ho.out];rfl
          exact zEY
         |true=>
          have HF2:KD x q g e (f+1)=y1:=by rw[KE,HFo.out,Ho.out,Bool.false_or,yR]
          exact zEY
       obtain rfl:ay=f:=by omega
       have iE:=zw (e+1);obtain⟨fo,hfo⟩:=ze (KD x q g e ay);rw[hfo];have HFo:Hid (FI x q g e= !fo):=by unfold FI;rw[bG.out,hfo];rfl
       clear hfo;cases fo with
       |true=>
        have pI:Hid (∀j,j<e+1->FI x q g j=false):=zh (kM (p:=fun i _=>FI x q g i) uJ.out HQ.out (by rw[HFo.out];rfl));have HS9:Hid (O0 Zn wrf):=HSe.out.same HTf.out;go_wp2_with fail;go_roundw;case rel=>exact⟨HS9,e+1,by first|rfl|go_num,by omega,pI⟩
        case measure=>simp[RowKit.intOf]<;>omega
       |false=>
        obtain⟨k0,k1,k2,k3⟩:=aF.out wrf (aI.out.same (HP2.out.same (yj.out.same (HSe.out.same HTf.out))));have hrn:=(jg.out wrf (aI.out.same (HP2.out.same (yj.out.same (HSe.out.same HTf.out))))).1;have Je:=hrn 0 _ rfl;rw[qF]at Je;clear hrn;obtain⟨rfl,rfl⟩:10=rc/\yn.name=rs:=by
         have h:dB [(8,aX g fun _ n=>xq x g n),(9,aX g fun i _=>rJ (rO g) i i),(10,aX g fun i _=>FI x q g i)]=(10,yn.name):=by rw[Io.out,JG.out,show(aX g fun i _=>FI x q g i)=some yn.name from nJ uJ.out HQ.out (by rw[HFo.out];rfl)];rfl
         exact zDS
        go_wp2_with fail;refine(jX (w:=wrf) _ _).mono ?_;rintro e Fv ⟨rfl,Fz⟩;have kZ:=zh (((HP2.out.same (yj.out.same (HSe.out.same HTf.out)))).same Fz);clear Fz;go_wp2_with (refine wpList_store_row rfl 38 (.tmp 6) (.tmp 172) rfl W0.heap.size #[.int .u8 10,.string yn.name] rfl rfl 38 #[.int .u8 0,.string ⟨#[]⟩] (iM.out Fv kZ.out) zk rfl zk ?_);exact zDX
     obtain rfl:ay=e:=by omega
     have hq:(aX g fun i _=>FI x q g i)=none:=kL.2 fun j hj=>HQ.out j zBP;have sJ:Hid (O0 W1 wre):=(HP2.out.same (yj.out.same HSe.out));obtain⟨rfl,rfl⟩:0=rc/\ByteArray.empty=rs:=by
      have h:dB [(8,aX g fun _ n=>xq x g n),(9,aX g fun i _=>rJ (rO g) i i),(10,aX g fun i _=>FI x q g i)]=(0,ByteArray.empty):=by rw[Io.out,JG.out,hq];rfl
      exact zDS
     go_wp2_with (refine wpList_store_row rfl 38 (.tmp 6) (.tmp 174) rfl W0.heap.size #[.int .u8 0,.string ByteArray.empty] rfl rfl 38 #[.int .u8 0,.string ⟨#[]⟩] (iM.out wre sJ.out) zk rfl zk ?_);refine cO (p:=6) rfl rfl rfl (run_loadVar_row _ _ _ _ _ (0,0) _ (setRow_heap _ _ _ _ _ _ (iM.out wre sJ.out)) Tryz.underlying38 rfl zk) ?_;exact zEu
end
end Go.Proofs.YtdmmebjjojimiaaGreatDoor
