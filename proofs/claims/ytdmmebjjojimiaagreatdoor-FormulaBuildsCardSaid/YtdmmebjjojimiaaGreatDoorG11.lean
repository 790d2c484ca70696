/- Rf1 Rf2, in one text.; The document's checks: May, twice, settings, wish. Printed by gen_rf3.py. -/
import Derived.Test.YtdmmebjjojimiaaGreatDoorG04
import Derived.Test.YtdmmebjjojimiaaGreatDoorG10
set_option maxRecDepth 100000
set_option maxHeartbeats 8000000
set_option linter.all false
namespace Go.Proofs
theorem zAN{p:Prop}(h:p:=by rw[aB.out];exact hlen):p:=h
theorem zAV{p:Prop}(h:p:=by rw[aB.out];omega):p:=h
theorem zAh{p:Prop}(h:p:=by rw[Ap.out];omega):p:=h
theorem zAw{p:Prop}(h:p:=by rw[hW0];exact Only.refl _ _):p:=h
theorem zCe{p:Prop}(h:p:=by
 go_wp2_with fail
 go_roundw
 case rel=>exact⟨HO,i+1,by first|rfl|go_num,by omega,HZ2⟩
 case measure=>simp[RowKit.intOf]<;>omega):p:=h
theorem zCp{p:Prop}(h:p:=by
 go_wp2_with fail
 go_ret
 exact⟨rfl,bM.out.same HO.out⟩):p:=h
end Go.Proofs
namespace Go.Proofs.YtdmmebjjojimiaaGreatDoor
open Go.RowKit
section
variable {w w':World} {B:Nat}
theorem Kv{vl:Value}{l:List Str}(hl:aQ 1 dN B w vl l)(s:Str):Calls Tryz.prog 128 #[vl,.string s] w fun e w'=>e= .returned (.bool (iT l s))/\O0 w w':=by
 obtain⟨a_l,uJ,YA,rfl,g_l,TL,Ap,TM⟩:=open_strs hl;clear hl;obtain⟨W0,hW0⟩:=zB w;have bM:Hid (O0 w W0):=zAw;have yg:=TM W0 bM.out;clear TM;obtain⟨r,hr⟩:=ze (iT l s);rw[hr];have bD:=zh hr;clear hr;subst hW0;go_enter Tryz.func128,Tryz.ntmps128;go_wp2_with fail;go_loopw [8] (fun vi wr=>Hid (O0 W0 wr)/\∃i:Nat,vi= .int .i64 i/\i<=uJ/\Hid (s∉l.take i)) (fun v _=>uJ-(RowKit.intOf v).toNat);case atStart=>exact⟨show Hid _ from Only.refl _ _,0,rfl,qE _,show Hid _ from by simp[Hid]⟩
 case round=>
  obtain⟨HO,i,rfl,hi,HZ⟩:=hrel;by_cases ci:i<uJ
  ·have hrow:=yg.out wr HO.out;have hrow0:=hrow;rw[<-Ap.out]at hrow0;obtain⟨b,off,he,-,-⟩:=hrow0.at (by have:=Ap.out;omega);subst he;obtain⟨y,hx⟩:=zG l i zAh;obtain⟨cs,hl,hr,hC⟩:=hrow.get hx;clear hrow hrow0;obtain⟨rfl,-⟩:=hC;have hcell:=hr 0 _ rfl;simp only[yH,qF]at hcell;have iG:=zw (i+1);have hbd:=lu y s;have HX:=zh hx;clear hx hr hl;by_cases hy:y=s
   ·have hd:decide (y=s)=true:=qX hy;have hrt:r=true:=by rw[<-bD.out,AO,<-hy];exact qT HX.out
    subst hrt;rw[hd]at hbd;clear hd hy;exact zCp
   have hd:decide (y=s)=false:=qP hy;rw[hd]at hbd;have HZ2:Hid (s∉l.take (i+1)):=fun hm=>by
    rcases bH HX.out hm with h|h;·exact HZ.out h
    exact hy h.symm
   clear hd hy;exact zCe
  obtain rfl:uJ=i:=by omega
  have hrf:r=false:=by rw[<-bD.out,Bool.eq_false_iff];intro h;have:=HZ.out;rw[qI (yG Ap.out)]at this;exact this (AO.1 h)
  subst hrf;exact zCp
theorem sH{pR:List Value}{x:aF}(hx:gy B w pR x)(s:Str):Calls Tryz.prog 38 #[.agg pR.toArray,.string s] w fun e w'=>e= .returned (.int .i64 (x.find s))/\O0 w w':=by
 obtain⟨aV,ak,aS,aT,aK,aO,rfl,fV,fZ,dQ,dR,aB,bJ,qo⟩:=open_rec hx;clear hx;try rw[aB.out]
 obtain⟨W0,hW0,bM,vC,aU⟩:=Nj w (.slice aV ak aS) (.slice aT aK aO) 25;obtain⟨gI,bK,bT⟩:=qo W0 bM.out;clear qo;obtain⟨r,hr⟩:=ze (x.find s);rw[hr];have bD:=zh hr;clear hr;go_enter Tryz.func38,Tryz.ntmps38;go_wp2_with fail;rw[<-hW0];clear hW0;obtain⟨k0,k1⟩:=aU.out W0 zr;go_wp2_with fail;go_loopw [9] (fun vi wr=>Hid (O0 W0 wr)/\∃i:Nat,vi= .int .i64 i/\i<=ak/\Hid (∀y∈x.packs.take i,decide (y.name=s)=false)) (fun v _=>ak-(RowKit.intOf v).toNat);case atStart=>exact⟨show Hid _ from Only.refl _ _,0,rfl,qE _,show Hid _ from fun y hy=>by simp at hy⟩
 case round=>
  clear k0 k1;obtain⟨HO,i,rfl,hi,HZ⟩:=hrel;obtain⟨k0,k1⟩:=aU.out wr HO.out;by_cases ci:i<ak
  ·have hrow:=bK.out wr HO.out;have hrow0:=hrow;rw[<-aB.out]at hrow0;obtain⟨b,off,he,-,-⟩:=hrow0.at (by have:=aB.out;omega);subst he;obtain⟨y,hx⟩:=zG x.packs i zAV;obtain⟨cs,hl,hr,hC⟩:=hrow.get hx;clear hrow hrow0;obtain⟨v1,v2,v3,v4,v5,v6,rfl,-⟩:=hC;have hcell:=hr 0 _ rfl;simp only[qF]at hcell;have iG:=zw (i+1);have hbd:=lu y.name s;have HX:=zh hx;clear hx hr hl;by_cases hy:y.name=s
   ·have hd:decide (y.name=s)=true:=qX hy;have hri:r=i:=by rw[<-bD.out];exact tN HX.out hd HZ.out
    subst hri;rw[hd]at hbd;clear hd hy;exact zCp
   have hd:decide (y.name=s)=false:=qP hy;have HD:=zh hd;rw[hd]at hbd;have HZ2:Hid (∀y∈x.packs.take (i+1),decide (y.name=s)=false):=fun z hz=>by
    rcases bH HX.out hz with h|rfl;·exact HZ.out z h
    exact HD.out
   clear hd hy;exact zCe
  obtain rfl:ak=i:=by omega
  have hri:r= -1:=by rw[<-bD.out];have:=HZ.out;rw[qI (yG aB.out)]at this;exact oO this
  subst hri;exact zCp
theorem wz{pR:List Value}{x:aF}(hx:gy B w pR x)(hlen:x.packs.length<=1000000)(s:Str):Calls Tryz.prog 124 #[.agg pR.toArray,.string s] w fun e w'=> ∃v,e= .returned v/\w'.ownsRow 0 3 1 v (x.dh s).length (gW (x.dh s))/\(∀k,v.ownBlock=some k->w.heap.size<=k)/\O0 w w':=by
 obtain⟨aV,ak,aS,aT,aK,aO,rfl,fV,fZ,dQ,dR,aB,bJ,qo⟩:=open_rec hx;clear hx;try rw[aB.out]
 obtain⟨W0,hW0,bM,vC,aU⟩:=Nj w (.slice aV ak aS) (.slice aT aK aO) 25;obtain⟨gI,bK,bT⟩:=qo W0 bM.out;clear qo;rw[aB.out]at hlen;go_enter Tryz.func124,Tryz.ntmps124;go_wp2_with fail;rw[<-hW0];clear hW0;have aW:Hid (O0 W0 (W0.alloc (.cells #[] 3))):=zr.alloc _;have GX:Hid ((W0.alloc (.cells #[] 3)).ownsRow 0 3 1 (.slice (some ⟨w.heap.size+1,0,none⟩) 0 0) (x.iI s 0).length (gW (x.iI s 0))):=by rw[<-vC.out];exact SQ W0
 have HB1:Hid (∀k,(Value.slice (some ⟨w.heap.size+1,0,none⟩) 0 0).ownBlock=some k->W0.heap.size<=k):=fun k hk=>by simp[Value.ownBlock]at hk;have:=vC.out;omega
 obtain⟨k0,k1⟩:=aU.out _ aW.out;go_wp2_with fail;go_loopw [5,11] (fun vo vi wr=>Hid (O0 W0 wr)/\∃i:Nat,vi= .int .i64 i/\i<=ak/\Hid (wr.ownsRow 0 3 1 vo (x.iI s i).length (gW (x.iI s i)))/\Hid (∀k,vo.ownBlock=some k->W0.heap.size<=k)) (fun _ v _=>ak-(RowKit.intOf v).toNat);case atStart=>exact⟨aW,0,rfl,qE _,GX,HB1⟩
 case round=>
  clear aW GX HB1 k0 k1;obtain⟨HO,i,rfl,hi,HV,HB⟩:=hrel;obtain⟨k0,k1⟩:=aU.out wr HO.out;by_cases ci:i<ak
  ·have hrow:=bK.out wr HO.out;have hrow0:=hrow;rw[<-aB.out]at hrow0;obtain⟨b,off,he,-,-⟩:=hrow0.at (by have:=aB.out;omega);subst he;obtain⟨y,hx⟩:=zG x.packs i zAV;obtain⟨cs,hl,hr,hC⟩:=hrow.get hx;clear hrow hrow0;obtain⟨o1,o2,o3,o4,o5,o6,c1,c2,c3,c4,c5,c6,rfl,-,-,-,-,b5,-,-,-⟩:=hC.cells;have hcell:=hr 4 _ rfl;have iG:=zw (i+1);have Bc:=zh (Kv b5 s);have hpk:x.pack i=y:=by unfold aF.pack;rw[qC,hx];rfl
   have hsu:=x.IE s i;rw[hpk]at hsu;have HSu:=zh hsu;have hpl:(x.iI s i).length<=i:=by exact zEY
   obtain⟨bb,hbb⟩:=ze (iT y.provides s);rw[hbb]at HSu Bc;clear hx hr hl hC b5 hsu hpk hbb;go_wp2_with fail;refine Bc.out.mono ?_;rintro e w1 ⟨rfl,O1⟩;have aW:=zh (HO.out.same O1);have GX:=zh (aG HV.out O1 (fun _ _ f=>f));clear O1 Bc;cases bb with
   |false=>
    have IG:Hid (w1.ownsRow 0 3 1 u5 (x.iI s (i+1)).length (gW (x.iI s (i+1)))):=by have h1:=HSu.out;simp at h1;rw[h1];exact GX.out
    go_wp2_with fail;go_roundw;case rel=>exact⟨aW,i+1,by first|rfl|go_num,by omega,IG,HB⟩
    case measure=>simp[RowKit.intOf]<;>omega
   |true=>
    obtain⟨au,cu,rfl,-,-⟩:=aJ GX.out;go_wp2_with (at_builtin;go_must (refine AL (u:=.int .i64 (i:Int)) lY rfl (.tmp 22) (.tmp 24) rfl rfl rfl (cell_new0 _ _ _) rfl (aG GX.out ((Only.refl (fun _=>False) _).alloc _) (fun _ _ f=>f)) zAB zBV ?_));intro v' w2 r1 r2 r3;have IG:Hid (w2.ownsRow 0 3 1 v' (x.iI s (i+1)).length (gW (x.iI s (i+1)))):=by have h1:=HSu.out;simp at h1;rw[h1];simpa[gW,Hid]using r1
    have iO:=zh (((aW.out.alloc _).trans r2 fun k hk=>.inr (HB.out k hk)));have HB2:Hid (∀k,v'.ownBlock=some k->W0.heap.size<=k):=by
     intro k hk;obtain⟨g,cap',rfl,-,-,h|h⟩:=r3;·simp[Value.ownBlock]at hk;subst hk;exact HB.out _ h
     simp[Value.ownBlock]at hk;subst hk;have:=aW.out.size;simp at h;omega
    obtain⟨g,cap',rfl,-,-,-⟩:=r3;clear r1 r2;go_wp2_with fail;go_roundw;case rel=>exact⟨iO,i+1,by first|rfl|go_num,by omega,IG,HB2⟩
    case measure=>simp[RowKit.intOf]<;>omega
  obtain rfl:ak=i:=by omega
  go_wp2_with fail;go_ret;refine⟨_,rfl,?_,fun k hk=>by have:=HB.out k hk;have:=bM.out.size;omega,bM.out.same HO.out⟩;have:=HV.out;unfold aF.dh;rw[aB.out];exact this
def aF.nS(x:aF)(s:Str):Bool:=decide (x.find s<0)&&decide (0<(x.dh s).length)
theorem Fq{pR:List Value}{x:aF}(hx:gy B w pR x)(hlen:x.packs.length<=1000000)(s:Str):Calls Tryz.prog 129 #[.agg pR.toArray,.string s] w fun e w'=>e= .returned (.bool (x.nS s))/\O0 w w':=by
 obtain⟨aV,ak,aS,aT,aK,aO,rfl,fV,fZ,dQ,dR,aB,bJ,qo⟩:=open_rec hx;clear hx;try rw[aB.out]
 obtain⟨W0,hW0,bM,vC,aU⟩:=Nj w (.slice aV ak aS) (.slice aT aK aO) 25;obtain⟨gI,bK,bT⟩:=qo W0 bM.out;clear qo;rw[aB.out]at hlen;obtain⟨f,hf⟩:=ze (x.find s);obtain⟨np,hnp⟩:=ze ((x.dh s).length);have bD:Hid (x.nS s=(decide (f<0)&&decide (0<np))):=by unfold aF.nS;rw[hf,hnp];exact rfl
 have HF:Hid (∀W,O0 W0 W->Calls Tryz.prog 38 #[.agg #[.slice aV ak aS,.slice aT aK aO],.string s] W fun e w'=>e= .returned (.int .i64 f)/\O0 W w'):=fun W hW=>by rw[<-hf];exact sH (gI.out W hW) s
 have Jm:Hid (∀W,O0 W0 W->Calls Tryz.prog 124 #[.agg #[.slice aV ak aS,.slice aT aK aO],.string s] W fun e w'=> ∃a c,e= .returned (.slice a np c)/\O0 W w'):=fun W hW=>by refine(wz (gI.out W hW) zAN s).mono ?_;rintro e w' ⟨v,rfl,r1,-,r3⟩;obtain⟨a,c,rfl,-,-⟩:=aJ r1;exact⟨a,c,by rw[hnp],r3⟩
 obtain⟨r,hr⟩:=ze (x.nS s);rw[hr];have HR0:=zh hr;clear hf hnp hr;go_enter Tryz.func129,Tryz.ntmps129;go_wp2_with fail;rw[<-hW0];clear hW0;obtain⟨k0,k1⟩:=aU.out W0 zr;go_wp2_with fail;refine(HF.out W0 zr).mono ?_;rintro e w1 ⟨rfl,O1⟩;have aW:=zh O1;clear O1 k0 k1;obtain⟨k0,k1⟩:=aU.out w1 aW.out;by_cases hf:f<0
 ·have hrr:r=decide (0<np):=by rw[<-HR0.out,bD.out,qX hf];simp
  subst hrr;go_wp2_with fail;refine(Jm.out w1 aW.out).mono ?_;rintro e w2 ⟨ap,cp,rfl,O2⟩;have iO:=zh (aW.out.same O2);clear O2;by_cases hp:0<np;·go_wp2_with fail;go_ret;exact⟨by rw[qX hp];first|rfl|simp,bM.out.same iO.out⟩
  go_wp2_with fail;go_ret;exact⟨by rw[qP hp];first|rfl|simp,bM.out.same iO.out⟩
 have hrr:r=false:=by rw[<-HR0.out,bD.out,qP hf];simp
 subst hrr;go_wp2_with fail;go_ret;exact⟨rfl,bM.out.same aW.out⟩
end
section
variable {w w':World} {B:Nat}
def TN(w w':World)(e:Ending):Prop:= ∃b,e= .returned (.bool b)/\O0 w w'
theorem TN.mk(b:Bool){w w':World}{e:Ending}(he:e= .returned (.bool b))(ho:O0 w w'):TN w w' e:=⟨b,he,ho⟩
end
end Go.Proofs.YtdmmebjjojimiaaGreatDoor
namespace Go.Proofs
theorem zAC{p:Prop}(h:p:=by(intro w hSw;(try dsimp only at hSw);have q0:=YC.out w hSw;have hrs:=(Ea.out w hSw).1;have gs0:=hrs 0 _ rfl;have gs1:=hrs 1 _ rfl;rw[qF]at gs0;clear hrs;have hrz:=(vM.out w hSw).1;have GN:=hrz 0 _ rfl;have gz1:=hrz 1 _ rfl;rw[qF]at GN;clear hrz;go_simp<;>(try with_reducible rfl))):p:=h
theorem zC4{p:Prop}(h:p:=by
 go_wp2_with fail
 go_ret
 exact⟨rfl,bM.out.same xK.out⟩):p:=h
end Go.Proofs
namespace Go.Proofs.YtdmmebjjojimiaaGreatDoor
open Go.RowKit
def akR(v:eP):Prop:=1<=v.values.length/\v.values.length<=4
def WT(l:List eP):Prop:=l.length<=4/\∀v∈l,akR v
section
variable {w w':World} {B:Nat}
def acd(l:List eP)(w w':World)(e:Ending):Prop:= ∃b,e= .returned (.bool b)/\(b=true->WT l)/\O0 w w'
theorem acd.mk{l:List eP}(b:Bool){w w':World}{e:Ending}(he:e= .returned (.bool b))(hb:b=true->WT l)(ho:O0 w w'):acd l w w' e:=⟨b,he,hb,ho⟩
attribute [local irreducible] wpQuiet
def Jo(s:kC)(v:eP):Bool:=decide (v.name=s.name)&&iT v.values s.value
def IK(p:fP)(s:kC):Bool:=p.vars.any (Jo s)
def fJ(p:fP)(l:List kC):Bool:=l.all (IK p)
theorem nT{α:Type}{g:α->Bool}{xs:List α}{k:Nat}{x:α}(hx:xs[k]? =some x):(xs.take (k+1)).any g=((xs.take k).any g||g x):=by rw[List.take_add_one,hx];simp[List.any_append]
theorem zN{YB:List Value}{p:fP}(hp:fQ B w YB p){vl:Value}{l:List kC}(hl:aQ 2 ji B w vl l):Calls Tryz.prog 127 #[.agg YB.toArray,vl] w fun e w'=>e= .returned (.bool (fJ p l))/\O0 w w':=by
 obtain⟨l9,mg,mD,kV,jv,kW,iq,iw,iy,qp,iC,mF,qy,iD,mG,kG,kH,kJ,rfl,yh,yj,Bd,Bf,mY,mZ,Fv,Fz,FB,FC,vF,vG,yx,wC,ng,um,uo,vH,F_p⟩:=BO hp;clear hp;obtain⟨a_l,uJ,YA,rfl,g_l,TL,Ap,TM⟩:=Ov hl;clear hl;obtain⟨W0,hW0,bM,vC,aU⟩:=aku w (.string p.name) (.int .i64 p.line) (.slice l9 mg mD) (.slice kV jv kW) (.slice iq iw iy) (.slice qp iC mF) (.slice qy iD mG) (.slice kG kH kJ) 101;obtain⟨WU,vI,sJ,lC,vJ,vK,sK⟩:=F_p W0 bM.out;clear F_p;have yg:=TM W0 bM.out;clear TM;clear yh yj yx vI mY mZ ng lC Fv Fz um vJ FB FC uo vK vF vG vH sK;obtain⟨r,hr⟩:=ze (fJ p l);rw[hr];have bD:=zh hr;clear hr;go_enter Tryz.func127,Tryz.ntmps127;go_wp2_with fail;rw[<-hW0];clear hW0;have YC:Hid (∀W,O0 W0 W->W.cell? ⟨w.heap.size,3,none⟩=some (.slice kV jv kW)):=fun W ho=>(aU.out W ho).2.2.2.1;clear aU;have ku:Hid (O0 W0 W0):=Only.refl _ _;go_wp2_with fail;go_loopw [10] (fun vi fM=>Hid (O0 W0 fM)/\∃i:Nat,vi= .int .i64 i/\i<=uJ/\Hid (∀s∈l.take i,IK p s=true)) (fun v _=>uJ-(RowKit.intOf v).toNat);case atStart=>exact⟨ku,0,rfl,qE _,show Hid _ from fun v hv=>by simp at hv⟩
 case round=>
  obtain⟨fM,rfl⟩:=zB wr;clear ku;obtain⟨xK,i,rfl,hi,HZ⟩:=hrel;by_cases ci:i<uJ
  ·have iG:=zw (i+1);obtain⟨ys,hxs⟩:=zG l i zAh;obtain⟨bks,ahL,hes,afk,auf,Kw⟩:=afj (yg.out W0 zr) hxs;first|subst hes| (simp only[qG,qO,and_true]at hes;obtain⟨rfl,rfl⟩:=hes)
   have Ea:=zh Kw;have MV:=zh hxs;clear Kw hxs;have ku:=xK;have q0:=YC.out fM xK.out;go_wp2_with fail;clear q0;go_loopw [16,6] (fun vk vf Dx=>Hid (O0 W0 Dx)/\∃(k:Nat) (f:Bool),vk= .int .i64 k/\k<=jv/\vf= .bool f/\Hid ((p.vars.take k).any (Jo ys)=f)) (fun v _ _=>jv-(RowKit.intOf v).toNat);case atStart=>exact⟨ku,0,false,rfl,qE _,rfl,show Hid _ from rfl⟩
   case round=>
    obtain⟨Dx,rfl⟩:=zB wr;clear ku;obtain⟨vw,k,f,rfl,hk,rfl,HA⟩:=hrel;by_cases ck:k<jv
    ·have TI:=zw (k+1);obtain⟨yz,hxz⟩:=zG p.vars k (by rw[wC.out];omega);obtain⟨NG,xM,VO,VP,VQ,wE,Eb,Ky,mJ⟩:=Fj (sJ.out W0 zr) hxz;first|subst wE| (simp only[qG,qO,and_true]at wE;obtain⟨rfl,rfl⟩:=wE)
     have vM:=zh mJ;have Bg:=zh hxz;clear mJ hxz Eb;have aoq:Hid (∀W,O0 W0 W->aQ 1 dN B W (.slice VO VP VQ) yz.values):=fun W ho=>(vM.out W ho).2.1;have hrs:=(Ea.out Dx vw.out).1;have gs0:=hrs 0 _ rfl;have gs1:=hrs 1 _ rfl;rw[qF]at gs0;clear hrs;have hrz:=(vM.out Dx vw.out).1;have GN:=hrz 0 _ rfl;have gz1:=hrz 1 _ rfl;rw[qF]at GN;clear hrz;have q0:=YC.out Dx vw.out;have hbd:=lu yz.name ys.name;obtain⟨bb,hbb⟩:∃b,decide (yz.name=ys.name)=b:=⟨_,rfl⟩;rw[hbb]at hbd;have HBB:=zh hbb;clear hbb;cases f with
     |true=>
      go_wp2_with fail;refine fO (fun w'=>O0 W0 w') zk zk (by exact vw.out.drew) ?_;iterate 2 refine qV ?_
      iterate 26 refine qS ?_
      iterate 2 refine qV ?_
      refine wpQuiet_nil ?_;(intro w9 FD;have BZ:=zh FD;clear FD);have HA2:Hid ((p.vars.take (k+1)).any (Jo ys)=true):=by have h1:=nT (g:=Jo ys) Bg.out;rw[HA.out]at h1;rw[Hid,h1];simp
      go_wp2_with fail;go_roundw;case rel=>exact⟨BZ,k+1,true,by first|rfl|go_num,by omega,by first|rfl|simp,HA2⟩
      case measure=>simp[RowKit.intOf]<;>omega
     |false=>
      cases bb with
      |false=>
       go_wp2_with fail;refine fO (fun w'=>O0 W0 w') zk zk (by exact vw.out.drew) ?_;iterate 3 refine qV ?_
       refine qV ?_ (hy:=zAC);iterate 3 refine qV ?_
       refine qV ?_ (hy:=zAC);iterate 4 refine qV ?_
       refine qV ?_ (hy:=zAC);iterate 2 refine qV ?_
       iterate 12 refine qS ?_
       iterate 3 refine qV ?_
       refine wpQuiet_nil ?_;(intro w9 FD;have BZ:=zh FD;clear FD);have HA2:Hid ((p.vars.take (k+1)).any (Jo ys)=false):=by have h1:=nT (g:=Jo ys) Bg.out;rw[HA.out]at h1;rw[Hid,h1];simp only[Jo,HBB.out];rfl
       go_wp2_with fail;go_roundw;case rel=>exact⟨BZ,k+1,false,by first|rfl|go_num,by omega,by first|rfl|simp,HA2⟩
       case measure=>simp[RowKit.intOf]<;>omega
      |true=>
       go_wp2_with fail;refine fO (fun w'=>O0 W0 w') zk zk (by exact vw.out.drew) ?_;iterate 3 refine qV ?_
       refine qV ?_ (hy:=zAC);iterate 3 refine qV ?_
       refine qV ?_ (hy:=zAC);iterate 4 refine qV ?_
       refine qV ?_ (hy:=zAC);iterate 3 refine qV ?_
       refine qV ?_ (hy:=zAC);iterate 3 refine qV ?_
       refine qV ?_ (hy:=zAC);iterate 4 refine qV ?_
       refine qV ?_ (hy:=zAC);refine gY (v:=.bool (iT yz.values ys.value)) (f:=128) (args:= #[.slice VO VP VQ,.string ys.value]) (by rfl) ?_ ?_ ?_;·(intro w;go_simp<;>(try with_reducible rfl))
       ·(intro w hSw;exact(Kv (aoq.out w hSw) _).mono fun _ _ ⟨he,ho⟩=>⟨he,hSw.same ho⟩)
       try simp only[Act.put,dW,dX,dY]
       iterate 3 refine qV ?_
       refine wpQuiet_nil ?_;(intro w9 FD;have BZ:=zh FD;clear FD);have HA2:Hid ((p.vars.take (k+1)).any (Jo ys)=(iT yz.values ys.value)):=by have h1:=nT (g:=Jo ys) Bg.out;rw[HA.out]at h1;rw[Hid,h1];simp only[Jo,HBB.out];simp
       go_wp2_with fail;go_roundw;case rel=>exact⟨BZ,k+1,(iT yz.values ys.value),by first|rfl|go_num,by omega,by first|rfl|simp,HA2⟩
       case measure=>simp[RowKit.intOf]<;>omega
    obtain rfl:jv=k:=by omega
    have HS:Hid (IK p ys=f):=by have h1:=HA.out;rw[qI (yG wC.out)]at h1;exact h1
    cases f with
    |false=>
     have hrf:r=false:=by rw[<-bD.out,Bool.eq_false_iff];intro h;have:=List.all_eq_true.1 h ys (qT MV.out);rw[HS.out]at this;cases this
     subst hrf;go_wp2_with fail;go_ret;exact⟨rfl,bM.out.same vw.out⟩
    |true=>
     have HZ2:Hid (∀s∈l.take (i+1),IK p s=true):=fun v hv=>by
      rcases bH MV.out hv with h|rfl;·exact HZ.out v h
      exact HS.out
     go_wp2_with fail;go_roundw;case rel=>exact⟨vw,i+1,by first|rfl|go_num,by omega,HZ2⟩
     case measure=>simp[RowKit.intOf]<;>omega
  obtain rfl:uJ=i:=by omega
  have hrt:r=true:=by rw[<-bD.out];refine List.all_eq_true.2 fun v hv=>HZ.out v ?_;rw[qI (yG Ap.out)];exact hv
  subst hrt;exact zC4
end
end Go.Proofs.YtdmmebjjojimiaaGreatDoor
namespace Go.Proofs
theorem zAJ{p:Prop}(h:p:=by(intro w hSw;(try dsimp only at hSw);obtain⟨k0,k1,k2,k3,k4⟩:=aU.out w hSw;have fE:=(jk.out w hSw).1;have Ee:=fE 0 _ rfl;have NI:=fE 1 _ rfl;have gy2:=fE 2 _ rfl;have gy3:=fE 3 _ rfl;have gy4:=fE 4 _ rfl;have gy5:=fE 5 _ rfl;have gy6:=fE 6 _ rfl;have gy7:=fE 7 _ rfl;rw[qF]at Ee;clear fE;go_simp<;>(try with_reducible rfl))):p:=h
theorem zAk{p:Prop}(h:p:=by unfold aF.pack;rw[qC,xO.out];rfl):p:=h
theorem zCV{p:Prop}(h:p:=by
 go_wp2_with fail
 go_ret
 exact⟨rfl,bM.out.same iO.out⟩):p:=h
theorem zEz{p:Prop}(h:p:=by
 subst hres
 clear bD
 go_wp2_with fail
 go_ret
 exact⟨rfl,bM.out.same BZ.out⟩):p:=h
theorem zFD{p:Prop}(h:p:=by
 subst hres
 clear bD
 exact zCV):p:=h
end Go.Proofs
namespace Go.Proofs.YtdmmebjjojimiaaGreatDoor
open Go.RowKit
section
variable {w w':World} {B:Nat}
attribute [local irreducible] wpQuiet
def Hg:List jm->Bool
 | [a]=>a.lo.toList.isEmpty&&a.hi.toList.isEmpty
 |_=>false
def aF.wish(x:aF)(s:gZ):Int:=
 if 0<=x.find s.name then (if fJ (x.pack (x.find s.name).toNat) s.sets then 0 else 8)
 else if x.nS s.name then (if 0<s.sets.length then 9 else if Hg s.spans then 0 else 9)else 7
theorem Kz{pR:List Value}{x:aF}(hx:gy B w pR x){css:List Value}{s:gZ}(hs:dB B w css s)(hlen:x.packs.length<=1000000):Calls Tryz.prog 56 #[.agg pR.toArray,.agg css.toArray] w fun e w'=>e= .returned (.int .u8 (x.wish s))/\O0 w w':=by
 obtain⟨aV,ak,aS,aT,aK,aO,rfl,fV,fZ,dQ,dR,aB,bJ,qo⟩:=open_rec hx;clear hx;try rw[aB.out]
 obtain⟨Cb,oZ,Cc,yB,nU,yS,rfl,ZM,ZN,acg,ach,pq,KA,F_s⟩:=Ou hs;clear hs;obtain⟨W0,hW0,bM,vC,aU⟩:=abE w (.slice aV ak aS) (.slice aT aK aO) (.string s.name) (.slice Cb oZ Cc) (.slice yB nU yS) 25 108;obtain⟨gI,bK,bT⟩:=qo W0 bM.out;clear qo;obtain⟨aor,Ec,Hl⟩:=F_s W0 bM.out;clear F_s;rw[aB.out]at hlen;obtain⟨f,hf⟩:=ze (x.find s.name);obtain⟨vb,hvb⟩:=ze (x.nS s.name);have NH:=x.pY s.name;rw[hf,aB.out]at NH;have HF:Hid (∀W,O0 W0 W->Calls Tryz.prog 38 #[.agg #[.slice aV ak aS,.slice aT aK aO],.string s.name] W fun e w'=>e= .returned (.int .i64 f)/\O0 W w'):=fun W hW=>by rw[<-hf];exact sH (gI.out W hW) s.name
 have HVt:Hid (∀W,O0 W0 W->Calls Tryz.prog 129 #[.agg #[.slice aV ak aS,.slice aT aK aO],.string s.name] W fun e w'=>e= .returned (.bool vb)/\O0 W w'):=fun W hW=>by rw[<-hvb];exact Fq (gI.out W hW) zAN s.name
 obtain⟨r,hr⟩:=ze (x.wish s);rw[hr];have bD:Hid (r=if 0<=f then (if fJ (x.pack f.toNat) s.sets then 0 else 8)
  else if vb then (if 0<nU then 9 else if Hg s.spans then 0 else 9)else 7):=by
  rw[<-hr,aF.wish,hf,hvb,KA.out]
  exact rfl
 clear hf hvb hr;go_enter Tryz.func56,Tryz.ntmps56;go_wp2_with fail;rw[<-hW0];clear hW0;obtain⟨k0,k1,k2,k3,k4⟩:=aU.out W0 zr;go_wp2_with fail;refine(HF.out W0 zr).mono ?_;rintro e w1 ⟨rfl,O1⟩;have aW:=zh O1;clear O1 k0 k1 k2 k3 k4;obtain⟨k0,k1,k2,k3,k4⟩:=aU.out w1 aW.out;by_cases hf:0<=f
 ·obtain⟨i,rfl⟩:∃i:Nat,f=i:=⟨f.toNat,by omega⟩;have ci:i<ak:=zAB;obtain⟨yy,hxy⟩:=zG x.packs i zAV;obtain⟨Ah,kX,lD,iL,lF,pU,pV,pW,vN,rP,vO,wS,uq,wU,Dy,zH,Dz,Au,xq,Aw,nN,jX,ny,sN,sO,wF,wG,yV,Ed,jw⟩:=jH (bK.out W0 zr) hxy;first|subst nN| (simp only[qG,qO,and_true]at nN;obtain⟨rfl,rfl⟩:=nN)
  have jk:=zh jw;have xO:=zh hxy;clear jw hxy jX ny sN sO wF wG;have HCy:Hid (∀W,O0 W0 W->fQ B W [.string yy.name,.int .i64 yy.line,.slice lD iL lF,.slice pU pV pW,.slice vN rP vO,.slice wS uq wU,.slice Dy zH Dz,.slice Au xq Aw] yy):=fun W ho=>(jk.out W ho).2.2.2.2.2.2.2;have hpk:x.pack i=yy:=zAk;obtain⟨sb,hsb⟩:=ze (fJ yy s.sets);have hres:=bD.out;rw[if_pos hf,yT,hpk,hsb]at hres;have GR:Hid (∀W,O0 W0 W->Calls Tryz.prog 127 #[.agg #[.string yy.name,.int .i64 yy.line,.slice lD iL lF,.slice pU pV pW,.slice vN rP vO,.slice wS uq wU,.slice Dy zH Dz,.slice Au xq Aw],.slice yB nU yS] W fun e w'=>e= .returned (.bool sb)/\O0 W w'):=fun W hW=>by rw[<-hsb];exact zN (HCy.out W hW) (Hl.out W hW)
  clear hpk hsb;go_wp2_with fail;refine fO (fun w'=>O0 W0 w') zk zk (by exact(aW.out).drew) ?_;refine qV ?_;refine qV ?_ (hy:=zAJ);iterate 2 refine qV ?_
  refine qV ?_ (hy:=zAJ);refine qV ?_;refine qV ?_ (hy:=zAJ);refine gY (v:=.bool sb) (f:=127) (args:= #[.agg #[.string yy.name,.int .i64 yy.line,.slice lD iL lF,.slice pU pV pW,.slice vN rP vO,.slice wS uq wU,.slice Dy zH Dz,.slice Au xq Aw],.slice yB nU yS]) (by rfl) ?_ ?_ ?_;·(intro w;go_simp<;>(try with_reducible rfl))
  ·(intro w hSw;exact(GR.out w hSw).mono fun _ _ ⟨he,ho⟩=>⟨he,hSw.same ho⟩)
  try simp only[Act.put,dW,dX,dY]
  refine qV ?_;refine wpQuiet_nil ?_;(intro w9 FD;have BZ:=zh FD;clear FD);cases sb with
  |true=>rw[if_pos rfl]at hres;exact zEz
  |false=>rw[if_neg zAF]at hres;exact zEz
 have hf2:f<0:=by omega
 go_wp2_with fail;refine(HVt.out w1 aW.out).mono ?_;rintro e w2 ⟨rfl,O2⟩;have iO:=zh (aW.out.same O2);clear O2 HF HVt;clear k0 k1 k2 k3 k4;obtain⟨k0,k1,k2,k3,k4⟩:=aU.out w2 iO.out;have hres:=bD.out;rw[if_neg (by omega:¬(0<=f))]at hres;cases vb with
 |false=>
  replace hres:r=7:=by simpa using hres
  exact zFD
 |true=>
  rw[if_pos rfl]at hres;by_cases c1:0<nU;·rw[if_pos c1]at hres;exact zFD
  rw[if_neg c1]at hres;by_cases c2:oZ=1
  ·have c3:0<oZ:=by omega
   subst c2;obtain⟨yz,hxz⟩:=zG s.spans 0 (by rw[pq.out];omega);obtain⟨NG,xM,wE,Ky,afn,mJ⟩:=ab4 (Ec.out W0 zr) hxz;first|subst wE| (simp only[qG,qO,and_true]at wE;obtain⟨rfl,rfl⟩:=wE)
   have vM:=zh mJ;have Bg:=zh hxz;clear mJ hxz;obtain⟨za,hza⟩:=List.length_eq_one_iff.1 pq.out;have hzz:za=yz:=by have:=Bg.out;rw[hza]at this;simpa using this
   subst hzz;rw[hza]at hres;clear hza;obtain⟨b1,hb1⟩:=ze za.lo.toList.isEmpty;obtain⟨b2,hb2⟩:=ze za.hi.toList.isEmpty;simp only[Hg,hb1,hb2]at hres;have hrz:=(vM.out w2 iO.out).1;have GN:=hrz 0 _ rfl;have gz1:=hrz 1 _ rfl;rw[qF]at GN;clear hrz;simp only[Nat.zero_mul,qF]at GN gz1;cases b1 with
   |false=>
    replace hres:r=9:=by simpa using hres
    exact zFD
   |true=>
    cases b2 with
    |false=>
     replace hres:r=9:=by simpa using hres
     exact zFD
    |true=>
     replace hres:r=0:=by simpa using hres
     subst hres;clear bD;go_wp2_with fail;exact zCV
  have c3:((oZ:Int)==1)=false:=by rw[yC];omega
  replace hres:r=9:=by
   rw[hres,if_neg];intro h;have:=pq.out;unfold Hg at h;split at h;·next h2=>rw[h2]at this;simp at this;omega
   cases h
  exact zFD
end
end Go.Proofs.YtdmmebjjojimiaaGreatDoor
