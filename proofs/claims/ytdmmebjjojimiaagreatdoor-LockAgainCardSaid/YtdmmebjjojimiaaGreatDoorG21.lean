/- The document's graphs, exact: Legal; Find, pack, met. Printed by gen_gr3.py.; slices.Index at strings. (Taken out of XNkR1.) -/
import Derived.Test.YtdmmebjjojimiaaGreatDoorG20
set_option maxRecDepth 100000
set_option maxHeartbeats 8000000
set_option linter.all false
namespace Go.Proofs
theorem zAN{p:Prop}(h:p:=by(intro w hSw;(try dsimp only at hSw);have oK:=(Ho.out w hSw).1;have Xh:=oK 0 _ rfl;rw[qF]at Xh;clear oK;have hrs:=(x9.out w hSw).1;have gs0:=hrs 0 _ rfl;rw[qF]at gs0;clear hrs;go_simp<;>(try with_reducible rfl))):p:=h
theorem zAf{p:Prop}(h:p:=by(intro w hSw;(try dsimp only at hSw);have oK:=(Ho.out w hSw).1;have gv1:=oK 1 _ rfl;clear oK;have JF:=(HEu.out w hSw).1;have Qj:=JF 0 _ rfl;rw[qF]at Qj;rw[yH]at Qj;clear JF;have hrs:=(x9.out w hSw).1;have gs1:=hrs 1 _ rfl;clear hrs;go_simp<;>(try with_reducible rfl))):p:=h
theorem zAp{p:Prop}(h:p:=by rw[bG.out];omega):p:=h
theorem zDb{p:Prop}(h:p:=by
 refine wpQuiet_nil ?_
 (intro w9 dR;have fK:=zh dR;clear dR)
 go_wp2_with fail
 go_ret
 exact⟨rfl,aV.out.same fK.out⟩):p:=h
theorem zEh{p:Prop}(h:p:=by
 go_wp2_with fail
 go_roundw
 case rel=>exact⟨gK,i+1,by first|rfl|go_num,by omega,pI⟩
 case measure=>simp[RowKit.intOf]<;>omega):p:=h
end Go.Proofs
namespace Go.Proofs.YtdmmebjjojimiaaGreatDoor
open Go.RowKit
section
variable {w w':World} {B:Nat}
attribute [local irreducible] wpQuiet
theorem agY{α β:Type}{p:α×β->Bool}{l:List α}{m:List β}{i:Nat}{a:α}{b:β}(ha:l[i]? =some a)(hb:m[i]? =some b):(l.zip m)[i]? =some (a,b):=by rw[List.getElem?_zip_eq_some];exact⟨ha,hb⟩
theorem OA{vs:List jm}{l:List dM}{i:Nat}{v:jm}{s:dM}(hv:vs[i]? =some v)(hs:l[i]? =some s)(h:(decide (v.name=s.name)&&iC v.values s.value)=false):vH vs l=false:=by unfold vH;have:((vs.zip l).all fun p=>decide (p.1.name=p.2.name)&&iC p.1.values p.2.value)=false:=List.all_eq_false.2 ⟨(v,s),qT (agY (p:=fun _=>true) hv hs),by rw[h];simp⟩;rw[this,Bool.and_false]
theorem Sz{vs:List jm}{l:List dM}(hl:vs.length=l.length)(h:∀(i:Nat) (v:jm) (s:dM),vs[i]? =some v->l[i]? =some s->(decide (v.name=s.name)&&iC v.values s.value)=true):vH vs l=true:=by unfold vH;rw[qX hl,yR,List.all_eq_true];rintro⟨v,s⟩ hm;obtain⟨i,hi⟩:=List.getElem?_of_mem hm;rw[List.getElem?_zip_eq_some]at hi;exact h i v s hi.1 hi.2
theorem SA{vs:List jm}{l:List dM}(h:vs.length≠l.length):vH vs l=false:=by unfold vH;rw[qP h];rfl
theorem aeA{vl:Value}{l:List jm}(hl:aS 2 l9 B w vl l){vm:Value}{m:List dM}(hm:aS 2 dO B w vm m):Calls Tryz.prog 138 #[vl,vm] w fun e w'=>e= .returned (.bool (vH l m))/\O0 w w':=by
 obtain⟨a_l,kH,CO,rfl,Ym,JK,tZ,EL⟩:=JI hl;clear hl;obtain⟨a_m,n_m,c_m,rfl,g_m,aop,N_m,F_m⟩:=tY hm;clear hm;obtain⟨W0,hW0⟩:=zB w;have aV:Hid (O0 w W0):=zBU;have nO:=EL W0 aV.out;clear EL;have ajv:=F_m W0 aV.out;clear F_m;obtain⟨r,hr⟩:=ze (vH l m);rw[hr];have DF:=zh hr;clear hr;by_cases c4:kH=n_m
 ·subst c4;have hne:((kH:Int) != (kH:Int))=false:=zAP;subst hW0;go_enter Tryz.func138,Tryz.ntmps138;go_wp2_with fail;have fQ:Hid (O0 W0 W0):=Only.refl _ _;go_loopw [15] (fun vi bD=>Hid (O0 W0 bD)/\∃i:Nat,vi= .int .i64 i/\i<=kH/\Hid (∀(j:Nat) (v:jm) (s:dM),j<i->l[j]? =some v->m[j]? =some s->(decide (v.name=s.name)&&iC v.values s.value)=true)) (fun v _=>kH-(RowKit.intOf v).toNat);case atStart=>exact⟨fQ,0,rfl,qE _,show Hid _ from fun j v s hj=>by omega⟩
  case round=>
   obtain⟨bD,rfl⟩:=zB wr;clear fQ;obtain⟨gK,i,rfl,hi,HZ⟩:=hrel;by_cases ci:i<kH
   ·have iE:=zw (i+1);obtain⟨yv,hxv⟩:=zG l i zAy;obtain⟨bkv,UK,Y6,UL,Y7,hev,WX,aji,I9⟩:=FY (nO.out W0 zr) hxv;first|subst hev| (simp only[qG,qO,and_true]at hev;obtain⟨rfl,rfl⟩:=hev)
    have Nv1:=zh WX;have Ho:=zh I9;have Yb:=zh hxv;clear I9 hxv WX;have alK:Hid (∀W,O0 W0 W->aS 1 bU B W (.slice Y6 UL Y7) yv.values):=fun W ho=>(Ho.out W ho).2.1;obtain⟨ys,hxs⟩:=zG m i (by rw[N_m.out];omega);obtain⟨X5,Gv,hes,Iy,Yn,uS⟩:=uO (ajv.out W0 zr) hxs;first|subst hes| (simp only[qG,qO,and_true]at hes;obtain⟨rfl,rfl⟩:=hes)
    have x9:=zh uS;have AV:=zh hxs;clear uS hxs;obtain⟨_,_,-,hb3,hb4⟩:=(alK.out W0 zr).shape;rw[Nv1.out]at hb3;have oK:=(Ho.out bD gK.out).1;have gv1:=oK 1 _ rfl;clear oK;have fQ:=gK;go_wp2_with fail;clear gv1;go_loopw [24,6] (fun vk vf iJ=>Hid (O0 W0 iJ)/\∃(k:Nat) (f:Bool),vk= .int .i64 k/\k<=UL/\vf= .bool f/\Hid ((yv.values.take k).any (fun t=>decide (t=ys.value))=f)) (fun v _ _=>UL-(RowKit.intOf v).toNat);case atStart=>exact⟨fQ,0,false,rfl,qE _,rfl,show Hid _ from rfl⟩
    case round=>
     obtain⟨iJ,rfl⟩:=zB wr;clear fQ;obtain⟨kU,k,f,rfl,hk,rfl,HA⟩:=hrel;by_cases ck:k<UL
     ·have iE:=zw (k+1);obtain⟨yu,hxu⟩:=zG yv.values k (by rw[Nv1.out];omega);obtain⟨X9,GI,heu,aiZ,Oj⟩:=iR (alK.out W0 zr) hxu;first|subst heu| (simp only[qG,qO,and_true]at heu;obtain⟨rfl,rfl⟩:=heu)
      have HEu:=zh Oj;have HXu:=zh hxu;clear Oj hxu;have hbd:=fP yu ys.value;obtain⟨bb,hbb⟩:∃b,decide (yu=ys.value)=b:=⟨_,rfl⟩;rw[hbb]at hbd;have HBB:=zh hbb;clear hbb;cases f with
      |true=>
       go_wp2_with fail;refine aU (fun w'=>O0 W0 w') zk zk (by exact(kU.out).drew) ?_;iterate 2 refine qV ?_
       iterate 14 refine qS ?_
       iterate 2 refine qV ?_
       refine wpQuiet_nil ?_;(intro w9 dR;have fK:=zh dR;clear dR);have HA2:Hid ((yv.values.take (k+1)).any (fun t=>decide (t=ys.value))=true):=by have h1:=iZ (g:=fun t=>decide (t=ys.value)) HXu.out;rw[HA.out]at h1;rw[Hid,h1];simp
       exact zFa
      |false=>
       go_wp2_with fail;refine aU (fun w'=>O0 W0 w') zk zk (by exact(kU.out).drew) ?_;iterate 6 refine qV ?_
       refine qV ?_ (hy:=zAf);iterate 2 refine qV ?_
       refine qV ?_ (hy:=zAf);iterate 4 refine qV ?_
       refine qV ?_ (hy:=zAf);iterate 3 refine qV ?_
       refine wpQuiet_nil ?_;(intro w9 dR;have fK:=zh dR;clear dR);have HA2:Hid ((yv.values.take (k+1)).any (fun t=>decide (t=ys.value))=bb):=by have h1:=iZ (g:=fun t=>decide (t=ys.value)) HXu.out;rw[HA.out]at h1;rw[Hid,h1];rw[HBB.out];rfl
       go_wp2_with fail;go_roundw;case rel=>exact⟨fK,k+1,bb,by first|rfl|go_num,by omega,by first|rfl|simp,HA2⟩
       case measure=>simp[RowKit.intOf]<;>omega
     obtain rfl:UL=k:=by omega
     have HS:Hid (iC yv.values ys.value=f):=by have h1:=HA.out;rw[qI (yG Nv1.out)]at h1;exact h1
     have hbd:=fP yv.name ys.name;obtain⟨bb,hbb⟩:∃b,decide (yv.name=ys.name)=b:=⟨_,rfl⟩;rw[hbb]at hbd;have HBB:=zh hbb;clear hbb;go_wp2_with fail;cases bb with
     |false=>
      obtain rfl:r=false:=by rw[<-DF.out];exact OA Yb.out AV.out (by rw[HBB.out];rfl)
      refine aU (fun w'=>O0 W0 w') zk zk (by exact(kU.out).drew) ?_;iterate 4 refine qV ?_
      refine qV ?_ (hy:=zAN);iterate 4 refine qV ?_
      refine qV ?_ (hy:=zAN);iterate 2 refine qV ?_
      iterate 2 refine qS ?_
      refine qV ?_;exact zDb
     |true=>
      cases f with
      |false=>
       obtain rfl:r=false:=by rw[<-DF.out];exact OA Yb.out AV.out (by rw[HBB.out,HS.out];rfl)
       refine aU (fun w'=>O0 W0 w') zk zk (by exact(kU.out).drew) ?_;iterate 4 refine qV ?_
       refine qV ?_ (hy:=zAN);iterate 4 refine qV ?_
       refine qV ?_ (hy:=zAN);iterate 5 refine qV ?_
       exact zDb
      |true=>
       have HZ2:Hid (∀(j:Nat) (v:jm) (s:dM),j<i+1->l[j]? =some v->m[j]? =some s->(decide (v.name=s.name)&&iC v.values s.value)=true):=fun j v s hj h1 h2=>by
        rcases yK j i with h|h;·exact HZ.out j v s h h1 h2
        obtain rfl:j=i:=by omega
        rw[Yb.out]at h1;rw[AV.out]at h2;cases h1;cases h2;rw[HBB.out,HS.out];rfl
       refine aU (fun w'=>O0 W0 w') zk zk (by exact(kU.out).drew) ?_;iterate 4 refine qV ?_
       refine qV ?_ (hy:=zAN);iterate 4 refine qV ?_
       refine qV ?_ (hy:=zAN);iterate 5 refine qV ?_
       refine wpQuiet_nil ?_;(intro w9 dR;have fK:=zh dR;clear dR);go_wp2_with fail;go_roundw;case rel=>exact⟨fK,i+1,by first|rfl|go_num,by omega,HZ2⟩
       case measure=>simp[RowKit.intOf]<;>omega
   obtain rfl:kH=i:=by omega
   obtain rfl:r=true:=by rw[<-DF.out];exact Sz (by rw[tZ.out,N_m.out]) fun j v s h1 h2=>HZ.out j v s (by have:=(qJ.1 h1).1;rw[tZ.out]at this;exact this) h1 h2
   exact zDv
 have hne:((kH:Int) != (n_m:Int))=true:=by simp;omega
 obtain rfl:r=false:=by rw[<-DF.out];exact SA (by rw[tZ.out,N_m.out];exact c4)
 subst hW0;go_enter Tryz.func138,Tryz.ntmps138;go_wp2_with fail;go_ret;exact⟨rfl,aV.out.same zr⟩
theorem Xi{CS:List Value}{g:List aC}(hg:rU B w CS g)(s:Str):Calls Tryz.prog 212 #[.agg CS.toArray,.string s] w fun e w'=>e= .returned (.int .i64 (jG g s))/\O0 w w':=by
 obtain⟨dI,ay,dh,rfl,rC,rD,bG,Jd⟩:=nH hg;clear hg;try rw[bG.out]
 obtain⟨W0,hW0,aV,jK,aF⟩:=agW w (.slice dI ay dh) 31;obtain⟨Bg,dU⟩:=Jd W0 aV.out;clear Jd;obtain⟨r,hr⟩:=ze (jG g s);rw[hr];have DF:=zh hr;clear hr;have k0:=aF.out W0 zr;rw[hW0]at k0;go_enter Tryz.func212,Tryz.ntmps212;go_wp2_with fail;rw[<-hW0]at k0⊢;clear hW0 k0;have fQ:Hid (O0 W0 W0):=Only.refl _ _;go_loopw [9] (fun vi bD=>Hid (O0 W0 bD)/\∃i:Nat,vi= .int .i64 i/\i<=ay/\Hid ((g.take i).any (fun n=>decide (n.name=s))=false)) (fun v _=>ay-(RowKit.intOf v).toNat);case atStart=>exact⟨fQ,0,rfl,qE _,show Hid _ from rfl⟩
 case round=>
  obtain⟨bD,rfl⟩:=zB wr;clear fQ;obtain⟨gK,i,rfl,hi,HQ⟩:=hrel;by_cases ci:i<ay
  ·have iE:=zw (i+1);obtain⟨yn,hxn⟩:=zG g i zAp;obtain⟨Kv,wI,nR,nU,nV,mV,lD,mP,hen,lY,lG,Fp,Eo,jO⟩:=jf (dU.out W0 zr) hxn;first|subst hen| (simp only[qG,qO,and_true]at hen;obtain⟨rfl,rfl⟩:=hen)
   have jg:=zh jO;have uJ:=zh hxn;clear jO hxn lY lG;have hrn:=(jg.out bD gK.out).1;have Je:=hrn 0 _ rfl;rw[qF]at Je;clear hrn;have k0:=aF.out bD gK.out;have hbd:=fP yn.name s;obtain⟨bb,hbb⟩:∃b,decide (yn.name=s)=b:=⟨_,rfl⟩;have D6:=zh hbb;rw[hbb]at hbd;clear hbb;cases bb with
   |true=>
    obtain rfl:r=(i:Int):=by rw[<-DF.out];exact kW uJ.out D6.out fun y hy=>by simpa using List.any_eq_false.1 HQ.out y hy
    exact zDv
   |false=>
    have pI:Hid ((g.take (i+1)).any (fun n=>decide (n.name=s))=false):=by rw[Hid,iZ uJ.out,HQ.out,D6.out];rfl
    exact zEh
  obtain rfl:ay=i:=by omega
  obtain rfl:r= -1:=by have h1:=HQ.out;rw[qI (yG bG.out)]at h1;rw[<-DF.out];unfold jG iK;rw[h1];rfl
  exact zDv
end
section
variable {w w':World} {B:Nat}
attribute [local irreducible] wpQuiet
theorem abQ{vl:Value}{l:List dM}(hl:aS 2 dO B w vl l)(y:dM):Calls Tryz.prog 377 #[vl,.agg #[.string y.name,.string y.value]] w fun e w'=>e= .returned (.int .i64 (iK (fun t=>rH t y) l))/\O0 w w':=by
 obtain⟨a_l,kH,CO,rfl,Ym,JK,tZ,EL⟩:=tY hl;clear hl;obtain⟨W0,hW0,aV,jK,aF⟩:=LW w (.string y.name) (.string y.value) 117;have nO:=EL W0 aV.out;clear EL;obtain⟨r,hr⟩:∃r,iK (fun t=>rH t y) l=r:=⟨_,rfl⟩;rw[hr];have DF:=zh hr;clear hr;have HRx:Hid (∀W,O0 W0 W->W.rangeAt w.heap.size 0 [.string y.name,.string y.value]):=fun W hW i u hu=>by exact zFk
 go_enter Tryz.func377,Tryz.ntmps377;go_wp2_with fail;rw[<-hW0];clear hW0;have fQ:Hid (O0 W0 W0):=Only.refl _ _;go_wp2_with fail;go_loopw [8] (fun vi bD=>Hid (O0 W0 bD)/\∃i:Nat,vi= .int .i64 i/\i<=kH/\Hid (∀t∈l.take i,rH t y=false)) (fun v _=>kH-(RowKit.intOf v).toNat);case atStart=>exact⟨fQ,0,rfl,qE _,show Hid _ from fun t ht=>by simp at ht⟩
 case round=>
  obtain⟨bD,rfl⟩:=zB wr;clear fQ;obtain⟨gK,i,rfl,hi,HQ⟩:=hrel;by_cases ci:i<kH
  ·have iE:=zw (i+1);obtain⟨ys,hxs⟩:=zG l i zAy;obtain⟨X5,Gv,hes,Iy,Yn,uS⟩:=uO (nO.out W0 zr) hxs;first|subst hes| (simp only[qG,qO,and_true]at hes;obtain⟨rfl,rfl⟩:=hes)
   have x9:=zh uS;have AV:=zh hxs;clear uS hxs;obtain⟨bb,hbb⟩:=ze (rH ys y);have D6:=zh hbb;have HBc:Hid ((decide (y.name.toList=ys.name.toList)&&decide (y.value.toList=ys.value.toList))=bb):=by rw[Hid,<-hbb,Ls];congr 1<;>exact decide_eq_decide.2 eq_comm
   clear hbb;go_wp2_with fail;refine aU (fun w'=>O0 W0 w') zk zk (by exact gK.out.drew) ?_;refine bM (b:=w.heap.size) (off:=0) (cs:=[.string y.name,.string y.value]) (by rfl) rfl rfl (fun w hSw=>HRx.out w hSw) Tryz.underlying117 rfl zk ?_;try simp only[Act.put,fA,fD,fB,dW,dX,dY]
   iterate 3 refine qV ?_
   refine bM (by rfl) rfl rfl (fun w hSw=>(x9.out w hSw).1) Tryz.underlying117 rfl zk ?_;try simp only[Act.put,fA,fD,fB,dW,dX,dY]
   refine MP (v:=.bool bb) (by rfl) (fun w hSw=>by have h1:=HBc.out;go_simp;split<;>(try split)<;>simp_all) ?_;try simp only[Act.put,fA,fD,fB,dW,dX,dY]
   refine wpQuiet_nil ?_;(intro w9 dR;have fK:=zh dR;clear dR);cases bb with
   |true=>
    obtain rfl:r=i:=by rw[<-DF.out];exact kW AV.out D6.out HQ.out
    exact zDk
   |false=>
    have pI:Hid (∀t∈l.take (i+1),rH t y=false):=fun z hz=>by
     rcases bH AV.out hz with h|rfl;·exact HQ.out z h
     exact D6.out
    exact zF1
  obtain rfl:kH=i:=by omega
  obtain rfl:r= -1:=by have h1:=HQ.out;rw[qI (yG tZ.out)]at h1;rw[<-DF.out];exact jR h1
  exact zDv
theorem zV{α:Type}{p:α->Bool}{l:List α}:decide (0<=iK p l)=l.any p:=by
 unfold iK;cases h:l.any p with
 |true=>rw[if_pos rfl];simp
 |false=>rw[if_neg zAP];rfl
theorem UR{vl:Value}{l:List dM}(hl:aS 2 dO B w vl l)(y:dM):Calls Tryz.prog 344 #[vl,.agg #[.string y.name,.string y.value]] w fun e w'=>e= .returned (.bool (l.any fun t=>rH t y))/\O0 w w':=by
 obtain⟨r,hr⟩:∃r,iK (fun t=>rH t y) l=r:=⟨_,rfl⟩;have hb:decide (0<=r)=(l.any fun t=>rH t y):=by rw[<-hr];exact zV
 rw[<-hb];have HI:=zh (abQ (hl.keep dO.keep (Kp.dV ((Only.refl (fun _=>False) w).alloc (.cells #[.string y.name,.string y.value] 117)))) y);rw[hr]at HI;obtain⟨ao,cap,rfl,-,-⟩:=hl.shape;clear hb hr hl;go_enter Tryz.func344,Tryz.ntmps344;go_wp2_with fail;refine HI.out.mono ?_;rintro e w1 ⟨rfl,O1⟩;go_wp2_with fail;go_ret;exact⟨by simp,((Only.refl (fun _=>False) w).alloc _).same O1⟩
theorem aeB(s:Str)(gs:Nat)(hg:w.cell? ⟨gs,0,none⟩=some (.string s)):lF dH B 288 #[.pointer (some ⟨gs,0,none⟩)] (fun p=>decide (p.name=s)) w:=by
 intro W cs x hO hC;obtain⟨v1,v2,rfl,-⟩:=hC;have hlt:gs<w.heap.size:=World.block_lt_of_cell? _ _ hg;have hg2:W.cell? ⟨gs,0,none⟩=some (.string s):=by exact zEF
 have hgW:gs<W.heap.size:=World.block_lt_of_cell? _ _ hg2;have hd:=fP x.name s;have hne:gs≠W.heap.size:=zAA;clear hg hlt;go_enter Tryz.func288,Tryz.ntmps288;exact zFZ
theorem Xj:∀args w,(callFunc 288 args).run Tryz.prog w= .ok (.enter 288 args) w:=enters_of Tryz.func288 zk rfl
theorem MZ{cs:List Value}{g:List aC}(h:rU B w cs g)(s:Str):Calls Tryz.prog 207 #[.agg cs.toArray,.string s] w fun e w'=>e= .returned (.int .i64 (jG g s))/\O0 w w':=by obtain⟨v1,rfl,h1⟩:=h;obtain⟨ao,cap,rfl,hc1,hc2⟩:=h1.shape;have HH:=zh h1;clear h1;go_enter Tryz.func207,Tryz.ntmps207;go_wp2_with fail;refine(UM ((HH.out.keep dH.keep (Kp.dV (((Only.refl (fun _=>False) w).alloc _).alloc _)))) Xj (aeB s (w.heap.size+1) zAP)).mono ?_;exact zGI
end
end Go.Proofs.YtdmmebjjojimiaaGreatDoor
namespace Go.Proofs.YtdmmebjjojimiaaGreatDoor
open Go.RowKit Go.Shelf
section
variable {w w':World} {B:Nat}
theorem aeC{ao:Option Addr}{n cap:Nat}{l:List dM}(hl:aS 2 dO B w (.slice ao n cap) l)(gs:Nat)(hg:w.cell? ⟨gs,0,none⟩=some (.slice ao n cap)):lF dO B 343 #[.pointer (some ⟨gs,0,none⟩)] (fun y=> !(l.any fun t=>rH t y)) w:=by
 intro W cs y hO hC;obtain⟨rfl,-⟩:=hC;have hlt:gs<w.heap.size:=World.block_lt_of_cell? _ _ hg;have hg2:W.cell? ⟨gs,0,none⟩=some (.slice ao n cap):=by exact zEF
 have hgW:gs<W.heap.size:=World.block_lt_of_cell? _ _ hg2;have hne:gs≠W.heap.size:=zAA;dsimp only;obtain⟨r,hr⟩:∃r,(l.any fun t=>rH t y)=r:=⟨_,rfl⟩;have HI:=zh (UR (hl.keep dO.keep (Kp.dV (hO.alloc (.cells #[.string y.name,.string y.value] 117)))) y);rw[hr]at HI⊢;clear hg hlt hr hl hO;go_enter Tryz.func343,Tryz.ntmps343;go_wp2_with fail;refine HI.out.mono ?_;rintro e w1 ⟨rfl,O1⟩;go_wp2_with fail;go_ret;exact⟨rfl,((Only.refl (fun _=>False) W).alloc _).same O1⟩
theorem UU:∀args w,(callFunc 343 args).run Tryz.prog w= .ok (.enter 343 args) w:=enters_of Tryz.func343 zk rfl
theorem aeD{vl vw:Value}{l q:List dM}(hl:aS 2 dO B w vl l)(hq:aS 2 dO B w vw q):Calls Tryz.prog 286 #[vl,vw] w fun e w'=>e= .returned (.bool (Dw l q))/\O0 w w':=by
 obtain⟨ao,cap,rfl,-,-⟩:=hl.shape;obtain⟨aq,asE,rfl,-,-⟩:=hq.shape;obtain⟨n,hn⟩:=ze l.length;obtain⟨m,hm⟩:=ze q.length;rw[hn]at hl⊢;rw[hm]at hq⊢;obtain⟨r,hr⟩:∃r,decide (0<=iK (fun y=> !(l.any fun t=>rH t y)) q)=r:=⟨_,rfl⟩;have hmb:Dw l q= !r:=by rw[<-hr,zV,<-List.all_eq_not_any_not];unfold Dw;simp
 rw[hmb];have O1:O0 w (w.alloc (.cells #[.slice ao n cap] 80)):=zr.alloc _;have HC:=zh (D5 (hq.keep dO.keep (Kp.dV O1)) UU (aeC (hl.keep dO.keep (Kp.dV O1)) w.heap.size zAP) r hr);have HO:=zh O1;clear hl hq hn hm hr hmb O1;go_enter Tryz.func286,Tryz.ntmps286;go_wp2_with fail;refine HC.out.mono ?_;rintro e w1 ⟨rfl,O2⟩;go_wp2_with fail;go_ret;exact⟨rfl,HO.out.same O2⟩
theorem OB{zQ css:List Value}{n:aC}{s:iW}(hn:dH B w zQ n)(hs:dJ B w css s)(hL:Laid w):Calls Tryz.prog 202 #[.agg zQ.toArray,.agg css.toArray] w fun e w'=>e= .returned (.bool (jr n s))/\O0 w w':=by
 obtain⟨v1,v2,rfl,ok1,ok2,r1,r2⟩:=hn;obtain⟨v3,v4,rfl,ok3,r3,r4⟩:=hs;obtain⟨a1,c1,rfl,-,-⟩:=r1.shape;obtain⟨a2,c2,rfl,-,-⟩:=r2.shape;obtain⟨a3,c3,rfl,-,-⟩:=r3.shape;obtain⟨a4,c4,rfl,-,-⟩:=r4.shape;obtain⟨n1,h1⟩:=ze n.sets.length;obtain⟨n2,h2⟩:=ze n.needs.length;obtain⟨n3,h3⟩:=ze s.spans.length;obtain⟨n4,h4⟩:=ze s.sets.length;rw[h1]at r1⊢;rw[h2]at r2⊢;rw[h3]at r3⊢;rw[h4]at r4⊢;obtain⟨W0,hW0,aV,jK,aF⟩:=aen w (.string n.name) (.string n.version) (.slice a1 n1 c1) (.slice a2 n2 c2) (.string s.name) (.slice a3 n3 c3) (.slice a4 n4 c4) 83 108;obtain⟨hb,hhb⟩:=ze (vC s.spans n.version);obtain⟨mb,hmb⟩:=ze (Dw n.sets s.sets);have hr:jr n s=(hb&&mb):=by unfold jr;rw[hhb,hmb]
 have H1:Hid (∀W,O0 W0 W->Calls Tryz.prog 285 #[.slice a3 n3 c3,.string n.version] W fun e w'=>e= .returned (.bool hb)/\O0 W w'):=fun W hW=>
  YQ (r3.keep fE.keep (Kp.dV (aV.out.same hW))) _ ok2 (hL.only (aV.out.same hW)) _ hhb
 have H2:Hid (∀W,O0 W0 W->Calls Tryz.prog 286 #[.slice a1 n1 c1,.slice a4 n4 c4] W fun e w'=>e= .returned (.bool mb)/\O0 W w'):=fun W hW=>by rw[<-hmb];exact aeD (r1.keep dO.keep (Kp.dV (aV.out.same hW))) (r4.keep dO.keep (Kp.dV (aV.out.same hW)))
 rw[hr];clear hr hhb hmb r1 r2 r3 r4 h1 h2 h3 h4 hL;obtain⟨k0,k1,k2,k3,k4,k5,k6⟩:=aF.out W0 zr;go_enter Tryz.func202,Tryz.ntmps202;go_wp2_with fail;rw[<-hW0];clear hW0;go_wp2_with fail;clear k0 k1 k2 k3 k4 k5 k6;refine(H1.out W0 zr).mono ?_;rintro e w1 ⟨rfl,O1⟩;have aI:=zh O1;clear O1 H1;obtain⟨k0,k1,k2,k3,k4,k5,k6⟩:=aF.out w1 aI.out;cases hb with
 |false=>exact zER
 |true=>go_wp2_with fail;clear k0 k1 k2 k3 k4 k5 k6;refine(H2.out w1 aI.out).mono ?_;rintro e w2 ⟨rfl,O2⟩;have eF:=zh (aI.out.same O2);clear O2;exact zD7
end
section
variable {w w':World} {B:Nat}
theorem aeE{v:jm}{a:Option Addr}{n c:Nat}(hv:aS 1 bU B w (.slice a n c) v.values)(s:dM):Calls Tryz.prog 277 #[.agg #[.string v.name,.slice a n c],.agg #[.string s.name,.string s.value]] w fun e w'=>e= .returned (.bool (decide (v.name=s.name)&&iC v.values s.value))/\O0 w w':=by
 obtain⟨nb,hnb⟩:∃b,decide (v.name=s.name)=b:=⟨_,rfl⟩;obtain⟨cb,hcb⟩:=ze (iC v.values s.value);have hd:=fP v.name s.name;rw[hnb]at hd;have O1:O0 w ((w.alloc (.cells #[.string v.name,.slice a n c] 145)).alloc (.cells #[.string s.name,.string s.value] 117)):=(zr.alloc _).alloc _;have HC:=zh (oN (hv.keep bU.keep (Kp.dV O1)) s.value);have HO:=zh O1;rw[hcb]at HC;rw[hnb,hcb];clear hv hnb hcb O1;cases nb with
 |false=>go_enter Tryz.func277,Tryz.ntmps277;exact zDy
 |true=>go_enter Tryz.func277,Tryz.ntmps277;go_wp2_with fail;refine HC.out.mono ?_;rintro e w1 ⟨rfl,rfl⟩;exact zDy
theorem UW:∀args w,(callFunc 277 args).run Tryz.prog w= .ok (.enter 277 args) w:=enters_of Tryz.func277 zk rfl
theorem abR{vl:Value}{l:List jm}(hl:aS 2 l9 B w vl l){vm:Value}{m:List dM}(hm:aS 2 dO B w vm m):Calls Tryz.prog 276 #[vl,vm,.func (.func 277) #[] #[]] w fun e w'=>e= .returned (.bool (vH l m))/\O0 w w':=by
 obtain⟨a_l,kH,CO,rfl,Ym,JK,tZ,EL⟩:=JI hl;clear hl;obtain⟨a_m,n_m,c_m,rfl,g_m,aop,N_m,F_m⟩:=tY hm;clear hm;have nO:=EL w zr;clear EL;have ajv:=F_m w zr;clear F_m;obtain⟨r,hr⟩:=ze (vH l m);rw[hr];have DF:=zh hr;have eg:=UW;clear hr;by_cases c4:kH=n_m
 ·subst c4;have hne:((kH:Int) != (kH:Int))=false:=zAP;go_enter Tryz.func276,Tryz.ntmps276;go_wp2_with fail;go_loopw [17] (fun vi bD=>Hid (O0 w bD)/\∃i:Nat,vi= .int .i64 i/\i<=kH/\Hid (∀(j:Nat) (v:jm) (s:dM),j<i->l[j]? =some v->m[j]? =some s->(decide (v.name=s.name)&&iC v.values s.value)=true)) (fun v _=>kH-(intOf v).toNat);case atStart=>exact⟨show Hid _ from Only.refl _ _,0,rfl,qE _,show Hid _ from fun j v s hj=>by omega⟩
  case round=>
   obtain⟨bD,rfl⟩:=zB wr;obtain⟨gK,i,rfl,hi,HZ⟩:=hrel;by_cases ci:i<kH
   ·have iE:=zw (i+1);obtain⟨yv,hxv⟩:=zG l i zAy;obtain⟨bkv,UK,Y6,UL,Y7,rfl,-,-,I9⟩:=FY (nO.out w zr) hxv;have Ho:=zh I9;have Yb:=zh hxv;obtain⟨ys,hxs⟩:=zG m i (by rw[N_m.out];omega);obtain⟨X5,Gv,rfl,-,-,uS⟩:=uO (ajv.out w zr) hxs;have x9:=zh uS;have AV:=zh hxs;obtain⟨y,hy⟩:∃y,(decide (yv.name=ys.name)&&iC yv.values ys.value)=y:=⟨_,rfl⟩;have O1:O0 w ((bD.alloc (.cells #[.string yv.name,.slice Y6 UL Y7] 145)).alloc (.cells #[.string ys.name,.string ys.value] 117)):=(gK.out.alloc _).alloc _;have HC:=zh (aeE (v:=yv) (Ho.out _ O1).2.1 ys);rw[hy]at HC;have HY:=zh hy;have aI:=zh O1;have hr1:=zh (Ho.out bD gK.out).1;have hr2:=zh (x9.out (bD.alloc (.cells #[.string yv.name,.slice Y6 UL Y7] 145)) (gK.out.alloc _)).1;clear I9 uS hxv hxs hy O1;cases y with
    |true=>
     go_wp2_with (first
      | (refine wpList_load_mid rfl 145 (.tmp 20) rfl bkv (UK+i*2) rfl _ _ hr1.out Tryz.underlying145 rfl zk ?_)
      | (refine wpList_load_mid rfl 117 (.tmp 24) rfl X5 (Gv+i*2) rfl _ _ hr2.out Tryz.underlying117 rfl zk ?_))
     refine HC.out.mono ?_;rintro e w1 ⟨rfl,O1⟩;have eF:=zh (aI.out.same O1);clear O1;go_wp2_with fail;go_roundw;case rel=>exact⟨eF,i+1,by first|rfl|go_num,by omega,show Hid _ from fun j v s hj hv hs=>by
      rcases yK j i with h|h
      ·exact HZ.out j v s h hv hs
      ·obtain rfl:j=i:=by omega
       have e1:=Yb.out.symm.trans hv
       have e2:=AV.out.symm.trans hs
       cases e1
       cases e2
       exact HY.out⟩
     case measure=>simp[intOf]<;>omega
    |false=>
     obtain rfl:r=false:=by rw[<-DF.out];exact OA Yb.out AV.out HY.out
     go_wp2_with (first
      | (refine wpList_load_mid rfl 145 (.tmp 20) rfl bkv (UK+i*2) rfl _ _ hr1.out Tryz.underlying145 rfl zk ?_)
      | (refine wpList_load_mid rfl 117 (.tmp 24) rfl X5 (Gv+i*2) rfl _ _ hr2.out Tryz.underlying117 rfl zk ?_))
     refine HC.out.mono ?_;rintro e w1 ⟨rfl,O1⟩;go_wp2_with fail;go_ret;exact⟨rfl,aI.out.same O1⟩
   obtain rfl:kH=i:=by omega
   obtain rfl:r=true:=by rw[<-DF.out];exact Sz (by rw[tZ.out,N_m.out]) fun j v s hv hs=>HZ.out j v s (by have:=(qJ.1 hv).1;rw[tZ.out]at this;exact this) hv hs
   go_wp2_with fail;go_ret;exact⟨rfl,gK.out⟩
 obtain rfl:r=false:=by rw[<-DF.out];exact SA (by rw[tZ.out,N_m.out];exact c4)
 have hne:((kH:Int) != (n_m:Int))=true:=zBL;go_enter Tryz.func276,Tryz.ntmps276;exact zDo
theorem aeF{vl:Value}{l:List jm}(hl:aS 2 l9 B w vl l){vm:Value}{m:List dM}(hm:aS 2 dO B w vm m):Calls Tryz.prog 194 #[vl,vm] w fun e w'=>e= .returned (.bool (vH l m))/\O0 w w':=by have HE:=zh (abR hl hm);obtain⟨a1,c1,rfl,-,-⟩:=hl.shape;obtain⟨a2,c2,rfl,-,-⟩:=hm.shape;clear hl hm;go_enter Tryz.func194,Tryz.ntmps194;go_wp2_with fail;refine HE.out.mono ?_;rintro e w1 ⟨rfl,O1⟩;exact zHK
end
end Go.Proofs.YtdmmebjjojimiaaGreatDoor
namespace Go.Proofs.YtdmmebjjojimiaaGreatDoor
open Go.RowKit
section
variable {w w':World} {B:Nat}
theorem aeG{lC:List Value}{x:aQ}(hx:fO B w lC x)(hlen:x.packs.length<=1000000){i:Nat}(hi:i<x.packs.length):Calls Tryz.prog 53 #[.agg lC.toArray,.int .i64 (i:Int)] w fun e w'=>gy (x.ou i) w w' e:=by
 obtain⟨aP,ak,aJ,aO,aG,aH,rfl,fF,fG,dP,dQ,aB,bJ,mY⟩:=open_rec hx;clear hx;try rw[aB.out]
 obtain⟨W0,hW0,aV,jK,aF⟩:=LW w (.slice aP ak aJ) (.slice aO aG aH) 25;obtain⟨eX,bK,bT⟩:=mY W0 aV.out;clear mY;clear dP dQ bJ bT;rw[aB.out]at hlen hi;obtain⟨yy,hxy⟩:=zG x.packs i zAt;obtain⟨AY,mF,og,jo,oh,sO,sQ,sS,xE,uT,xG,yc,uG,yg,EN,AZ,EO,CV,zA,CW,oq,kF,nP,rQ,qB,uU,uV,yh,Ef,je⟩:=jy (bK.out W0 zr) hxy;first|subst oq| (simp only[qG,qO,and_true]at oq;obtain⟨rfl,rfl⟩:=oq)
 have Kq:=zh kF;have Ny3:=zh rQ;have Ny4:=zh qB;have Ny5:=zh uU;have Ny6:=zh uV;have jq:=zh je;have xR:=zh hxy;clear je hxy kF nP rQ qB uU uV;have xH:Hid (∀W,O0 W0 W->aS 2 pR B W (.slice og jo oh) yy.jc):=fun W ho=>(jq.out W ho).2.1;have IB:Hid (∀W,O0 W0 W->aS 2 l9 B W (.slice sO sQ sS) yy.vars):=fun W ho=>(jq.out W ho).2.2.1;have UJ:Hid (∀W,O0 W0 W->aS 1 bU B W (.slice xE uT xG) yy.provides):=fun W ho=>(jq.out W ho).2.2.2.1;have Y5:Hid (∀W,O0 W0 W->aS 1 bU B W (.slice CV zA CW) yy.files):=fun W ho=>(jq.out W ho).2.2.2.2.2.2.1;have hpk:x.pack i=yy:=zA6;obtain⟨ok,hok⟩:=ze (x.ou i);obtain⟨f,hf⟩:=ze (x.find yy.name);obtain⟨pn,hpn⟩:=ze ((x.oH yy.name).length);obtain⟨tw,htw⟩:=ze (eu (yy.jc.map wu.version));obtain⟨mv,hmv⟩:=ze (ql yy.vars);obtain⟨t3,ht3⟩:=ze (eu yy.provides);obtain⟨t6,ht6⟩:=ze (eu yy.files);have aZ:Hid (ok=(decide (f=(i:Int))&&decide (pn=0)&&decide (0<jo)&&(decide (jo<=10)&&decide (uG<=16)&&decide (AZ<=8)&&decide (uT<=4)&&decide (zA<=8))&&tw&&mv&&t3&&t6)):=by exact zGF
 rw[hok];have HMv:Hid (∀W,O0 W0 W->Calls Tryz.prog 126 #[.slice sO sQ sS] W fun e w'=>e= .returned (.bool mv)/\O0 W w'):=fun W hW=>by rw[<-hmv];exact ajr (IB.out W hW)
 have HT3:Hid (∀W,O0 W0 W->Calls Tryz.prog 125 #[.slice xE uT xG] W fun e w'=>e= .returned (.bool (!t3))/\O0 W w'):=fun W hW=>by rw[<-ht3];exact Jc (UJ.out W hW)
 have HT6:Hid (∀W,O0 W0 W->Calls Tryz.prog 125 #[.slice CV zA CW] W fun e w'=>e= .returned (.bool (!t6))/\O0 W w'):=fun W hW=>by rw[<-ht6];exact Jc (Y5.out W hW)
 have HTw:Hid (eu (sZ yy.jc jo)=tw):=by show _=_;rw[<-htw];unfold sZ;rw[qI (yG Kq.out)]
 clear hok htw hmv ht3 ht6 hpk;have HF:Hid (∀W,O0 W0 W->Calls Tryz.prog 38 #[.agg #[.slice (some ⟨AY,mF,none⟩) ak aJ,.slice aO aG aH],.string yy.name] W fun e w'=>e= .returned (.int .i64 f)/\O0 W w'):=fun W hW=>by rw[<-hf];exact lI (eX.out W hW) yy.name
 have ZX:Hid (∀W,O0 W0 W->Calls Tryz.prog 124 #[.agg #[.slice (some ⟨AY,mF,none⟩) ak aJ,.slice aO aG aH],.string yy.name] W fun e w'=> ∃a c,e= .returned (.slice a pn c)/\O0 W w'):=fun W hW=>(zo (eX.out W hW) zAg yy.name).mono fun e w' ⟨v,he,h1,_,h3⟩=>by exact zHM
 have HPn:Hid (pn<=ak):=by exact zFz
 clear hf hpn;have fJ:=zh (jq.out W0 zr).1;obtain⟨W1,hW1⟩:=zB (W0.alloc (.cells #[.string yy.name,.int .i64 yy.line,.slice og jo oh,.slice sO sQ sS,.slice xE uT xG,.slice yc uG yg,.slice EN AZ EO,.slice CV zA CW] 101));have aI:Hid (O0 W0 W1):=zB1;have Lp:Hid (∀W,O0 W0 W->O0 W1 W->W.cell? ⟨w.heap.size+1,0,none⟩=some (.string yy.name)/\W.cell? ⟨w.heap.size+1,1,none⟩=some (.int .i64 yy.line)/\W.cell? ⟨w.heap.size+1,2,none⟩=some (.slice og jo oh)/\W.cell? ⟨w.heap.size+1,3,none⟩=some (.slice sO sQ sS)/\W.cell? ⟨w.heap.size+1,4,none⟩=some (.slice xE uT xG)/\W.cell? ⟨w.heap.size+1,5,none⟩=some (.slice yc uG yg)/\W.cell? ⟨w.heap.size+1,6,none⟩=some (.slice EN AZ EO)/\W.cell? ⟨w.heap.size+1,7,none⟩=some (.slice CV zA CW)):=fun W _ ho=>by have b0:W1.heap[w.heap.size+1]? =some (.cells #[.string yy.name,.int .i64 yy.line,.slice og jo oh,.slice sO sQ sS,.slice xE uT xG,.slice yc uG yg,.slice EN AZ EO,.slice CV zA CW] 101):=zBg;have b1:=aA b0 ho (fun f=>f);exact zD4
 rw[hW0]at fJ;go_enter Tryz.func53,Tryz.ntmps53;go_wp2_with (refine wpList_load_mid rfl 101 (.tmp 11) rfl AY (mF+i*8) rfl _ _ fJ.out Tryz.underlying101 rfl zk ?_);rw[<-hW0,<-hW1];clear hW0 hW1 fJ;have VE:Hid (O0 W1 W1):=Only.refl _ _;obtain⟨k0,k1⟩:=aF.out W1 (aI.out.same VE.out);obtain⟨p0,p1,p2,p3,p4,p5,p6,p7⟩:=Lp.out W1 (aI.out.same VE.out) VE.out;go_wp2_with fail;refine(HF.out W1 aI.out).mono ?_;rintro e w1 ⟨rfl,O1⟩;have F7:=zh O1;clear O1 VE k0 k1 p0 p1 p2 p3 p4 p5 p6 p7;obtain⟨k0,k1⟩:=aF.out w1 (aI.out.same F7.out);obtain⟨p0,p1,p2,p3,p4,p5,p6,p7⟩:=Lp.out w1 (aI.out.same F7.out) F7.out;by_cases hfi:f=(i:Int)
 ·subst hfi;have hfi:(i:Int)=(i:Int):=rfl;go_wp2_with fail;refine(ZX.out w1 (aI.out.same F7.out)).mono ?_;rintro e w2 ⟨ap,cp,rfl,O1⟩;have HP2:=zh (F7.out.same O1);have hpn:=HPn.out;clear O1 k0 k1 p0 p1 p2 p3 p4 p5 p6 p7;obtain⟨k0,k1⟩:=aF.out w2 (aI.out.same HP2.out);obtain⟨p0,p1,p2,p3,p4,p5,p6,p7⟩:=Lp.out w2 (aI.out.same HP2.out) HP2.out;by_cases cpn:0<pn;·exact zGc
  have ajd:pn=0:=by omega
  by_cases z1:jo=0;·exact zG4
  have z3:((jo:Int)==0)=false:=by rw[yC];omega
  by_cases q1:10<jo;·exact zGX
  by_cases q2:16<uG;·exact zGW
  by_cases q3:8<AZ;·exact zGa
  by_cases q4:4<uT;·exact zGZ
  by_cases q5:8<zA;·exact zGY
  have HV0:Hid ((w2.alloc (.cells #[] 9)).ownsRow 0 9 1 (.slice (some ⟨w2.heap.size,0,none⟩) 0 0) 0 (bZ (sZ yy.jc 0))):=zn w2;have VE:Hid (O0 W1 (w2.alloc (.cells #[] 9))):=HP2.out.alloc _;have HB0:Hid (∀k,(Value.slice (some ⟨w2.heap.size,0,none⟩) 0 0).ownBlock=some k->W1.heap.size<=k):=fun k hk=>by simp[Value.ownBlock]at hk;have:=HP2.out.size;omega
  have aor:Hid (∀r∈yy.jc,okS r.version):=fun r hr=>by obtain⟨k,hk⟩:=List.mem_iff_getElem?.1 hr;obtain⟨_,_,_,h,_⟩:=MQ (xH.out W0 zr) hk;exact h
  obtain⟨-,-,o2,-,-,-,-,-⟩:=Lp.out _ (aI.out.same VE.out) VE.out;go_wp2_with fail;clear o2;go_loopw [6,61] (fun vo vj gV=>Hid (O0 W1 gV)/\∃j:Nat,vj= .int .i64 j/\j<=jo/\Hid (gV.ownsRow 0 9 1 vo j (bZ (sZ yy.jc j)))/\Hid (∀k,vo.ownBlock=some k->W1.heap.size<=k)) (fun _ v _=>jo-(RowKit.intOf v).toNat);case atStart=>exact⟨VE,0,rfl,qE _,HV0,HB0⟩
  case round=>
   obtain⟨gV,rfl⟩:=zB wr;clear VE HV0 HB0 k0 k1 p0 p1 p2 p3 p4 p5 p6 p7;obtain⟨CY,j,rfl,hj,HV,HBj⟩:=hrel;have GK:=CY;obtain⟨k0,k1⟩:=aF.out gV (aI.out.same CY.out);obtain⟨p0,p1,p2,p3,p4,p5,p6,p7⟩:=Lp.out gV (aI.out.same CY.out) CY.out;obtain⟨au,cu,rfl,-,-⟩:=bg HV.out;by_cases cj:j<jo
   ·have iE:=zw (j+1);obtain⟨yz,hxz⟩:=zG yy.jc j zB2;obtain⟨JD,vP,qc,AX,jM⟩:=MQ (xH.out W0 zr) hxz;first|subst qc| (simp only[qG,qO,and_true]at qc;obtain⟨rfl,rfl⟩:=qc)
    have jd:=zh jM;have vS:=zh hxz;clear jM hxz;have hrz:=(jd.out gV (aI.out.same CY.out)).1;have nY:=hrz 0 _ rfl;rw[qF]at nY;clear hrz;go_wp2_with (at_builtin;go_must (refine Ai (u:=.string yz.version) iU rfl (.tmp 64) (.tmp 71) rfl rfl rfl (cell_new0 _ _ _) rfl (aW HV.out ((Only.refl (fun _=>False) _).alloc _) (fun _ _ f=>f)) zAA zHZ ?_));intro v' w2 r1 r2 r3;have HVv:Hid (w2.ownsRow 0 9 1 v' (j+1) (bZ (sZ yy.jc (j+1)))):=by rw[KX vS.out];simpa[bZ,Hid]using r1
    have HOv:=zh (((GK.out.alloc _).trans r2 fun k hk=>.inr (HBj.out k hk)));have HBv:Hid (∀k,v'.ownBlock=some k->W1.heap.size<=k):=by
     intro k hk;obtain⟨g,cap',rfl,-,-,h|h⟩:=r3;·exact zFq
     simp[Value.ownBlock]at hk;subst hk;have:=GK.out.size;simp at h;omega
    obtain⟨g,cap',rfl,-,-,-⟩:=r3;clear r1 r2;exact zFt
   obtain rfl:jo=j:=by omega
   go_wp2_with fail;have HTv:Hid (Calls Tryz.prog 125 #[.slice au jo cu] gV fun e w'=>e= .returned (.bool (!tw))/\O0 gV w'):=by
    rw[<-HTw.out];exact Jc (oO (Yp (by rw[Kq.out];exact qH _)) HV.out (fun s hs=>by
     unfold sZ at hs
     obtain⟨r,hr,rfl⟩:=yD.1 hs
     exact aor.out r (List.mem_of_mem_take hr)))
   refine(HTv.out).mono ?_;rintro e w3 ⟨rfl,O1⟩;have kV:=zh (CY.out.same O1);clear O1 k0 k1 p0 p1 p2 p3 p4 p5 p6 p7;obtain⟨k0,k1⟩:=aF.out w3 (aI.out.same kV.out);obtain⟨p0,p1,p2,p3,p4,p5,p6,p7⟩:=Lp.out w3 (aI.out.same kV.out) kV.out;clear HTv HV HBj;cases tw with
   |false=>
    have hres:decide (((5:Int))=0)=ok:=by rw[aZ.out];simp
    go_wp2_with fail;go_ret;exact gy.mk _ rfl zAH hres (aV.out.same (aI.out.same kV.out))
   |true=>
    go_wp2_with fail;refine(HMv.out w3 (aI.out.same kV.out)).mono ?_;rintro e w4 ⟨rfl,O1⟩;have rF:=zh (kV.out.same O1);clear O1 k0 k1 p0 p1 p2 p3 p4 p5 p6 p7;obtain⟨k0,k1⟩:=aF.out w4 (aI.out.same rF.out);obtain⟨p0,p1,p2,p3,p4,p5,p6,p7⟩:=Lp.out w4 (aI.out.same rF.out) rF.out;cases mv with
    |false=>
     have hres:decide (((6:Int))=0)=ok:=by rw[aZ.out];simp
     exact zG6
    |true=>
     go_wp2_with fail;refine(HT3.out w4 (aI.out.same rF.out)).mono ?_;rintro e w5 ⟨rfl,O1⟩;have xI:=zh (rF.out.same O1);clear O1 k0 k1 p0 p1 p2 p3 p4 p5 p6 p7;obtain⟨k0,k1⟩:=aF.out w5 (aI.out.same xI.out);obtain⟨p0,p1,p2,p3,p4,p5,p6,p7⟩:=Lp.out w5 (aI.out.same xI.out) xI.out;cases t3 with
     |false=>
      have hres:decide (((5:Int))=0)=ok:=by rw[aZ.out];simp
      exact zG5
     |true=>
      go_wp2_with fail;refine(HT6.out w5 (aI.out.same xI.out)).mono ?_;rintro e w6 ⟨rfl,O1⟩;have JE:=zh (xI.out.same O1);clear O1 k0 k1 p0 p1 p2 p3 p4 p5 p6 p7;obtain⟨k0,k1⟩:=aF.out w6 (aI.out.same JE.out);obtain⟨p0,p1,p2,p3,p4,p5,p6,p7⟩:=Lp.out w6 (aI.out.same JE.out) JE.out;cases t6 with
      |false=>
       have hres:decide (((5:Int))=0)=ok:=by rw[aZ.out];simp
       exact zFj
      |true=>
       have hres:decide (((0:Int))=0)=ok:=by exact zFN
       exact zFj
 have asF:(f==(i:Int))=false:=by rw[yC];exact hfi
 have hres:decide (((2:Int))=0)=ok:=by rw[aZ.out,qP hfi];simp
 exact zG8
end
end Go.Proofs.YtdmmebjjojimiaaGreatDoor
