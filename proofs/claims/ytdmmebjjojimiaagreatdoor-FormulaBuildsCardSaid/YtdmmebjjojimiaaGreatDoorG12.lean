/- Rf5 Rf6 Rf7, in one text.; The document's checks: Recipe, Request. Printed by gen_rf8.py. -/
import Derived.Test.YtdmmebjjojimiaaGreatDoorG11
set_option maxRecDepth 100000
set_option maxHeartbeats 8000000
set_option linter.all false
namespace Go.Proofs
theorem zAY{p:Prop}(h:p:=by first|decide|assumption):p:=h
theorem zAr{p:Prop}(h:p:=by rw[hW1,<-vC.out];exact qL W0 _):p:=h
theorem zA3{p:Prop}(h:p:=by rw[hW1];exact zr.alloc _):p:=h
theorem zBc{p:Prop}(h:p:=by unfold gq;rw[Ql.out];simp):p:=h
theorem zBq{p:Prop}(h:p:=by first|decide|assumption):p:=h
theorem zBx{p:Prop}(h:p:=by have:=HFl.out;omega):p:=h
theorem zCC{p:Prop}(h:p:=by
 refine dn (p:=4) rfl rfl rfl rfl (setRow_heap _ _ _ _ _ _ (lG.out w7 Aq.out)) ?_
 exact⟨rfl,(bM.out.same (aW.out.same Aq.out)).trans (aP _ _ _) (fun k hk=>.inr zAB)⟩):p:=h
theorem zCM{p:Prop}(h:p:=by exact⟨by rw[aj b1];rfl,by rw[aj b1];rfl,by rw[aj b1];rfl,by rw[aj b1];rfl,by rw[aj b1];rfl,by rw[aj b1];rfl,by rw[aj b1];rfl⟩):p:=h
theorem zCT{p:Prop}(h:p:=by
 have hcode:jq x p yy=0:=by
  unfold jq
  rw[HC.out,Ql.out]
  simp
 have HZ2:Hid (∀d∈p.deps.take (i+1),jq x p d=0):=fun v hv=>by
  rcases bH xO.out hv with h|rfl
  ·exact HZ.out v h
  ·exact hcode
 go_wp2_with fail
 go_roundw
 case rel=>exact⟨xu,i+1,by first|rfl|go_num,by omega,HZ2⟩
 case measure=>simp[RowKit.intOf]<;>omega):p:=h
theorem zCa{p:Prop}(h:p:=by
 have HZ3:Hid (∀d∈p.cons.take (j+1),gq x p d=0):=fun v hv=>by
  rcases bH Bg.out hv with h|rfl
  ·exact RZ.out v h
  ·exact hcode
 go_wp2_with fail
 go_roundw
 case rel=>exact⟨CQ,j+1,by first|rfl|go_num,by omega,HZ3⟩
 case measure=>simp[RowKit.intOf]<;>omega):p:=h
theorem zCb{p:Prop}(h:p:=by
 have HZ3:Hid (∀d∈p.cons.take (j+1),gq x p d=0):=fun v hv=>by
  rcases bH Bg.out hv with h|rfl
  ·exact RZ.out v h
  ·exact hcode
 go_wp2_with fail
 go_roundw
 case rel=>exact⟨Aq,j+1,by first|rfl|go_num,by omega,HZ3⟩
 case measure=>simp[RowKit.intOf]<;>omega):p:=h
theorem zDK{p:Prop}(h:p:=by
 refine dn (p:=4) rfl rfl rfl rfl (setRow_heap _ _ _ _ _ _ (lG.out w5 CQ.out)) ?_
 exact⟨rfl,(bM.out.same (aW.out.same CQ.out)).trans (aP _ _ _) (fun k hk=>.inr zAB)⟩):p:=h
theorem zDL{p:Prop}(h:p:=by
 refine dn (p:=4) rfl rfl rfl rfl (setRow_heap _ _ _ _ _ _ (lG.out w4 xu.out)) ?_
 exact⟨rfl,(bM.out.same (aW.out.same xu.out)).trans (aP _ _ _) (fun k hk=>.inr zAB)⟩):p:=h
theorem zDM{p:Prop}(h:p:=by
 refine dn (p:=4) rfl rfl rfl rfl (setRow_heap _ _ _ _ _ _ (lG.out w3 rH.out)) ?_
 exact⟨rfl,(bM.out.same (aW.out.same rH.out)).trans (aP _ _ _) (fun k hk=>.inr zAB)⟩):p:=h
theorem zDN{p:Prop}(h:p:=by
 refine dn (p:=4) rfl rfl rfl rfl (setRow_heap _ _ _ _ _ _ (lG.out iJ Bh.out)) ?_
 exact⟨rfl,(bM.out.same (aW.out.same Bh.out)).trans (aP _ _ _) (fun k hk=>.inr zAB)⟩):p:=h
theorem zDp{p:Prop}(h:p:=by
 rw[<-bD.out]
 exact mM VR.out RZ.out Bg.out zBc zAY):p:=h
theorem zEE{p:Prop}(h:p:=by
 have b0:W1.heap[w.heap.size+2]? =some (.cells #[.int .u8 0,.int .i64 0] 43):=zAr
 exact aC b0 ho (fun f=>f)):p:=h
theorem zEk{p:Prop}(h:p:=by
 rw[<-bD.out]
 refine KF VR.out fun d hd=>RZ.out d ?_
 rw[qI (yG uo.out)]
 exact hd):p:=h
theorem zEp{p:Prop}(h:p:=by
 rw[<-bD.out]
 exact zO HZ.out xO.out (by unfold jq;rw[HC.out,Ql.out];simp) zAY):p:=h
theorem zEw{p:Prop}(h:p:=by
 rw[<-bD.out]
 exact zO HZ.out xO.out (by unfold jq;rw[HC.out];simp[c0]) zAY):p:=h
theorem zE8{p:Prop}(h:p:=by
 have hr2:r=(8,yz.line):=by
  exact zDp
 subst hr2
 go_wp2_with (refine wpList_store_row rfl 43 (.tmp 4) (.tmp 79) rfl (w.heap.size+2) #[.int .u8 8,.int .i64 yz.line] rfl rfl 43 #[.int .u8 0,.int .i64 0] (lG.out w7 Aq.out) zk rfl zk ?_)
 exact zCC):p:=h
end Go.Proofs
namespace Go.Proofs.YtdmmebjjojimiaaGreatDoor
open Go.RowKit
section
variable {w w':World} {B:Nat}
structure Qj (p:fP):Prop where
 some:1<=p.aX.length
 aX:p.aX.length<=10
 vars:WT p.vars
 deps:p.deps.length<=16
 cons:p.cons.length<=8
 dh:p.provides.length<=4
def TP(p:fP)(w w':World)(e:Ending):Prop:= ∃c:Int,e= .returned (.int .u8 c)/\(0<=c/\c<=255)/\(c=0->Qj p)/\O0 w w'
theorem TP.mk{p:fP}(c:Int){w w':World}{e:Ending}(he:e= .returned (.int .u8 c))(hc:0<=c/\c<=255)(hb:c=0->Qj p)(ho:O0 w w'):TP p w w' e:=⟨c,he,hc,hb,ho⟩
def oD(l:List lV)(j:Nat):List Str:=(l.take j).map lV.version
theorem IL{l:List lV}{j:Nat}{r:lV}(h:l[j]? =some r):oD l (j+1)=oD l j++[r.version]:=by unfold oD;rw[List.take_add_one,h];simp
theorem WV{l:List lV}{j:Nat}(h:j<=l.length):(oD l j).length=j:=by unfold oD;simp;omega
end
section
variable {w w':World} {B:Nat}
def jq(x:aF)(p:fP)(d:tJ):Int:=if x.wish d.on=0/\fJ p d.cond.sets=false then 8 else x.wish d.on
def gq(x:aF)(p:fP)(d:xX):Int:=if fJ p d.cond.sets=false then 8 else if d.with'.name.toList.isEmpty=true then 0 else if x.find d.with'.name<0 then 7 else x.wish d.with'
def iU(x:aF)(p:fP):Int×Int:=
 match p.deps.find? fun d=>decide (jq x p d≠0)with
 |some d=>(jq x p d,d.line)
 |none=>match p.cons.find? fun d=>decide (gq x p d≠0)with
  |some d=>(gq x p d,d.line)
  |none=>(0,0)
theorem KC{α:Type}{f:α->Int}{l:List α}{i:Nat}{d:α}(h:∀d∈l.take i,f d=0)(hd:l[i]? =some d)(hn:f d≠0):(l.find? fun d=>decide (f d≠0))=some d:=by
 obtain⟨hlt,rfl⟩:=qJ.1 hd;have e:∀g:α->Bool,l.find? g=(l.take i++l[i]::l.drop (i+1)).find? g:=fun g=>by rw[<-List.drop_eq_getElem_cons hlt,List.take_append_drop]
 rw[e,List.find?_append,List.find?_eq_none.2 (fun d hd=>by simp[h d hd]),Option.none_or,List.find?_cons_of_pos (by simpa using hn)]
theorem KD{α:Type}{f:α->Int}{l:List α}(h:∀d∈l,f d=0):(l.find? fun d=>decide (f d≠0))=none:=
 List.find?_eq_none.2 fun d hd=>by simp[h d hd]
theorem zO{x:aF}{p:fP}{i:Nat}{d:tJ}{c:Int}(h:∀d∈p.deps.take i,jq x p d=0)(hd:p.deps[i]? =some d)(hc:jq x p d=c)(hn:c≠0):iU x p=(c,d.line):=by subst hc;unfold iU;rw[KC h hd hn]
theorem mM{x:aF}{p:fP}{i:Nat}{d:xX}{c:Int}(h0:∀d∈p.deps,jq x p d=0)(h:∀d∈p.cons.take i,gq x p d=0)(hd:p.cons[i]? =some d)(hc:gq x p d=c)(hn:c≠0):iU x p=(c,d.line):=by subst hc;unfold iU;rw[KD h0,KC h hd hn]
theorem KF{x:aF}{p:fP}(h0:∀d∈p.deps,jq x p d=0)(h:∀d∈p.cons,gq x p d=0):iU x p=(0,0):=by unfold iU;rw[KD h0,KD h]
theorem aP(w:World)(g:Nat)(cs:Array Value):Only (fun k=>k=g) w (w.setRow g cs):=
 ⟨rfl,rfl,rfl,by simp[World.setRow],fun k hk hn=>by
  unfold World.setRow
  simp only[Array.getElem?_modify]
  rw[if_neg (fun e=>hn e.symm)]⟩
theorem Qk{fn:Func}{p:Tmp}{ty:TypeId}(h:fn.results= #[.cell p ty])(tmps:Array Value)(P:Program)(w:World):(results fn tmps).run P w=((asAddr (tmps.getD p undef)).run P w).andThen fun a w₁=>(loadVar ty a).run P w₁:=by simp only[results,h];simp[Sem.run_bind,Result.andThen]
theorem dn{fn:Func}{p:Tmp}{Q:Ending->World->Prop}{a:Act}{W:World}{B:Nat}{cs:Array Value}(hf:fn.results= #[.cell p 43])(hp:a.tmps.getD p undef= .pointer (some ⟨B,0,none⟩))(hd:a.defers=[])(hs:cs.size=2)(hg:W.heap[B]? =some (.cells cs 43 (0,0)))(h:Q (.returned (.agg cs)) W):bodyPost Tryz.prog fn Q Exit.ret a W:=by refine bodyPost_ret (v:=.agg cs) ?_ hd h;rw[Qk hf,hp];simp only[asAddr,Sem.run_pure,Result.andThen_ok];exact run_loadVar_row W B 43 43 cs (0,0) _ hg Tryz.underlying43 rfl (by rw[hs];kernel_rfl)
theorem WW{pR:List Value}{x:aF}(hx:gy B w pR x){YB:List Value}{p:fP}(hp:fQ B w YB p)(hlen:x.packs.length<=1000000):Calls Tryz.prog 54 #[.agg pR.toArray,.agg YB.toArray] w fun e w'=>e= .returned (.agg #[.int .u8 (iU x p).1,.int .i64 (iU x p).2])/\O0 w w':=by
 obtain⟨aV,ak,aS,aT,aK,aO,rfl,fV,fZ,dQ,dR,aB,bJ,qo⟩:=open_rec hx;clear hx;try rw[aB.out]
 obtain⟨l9,mg,mD,kV,jv,kW,iq,iw,iy,qp,iC,mF,qy,iD,mG,kG,kH,kJ,rfl,yh,yj,Bd,Bf,mY,mZ,Fv,Fz,FB,FC,vF,vG,yx,wC,ng,um,uo,vH,F_p⟩:=BO hp;clear hp;obtain⟨W0,hW0,bM,vC,aU⟩:=abG w (.slice aV ak aS) (.slice aT aK aO) (.string p.name) (.int .i64 p.line) (.slice l9 mg mD) (.slice kV jv kW) (.slice iq iw iy) (.slice qp iC mF) (.slice qy iD mG) (.slice kG kH kJ) 25 101;obtain⟨gI,bK,bT⟩:=qo W0 bM.out;clear qo;obtain⟨WU,vI,sJ,lC,vJ,vK,sK⟩:=F_p W0 bM.out;clear F_p;clear dQ dR bJ bT;clear yh yj yx vI Bd Bf wC sJ mY mZ ng lC vF vG vH sK;rw[aB.out]at hlen;obtain⟨r,hr⟩:=ze (iU x p);rw[hr];have bD:=zh hr;clear hr;obtain⟨W1,hW1⟩:=zB (W0.alloc (.cells #[.int .u8 0,.int .i64 0] 43));have aW:Hid (O0 W0 W1):=zA3;have lG:Hid (∀W,O0 W1 W->W.heap[w.heap.size+2]? =some (.cells #[.int .u8 0,.int .i64 0] 43)):=fun W ho=>by exact zEE
 go_enter Tryz.func54,Tryz.ntmps54;go_wp2_with fail;rw[<-hW0,<-hW1];clear hW0 hW1;have ku:Hid (O0 W1 W1):=Only.refl _ _;go_loopw [14] (fun vi fM=>Hid (O0 W1 fM)/\∃i:Nat,vi= .int .i64 i/\i<=iC/\Hid (∀d∈p.deps.take i,jq x p d=0)) (fun v _=>iC-(RowKit.intOf v).toNat);case atStart=>exact⟨ku,0,rfl,qE _,show Hid _ from fun v hv=>by simp at hv⟩
 case round=>
  obtain⟨fM,rfl⟩:=zB wr;clear ku;obtain⟨yX,i,rfl,hi,HZ⟩:=hrel;obtain⟨k0,k1,k2,k3,k4,k5,k6,k7,k8,k9⟩:=aU.out fM (aW.out.same yX.out);by_cases ci:i<iC
  ·clear k0 k1 k2 k3 k4 k5 k6 k7 k8 k9;have iG:=zw (i+1);obtain⟨yy,hxy⟩:=zG p.deps i (by rw[um.out];omega);obtain⟨Ah,kX,lD,iL,lF,pU,pV,pW,vN,rP,vO,wS,uq,wU,nN,jX,ny,sN,sO,yV,aos,Ed,jw⟩:=Qi (vJ.out W0 zr) hxy;first|subst nN| (simp only[qG,qO,and_true]at nN;obtain⟨rfl,rfl⟩:=nN)
   have jk:=zh jw;have xO:=zh hxy;clear jw hxy jX ny sN sO;have uK:Hid (∀W,O0 W0 W->aQ 2 eY B W (.slice lD iL lF) yy.on.spans):=fun W ho=>(jk.out W ho).2.1;have FH:Hid (∀W,O0 W0 W->aQ 2 ji B W (.slice pU pV pW) yy.on.sets):=fun W ho=>(jk.out W ho).2.2.1;have WX:Hid (∀W,O0 W0 W->aQ 2 ji B W (.slice wS uq wU) yy.cond.sets):=fun W ho=>(jk.out W ho).2.2.2.2.1;have HWs:Hid (∀W,O0 W0 W->Calls Tryz.prog 56 #[.agg #[.slice aV ak aS,.slice aT aK aO],.agg #[.string yy.on.name,.slice lD iL lF,.slice pU pV pW]] W fun e w'=>e= .returned (.int .u8 (x.wish yy.on))/\O0 W w'):=fun W hW=>Kz (gI.out W hW) (⟨_,_,rfl,yV,uK.out W hW,FH.out W hW⟩:dB B W [.string yy.on.name,.slice lD iL lF,.slice pU pV pW] yy.on) zAN;have GR:Hid (∀W,O0 W0 W->Calls Tryz.prog 127 #[.agg #[.string p.name,.int .i64 p.line,.slice l9 mg mD,.slice kV jv kW,.slice iq iw iy,.slice (some ⟨Ah,kX,none⟩) iC mF,.slice qy iD mG,.slice kG kH kJ],.slice wS uq wU] W fun e w'=>e= .returned (.bool (fJ p yy.cond.sets))/\O0 W w'):=fun W hW=>zN (WU.out W hW) (WX.out W hW);have fE:=zh (jk.out fM (aW.out.same yX.out)).1;obtain⟨W2,hW2⟩:=zB (fM.alloc (.cells #[.string yy.on.name,.slice lD iL lF,.slice pU pV pW,.string yy.cond.name,.slice vN rP vO,.slice wS uq wU,.int .i64 yy.line] 132));have HP2:Hid (O0 W1 W2):=by rw[hW2];exact(yX.out).alloc _
   have uM:Hid (∀W,O0 W2 W->W.cell? ⟨fM.heap.size,0,none⟩=some (.string yy.on.name)/\W.cell? ⟨fM.heap.size,1,none⟩=some (.slice lD iL lF)/\W.cell? ⟨fM.heap.size,2,none⟩=some (.slice pU pV pW)/\W.cell? ⟨fM.heap.size,3,none⟩=some (.string yy.cond.name)/\W.cell? ⟨fM.heap.size,4,none⟩=some (.slice vN rP vO)/\W.cell? ⟨fM.heap.size,5,none⟩=some (.slice wS uq wU)/\W.cell? ⟨fM.heap.size,6,none⟩=some (.int .i64 yy.line)):=fun W ho=>by
    have b0:W2.heap[fM.heap.size]? =some (.cells #[.string yy.on.name,.slice lD iL lF,.slice pU pV pW,.string yy.cond.name,.slice vN rP vO,.slice wS uq wU,.int .i64 yy.line] 132):=by rw[hW2];exact qL fM _
    have b1:=aC b0 ho (fun f=>f);exact zCM
   obtain⟨m0,m1,m2,m3,m4,m5,m6,m7,m8,m9⟩:=aU.out W2 (aW.out.same HP2.out);rw[hW2]at m0 m1 m2 m3 m4 m5 m6 m7 m8 m9;obtain⟨k0,k1,k2,k3,k4,k5,k6,k7,k8,k9⟩:=aU.out fM (aW.out.same yX.out);obtain⟨d0,d1,d2,d3,d4,d5,d6⟩:=uM.out W2 zr;rw[hW2]at d0 d1 d2 d3 d4 d5 d6;go_wp2_with (refine wpList_load_mid rfl 132 (.tmp 20) rfl Ah (kX+i*7) rfl _ _ fE.out Tryz.underlying132 rfl zk ?_);rw[<-hW2];clear m0 m1 m2 m3 m4 m5 m6 m7 m8 m9 d0 d1 d2 d3 d4 d5 d6 hW2 fE;refine(HWs.out W2 (aW.out.same HP2.out)).mono ?_;rintro e w3 ⟨rfl,O1⟩;have rH:=zh (HP2.out.same O1);have HQ3:Hid (O0 W2 w3):=O1;clear O1 k0 k1 k2 k3 k4 k5 k6 k7 k8 k9;obtain⟨k0,k1,k2,k3,k4,k5,k6,k7,k8,k9⟩:=aU.out w3 (aW.out.same rH.out);obtain⟨d0,d1,d2,d3,d4,d5,d6⟩:=uM.out w3 (HQ3.out);obtain⟨c,hc⟩:=ze (x.wish yy.on);obtain⟨sb,hsb⟩:=ze (fJ p yy.cond.sets);simp only[hsb]at GR;rw[hc];have HC:=zh hc;have Ql:=zh hsb;clear hc hsb;by_cases c0:c=0
   ·subst c0;go_wp2_with fail;refine(GR.out w3 (aW.out.same rH.out)).mono ?_;rintro e w4 ⟨rfl,O1⟩;have xu:=zh (rH.out.same O1);have HQ4:Hid (O0 W2 w4):=HQ3.out.same O1;clear O1 k0 k1 k2 k3 k4 k5 k6 k7 k8 k9 d0 d1 d2 d3 d4 d5 d6;obtain⟨k0,k1,k2,k3,k4,k5,k6,k7,k8,k9⟩:=aU.out w4 (aW.out.same xu.out);obtain⟨d0,d1,d2,d3,d4,d5,d6⟩:=uM.out w4 (HQ4.out);cases sb with
    |true=>exact zCT
    |false=>
     have hr2:r=(8,yy.line):=by exact zEp
     subst hr2;go_wp2_with (refine wpList_store_row rfl 43 (.tmp 4) (.tmp 41) rfl (w.heap.size+2) #[.int .u8 8,.int .i64 yy.line] rfl rfl 43 #[.int .u8 0,.int .i64 0] (lG.out w4 xu.out) zk rfl zk ?_);exact zDL
   have c1:((c:Int)==0)=false:=by rw[yC];exact c0
   have hr2:r=(c,yy.line):=by exact zEw
   subst hr2;go_wp2_with (refine wpList_store_row rfl 43 (.tmp 4) (.tmp 41) rfl (w.heap.size+2) #[.int .u8 c,.int .i64 yy.line] rfl rfl 43 #[.int .u8 0,.int .i64 0] (lG.out w3 rH.out) zk rfl zk ?_);exact zDM
  obtain rfl:iC=i:=by omega
  have VR:Hid (∀d∈p.deps,jq x p d=0):=fun d hd=>HZ.out d (by
   rw[qI (yG um.out)]
   exact hd)
  have ku:=yX;go_wp2_with fail;go_loopw [46] (fun vj iJ=>Hid (O0 W1 iJ)/\∃j:Nat,vj= .int .i64 j/\j<=iD/\Hid (∀d∈p.cons.take j,gq x p d=0)) (fun v _=>iD-(RowKit.intOf v).toNat);case atStart=>exact⟨ku,0,rfl,qE _,show Hid _ from fun v hv=>by simp at hv⟩
  case round=>
   obtain⟨iJ,rfl⟩:=zB wr;clear ku;obtain⟨Bh,j,rfl,hj,RZ⟩:=hrel;clear k0 k1 k2 k3 k4 k5 k6 k7 k8 k9;obtain⟨k0,k1,k2,k3,k4,k5,k6,k7,k8,k9⟩:=aU.out iJ (aW.out.same Bh.out);by_cases cj:j<iD
   ·clear k0 k1 k2 k3 k4 k5 k6 k7 k8 k9;have iG:=zw (j+1);obtain⟨yz,hxz⟩:=zG p.cons j (by rw[uo.out];omega);obtain⟨NG,xM,VO,VP,VQ,ZO,ZP,ZQ,WY,WZ,Xa,VT,OM,VU,wE,Eb,aci,acj,ZR,Ky,afn,acn,mJ⟩:=Yz (vK.out W0 zr) hxz;first|subst wE| (simp only[qG,qO,and_true]at wE;obtain⟨rfl,rfl⟩:=wE)
    have vM:=zh mJ;have Bg:=zh hxz;clear mJ hxz Eb aci acj ZR;have ahM:Hid (∀W,O0 W0 W->aQ 2 ji B W (.slice ZO ZP ZQ) yz.cond.sets):=fun W ho=>(vM.out W ho).2.2.1;have ahN:Hid (∀W,O0 W0 W->aQ 2 eY B W (.slice WY WZ Xa) yz.with'.spans):=fun W ho=>(vM.out W ho).2.2.2.1;have ZT:Hid (∀W,O0 W0 W->aQ 2 ji B W (.slice VT OM VU) yz.with'.sets):=fun W ho=>(vM.out W ho).2.2.2.2.1;have HWs:Hid (∀W,O0 W0 W->Calls Tryz.prog 56 #[.agg #[.slice aV ak aS,.slice aT aK aO],.agg #[.string yz.with'.name,.slice WY WZ Xa,.slice VT OM VU]] W fun e w'=>e= .returned (.int .u8 (x.wish yz.with'))/\O0 W w'):=fun W hW=>Kz (gI.out W hW) (⟨_,_,rfl,afn,ahN.out W hW,ZT.out W hW⟩:dB B W [.string yz.with'.name,.slice WY WZ Xa,.slice VT OM VU] yz.with') zAN;have HF:Hid (∀W,O0 W0 W->Calls Tryz.prog 38 #[.agg #[.slice aV ak aS,.slice aT aK aO],.string yz.with'.name] W fun e w'=>e= .returned (.int .i64 (x.find yz.with'.name))/\O0 W w'):=fun W hW=>sH (gI.out W hW) _;have GR:Hid (∀W,O0 W0 W->Calls Tryz.prog 127 #[.agg #[.string p.name,.int .i64 p.line,.slice l9 mg mD,.slice kV jv kW,.slice iq iw iy,.slice qp iC mF,.slice (some ⟨NG,xM,none⟩) iD mG,.slice kG kH kJ],.slice ZO ZP ZQ] W fun e w'=>e= .returned (.bool (fJ p yz.cond.sets))/\O0 W w'):=fun W hW=>zN (WU.out W hW) (ahM.out W hW);have hrz:=zh (vM.out iJ (aW.out.same Bh.out)).1;obtain⟨W4,JB⟩:=zB (iJ.alloc (.cells #[.string yz.cond.name,.slice VO VP VQ,.slice ZO ZP ZQ,.string yz.with'.name,.slice WY WZ Xa,.slice VT OM VU,.int .i64 yz.line] 160));have xu:Hid (O0 W1 W4):=by rw[JB];exact(Bh.out).alloc _
    have uM:Hid (∀W,O0 W4 W->W.cell? ⟨iJ.heap.size,0,none⟩=some (.string yz.cond.name)/\W.cell? ⟨iJ.heap.size,1,none⟩=some (.slice VO VP VQ)/\W.cell? ⟨iJ.heap.size,2,none⟩=some (.slice ZO ZP ZQ)/\W.cell? ⟨iJ.heap.size,3,none⟩=some (.string yz.with'.name)/\W.cell? ⟨iJ.heap.size,4,none⟩=some (.slice WY WZ Xa)/\W.cell? ⟨iJ.heap.size,5,none⟩=some (.slice VT OM VU)/\W.cell? ⟨iJ.heap.size,6,none⟩=some (.int .i64 yz.line)):=fun W ho=>by
     have b0:W4.heap[iJ.heap.size]? =some (.cells #[.string yz.cond.name,.slice VO VP VQ,.slice ZO ZP ZQ,.string yz.with'.name,.slice WY WZ Xa,.slice VT OM VU,.int .i64 yz.line] 160):=by rw[JB];exact qL iJ _
     have b1:=aC b0 ho (fun f=>f);exact zCM
    obtain⟨m0,m1,m2,m3,m4,m5,m6,m7,m8,m9⟩:=aU.out W4 (aW.out.same xu.out);rw[JB]at m0 m1 m2 m3 m4 m5 m6 m7 m8 m9;obtain⟨k0,k1,k2,k3,k4,k5,k6,k7,k8,k9⟩:=aU.out iJ (aW.out.same Bh.out);obtain⟨d0,d1,d2,d3,d4,d5,d6⟩:=uM.out W4 zr;rw[JB]at d0 d1 d2 d3 d4 d5 d6;obtain⟨e0,he0⟩:=ze yz.with'.name.toList.isEmpty;obtain⟨sb,hsb⟩:=ze (fJ p yz.cond.sets);simp only[hsb]at GR;have Ql:=zh hsb;have YD:=zh he0;clear hsb;cases e0 with
    |true=>
     go_wp2_with (refine wpList_load_mid rfl 160 (.tmp 52) rfl NG (xM+j*7) rfl _ _ hrz.out Tryz.underlying160 rfl zk ?_);rw[<-JB];clear m0 m1 m2 m3 m4 m5 m6 m7 m8 m9 JB hrz;clear k0 k1 k2 k3 k4 k5 k6 k7 k8 k9;obtain⟨k0,k1,k2,k3,k4,k5,k6,k7,k8,k9⟩:=aU.out W4 (aW.out.same xu.out);go_wp2_with fail;refine(GR.out W4 (aW.out.same xu.out)).mono ?_;rintro e w5 ⟨rfl,O1⟩;have CQ:=zh (xu.out.same O1);have HQ5:Hid (O0 W4 w5):=O1;clear O1 k0 k1 k2 k3 k4 k5 k6 k7 k8 k9 d0 d1 d2 d3 d4 d5 d6;obtain⟨k0,k1,k2,k3,k4,k5,k6,k7,k8,k9⟩:=aU.out w5 (aW.out.same CQ.out);obtain⟨d0,d1,d2,d3,d4,d5,d6⟩:=uM.out w5 (HQ5.out);cases sb with
     |false=>
      have hr2:r=(8,yz.line):=by exact zDp
      subst hr2;go_wp2_with (refine wpList_store_row rfl 43 (.tmp 4) (.tmp 79) rfl (w.heap.size+2) #[.int .u8 8,.int .i64 yz.line] rfl rfl 43 #[.int .u8 0,.int .i64 0] (lG.out w5 CQ.out) zk rfl zk ?_);exact zDK
     |true=>
      have hcode:gq x p yz=0:=by unfold gq;rw[Ql.out,YD.out];simp
      exact zCa
    |false=>
     go_wp2_with (refine wpList_load_mid rfl 160 (.tmp 52) rfl NG (xM+j*7) rfl _ _ hrz.out Tryz.underlying160 rfl zk ?_);rw[<-JB];clear m0 m1 m2 m3 m4 m5 m6 m7 m8 m9 JB hrz;clear k0 k1 k2 k3 k4 k5 k6 k7 k8 k9;obtain⟨k0,k1,k2,k3,k4,k5,k6,k7,k8,k9⟩:=aU.out W4 (aW.out.same xu.out);go_wp2_with fail;refine(HWs.out W4 (aW.out.same xu.out)).mono ?_;rintro e w5 ⟨rfl,O1⟩;have CQ:=zh (xu.out.same O1);have HQ5:Hid (O0 W4 w5):=O1;clear O1 k0 k1 k2 k3 k4 k5 k6 k7 k8 k9 d0 d1 d2 d3 d4 d5 d6;obtain⟨k0,k1,k2,k3,k4,k5,k6,k7,k8,k9⟩:=aU.out w5 (aW.out.same CQ.out);obtain⟨d0,d1,d2,d3,d4,d5,d6⟩:=uM.out w5 (HQ5.out);obtain⟨c,hc⟩:=ze (x.wish yz.with');rw[hc];have HC:=zh hc;clear hc;go_wp2_with fail;refine(HF.out w5 (aW.out.same CQ.out)).mono ?_;rintro e w6 ⟨rfl,O1⟩;have DC:=zh (CQ.out.same O1);have HQ6:Hid (O0 W4 w6):=HQ5.out.same O1;clear O1 k0 k1 k2 k3 k4 k5 k6 k7 k8 k9 d0 d1 d2 d3 d4 d5 d6;obtain⟨k0,k1,k2,k3,k4,k5,k6,k7,k8,k9⟩:=aU.out w6 (aW.out.same DC.out);obtain⟨d0,d1,d2,d3,d4,d5,d6⟩:=uM.out w6 (HQ6.out);obtain⟨f,hf⟩:=ze (x.find yz.with'.name);rw[hf];by_cases fl:f<0
     ·have HFl:Hid (x.find yz.with'.name<0):=by rw[hf];exact fl
      clear hf;go_wp2_with fail;refine(GR.out w6 (aW.out.same DC.out)).mono ?_;rintro e w7 ⟨rfl,O1⟩;have Aq:=zh (DC.out.same O1);have HQ7:Hid (O0 W4 w7):=HQ6.out.same O1;clear O1 k0 k1 k2 k3 k4 k5 k6 k7 k8 k9 d0 d1 d2 d3 d4 d5 d6;obtain⟨k0,k1,k2,k3,k4,k5,k6,k7,k8,k9⟩:=aU.out w7 (aW.out.same Aq.out);obtain⟨d0,d1,d2,d3,d4,d5,d6⟩:=uM.out w7 (HQ7.out);cases sb with
      |false=>exact zE8
      |true=>
       have hr2:r=(7,yz.line):=by rw[<-bD.out];exact mM VR.out RZ.out Bg.out (by unfold gq;rw[Ql.out,YD.out,if_neg (by simp),if_neg zAF,if_pos HFl.out]) zBq
       subst hr2;go_wp2_with (refine wpList_store_row rfl 43 (.tmp 4) (.tmp 79) rfl (w.heap.size+2) #[.int .u8 7,.int .i64 yz.line] rfl rfl 43 #[.int .u8 0,.int .i64 0] (lG.out w7 Aq.out) zk rfl zk ?_);exact zCC
     have HFl:Hid (0<=x.find yz.with'.name):=by rw[hf,Hid];omega
     clear hf;go_wp2_with fail;refine(GR.out w6 (aW.out.same DC.out)).mono ?_;rintro e w7 ⟨rfl,O1⟩;have Aq:=zh (DC.out.same O1);have HQ7:Hid (O0 W4 w7):=HQ6.out.same O1;clear O1 k0 k1 k2 k3 k4 k5 k6 k7 k8 k9 d0 d1 d2 d3 d4 d5 d6;obtain⟨k0,k1,k2,k3,k4,k5,k6,k7,k8,k9⟩:=aU.out w7 (aW.out.same Aq.out);obtain⟨d0,d1,d2,d3,d4,d5,d6⟩:=uM.out w7 (HQ7.out);cases sb with
     |false=>exact zE8
     |true=>
      by_cases c0:c=0
      ·subst c0;have hcode:gq x p yz=0:=by unfold gq;rw[Ql.out,YD.out,if_neg (by simp),if_neg zAF,if_neg zBx,HC.out]
       exact zCb
      have c1:((c:Int)==0)=false:=by rw[yC];exact c0
      have hr2:r=(c,yz.line):=by rw[<-bD.out];exact mM VR.out RZ.out Bg.out (by unfold gq;rw[Ql.out,YD.out,if_neg (by simp),if_neg zAF,if_neg zBx,HC.out]) zBq
      subst hr2;go_wp2_with (refine wpList_store_row rfl 43 (.tmp 4) (.tmp 79) rfl (w.heap.size+2) #[.int .u8 c,.int .i64 yz.line] rfl rfl 43 #[.int .u8 0,.int .i64 0] (lG.out w7 Aq.out) zk rfl zk ?_);exact zCC
   obtain rfl:iD=j:=by omega
   have hr2:r=(0,0):=by exact zEk
   subst hr2;go_wp2_with (refine wpList_store_row rfl 43 (.tmp 4) (.tmp 81) rfl (w.heap.size+2) #[.int .u8 0,.int .i64 0] rfl rfl 43 #[.int .u8 0,.int .i64 0] (lG.out iJ Bh.out) zk rfl zk ?_);exact zDN
end
section
variable {w w':World} {B:Nat}
attribute [local irreducible] wpQuiet
def YG(F:Prop)(w w':World)(e:Ending):Prop:= ∃c l:Int,e= .returned (.agg #[.int .u8 c,.int .i64 l])/\(c=0->F)/\O0 w w'
theorem YG.mk{F:Prop}(c l:Int){w w':World}{e:Ending}(he:e= .returned (.agg #[.int .u8 c,.int .i64 l]))(hf:c=0->F)(ho:O0 w w'):YG F w w' e:=⟨c,l,he,hf,ho⟩
theorem DI{P:Program}{o:Oper}{a:Act}{w:World}{K:Act->World->Prop}{Q:Exit->Act->World->Prop}(ty:TypeId)(x y:Operand)(ho:o.op= .store ty x y)
  (g:Nat) (cells:Array Value) (hx:a.eval x= .pointer (some ⟨g,0,none⟩)) (hy:a.eval y= .agg cells)
  (t:TypeId) (old:Array Value) (hg:w.heap[g]? =some (.cells old t (0,0))) (hi:(P.info? ty).map (·.size)=some cells.size)
  (hold:old.size=cells.size) (h1:cells.all (·.oneCell')=true)
  (h:∀W3:World,W3.heap[g]? =some (.cells cells t (0,0))->Only (fun k=>k=g) w W3->K (a.put o.dst undef) W3):o.wp P a w K Q:=
 wp_store_row ty x y ho g cells hx hy t old hg hi hold h1 (h _ (setRow_heap _ _ _ _ _ _ hg) (aP _ _ _))
end
section
variable {w w':World} {B:Nat}
attribute [local irreducible] wpQuiet
structure YH (x:aF) (q:dH):Prop where
 packs:x.packs.length<=8
 all:∀p∈x.packs,Qj p
 roots:q.roots.length<=8
end
section
variable {w w':World} {B:Nat}
def zx(w w':World)(v:Value):Prop:= ∃l:List Str,w'.ownsRow 0 9 1 v l.length (fH l)/\(∀s∈l,okS s)/\(∀k,v.ownBlock=some k->w.heap.size<=k)/\l.length<=1000000000
theorem zx.aH{w0:World}{v:Value}(h:zx w0 w v)(ho:O0 w w'):zx w0 w' v:=by obtain⟨l,h1,h2,h3,h4⟩:=h;exact⟨l,aG h1 ho (fun _ _ f=>f),h2,h3,h4⟩
theorem zx.row{w0:World}{v:Value}(h:zx w0 w v):∃l:List Str,aQ 1 dN w.heap.size w v l/\l.length<=1000000000:=by obtain⟨l,h1,h2,h3,h4⟩:=h;exact⟨l,sG rfl h1 h2,h4⟩
end
section
variable {w w':World} {B:Nat}
def Rt(P:Prop)(w w':World)(e:Ending):Prop:= ∃b,e= .returned (.bool b)/\(b=true->P)/\O0 w w'
theorem Rt.mk{P:Prop}(b:Bool){w w':World}{e:Ending}(he:e= .returned (.bool b))(h:b=true->P)(ho:O0 w w'):Rt P w w' e:=⟨b,he,h,ho⟩
end
end Go.Proofs.YtdmmebjjojimiaaGreatDoor
namespace Go.Proofs
theorem zEh{p:Prop}(h:p:=by
 obtain⟨g,cap,rfl,_,_⟩:=dU h2 zAB
 simpa[Value.blk,Value.ownBlock]using hk):p:=h
end Go.Proofs
namespace Go.Proofs.YtdmmebjjojimiaaGreatDoor
open Go.RowKit
theorem ZU{w:World}{base:Nat}{e:TypeId}{size:Nat}{v:Value}{n:Nat}{xs:List Value}(h:w.ownsRow base e size v n xs):w.ownsRow 0 e size v n xs:=⟨h.1,h.2.imp id fun⟨g,cap,cur,a,_,c⟩=>⟨g,cap,cur,a,qE _,c⟩⟩
def oH(w:World)(e:TypeId)(v:Value)(us:List Value):Prop:=
 (v=dF/\us=[])\/ ∃g o cap cur,v= .slice (some ⟨g,o,none⟩) us.length cap/\w.heap[g]? =some (.cells cur e (0,0))/\us.length<=cap/\cap<=maxLen/\(∀j,j<cap->o+j<cur.size)/\∀j u,us[j]? =some u->cur[o+j]? =some u
theorem oH.nilRow(w:World)(e:TypeId):oH w e dF []:=.inl ⟨rfl,rfl⟩
theorem oH.dV{w:World}{e:TypeId}{v:Value}{us:List Value}(h:w.ownsRow 0 e 1 v us.length us):oH w e v us:=by
 rcases h.2 with⟨rfl,h2⟩| ⟨g,cap,cur,rfl,_,hg,h1,h2,h3,h4⟩;·exact .inl ⟨rfl,yF h2⟩
 refine .inr ⟨g,0,cap,cur,rfl,hg,h1,h2,fun j hj=>by omega,fun j u hu=>?_⟩;have hj:=(qJ.1 hu).1;rw[<-h4,yH,List.getElem?_take,if_pos hj]at hu;rw[Nat.zero_add,<-hu,Array.getElem?_toList]
theorem oH.only{w w':World}{e:TypeId}{v:Value}{us:List Value}{F:Nat->Prop}(h:oH w e v us)(ho:Only F w w')(hF:∀k,Value.blk v=some k->¬F k):oH w' e v us:=by
 rcases h with h| ⟨g,o,cap,cur,rfl,hg,r⟩;·exact .inl h
 exact .inr ⟨g,o,cap,cur,rfl,aC hg ho (hF g rfl),r⟩
theorem oH.lt{w:World}{e:TypeId}{v:Value}{us:List Value}(h:oH w e v us){k:Nat}(hk:Value.blk v=some k):k<w.heap.size:=by
 rcases h with⟨rfl,_⟩| ⟨g,o,cap,cur,rfl,hg,r⟩;·cases hk
 cases hk;exact bU hg
theorem oH.some{w:World}{e:TypeId}{v u:Value}{us:List Value}(h:oH w e v (u::us)):∃g o cap,v= .slice (some ⟨g,o,none⟩) (us.length+1) cap/\us.length+1<=cap/\cap<=maxLen/\w.cell? ⟨g,o,none⟩=some u/\∃o',(o'=if cap=1 then o else o+1)/\oH w e (.slice (some ⟨g,o',none⟩) us.length (cap-1)) us:=by
 rcases h with⟨_,h⟩| ⟨g,o,cap,cur,rfl,hg,h1,h2,h3,h4⟩;·cases h
 simp only[qN]at h1;refine⟨g,o,cap,rfl,h1,h2,?_,_,rfl,.inr ⟨g,_,cap-1,cur,rfl,hg,by omega,by omega,fun j hj=>?_,fun j x hx=>?_⟩⟩;·rw[aj hg];exact h4 0 u rfl
 ·rw[if_neg zAB];have:=h3 (j+1) zAB;omega
 have hj:=(qJ.1 hx).1;rw[if_neg zAB];have:=h4 (j+1) x (by simpa using hx);rw[show o+1+j=o+(j+1) by omega];exact this
theorem TQ{P:Program}{t e:TypeId}{i:TypeInfo}(ht:P.underlying t=some (.slice e))(hi:P.info? e=some i)(hs:i.size=1)(g o m cap:Nat)(hm:m+1<=cap)(hc:cap<=maxLen)(W:World):(Instr.slice t (.slice (some ⟨g,o,none⟩) (m+1) cap) (some (.int .i64 1)) none none).run P W= .ok (.slice (some ⟨g,if cap=1 then o else o+1,none⟩) m (cap-1)) W:=by have h1:(1:Int)<=((m+1:Nat):Int):=zAB;simp[Instr.slice,Instr.sliceBounds,Instr.sliceBound,run_underlying ht,sizeOf,typeInfo,hi,hs,asIntOf,Addr.add];by_cases hcap:cap=1;all_goals (split<;>simp_all)
theorem oH.sh{w:World}{e:TypeId}{v:Value}{us:List Value}(h:oH w e v us):∃ao cap,v= .slice ao us.length cap/\us.length<=cap/\cap<=maxLen:=by
 rcases h with⟨rfl,rfl⟩| ⟨g,o,cap,cur,rfl,hg,h1,h2,_⟩;·exact zEP
 exact⟨_,cap,rfl,h1,h2⟩
theorem Qm{P:Program}(w:World){t e ty:TypeId}{bytes:Nat}(T:Az P t e 1 bytes){v:Value}{us:List Value}(h:oH w e v us)(a:Addr)(c:Nat){u:Value}(hc:w.cell? a=some u)(hu:u.oneCell'=true)(h63:us.length+1<=1099511627776)(hby:bytes<=64):∃v' w',(Builtin.append_ #[t,t] ty #[v,.slice (some a) 1 c]).run P w= .ok v' w'/\oH w' e v' (us++[u])/\Only (fun k=>Value.blk v=some k) w w'/\∀k,Value.blk v'=some k->Value.blk v=some k\/w.heap.size<=k:=by
 have hm:maxLen=9223372036854775807\/1099511627776<=maxLen:=zAS;have hm2:us.length+1<=maxLen:=zAS;have hmul:(us.length+1)*bytes<=1099511627776*64:=Nat.mul_le_mul h63 hby;have hnews:∀j x,[u][j]? =some x->w.cell? (a.add j)=some x:=by
  intro j x hx
  match j,hx with
  |0,hx=>simp at hx;subst hx;rw[<-hc];unfold Addr.add;simp
 have h1:∀x∈[u],x.oneCell'=true:=by intro x hx;simp at hx;subst hx;exact hu
 rcases h with⟨rfl,rfl⟩| ⟨g,o,cap,cur,rfl,hg,hl,hx,hi,hv⟩
 ·obtain⟨v',w',hr,h2,h3,h4,h5⟩:=mV (P:=P) (ty:=ty) w T dF 0 [] (World.ownsRow_nil _ _ _ _) a 1 c [u] rfl hnews h1 (by simpa using hm2) zAB;refine⟨v',w',hr,oH.dV (by simpa using h2),(Only.refl _ w).grown h3 fun k hk=>(by cases hk),fun k hk=>?_⟩;have hk':v'.ownBlock=some k:=by exact zEh
  rcases h4 k hk' with h|h;·cases h
  exact .inr h
 obtain⟨i,z,t1,t2,t3,t4,t5⟩:=T.info;have hcur:∀j,w.cell? ⟨g,j,none⟩=cur[j]? :=fun j=>aj hg j;by_cases hroom:us.length+1<=cap
 ·have hin:o+us.length<cur.size:=hi _ zAB;have hrun:=run_append_room_cells (P:=P) w t ty e i T.und t1 g o us.length cap a 1 c [u] (by rw[t3];rfl) hnews h1 hroom
   (fun j hj=>by
    simp at hj;subst hj
    rw[t3,yH,qF,hcur,Array.getElem?_eq_getElem hin];rfl)
   (fun j hj=>by simp at hj;subst hj;exact jW hg _)
  rw[t3,yH]at hrun;refine⟨_,_,hrun,.inr ⟨g,o,cap,cur.setIfInBounds (o+us.length) u,?_,?_,?_,hx,fun j hj=>by simpa using hi j hj,fun j x hj=>?_⟩,?_,fun k hk=>.inl hk⟩;·simp
  ·exact mQ hg _ _
  ·simpa using hroom
  ·rw[Array.getElem?_setIfInBounds];have hjl:=(qJ.1 hj).1;simp at hjl;by_cases hjn:j=us.length;·subst hjn;rw[if_pos rfl,if_pos hin];simpa using hj
   rw[if_neg zAB];exact hv j x (by rw[yM zAB]at hj;exact hj)
  exact(Only.refl (fun k=>Value.blk (.slice (some ⟨g,o,none⟩) us.length cap)=some k) w).setCell (p:=⟨g,o+us.length,none⟩) (.inl rfl) u
 have hgrow:=run_append_arg_grows (P:=P) w t ty e i z 1 bytes T.und t1 t2 t3 t4 t5 zBU ⟨g,o,none⟩ us.length cap us zAB
  (fun j x hj=>by rw[Go.WideShapes.add_plain,hcur];exact hv j x hj) a 1 c [u] rfl hnews zBU hm2 zAB
 obtain⟨v',w',hr,h2,h3⟩:=hgrow;refine⟨v',w',hr,oH.dV (by simpa using ZU h2),(Only.refl _ w).grown h3 fun k hk=>(by cases hk),fun k hk=>?_⟩;have hk':v'.ownBlock=some k:=by exact zEh
 exact .inr (h2.lt k hk').1
theorem akW{P:Program}{w:World}{u:Value}{ops:Array Oper}{rest:List Oper}{o:Oper}{a:Act}{Q:Exit->Act->World->Prop}{t e:TypeId}{bytes:Nat}(T:Az P t e 1 bytes)
  (hgd:o.guard=none) (s x:Operand)
  (ho:o.op= .call {callee:=.builtin .append,args:= #[s,x],argTypes:= #[t,t]})
  {v:Value} {us:List Value} {g:Nat} (hs:a.eval s=v) (hx:a.eval x= .slice (some ⟨g,0,none⟩) 1 1) (hc:w.cell? ⟨g,0,none⟩=some u) (hu:u.oneCell'=true) (hq:oH w e v us)
  (h63:us.length+1<=1099511627776) (hbytes:bytes<=64)
  (h:∀v' w',oH w' e v' (us++[u])->Only (fun k=>Value.blk v=some k) w w'->(∀k,Value.blk v'=some k->Value.blk v=some k\/w.heap.size<=k)->wpList P ops Q rest (a.put o.dst v') w'):
  wpList P ops Q (o::rest) a w:=by
 refine wpList_plain hgd fun K hK=>?_
 obtain⟨v',w',hr,h2,h3,h4⟩:=Qm (P:=P) (ty:=o.type) w T hq ⟨g,0,none⟩ 1 hc hu h63 hbytes
 unfold Oper.wp execOp
 simp only[ho,resolve,invoke,builtin,Sem.run_bind,Sem.run_pure,Result.andThen_ok,List.map_toArray,List.map_cons,List.map_nil,hs,hx,hr]
 exact hK _ _ (h v' w' h2 h3 h4)
end Go.Proofs.YtdmmebjjojimiaaGreatDoor
namespace Go.Proofs
theorem zCt{p:Prop}(h:p:=by
 obtain⟨es,clock,hb,Ft,hs,hD⟩:=r1
 refine⟨es,clock,hb,Ft,?_,hD⟩
 rw[<-hsz,hD]
 simp[Maps.size,length_sorted]):p:=h
theorem zDd{p:Prop}(h:p:=by
 split
 ·exact h.nd
 ·rename_i hn
  rw[List.nodup_append]
  exact⟨h.nd,by simp,fun a ha b hb e=>hn (by simp at hb;rw[<-hb,<-e];exact ha)⟩):p:=h
end Go.Proofs
namespace Go.Proofs.YtdmmebjjojimiaaGreatDoor
open Go.RowKit
theorem inZ:bg 0:=⟨by decide,by decide⟩
theorem Ho:Maps.Keyed Tryz.prog 3:=Maps.int_keyed Tryz.underlying3
theorem afp(w:World):(zeroValue 3).run Tryz.prog w= .ok (.int .i64 0) w:=by kernel_rfl
abbrev kI(x:Int):Lit:=.int .i64 x
theorem wfI{x:Int}(hx:bg x):(kI x).wf=true:=WalkArith.wf_i64 hx
theorem ahQ{x:Int}(hx:bg x):keyOf Tryz.prog 3 (cI x)=some (kI x):=Maps.keyOf_int_mk Tryz.underlying3 (wfI hx)
theorem YE{x y:Int}(h:y≠x):kI y≠kI x:=fun e=>h (by injection e)
structure pX (w:World) (B:Nat) (ks:List Int) (f:Int->Int):Prop where
 own:∃D:DataW Unit,w.ownsMap Tryz.prog 3 (plainElem Tryz.prog 3) B ks.length D/\(∀x,D.atKey (kI x) (.lit (kI 0))= .lit (kI (f x)))/\(∀x,Maps.has D (kI x)=decide (x∈ks))/\Maps.size D=ks.length
 nd:ks.Nodup
 out:∀x,x∉ks->f x=0
 val:∀x,bg (f x)
 rng:∀x∈ks,bg x
def CS(ks:List Int)(x:Int):List Int:=if x∈ks then ks else ks++[x]
def upd(f:Int->Int)(x v:Int):Int->Int:=fun y=>if y=x then v else f y
theorem Bj{ks:List Int}{x y:Int}:y∈CS ks x↔y∈ks\/y=x:=by
 unfold CS;split
 ·rename_i h;constructor;·exact .inl
  rintro(h1|rfl);·exact h1
  exact h
 simp
section
variable {w w':World} {B:Nat} {ks:List Int} {f:Int->Int}
theorem pX.lt(h:pX w B ks f):B<w.heap.size:=by obtain⟨D,h1,_⟩:=h.own;exact h1.lt
theorem pX.only{F:Nat->Prop}(h:pX w B ks f)(ho:Only F w w')(hF:¬F B):pX w' B ks f:=by have hlt:=h.lt;obtain⟨D,⟨es,clock,hb,Ft,hs,hD⟩,h2⟩:=h.own;exact⟨⟨D,⟨es,clock,(ho.block B hlt hF).trans hb,Ft,hs,hD⟩,h2⟩,h.nd,h.out,h.val,h.rng⟩
theorem pX.aH(h:pX w B ks f)(ho:O0 w w'):pX w' B ks f:=h.only ho (fun f=>f)
theorem pX.made(w:World):pX (w.alloc (.map #[] 0)) w.heap.size [] (fun _=>0):=
 ⟨⟨.map [],World.ownsMap_made _ _ _ _,fun x=>rfl,fun x=>by simp[Maps.has],rfl⟩,List.nodup_nil,fun _ _=>rfl,fun _=>inZ,fun x hx=>by cases hx⟩
theorem pX.look(h:pX w B ks f){x:Int}(hx:bg x):(Instr.lookup 211 (.map (some B)) (cI x) false).run Tryz.prog w= .ok (cI (f x)) w:=by obtain⟨D,h1,h2,h3,h4⟩:=h.own;obtain⟨c,hrun,hat,_⟩:=h1.lookup_int Ho Tryz.underlying211 Tryz.underlying3 (afp _) (ahQ hx);rw[h2]at hat;have:f x=c:=(Lit.int.inj (DataW.lit.inj hat)).2;rw[this];exact hrun
theorem pX.len(h:pX w B ks f)(ty:TypeId):(Builtin.len_ #[211] ty #[.map (some B)]).run Tryz.prog w= .ok (.int .i64 (ks.length:Int)) w:=by obtain⟨D,h1,h2,h3,h4⟩:=h.own;rw[h1.len Tryz.underlying211 ty,h4]
theorem IQ{b:Nat}(h:w.mapTurned w' b):Only (fun k=>k=b) w w':=(Only.refl _ w).grown h.grown fun k hk=>.inl (Option.some.inj hk).symm
theorem pX.store(h:pX w B ks f){x v:Int}(hx:bg x)(hv:bg v)(hl:ks.length<maxLen):∃w',(Instr.mapUpdate 211 (.map (some B)) (cI x) (cI v)).run Tryz.prog w= .ok () w'/\pX w' B (CS ks x) (upd f x v)/\Only (fun k=>k=B) w w':=by
 obtain⟨D,h1,h2,h3,h4⟩:=h.own;have hkl:WideAt.IsKeyLit (kI x):=trivial;obtain⟨w',hrun,r1,r2⟩:=h1.store Ho Tryz.underlying211 hl (ahQ hx) (plainElem_int Tryz.underlying3 (wfI hv));have hsz:Maps.size (D.put (kI x) (.lit (kI v)))=(CS ks x).length:=by
  rw[Maps.size_put (h1.tidy Ho),h3,h4];unfold CS;by_cases hm:x∈ks;·simp[hm]
  simp[hm]
 refine⟨w',hrun,⟨⟨_,?_,fun y=>?_,fun y=>?_,hsz⟩,?_,fun y hy=>?_,fun y=>?_,fun y hy=>?_⟩,IQ r2⟩;·exact zCt
 ·unfold upd;by_cases e:y=x;·subst e;rw[if_pos rfl,Maps.atKey_put_same h1.isMap hkl]
  rw[if_neg e,Maps.atKey_put_other (YE e),h2]
 ·by_cases e:y=x;·subst e;rw[Maps.has_put_same h1.isMap hkl,qX (Bj.2 (.inr rfl))]
  rw[Maps.has_put_other (YE e),h3];exact decide_eq_decide.2 (by rw[Bj];simp[e])
 ·unfold CS;exact zDd
 ·rw[Bj,not_or]at hy;unfold upd;rw[if_neg hy.2];exact h.out y hy.1
 ·unfold upd;split;·exact hv
  exact h.val y
 rcases Bj.1 hy with h5|rfl;·exact h.rng y h5
 exact hx
theorem pX.drop(h:pX w B ks f){x:Int}(hx:bg x)(ty:TypeId):∃w',(Builtin.delete_ #[211,3] ty #[.map (some B),cI x]).run Tryz.prog w= .ok (.tuple #[]) w'/\pX w' B (ks.erase x) (upd f x 0)/\Only (fun k=>k=B) w w':=by
 obtain⟨D,h1,h2,h3,h4⟩:=h.own;obtain⟨w',hrun,r1,r2⟩:=h1.drop Ho Tryz.underlying211 (ahQ hx) ty;have hsz:Maps.size (D.del (kI x))=(ks.erase x).length:=by
  have h5:=Maps.size_del (k:=kI x) (h1.tidy Ho);rw[h3,h4]at h5;rw[List.length_erase];by_cases hm:x∈ks;·simp[hm]at h5⊢;omega
  simp[hm]at h5⊢;omega
 have hmem:∀y,y∈ks.erase x↔y≠x/\y∈ks:=fun y=>h.nd.mem_erase_iff;refine⟨w',hrun,⟨⟨_,?_,fun y=>?_,fun y=>?_,hsz⟩,h.nd.erase _,fun y hy=>?_,fun y=>?_,fun y hy=>?_⟩,IQ r2⟩;·exact zCt
 ·unfold upd;by_cases e:y=x;·subst e;rw[if_pos rfl,Maps.atKey_del_same]
  rw[if_neg e,Maps.atKey_del_other (YE e),h2]
 ·by_cases e:y=x;·subst e;rw[Maps.has_del_same,qP];rw[hmem];exact fun h=>h.1 rfl
  rw[Maps.has_del_other (YE e),h3];exact decide_eq_decide.2 (by rw[hmem];simp[e])
 ·unfold upd;split;·rfl
  rename_i e;refine h.out y fun hm=>hy ?_;rw[hmem];exact⟨e,hm⟩
 ·unfold upd;split;·exact inZ
  exact h.val y
 exact h.rng y ((hmem y).1 hy).2
theorem pX.keys(h:pX w B ks f):∃D:DataW Unit,w.ownsMap Tryz.prog 3 (plainElem Tryz.prog 3) B ks.length D/\ks.Perm (intKeys D)/\Maps.size D=ks.length:=by
 obtain⟨D,h1,h2,h3,h4⟩:=h.own;refine⟨D,h1,?_,h4⟩;obtain⟨es,hD,hpw,_⟩:=h1.entries Ho;obtain⟨es',hD',hko⟩:=h1.keysOf;obtain rfl:es=es':=by rw[hD]at hD';simpa using hD'
 subst hD;exact perm_intKeys hpw (fun p hp=>by obtain⟨v,hv⟩:=hko p hp;obtain⟨x,_,hx,_⟩:=Maps.keyOf_i64 Tryz.underlying3 hv;exact⟨x,hx⟩) h.nd (fun x=>by rw[h3 x];simp)
end
end Go.Proofs.YtdmmebjjojimiaaGreatDoor
namespace Go.Proofs
theorem zBo{p:Prop}(h:p:=by simp):p:=h
end Go.Proofs
namespace Go.Proofs.YtdmmebjjojimiaaGreatDoor
open Go.RowKit Go.Maps Go.Sort Go.Shelf
def DF(l:List Int):List Int:=l.mergeSort fun x y=>decide (x<=y)
theorem zQ(l:List Int):(DF l).Perm l:=List.mergeSort_perm l _
theorem zS(l:List Int):(DF l).Pairwise (· <= ·):=by have h:=List.pairwise_mergeSort (le:=fun x y:Int=>decide (x<=y)) (by intro a b c;simp;omega) (by intro a b;simp;omega) l;exact h.imp fun h=>by simpa using h
theorem NJ{l m:List Int}(h:l.Perm m):DF l=DF m:=
 List.Perm.eq_of_pairwise (le:=fun x y:Int=>x<=y) (fun a b _ _ h1 h2=>by omega) (zS l) (zS m) (((zQ l).trans h).trans (zQ m).symm)
theorem Tryz.sortsA(m:Nat):AnyZI.SortsIn Tryz.prog Tryz.sortedA_ren Fence.wide m:=⟨fun blk off cap ss W hH hblk hsz=>callsIn_wide.2 (AnyM.slices_Sort_int Tryz.sortA blk off cap ss W hH hblk hsz),fun p cap W=>callsIn_wide.2 (AnyM.slices_Sort_int_none Tryz.sortA p cap W)⟩
section
variable {w:World} {B:Nat} {ks:List Int} {f:Int->Int}
abbrev agO(w:World):Value:=.func (.func 218) #[] #[.pointer (some ⟨w.heap.size,0,none⟩)]
theorem acp(w:World)(B:Nat):Calls Tryz.prog 150 #[.map (some B)] w fun e w'=>e= .returned (agO w)/\w'=w.alloc (.cells #[.map (some B)] 211):=by refine(callsIn_wide (n:=5)).1 ?_;exact AnyZI.keys_in Tryz.keysA Fence.wide 5 trivial rfl (some B) w
theorem Xb(h:pX w B ks f)(hl:ks.length<=65536):Calls Tryz.prog 149 #[agO w] (w.alloc (.cells #[.map (some B)] 211)) fun e w'=> ∃v,e= .returned v/\w'.ownsRow 0 3 1 v (DF ks).length ((DF ks).map cI)/\(∀k,v.ownBlock=some k->w.heap.size<=k)/\O0 w w':=by
 obtain⟨D,hown,hp,hsz⟩:=h.keys;have hbl:=hown.lt;have hseq:SeqGives Fence.wide 2 Tryz.prog 218 #[.pointer (some ⟨w.heap.size,0,none⟩)] encZ (fun ss=>ss.Perm (intKeys D)) (Maps.size D) (w.alloc (.cells #[.map (some B)] 211)):=
  AnyZI.keys_gives (ρ:=Tryz.keysA_ren) {Tryz.keysA with} Fence.wide _ trivial rfl zAB w.heap.size B ks.length D _ (by simp) zBo (by
   obtain⟨es,clock,hb,Ft,hs,hD⟩:=hown
   exact⟨es,clock,(Below.heap_alloc _ _ B hbl).trans hb,Ft,hs,hD⟩)
 have cS:=AnyZI.sorted_in Tryz.sortedA Fence.wide 5 trivial trivial trivial trivial rfl zAB (Tryz.sortsA _) (enters_of Tryz.func217 zk rfl) 218 #[.pointer (some ⟨w.heap.size,0,none⟩)] trivial (enters_of Tryz.func218 zk rfl) _ _ (by rw[hsz];unfold maxLen;omega) (by rw[hsz];omega) _ hseq;refine((callsIn_wide (n:=5)).1 cS).mono ?_;rintro e w' ⟨v,ss,rfl,hS,hrow,-,hb⟩;have e1:ss.mergeSort (fun x y=>decide (x<=y))=DF ks:=NJ (hS.trans hp.symm);have e2:ss.length=(DF ks).length:=by rw[<-e1,List.length_mergeSort]
 rw[e1,e2]at hrow;refine⟨v,rfl,ownsRow_base_a hrow (qE _),fun k hk=>?_,?_⟩;·have:=(hrow.lt k hk).1;simp at this;omega
 exact(zr.alloc _).trans (G:=fun k=>w.heap.size+1<=k) (by have:=Only.of_below hb;simpa using this) fun k hk=>.inr zAB
end
end Go.Proofs.YtdmmebjjojimiaaGreatDoor
