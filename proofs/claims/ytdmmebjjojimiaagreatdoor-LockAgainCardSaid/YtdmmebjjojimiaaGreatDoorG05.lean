/- Rf5 Rf6 Rf7, in one text.; The document's checks: Recipe, Request. Printed by gen_rf8.py. -/
import Derived.Test.YtdmmebjjojimiaaGreatDoorG04
set_option maxRecDepth 100000
set_option maxHeartbeats 8000000
set_option linter.all false
namespace Go.Proofs
theorem zCi{p:Prop}(h:p:=by first|decide|assumption):p:=h
theorem zBg{p:Prop}(h:p:=by rw[hW1,<-jK.out];exact qL W0 _):p:=h
theorem zB1{p:Prop}(h:p:=by rw[hW1];exact zr.alloc _):p:=h
theorem zCx{p:Prop}(h:p:=by unfold iw;rw[TP.out];simp):p:=h
theorem zDA{p:Prop}(h:p:=by first|decide|assumption):p:=h
theorem zDH{p:Prop}(h:p:=by have:=HFl.out;omega):p:=h
theorem zDu{p:Prop}(h:p:=by
 refine dS (p:=4) rfl rfl rfl rfl (setRow_heap _ _ _ _ _ _ (oG.out w7 Gy.out)) ?_
 exact⟨rfl,(aV.out.same (aI.out.same Gy.out)).trans (aK _ _ _) (fun k hk=>.inr zAA)⟩):p:=h
theorem zD9{p:Prop}(h:p:=by exact⟨by rw[aj b1];rfl,by rw[aj b1];rfl,by rw[aj b1];rfl,by rw[aj b1];rfl,by rw[aj b1];rfl,by rw[aj b1];rfl,by rw[aj b1];rfl⟩):p:=h
theorem zEG{p:Prop}(h:p:=by exact aA b0 ho (fun f=>f)):p:=h
theorem zEN{p:Prop}(h:p:=by
 have hcode:jT x p yy=0:=by
  unfold jT
  rw[HC.out,TP.out]
  simp
 have HZ2:Hid (∀d∈p.deps.take (i+1),jT x p d=0):=fun v hv=>by
  rcases bH xR.out hv with h|rfl
  ·exact HZ.out v h
  ·exact hcode
 go_wp2_with fail
 go_roundw
 case rel=>exact⟨rF,i+1,by first|rfl|go_num,by omega,HZ2⟩
 case measure=>simp[RowKit.intOf]<;>omega):p:=h
theorem zEZ{p:Prop}(h:p:=by
 have HZ3:Hid (∀d∈p.cons.take (j+1),iw x p d=0):=fun v hv=>by
  rcases bH vS.out hv with h|rfl
  ·exact VB.out v h
  ·exact hcode
 go_wp2_with fail
 go_roundw
 case rel=>exact⟨xI,j+1,by first|rfl|go_num,by omega,HZ3⟩
 case measure=>simp[RowKit.intOf]<;>omega):p:=h
theorem zEa{p:Prop}(h:p:=by
 have HZ3:Hid (∀d∈p.cons.take (j+1),iw x p d=0):=fun v hv=>by
  rcases bH vS.out hv with h|rfl
  ·exact VB.out v h
  ·exact hcode
 go_wp2_with fail
 go_roundw
 case rel=>exact⟨Gy,j+1,by first|rfl|go_num,by omega,HZ3⟩
 case measure=>simp[RowKit.intOf]<;>omega):p:=h
theorem zE7{p:Prop}(h:p:=by
 have hr2:r=(8,yz.line):=by
  rw[<-aZ.out]
  exact qg HZa.out VB.out vS.out zCx zCi
 subst hr2
 go_wp2_with (refine wpList_store_row rfl 43 (.tmp 4) (.tmp 79) rfl (w.heap.size+2) #[.int .u8 8,.int .i64 yz.line] rfl rfl 43 #[.int .u8 0,.int .i64 0] (oG.out w7 Gy.out) zk rfl zk ?_)
 exact zDu):p:=h
theorem zFb{p:Prop}(h:p:=by
 refine dS (p:=4) rfl rfl rfl rfl (setRow_heap _ _ _ _ _ _ (oG.out w5 xI.out)) ?_
 exact⟨rfl,(aV.out.same (aI.out.same xI.out)).trans (aK _ _ _) (fun k hk=>.inr zAA)⟩):p:=h
theorem zFc{p:Prop}(h:p:=by
 refine dS (p:=4) rfl rfl rfl rfl (setRow_heap _ _ _ _ _ _ (oG.out w4 rF.out)) ?_
 exact⟨rfl,(aV.out.same (aI.out.same rF.out)).trans (aK _ _ _) (fun k hk=>.inr zAA)⟩):p:=h
theorem zFd{p:Prop}(h:p:=by
 refine dS (p:=4) rfl rfl rfl rfl (setRow_heap _ _ _ _ _ _ (oG.out w3 kV.out)) ?_
 exact⟨rfl,(aV.out.same (aI.out.same kV.out)).trans (aK _ _ _) (fun k hk=>.inr zAA)⟩):p:=h
theorem zFe{p:Prop}(h:p:=by
 refine dS (p:=4) rfl rfl rfl rfl (setRow_heap _ _ _ _ _ _ (oG.out gV CY.out)) ?_
 exact⟨rfl,(aV.out.same (aI.out.same CY.out)).trans (aK _ _ _) (fun k hk=>.inr zAA)⟩):p:=h
theorem zGm{p:Prop}(h:p:=by
 have b0:W1.heap[w.heap.size+2]? =some (.cells #[.int .u8 0,.int .i64 0] 43):=zBg
 exact zEG):p:=h
theorem zG0{p:Prop}(h:p:=by
 rw[<-aZ.out]
 refine Nz HZa.out fun d hd=>VB.out d ?_
 rw[qI (yG su.out)]
 exact hd):p:=h
theorem zG9{p:Prop}(h:p:=by
 rw[<-aZ.out]
 exact CX HZ.out xR.out (by unfold jT;rw[HC.out,TP.out];simp) zCi):p:=h
theorem zHG{p:Prop}(h:p:=by
 rw[<-aZ.out]
 exact CX HZ.out xR.out (by unfold jT;rw[HC.out];simp[c0]) zCi):p:=h
end Go.Proofs
namespace Go.Proofs.YtdmmebjjojimiaaGreatDoor
open Go.RowKit
section
variable {w w':World} {B:Nat}
def sZ(l:List wu)(j:Nat):List Str:=(l.take j).map wu.version
theorem KX{l:List wu}{j:Nat}{r:wu}(h:l[j]? =some r):sZ l (j+1)=sZ l j++[r.version]:=by unfold sZ;rw[List.take_add_one,h];simp
theorem Yp{l:List wu}{j:Nat}(h:j<=l.length):(sZ l j).length=j:=by unfold sZ;simp;omega
end
section
variable {w w':World} {B:Nat}
def jT(x:aQ)(p:iI)(d:Aj):Int:=if x.wish d.on=0/\gU p d.cond.sets=false then 8 else x.wish d.on
def iw(x:aQ)(p:iI)(d:Iq):Int:=if gU p d.cond.sets=false then 8 else if d.with'.name.toList.isEmpty=true then 0 else if x.find d.with'.name<0 then 7 else x.wish d.with'
def jE(x:aQ)(p:iI):Int×Int:=
 match p.deps.find? fun d=>decide (jT x p d≠0)with
 |some d=>(jT x p d,d.line)
 |none=>match p.cons.find? fun d=>decide (iw x p d≠0)with
  |some d=>(iw x p d,d.line)
  |none=>(0,0)
theorem Nw{α:Type}{f:α->Int}{l:List α}{i:Nat}{d:α}(h:∀d∈l.take i,f d=0)(hd:l[i]? =some d)(hn:f d≠0):(l.find? fun d=>decide (f d≠0))=some d:=by
 obtain⟨hlt,rfl⟩:=qJ.1 hd;have e:∀g:α->Bool,l.find? g=(l.take i++l[i]::l.drop (i+1)).find? g:=fun g=>by rw[<-List.drop_eq_getElem_cons hlt,List.take_append_drop]
 rw[e,List.find?_append,List.find?_eq_none.2 (fun d hd=>by simp[h d hd]),Option.none_or,List.find?_cons_of_pos (by simpa using hn)]
theorem Ny{α:Type}{f:α->Int}{l:List α}(h:∀d∈l,f d=0):(l.find? fun d=>decide (f d≠0))=none:=
 List.find?_eq_none.2 fun d hd=>by simp[h d hd]
theorem CX{x:aQ}{p:iI}{i:Nat}{d:Aj}{c:Int}(h:∀d∈p.deps.take i,jT x p d=0)(hd:p.deps[i]? =some d)(hc:jT x p d=c)(hn:c≠0):jE x p=(c,d.line):=by subst hc;unfold jE;rw[Nw h hd hn]
theorem qg{x:aQ}{p:iI}{i:Nat}{d:Iq}{c:Int}(h0:∀d∈p.deps,jT x p d=0)(h:∀d∈p.cons.take i,iw x p d=0)(hd:p.cons[i]? =some d)(hc:iw x p d=c)(hn:c≠0):jE x p=(c,d.line):=by subst hc;unfold jE;rw[Ny h0,Nw h hd hn]
theorem Nz{x:aQ}{p:iI}(h0:∀d∈p.deps,jT x p d=0)(h:∀d∈p.cons,iw x p d=0):jE x p=(0,0):=by unfold jE;rw[Ny h0,Ny h]
theorem aK(w:World)(g:Nat)(cs:Array Value):Only (fun k=>k=g) w (w.setRow g cs):=
 ⟨rfl,rfl,rfl,by simp[World.setRow],fun k hk hn=>by
  unfold World.setRow
  simp only[Array.getElem?_modify]
  rw[if_neg (fun e=>hn e.symm)]⟩
theorem Iz{fn:Func}{p:Tmp}{ty:TypeId}(h:fn.results= #[.cell p ty])(tmps:Array Value)(P:Program)(w:World):(results fn tmps).run P w=((asAddr (tmps.getD p undef)).run P w).andThen fun a w₁=>(loadVar ty a).run P w₁:=by simp only[results,h];simp[Sem.run_bind,Result.andThen]
theorem dS{fn:Func}{p:Tmp}{Q:Ending->World->Prop}{a:Act}{W:World}{B:Nat}{cs:Array Value}(hf:fn.results= #[.cell p 43])(hp:a.tmps.getD p undef= .pointer (some ⟨B,0,none⟩))(hd:a.defers=[])(hs:cs.size=2)(hg:W.heap[B]? =some (.cells cs 43 (0,0)))(h:Q (.returned (.agg cs)) W):bodyPost Tryz.prog fn Q Exit.ret a W:=by refine bodyPost_ret (v:=.agg cs) ?_ hd h;rw[Iz hf,hp];simp only[asAddr,Sem.run_pure,Result.andThen_ok];exact run_loadVar_row W B 43 43 cs (0,0) _ hg Tryz.underlying43 rfl (by rw[hs];kernel_rfl)
theorem Yq{lC:List Value}{x:aQ}(hx:fO B w lC x){LY:List Value}{p:iI}(hp:gY B w LY p)(hlen:x.packs.length<=1000000):Calls Tryz.prog 54 #[.agg lC.toArray,.agg LY.toArray] w fun e w'=>e= .returned (.agg #[.int .u8 (jE x p).1,.int .i64 (jE x p).2])/\O0 w w':=by
 obtain⟨aP,ak,aJ,aO,aG,aH,rfl,fF,fG,dP,dQ,aB,bJ,mY⟩:=open_rec hx;clear hx;try rw[aB.out]
 obtain⟨mZ,jL,ng,lN,jA,lQ,gZ,ig,iq,pV,iF,ni,pW,iG,ny,kP,kQ,kR,rfl,zq,zu,zx,zy,lS,lT,BD,BF,BG,BH,uf,ug,pX,uQ,lU,rZ,su,uh,Z5⟩:=iO hp;clear hp;obtain⟨W0,hW0,aV,jK,aF⟩:=ada w (.slice aP ak aJ) (.slice aO aG aH) (.string p.name) (.int .i64 p.line) (.slice mZ jL ng) (.slice lN jA lQ) (.slice gZ ig iq) (.slice pV iF ni) (.slice pW iG ny) (.slice kP kQ kR) 25 101;obtain⟨eX,bK,bT⟩:=mY W0 aV.out;clear mY;obtain⟨VO,uj,qy,kJ,um,uo,pY⟩:=Z5 W0 aV.out;clear Z5;clear dP dQ bJ bT;clear zq zu pX uj zx zy uQ qy lS lT lU kJ uf ug uh pY;rw[aB.out]at hlen;obtain⟨r,hr⟩:=ze (jE x p);rw[hr];have aZ:=zh hr;clear hr;obtain⟨W1,hW1⟩:=zB (W0.alloc (.cells #[.int .u8 0,.int .i64 0] 43));have aI:Hid (O0 W0 W1):=zB1;have oG:Hid (∀W,O0 W1 W->W.heap[w.heap.size+2]? =some (.cells #[.int .u8 0,.int .i64 0] 43)):=fun W ho=>by exact zGm
 go_enter Tryz.func54,Tryz.ntmps54;go_wp2_with fail;rw[<-hW0,<-hW1];clear hW0 hW1;have fQ:Hid (O0 W1 W1):=Only.refl _ _;go_loopw [14] (fun vi bD=>Hid (O0 W1 bD)/\∃i:Nat,vi= .int .i64 i/\i<=iF/\Hid (∀d∈p.deps.take i,jT x p d=0)) (fun v _=>iF-(RowKit.intOf v).toNat);case atStart=>exact⟨fQ,0,rfl,qE _,show Hid _ from fun v hv=>by simp at hv⟩
 case round=>
  obtain⟨bD,rfl⟩:=zB wr;clear fQ;obtain⟨jD,i,rfl,hi,HZ⟩:=hrel;obtain⟨k0,k1,k2,k3,k4,k5,k6,k7,k8,k9⟩:=aF.out bD (aI.out.same jD.out);by_cases ci:i<iF
  ·clear k0 k1 k2 k3 k4 k5 k6 k7 k8 k9;have iE:=zw (i+1);obtain⟨yy,hxy⟩:=zG p.deps i (by rw[rZ.out];omega);obtain⟨AY,mF,og,jo,oh,sO,sQ,sS,xE,uT,xG,yc,uG,yg,oq,kF,nP,rQ,qB,yh,anq,Ef,je⟩:=Aq (um.out W0 zr) hxy;first|subst oq| (simp only[qG,qO,and_true]at oq;obtain⟨rfl,rfl⟩:=oq)
   have jq:=zh je;have xR:=zh hxy;clear je hxy kF nP rQ qB;have xH:Hid (∀W,O0 W0 W->aS 2 fE B W (.slice og jo oh) yy.on.spans):=fun W ho=>(jq.out W ho).2.1;have IB:Hid (∀W,O0 W0 W->aS 2 dO B W (.slice sO sQ sS) yy.on.sets):=fun W ho=>(jq.out W ho).2.2.1;have Qs:Hid (∀W,O0 W0 W->aS 2 dO B W (.slice yc uG yg) yy.cond.sets):=fun W ho=>(jq.out W ho).2.2.2.2.1;have HWs:Hid (∀W,O0 W0 W->Calls Tryz.prog 56 #[.agg #[.slice aP ak aJ,.slice aO aG aH],.agg #[.string yy.on.name,.slice og jo oh,.slice sO sQ sS]] W fun e w'=>e= .returned (.int .u8 (x.wish yy.on))/\O0 W w'):=fun W hW=>Ns (eX.out W hW) (⟨_,_,rfl,yh,xH.out W hW,IB.out W hW⟩:dJ B W [.string yy.on.name,.slice og jo oh,.slice sO sQ sS] yy.on) zAg;have Ij:Hid (∀W,O0 W0 W->Calls Tryz.prog 127 #[.agg #[.string p.name,.int .i64 p.line,.slice mZ jL ng,.slice lN jA lQ,.slice gZ ig iq,.slice (some ⟨AY,mF,none⟩) iF ni,.slice pW iG ny,.slice kP kQ kR],.slice yc uG yg] W fun e w'=>e= .returned (.bool (gU p yy.cond.sets))/\O0 W w'):=fun W hW=>CU (VO.out W hW) (Qs.out W hW);have fJ:=zh (jq.out bD (aI.out.same jD.out)).1;obtain⟨W2,hW2⟩:=zB (bD.alloc (.cells #[.string yy.on.name,.slice og jo oh,.slice sO sQ sS,.string yy.cond.name,.slice xE uT xG,.slice yc uG yg,.int .i64 yy.line] 132));have HP2:Hid (O0 W1 W2):=by rw[hW2];exact(jD.out).alloc _
   have y5:Hid (∀W,O0 W2 W->W.cell? ⟨bD.heap.size,0,none⟩=some (.string yy.on.name)/\W.cell? ⟨bD.heap.size,1,none⟩=some (.slice og jo oh)/\W.cell? ⟨bD.heap.size,2,none⟩=some (.slice sO sQ sS)/\W.cell? ⟨bD.heap.size,3,none⟩=some (.string yy.cond.name)/\W.cell? ⟨bD.heap.size,4,none⟩=some (.slice xE uT xG)/\W.cell? ⟨bD.heap.size,5,none⟩=some (.slice yc uG yg)/\W.cell? ⟨bD.heap.size,6,none⟩=some (.int .i64 yy.line)):=fun W ho=>by
    have b0:W2.heap[bD.heap.size]? =some (.cells #[.string yy.on.name,.slice og jo oh,.slice sO sQ sS,.string yy.cond.name,.slice xE uT xG,.slice yc uG yg,.int .i64 yy.line] 132):=by rw[hW2];exact qL bD _
    have b1:=aA b0 ho (fun f=>f);exact zD9
   obtain⟨m0,m1,m2,m3,m4,m5,m6,m7,m8,m9⟩:=aF.out W2 (aI.out.same HP2.out);rw[hW2]at m0 m1 m2 m3 m4 m5 m6 m7 m8 m9;obtain⟨k0,k1,k2,k3,k4,k5,k6,k7,k8,k9⟩:=aF.out bD (aI.out.same jD.out);obtain⟨d0,d1,d2,d3,d4,d5,d6⟩:=y5.out W2 zr;rw[hW2]at d0 d1 d2 d3 d4 d5 d6;go_wp2_with (refine wpList_load_mid rfl 132 (.tmp 20) rfl AY (mF+i*7) rfl _ _ fJ.out Tryz.underlying132 rfl zk ?_);rw[<-hW2];clear m0 m1 m2 m3 m4 m5 m6 m7 m8 m9 d0 d1 d2 d3 d4 d5 d6 hW2 fJ;refine(HWs.out W2 (aI.out.same HP2.out)).mono ?_;rintro e w3 ⟨rfl,O1⟩;have kV:=zh (HP2.out.same O1);have yj:Hid (O0 W2 w3):=O1;clear O1 k0 k1 k2 k3 k4 k5 k6 k7 k8 k9;obtain⟨k0,k1,k2,k3,k4,k5,k6,k7,k8,k9⟩:=aF.out w3 (aI.out.same kV.out);obtain⟨d0,d1,d2,d3,d4,d5,d6⟩:=y5.out w3 (yj.out);obtain⟨c,hc⟩:=ze (x.wish yy.on);obtain⟨sb,hsb⟩:=ze (gU p yy.cond.sets);simp only[hsb]at Ij;rw[hc];have HC:=zh hc;have TP:=zh hsb;clear hc hsb;by_cases c0:c=0
   ·subst c0;go_wp2_with fail;refine(Ij.out w3 (aI.out.same kV.out)).mono ?_;rintro e w4 ⟨rfl,O1⟩;have rF:=zh (kV.out.same O1);have HQ4:Hid (O0 W2 w4):=yj.out.same O1;clear O1 k0 k1 k2 k3 k4 k5 k6 k7 k8 k9 d0 d1 d2 d3 d4 d5 d6;obtain⟨k0,k1,k2,k3,k4,k5,k6,k7,k8,k9⟩:=aF.out w4 (aI.out.same rF.out);obtain⟨d0,d1,d2,d3,d4,d5,d6⟩:=y5.out w4 (HQ4.out);cases sb with
    |true=>exact zEN
    |false=>
     have hr2:r=(8,yy.line):=by exact zG9
     subst hr2;go_wp2_with (refine wpList_store_row rfl 43 (.tmp 4) (.tmp 41) rfl (w.heap.size+2) #[.int .u8 8,.int .i64 yy.line] rfl rfl 43 #[.int .u8 0,.int .i64 0] (oG.out w4 rF.out) zk rfl zk ?_);exact zFc
   have c1:((c:Int)==0)=false:=by rw[yC];exact c0
   have hr2:r=(c,yy.line):=by exact zHG
   subst hr2;go_wp2_with (refine wpList_store_row rfl 43 (.tmp 4) (.tmp 41) rfl (w.heap.size+2) #[.int .u8 c,.int .i64 yy.line] rfl rfl 43 #[.int .u8 0,.int .i64 0] (oG.out w3 kV.out) zk rfl zk ?_);exact zFd
  obtain rfl:iF=i:=by omega
  have HZa:Hid (∀d∈p.deps,jT x p d=0):=fun d hd=>HZ.out d (by
   rw[qI (yG rZ.out)]
   exact hd)
  have fQ:=jD;go_wp2_with fail;go_loopw [46] (fun vj gV=>Hid (O0 W1 gV)/\∃j:Nat,vj= .int .i64 j/\j<=iG/\Hid (∀d∈p.cons.take j,iw x p d=0)) (fun v _=>iG-(RowKit.intOf v).toNat);case atStart=>exact⟨fQ,0,rfl,qE _,show Hid _ from fun v hv=>by simp at hv⟩
  case round=>
   obtain⟨gV,rfl⟩:=zB wr;clear fQ;obtain⟨CY,j,rfl,hj,VB⟩:=hrel;clear k0 k1 k2 k3 k4 k5 k6 k7 k8 k9;obtain⟨k0,k1,k2,k3,k4,k5,k6,k7,k8,k9⟩:=aF.out gV (aI.out.same CY.out);by_cases cj:j<iG
   ·clear k0 k1 k2 k3 k4 k5 k6 k7 k8 k9;have iE:=zw (j+1);obtain⟨yz,hxz⟩:=zG p.cons j (by rw[su.out];omega);obtain⟨JD,vP,vW,vX,vY,wS,wU,wV,sU,sV,sW,sD,ru,sF,qc,wC,EP,ER,Eh,AX,He,NC,jM⟩:=TN (uo.out W0 zr) hxz;first|subst qc| (simp only[qG,qO,and_true]at qc;obtain⟨rfl,rfl⟩:=qc)
    have jd:=zh jM;have vS:=zh hxz;clear jM hxz wC EP ER Eh;have TQ:Hid (∀W,O0 W0 W->aS 2 dO B W (.slice wS wU wV) yz.cond.sets):=fun W ho=>(jd.out W ho).2.2.1;have JQ:Hid (∀W,O0 W0 W->aS 2 fE B W (.slice sU sV sW) yz.with'.spans):=fun W ho=>(jd.out W ho).2.2.2.1;have Gx:Hid (∀W,O0 W0 W->aS 2 dO B W (.slice sD ru sF) yz.with'.sets):=fun W ho=>(jd.out W ho).2.2.2.2.1;have HWs:Hid (∀W,O0 W0 W->Calls Tryz.prog 56 #[.agg #[.slice aP ak aJ,.slice aO aG aH],.agg #[.string yz.with'.name,.slice sU sV sW,.slice sD ru sF]] W fun e w'=>e= .returned (.int .u8 (x.wish yz.with'))/\O0 W w'):=fun W hW=>Ns (eX.out W hW) (⟨_,_,rfl,He,JQ.out W hW,Gx.out W hW⟩:dJ B W [.string yz.with'.name,.slice sU sV sW,.slice sD ru sF] yz.with') zAg;have HF:Hid (∀W,O0 W0 W->Calls Tryz.prog 38 #[.agg #[.slice aP ak aJ,.slice aO aG aH],.string yz.with'.name] W fun e w'=>e= .returned (.int .i64 (x.find yz.with'.name))/\O0 W w'):=fun W hW=>lI (eX.out W hW) _;have Ij:Hid (∀W,O0 W0 W->Calls Tryz.prog 127 #[.agg #[.string p.name,.int .i64 p.line,.slice mZ jL ng,.slice lN jA lQ,.slice gZ ig iq,.slice pV iF ni,.slice (some ⟨JD,vP,none⟩) iG ny,.slice kP kQ kR],.slice wS wU wV] W fun e w'=>e= .returned (.bool (gU p yz.cond.sets))/\O0 W w'):=fun W hW=>CU (VO.out W hW) (TQ.out W hW);have hrz:=zh (jd.out gV (aI.out.same CY.out)).1;obtain⟨W4,MR⟩:=zB (gV.alloc (.cells #[.string yz.cond.name,.slice vW vX vY,.slice wS wU wV,.string yz.with'.name,.slice sU sV sW,.slice sD ru sF,.int .i64 yz.line] 160));have rF:Hid (O0 W1 W4):=by rw[MR];exact(CY.out).alloc _
    have y5:Hid (∀W,O0 W4 W->W.cell? ⟨gV.heap.size,0,none⟩=some (.string yz.cond.name)/\W.cell? ⟨gV.heap.size,1,none⟩=some (.slice vW vX vY)/\W.cell? ⟨gV.heap.size,2,none⟩=some (.slice wS wU wV)/\W.cell? ⟨gV.heap.size,3,none⟩=some (.string yz.with'.name)/\W.cell? ⟨gV.heap.size,4,none⟩=some (.slice sU sV sW)/\W.cell? ⟨gV.heap.size,5,none⟩=some (.slice sD ru sF)/\W.cell? ⟨gV.heap.size,6,none⟩=some (.int .i64 yz.line)):=fun W ho=>by
     have b0:W4.heap[gV.heap.size]? =some (.cells #[.string yz.cond.name,.slice vW vX vY,.slice wS wU wV,.string yz.with'.name,.slice sU sV sW,.slice sD ru sF,.int .i64 yz.line] 160):=by rw[MR];exact qL gV _
     have b1:=aA b0 ho (fun f=>f);exact zD9
    obtain⟨m0,m1,m2,m3,m4,m5,m6,m7,m8,m9⟩:=aF.out W4 (aI.out.same rF.out);rw[MR]at m0 m1 m2 m3 m4 m5 m6 m7 m8 m9;obtain⟨k0,k1,k2,k3,k4,k5,k6,k7,k8,k9⟩:=aF.out gV (aI.out.same CY.out);obtain⟨d0,d1,d2,d3,d4,d5,d6⟩:=y5.out W4 zr;rw[MR]at d0 d1 d2 d3 d4 d5 d6;obtain⟨e0,he0⟩:=ze yz.with'.name.toList.isEmpty;obtain⟨sb,hsb⟩:=ze (gU p yz.cond.sets);simp only[hsb]at Ij;have TP:=zh hsb;have HE0:=zh he0;clear hsb;cases e0 with
    |true=>
     go_wp2_with (refine wpList_load_mid rfl 160 (.tmp 52) rfl JD (vP+j*7) rfl _ _ hrz.out Tryz.underlying160 rfl zk ?_);rw[<-MR];clear m0 m1 m2 m3 m4 m5 m6 m7 m8 m9 MR hrz;clear k0 k1 k2 k3 k4 k5 k6 k7 k8 k9;obtain⟨k0,k1,k2,k3,k4,k5,k6,k7,k8,k9⟩:=aF.out W4 (aI.out.same rF.out);go_wp2_with fail;refine(Ij.out W4 (aI.out.same rF.out)).mono ?_;rintro e w5 ⟨rfl,O1⟩;have xI:=zh (rF.out.same O1);have HQ5:Hid (O0 W4 w5):=O1;clear O1 k0 k1 k2 k3 k4 k5 k6 k7 k8 k9 d0 d1 d2 d3 d4 d5 d6;obtain⟨k0,k1,k2,k3,k4,k5,k6,k7,k8,k9⟩:=aF.out w5 (aI.out.same xI.out);obtain⟨d0,d1,d2,d3,d4,d5,d6⟩:=y5.out w5 (HQ5.out);cases sb with
     |false=>
      have hr2:r=(8,yz.line):=by rw[<-aZ.out];exact qg HZa.out VB.out vS.out zCx zCi
      subst hr2;go_wp2_with (refine wpList_store_row rfl 43 (.tmp 4) (.tmp 79) rfl (w.heap.size+2) #[.int .u8 8,.int .i64 yz.line] rfl rfl 43 #[.int .u8 0,.int .i64 0] (oG.out w5 xI.out) zk rfl zk ?_);exact zFb
     |true=>
      have hcode:iw x p yz=0:=by unfold iw;rw[TP.out,HE0.out];simp
      exact zEZ
    |false=>
     go_wp2_with (refine wpList_load_mid rfl 160 (.tmp 52) rfl JD (vP+j*7) rfl _ _ hrz.out Tryz.underlying160 rfl zk ?_);rw[<-MR];clear m0 m1 m2 m3 m4 m5 m6 m7 m8 m9 MR hrz;clear k0 k1 k2 k3 k4 k5 k6 k7 k8 k9;obtain⟨k0,k1,k2,k3,k4,k5,k6,k7,k8,k9⟩:=aF.out W4 (aI.out.same rF.out);go_wp2_with fail;refine(HWs.out W4 (aI.out.same rF.out)).mono ?_;rintro e w5 ⟨rfl,O1⟩;have xI:=zh (rF.out.same O1);have HQ5:Hid (O0 W4 w5):=O1;clear O1 k0 k1 k2 k3 k4 k5 k6 k7 k8 k9 d0 d1 d2 d3 d4 d5 d6;obtain⟨k0,k1,k2,k3,k4,k5,k6,k7,k8,k9⟩:=aF.out w5 (aI.out.same xI.out);obtain⟨d0,d1,d2,d3,d4,d5,d6⟩:=y5.out w5 (HQ5.out);obtain⟨c,hc⟩:=ze (x.wish yz.with');rw[hc];have HC:=zh hc;clear hc;go_wp2_with fail;refine(HF.out w5 (aI.out.same xI.out)).mono ?_;rintro e w6 ⟨rfl,O1⟩;have JE:=zh (xI.out.same O1);have HQ6:Hid (O0 W4 w6):=HQ5.out.same O1;clear O1 k0 k1 k2 k3 k4 k5 k6 k7 k8 k9 d0 d1 d2 d3 d4 d5 d6;obtain⟨k0,k1,k2,k3,k4,k5,k6,k7,k8,k9⟩:=aF.out w6 (aI.out.same JE.out);obtain⟨d0,d1,d2,d3,d4,d5,d6⟩:=y5.out w6 (HQ6.out);obtain⟨f,hf⟩:=ze (x.find yz.with'.name);rw[hf];by_cases fl:f<0
     ·have HFl:Hid (x.find yz.with'.name<0):=by rw[hf];exact fl
      clear hf;go_wp2_with fail;refine(Ij.out w6 (aI.out.same JE.out)).mono ?_;rintro e w7 ⟨rfl,O1⟩;have Gy:=zh (JE.out.same O1);have HQ7:Hid (O0 W4 w7):=HQ6.out.same O1;clear O1 k0 k1 k2 k3 k4 k5 k6 k7 k8 k9 d0 d1 d2 d3 d4 d5 d6;obtain⟨k0,k1,k2,k3,k4,k5,k6,k7,k8,k9⟩:=aF.out w7 (aI.out.same Gy.out);obtain⟨d0,d1,d2,d3,d4,d5,d6⟩:=y5.out w7 (HQ7.out);cases sb with
      |false=>exact zE7
      |true=>
       have hr2:r=(7,yz.line):=by rw[<-aZ.out];exact qg HZa.out VB.out vS.out (by unfold iw;rw[TP.out,HE0.out,if_neg (by simp),if_neg zAP,if_pos HFl.out]) zDA
       subst hr2;go_wp2_with (refine wpList_store_row rfl 43 (.tmp 4) (.tmp 79) rfl (w.heap.size+2) #[.int .u8 7,.int .i64 yz.line] rfl rfl 43 #[.int .u8 0,.int .i64 0] (oG.out w7 Gy.out) zk rfl zk ?_);exact zDu
     have HFl:Hid (0<=x.find yz.with'.name):=by rw[hf,Hid];omega
     clear hf;go_wp2_with fail;refine(Ij.out w6 (aI.out.same JE.out)).mono ?_;rintro e w7 ⟨rfl,O1⟩;have Gy:=zh (JE.out.same O1);have HQ7:Hid (O0 W4 w7):=HQ6.out.same O1;clear O1 k0 k1 k2 k3 k4 k5 k6 k7 k8 k9 d0 d1 d2 d3 d4 d5 d6;obtain⟨k0,k1,k2,k3,k4,k5,k6,k7,k8,k9⟩:=aF.out w7 (aI.out.same Gy.out);obtain⟨d0,d1,d2,d3,d4,d5,d6⟩:=y5.out w7 (HQ7.out);cases sb with
     |false=>exact zE7
     |true=>
      by_cases c0:c=0
      ·subst c0;have hcode:iw x p yz=0:=by unfold iw;rw[TP.out,HE0.out,if_neg (by simp),if_neg zAP,if_neg zDH,HC.out]
       exact zEa
      have c1:((c:Int)==0)=false:=by rw[yC];exact c0
      have hr2:r=(c,yz.line):=by rw[<-aZ.out];exact qg HZa.out VB.out vS.out (by unfold iw;rw[TP.out,HE0.out,if_neg (by simp),if_neg zAP,if_neg zDH,HC.out]) zDA
      subst hr2;go_wp2_with (refine wpList_store_row rfl 43 (.tmp 4) (.tmp 79) rfl (w.heap.size+2) #[.int .u8 c,.int .i64 yz.line] rfl rfl 43 #[.int .u8 0,.int .i64 0] (oG.out w7 Gy.out) zk rfl zk ?_);exact zDu
   obtain rfl:iG=j:=by omega
   have hr2:r=(0,0):=by exact zG0
   subst hr2;go_wp2_with (refine wpList_store_row rfl 43 (.tmp 4) (.tmp 81) rfl (w.heap.size+2) #[.int .u8 0,.int .i64 0] rfl rfl 43 #[.int .u8 0,.int .i64 0] (oG.out gV CY.out) zk rfl zk ?_);exact zFe
end
section
variable {w w':World} {B:Nat}
attribute [local irreducible] wpQuiet
theorem mG{P:Program}{o:Oper}{a:Act}{w:World}{K:Act->World->Prop}{Q:Exit->Act->World->Prop}(ty:TypeId)(x y:Operand)(ho:o.op= .store ty x y)
  (g:Nat) (cells:Array Value) (hx:a.eval x= .pointer (some ⟨g,0,none⟩)) (hy:a.eval y= .agg cells)
  (t:TypeId) (old:Array Value) (hg:w.heap[g]? =some (.cells old t (0,0))) (hi:(P.info? ty).map (·.size)=some cells.size)
  (hold:old.size=cells.size) (h1:cells.all (·.oneCell')=true)
  (h:∀W3:World,W3.heap[g]? =some (.cells cells t (0,0))->Only (fun k=>k=g) w W3->K (a.put o.dst undef) W3):o.wp P a w K Q:=
 wp_store_row ty x y ho g cells hx hy t old hg hi hold h1 (h _ (setRow_heap _ _ _ _ _ _ hg) (aK _ _ _))
end
end Go.Proofs.YtdmmebjjojimiaaGreatDoor
namespace Go.Proofs
theorem zAu{p:Prop}(h:p:=by unfold maxLen;omega):p:=h
theorem zG1{p:Prop}(h:p:=by
 obtain⟨g,cap,rfl,_,_⟩:=gQ h2 zAA
 simpa[Value.blk,Value.ownBlock]using hk):p:=h
end Go.Proofs
namespace Go.Proofs.YtdmmebjjojimiaaGreatDoor
open Go.RowKit
theorem aa0{w:World}{base:Nat}{e:TypeId}{size:Nat}{v:Value}{n:Nat}{xs:List Value}(h:w.ownsRow base e size v n xs):w.ownsRow 0 e size v n xs:=⟨h.1,h.2.imp id fun⟨g,cap,cur,a,_,c⟩=>⟨g,cap,cur,a,qE _,c⟩⟩
def nC(w:World)(e:TypeId)(v:Value)(us:List Value):Prop:=
 (v=Qn/\us=[])\/ ∃g o cap cur,v= .slice (some ⟨g,o,none⟩) us.length cap/\w.heap[g]? =some (.cells cur e (0,0))/\us.length<=cap/\cap<=maxLen/\(∀j,j<cap->o+j<cur.size)/\∀j u,us[j]? =some u->cur[o+j]? =some u
theorem nC.nilRow(w:World)(e:TypeId):nC w e Qn []:=.inl ⟨rfl,rfl⟩
theorem nC.xC{w:World}{e:TypeId}{v:Value}{us:List Value}(h:w.ownsRow 0 e 1 v us.length us):nC w e v us:=by
 rcases h.2 with⟨rfl,h2⟩| ⟨g,cap,cur,rfl,_,hg,h1,h2,h3,h4⟩;·exact .inl ⟨rfl,yF h2⟩
 refine .inr ⟨g,0,cap,cur,rfl,hg,h1,h2,fun j hj=>by omega,fun j u hu=>?_⟩;have hj:=(qJ.1 hu).1;rw[<-h4,yH,List.getElem?_take,if_pos hj]at hu;rw[Nat.zero_add,<-hu,Array.getElem?_toList]
theorem nC.only{w w':World}{e:TypeId}{v:Value}{us:List Value}{F:Nat->Prop}(h:nC w e v us)(ho:Only F w w')(hF:∀k,Value.blk v=some k->¬F k):nC w' e v us:=by
 rcases h with h| ⟨g,o,cap,cur,rfl,hg,r⟩;·exact .inl h
 exact .inr ⟨g,o,cap,cur,rfl,aA hg ho (hF g rfl),r⟩
theorem nC.lt{w:World}{e:TypeId}{v:Value}{us:List Value}(h:nC w e v us){k:Nat}(hk:Value.blk v=some k):k<w.heap.size:=by
 rcases h with⟨rfl,_⟩| ⟨g,o,cap,cur,rfl,hg,r⟩;·cases hk
 cases hk;exact rW hg
theorem nC.some{w:World}{e:TypeId}{v u:Value}{us:List Value}(h:nC w e v (u::us)):∃g o cap,v= .slice (some ⟨g,o,none⟩) (us.length+1) cap/\us.length+1<=cap/\cap<=maxLen/\w.cell? ⟨g,o,none⟩=some u/\∃o',(o'=if cap=1 then o else o+1)/\nC w e (.slice (some ⟨g,o',none⟩) us.length (cap-1)) us:=by
 rcases h with⟨_,h⟩| ⟨g,o,cap,cur,rfl,hg,h1,h2,h3,h4⟩;·cases h
 simp only[qN]at h1;refine⟨g,o,cap,rfl,h1,h2,?_,_,rfl,.inr ⟨g,_,cap-1,cur,rfl,hg,by omega,by omega,fun j hj=>?_,fun j x hx=>?_⟩⟩;·rw[aj hg];exact h4 0 u rfl
 ·rw[if_neg zAA];have:=h3 (j+1) zAA;omega
 have hj:=(qJ.1 hx).1;rw[if_neg zAA];have:=h4 (j+1) x (by simpa using hx);rw[show o+1+j=o+(j+1) by omega];exact this
theorem KY{P:Program}{t e:TypeId}{i:TypeInfo}(ht:P.underlying t=some (.slice e))(hi:P.info? e=some i)(hs:i.size=1)(g o m cap:Nat)(hm:m+1<=cap)(hc:cap<=maxLen)(W:World):(Instr.slice t (.slice (some ⟨g,o,none⟩) (m+1) cap) (some (.int .i64 1)) none none).run P W= .ok (.slice (some ⟨g,if cap=1 then o else o+1,none⟩) m (cap-1)) W:=by have h1:(1:Int)<=((m+1:Nat):Int):=zAA;simp[Instr.slice,Instr.sliceBounds,Instr.sliceBound,run_underlying ht,sizeOf,typeInfo,hi,hs,asIntOf,Addr.add];by_cases hcap:cap=1;all_goals (split<;>simp_all)
theorem nC.sh{w:World}{e:TypeId}{v:Value}{us:List Value}(h:nC w e v us):∃ao cap,v= .slice ao us.length cap/\us.length<=cap/\cap<=maxLen:=by
 rcases h with⟨rfl,rfl⟩| ⟨g,o,cap,cur,rfl,hg,h1,h2,_⟩;·exact⟨none,0,rfl,qH _,by unfold maxLen;omega⟩
 exact⟨_,cap,rfl,h1,h2⟩
theorem TR{P:Program}(w:World){t e ty:TypeId}{bytes:Nat}(T:Gu P t e 1 bytes){v:Value}{us:List Value}(h:nC w e v us)(a:Addr)(c:Nat){u:Value}(hc:w.cell? a=some u)(hu:u.oneCell'=true)(h63:us.length+1<=1099511627776)(hby:bytes<=64):∃v' w',(Builtin.append_ #[t,t] ty #[v,.slice (some a) 1 c]).run P w= .ok v' w'/\nC w' e v' (us++[u])/\Only (fun k=>Value.blk v=some k) w w'/\∀k,Value.blk v'=some k->Value.blk v=some k\/w.heap.size<=k:=by
 have hm:maxLen=9223372036854775807\/1099511627776<=maxLen:=zAu;have hm2:us.length+1<=maxLen:=zAu;have hmul:(us.length+1)*bytes<=1099511627776*64:=Nat.mul_le_mul h63 hby;have hnews:∀j x,[u][j]? =some x->w.cell? (a.add j)=some x:=by
  intro j x hx
  match j,hx with
  |0,hx=>simp at hx;subst hx;rw[<-hc];unfold Addr.add;simp
 have h1:∀x∈[u],x.oneCell'=true:=by intro x hx;simp at hx;subst hx;exact hu
 rcases h with⟨rfl,rfl⟩| ⟨g,o,cap,cur,rfl,hg,hl,hx,hi,hv⟩
 ·obtain⟨v',w',hr,h2,h3,h4,h5⟩:=uK (P:=P) (ty:=ty) w T Qn 0 [] (World.ownsRow_nil _ _ _ _) a 1 c [u] rfl hnews h1 (by simpa using hm2) zAA;refine⟨v',w',hr,nC.xC (by simpa using h2),(Only.refl _ w).grown h3 fun k hk=>(by cases hk),fun k hk=>?_⟩;have hk':v'.ownBlock=some k:=by exact zG1
  rcases h4 k hk' with h|h;·cases h
  exact .inr h
 obtain⟨i,z,t1,t2,t3,t4,t5⟩:=T.info;have hcur:∀j,w.cell? ⟨g,j,none⟩=cur[j]? :=fun j=>aj hg j;by_cases hroom:us.length+1<=cap
 ·have hin:o+us.length<cur.size:=hi _ zAA;have hrun:=run_append_room_cells (P:=P) w t ty e i T.und t1 g o us.length cap a 1 c [u] (by rw[t3];rfl) hnews h1 hroom
   (fun j hj=>by
    simp at hj;subst hj
    rw[t3,yH,qF,hcur,Array.getElem?_eq_getElem hin];rfl)
   (fun j hj=>by simp at hj;subst hj;exact Ye hg _)
  rw[t3,yH]at hrun;refine⟨_,_,hrun,.inr ⟨g,o,cap,cur.setIfInBounds (o+us.length) u,?_,?_,?_,hx,fun j hj=>by simpa using hi j hj,fun j x hj=>?_⟩,?_,fun k hk=>.inl hk⟩;·simp
  ·exact aaU hg _ _
  ·simpa using hroom
  ·rw[Array.getElem?_setIfInBounds];have hjl:=(qJ.1 hj).1;simp at hjl;by_cases hjn:j=us.length;·subst hjn;rw[if_pos rfl,if_pos hin];simpa using hj
   rw[if_neg zAA];exact hv j x (by rw[yM zAA]at hj;exact hj)
  exact(Only.refl (fun k=>Value.blk (.slice (some ⟨g,o,none⟩) us.length cap)=some k) w).setCell (p:=⟨g,o+us.length,none⟩) (.inl rfl) u
 have hgrow:=run_append_arg_grows (P:=P) w t ty e i z 1 bytes T.und t1 t2 t3 t4 t5 (by omega) ⟨g,o,none⟩ us.length cap us zAA
  (fun j x hj=>by rw[Go.WideShapes.add_plain,hcur];exact hv j x hj) a 1 c [u] rfl hnews (by omega) hm2 zAA
 obtain⟨v',w',hr,h2,h3⟩:=hgrow;refine⟨v',w',hr,nC.xC (by simpa using aa0 h2),(Only.refl _ w).grown h3 fun k hk=>(by cases hk),fun k hk=>?_⟩;have hk':v'.ownBlock=some k:=by exact zG1
 exact .inr (h2.lt k hk').1
theorem aiz{P:Program}{w:World}{u:Value}{ops:Array Oper}{rest:List Oper}{o:Oper}{a:Act}{Q:Exit->Act->World->Prop}{t e:TypeId}{bytes:Nat}(T:Gu P t e 1 bytes)
  (hgd:o.guard=none) (s x:Operand)
  (ho:o.op= .call {callee:=.builtin .append,args:= #[s,x],argTypes:= #[t,t]})
  {v:Value} {us:List Value} {g:Nat} (hs:a.eval s=v) (hx:a.eval x= .slice (some ⟨g,0,none⟩) 1 1) (hc:w.cell? ⟨g,0,none⟩=some u) (hu:u.oneCell'=true) (hq:nC w e v us)
  (h63:us.length+1<=1099511627776) (hbytes:bytes<=64)
  (h:∀v' w',nC w' e v' (us++[u])->Only (fun k=>Value.blk v=some k) w w'->(∀k,Value.blk v'=some k->Value.blk v=some k\/w.heap.size<=k)->wpList P ops Q rest (a.put o.dst v') w'):
  wpList P ops Q (o::rest) a w:=by
 refine wpList_plain hgd fun K hK=>?_
 obtain⟨v',w',hr,h2,h3,h4⟩:=TR (P:=P) (ty:=o.type) w T hq ⟨g,0,none⟩ 1 hc hu h63 hbytes
 unfold Oper.wp execOp
 simp only[ho,resolve,invoke,builtin,Sem.run_bind,Sem.run_pure,Result.andThen_ok,List.map_toArray,List.map_cons,List.map_nil,hs,hx,hr]
 exact hK _ _ (h v' w' h2 h3 h4)
end Go.Proofs.YtdmmebjjojimiaaGreatDoor
namespace Go.Proofs
theorem zGC{p:Prop}(h:p:=by
 obtain⟨es,clock,hb,Ft,hs,hD⟩:=r1
 refine⟨es,clock,hb,Ft,?_,hD⟩
 rw[<-hsz,hD]
 simp[Maps.size,length_sorted]):p:=h
end Go.Proofs
namespace Go.Proofs.YtdmmebjjojimiaaGreatDoor
open Go.RowKit
theorem inZ:jF 0:=⟨by decide,by decide⟩
theorem JR:Maps.Keyed Tryz.prog 3:=Maps.int_keyed Tryz.underlying3
theorem agw(w:World):(zeroValue 3).run Tryz.prog w= .ok (.int .i64 0) w:=by kernel_rfl
abbrev kI(x:Int):Lit:=.int .i64 x
theorem wfI{x:Int}(hx:jF x):(kI x).wf=true:=WalkArith.wf_i64 hx
theorem aiA{x:Int}(hx:jF x):keyOf Tryz.prog 3 (cI x)=some (kI x):=Maps.keyOf_int_mk Tryz.underlying3 (wfI hx)
theorem Z8{x y:Int}(h:y≠x):kI y≠kI x:=fun e=>h (by injection e)
structure oI (w:World) (B:Nat) (ks:List Int) (f:Int->Int):Prop where
 own:∃D:DataW Unit,w.ownsMap Tryz.prog 3 (plainElem Tryz.prog 3) B ks.length D/\(∀x,D.atKey (kI x) (.lit (kI 0))= .lit (kI (f x)))/\(∀x,Maps.has D (kI x)=decide (x∈ks))/\Maps.size D=ks.length
 nd:ks.Nodup
 out:∀x,x∉ks->f x=0
 val:∀x,jF (f x)
 rng:∀x∈ks,jF x
def Ei(ks:List Int)(x:Int):List Int:=if x∈ks then ks else ks++[x]
def upd(f:Int->Int)(x v:Int):Int->Int:=fun y=>if y=x then v else f y
theorem BI{ks:List Int}{x y:Int}:y∈Ei ks x↔y∈ks\/y=x:=by
 unfold Ei;split
 ·rename_i h;constructor;·exact .inl
  rintro(h1|rfl);·exact h1
  exact h
 simp
section
variable {w w':World} {B:Nat} {ks:List Int} {f:Int->Int}
theorem oI.lt(h:oI w B ks f):B<w.heap.size:=by obtain⟨D,h1,_⟩:=h.own;exact h1.lt
theorem oI.only{F:Nat->Prop}(h:oI w B ks f)(ho:Only F w w')(hF:¬F B):oI w' B ks f:=by have hlt:=h.lt;obtain⟨D,⟨es,clock,hb,Ft,hs,hD⟩,h2⟩:=h.own;exact⟨⟨D,⟨es,clock,(ho.block B hlt hF).trans hb,Ft,hs,hD⟩,h2⟩,h.nd,h.out,h.val,h.rng⟩
theorem oI.dK(h:oI w B ks f)(ho:O0 w w'):oI w' B ks f:=h.only ho (fun f=>f)
theorem oI.made(w:World):oI (w.alloc (.map #[] 0)) w.heap.size [] (fun _=>0):=
 ⟨⟨.map [],World.ownsMap_made _ _ _ _,fun x=>rfl,fun x=>by simp[Maps.has],rfl⟩,List.nodup_nil,fun _ _=>rfl,fun _=>inZ,fun x hx=>by cases hx⟩
theorem oI.look(h:oI w B ks f){x:Int}(hx:jF x):(Instr.lookup 211 (.map (some B)) (cI x) false).run Tryz.prog w= .ok (cI (f x)) w:=by obtain⟨D,h1,h2,h3,h4⟩:=h.own;obtain⟨c,hrun,hat,_⟩:=h1.lookup_int JR Tryz.underlying211 Tryz.underlying3 (agw _) (aiA hx);rw[h2]at hat;have:f x=c:=(Lit.int.inj (DataW.lit.inj hat)).2;rw[this];exact hrun
theorem oI.len(h:oI w B ks f)(ty:TypeId):(Builtin.len_ #[211] ty #[.map (some B)]).run Tryz.prog w= .ok (.int .i64 (ks.length:Int)) w:=by obtain⟨D,h1,h2,h3,h4⟩:=h.own;rw[h1.len Tryz.underlying211 ty,h4]
theorem KZ{b:Nat}(h:w.mapTurned w' b):Only (fun k=>k=b) w w':=(Only.refl _ w).grown h.grown fun k hk=>.inl (Option.some.inj hk).symm
theorem oI.store(h:oI w B ks f){x v:Int}(hx:jF x)(hv:jF v)(hl:ks.length<maxLen):∃w',(Instr.mapUpdate 211 (.map (some B)) (cI x) (cI v)).run Tryz.prog w= .ok () w'/\oI w' B (Ei ks x) (upd f x v)/\Only (fun k=>k=B) w w':=by
 obtain⟨D,h1,h2,h3,h4⟩:=h.own;have hkl:WideAt.IsKeyLit (kI x):=trivial;obtain⟨w',hrun,r1,r2⟩:=h1.store JR Tryz.underlying211 hl (aiA hx) (plainElem_int Tryz.underlying3 (wfI hv));have hsz:Maps.size (D.put (kI x) (.lit (kI v)))=(Ei ks x).length:=by
  rw[Maps.size_put (h1.tidy JR),h3,h4];unfold Ei;by_cases hm:x∈ks;·simp[hm]
  simp[hm]
 refine⟨w',hrun,⟨⟨_,?_,fun y=>?_,fun y=>?_,hsz⟩,?_,fun y hy=>?_,fun y=>?_,fun y hy=>?_⟩,KZ r2⟩;·exact zGC
 ·unfold upd;by_cases e:y=x;·subst e;rw[if_pos rfl,Maps.atKey_put_same h1.isMap hkl]
  rw[if_neg e,Maps.atKey_put_other (Z8 e),h2]
 ·by_cases e:y=x;·subst e;rw[Maps.has_put_same h1.isMap hkl,qX (BI.2 (.inr rfl))]
  rw[Maps.has_put_other (Z8 e),h3];exact decide_eq_decide.2 (by rw[BI];simp[e])
 ·unfold Ei;split;·exact h.nd
  rename_i hn;rw[List.nodup_append];exact⟨h.nd,by simp,fun a ha b hb e=>hn (by simp at hb;rw[<-hb,<-e];exact ha)⟩
 ·rw[BI,not_or]at hy;unfold upd;rw[if_neg hy.2];exact h.out y hy.1
 ·unfold upd;split;·exact hv
  exact h.val y
 rcases BI.1 hy with h5|rfl;·exact h.rng y h5
 exact hx
theorem oI.drop(h:oI w B ks f){x:Int}(hx:jF x)(ty:TypeId):∃w',(Builtin.delete_ #[211,3] ty #[.map (some B),cI x]).run Tryz.prog w= .ok (.tuple #[]) w'/\oI w' B (ks.erase x) (upd f x 0)/\Only (fun k=>k=B) w w':=by
 obtain⟨D,h1,h2,h3,h4⟩:=h.own;obtain⟨w',hrun,r1,r2⟩:=h1.drop JR Tryz.underlying211 (aiA hx) ty;have hsz:Maps.size (D.del (kI x))=(ks.erase x).length:=by
  have h5:=Maps.size_del (k:=kI x) (h1.tidy JR);rw[h3,h4]at h5;rw[List.length_erase];by_cases hm:x∈ks;·simp[hm]at h5⊢;omega
  simp[hm]at h5⊢;omega
 have hmem:∀y,y∈ks.erase x↔y≠x/\y∈ks:=fun y=>h.nd.mem_erase_iff;refine⟨w',hrun,⟨⟨_,?_,fun y=>?_,fun y=>?_,hsz⟩,h.nd.erase _,fun y hy=>?_,fun y=>?_,fun y hy=>?_⟩,KZ r2⟩;·exact zGC
 ·unfold upd;by_cases e:y=x;·subst e;rw[if_pos rfl,Maps.atKey_del_same]
  rw[if_neg e,Maps.atKey_del_other (Z8 e),h2]
 ·by_cases e:y=x;·subst e;rw[Maps.has_del_same,qP];rw[hmem];exact fun h=>h.1 rfl
  rw[Maps.has_del_other (Z8 e),h3];exact decide_eq_decide.2 (by rw[hmem];simp[e])
 ·unfold upd;split;·rfl
  rename_i e;refine h.out y fun hm=>hy ?_;rw[hmem];exact⟨e,hm⟩
 ·unfold upd;split;·exact inZ
  exact h.val y
 exact h.rng y ((hmem y).1 hy).2
theorem oI.keys(h:oI w B ks f):∃D:DataW Unit,w.ownsMap Tryz.prog 3 (plainElem Tryz.prog 3) B ks.length D/\ks.Perm (intKeys D)/\Maps.size D=ks.length:=by
 obtain⟨D,h1,h2,h3,h4⟩:=h.own;refine⟨D,h1,?_,h4⟩;obtain⟨es,hD,hpw,_⟩:=h1.entries JR;obtain⟨es',hD',hko⟩:=h1.keysOf;obtain rfl:es=es':=by rw[hD]at hD';simpa using hD'
 subst hD;exact perm_intKeys hpw (fun p hp=>by obtain⟨v,hv⟩:=hko p hp;obtain⟨x,_,hx,_⟩:=Maps.keyOf_i64 Tryz.underlying3 hv;exact⟨x,hx⟩) h.nd (fun x=>by rw[h3 x];simp)
end
end Go.Proofs.YtdmmebjjojimiaaGreatDoor
namespace Go.Proofs.YtdmmebjjojimiaaGreatDoor
open Go.RowKit Go.Maps Go.Sort Go.Shelf
def GY(l:List Int):List Int:=l.mergeSort fun x y=>decide (x<=y)
theorem CZ(l:List Int):(GY l).Perm l:=List.mergeSort_perm l _
theorem C9(l:List Int):(GY l).Pairwise (· <= ·):=by have h:=List.pairwise_mergeSort (le:=fun x y:Int=>decide (x<=y)) (by intro a b c;simp;omega) (by intro a b;simp;omega) l;exact h.imp fun h=>by simpa using h
theorem Qu{l m:List Int}(h:l.Perm m):GY l=GY m:=
 List.Perm.eq_of_pairwise (le:=fun x y:Int=>x<=y) (fun a b _ _ h1 h2=>by omega) (C9 l) (C9 m) (((CZ l).trans h).trans (CZ m).symm)
theorem Tryz.sortsA(m:Nat):AnyZI.SortsIn Tryz.prog Tryz.sortedA_ren Fence.wide m:=⟨fun blk off cap ss W hH hblk hsz=>callsIn_wide.2 (AnyM.slices_Sort_int Tryz.sortA blk off cap ss W hH hblk hsz),fun p cap W=>callsIn_wide.2 (AnyM.slices_Sort_int_none Tryz.sortA p cap W)⟩
section
variable {w:World} {B:Nat} {ks:List Int} {f:Int->Int}
abbrev ahM(w:World):Value:=.func (.func 218) #[] #[.pointer (some ⟨w.heap.size,0,none⟩)]
theorem ado(w:World)(B:Nat):Calls Tryz.prog 150 #[.map (some B)] w fun e w'=>e= .returned (ahM w)/\w'=w.alloc (.cells #[.map (some B)] 211):=by refine(callsIn_wide (n:=5)).1 ?_;exact AnyZI.keys_in Tryz.keysA Fence.wide 5 trivial rfl (some B) w
theorem Yr(h:oI w B ks f)(hl:ks.length<=65536):Calls Tryz.prog 149 #[ahM w] (w.alloc (.cells #[.map (some B)] 211)) fun e w'=> ∃v,e= .returned v/\w'.ownsRow 0 3 1 v (GY ks).length ((GY ks).map cI)/\(∀k,v.ownBlock=some k->w.heap.size<=k)/\O0 w w':=by
 obtain⟨D,hown,hp,hsz⟩:=h.keys;have hbl:=hown.lt;have hseq:SeqGives Fence.wide 2 Tryz.prog 218 #[.pointer (some ⟨w.heap.size,0,none⟩)] encZ (fun ss=>ss.Perm (intKeys D)) (Maps.size D) (w.alloc (.cells #[.map (some B)] 211)):=
  AnyZI.keys_gives (ρ:=Tryz.keysA_ren) {Tryz.keysA with} Fence.wide _ trivial rfl zAA w.heap.size B ks.length D _ (by simp) (by simp) (by
   obtain⟨es,clock,hb,Ft,hs,hD⟩:=hown
   exact⟨es,clock,(Below.heap_alloc _ _ B hbl).trans hb,Ft,hs,hD⟩)
 have cS:=AnyZI.sorted_in Tryz.sortedA Fence.wide 5 trivial trivial trivial trivial rfl zAA (Tryz.sortsA _) (enters_of Tryz.func217 zk rfl) 218 #[.pointer (some ⟨w.heap.size,0,none⟩)] trivial (enters_of Tryz.func218 zk rfl) _ _ (by rw[hsz];unfold maxLen;omega) (by rw[hsz];omega) _ hseq;refine((callsIn_wide (n:=5)).1 cS).mono ?_;rintro e w' ⟨v,ss,rfl,hS,hrow,-,hb⟩;have e1:ss.mergeSort (fun x y=>decide (x<=y))=GY ks:=Qu (hS.trans hp.symm);have e2:ss.length=(GY ks).length:=by rw[<-e1,List.length_mergeSort]
 rw[e1,e2]at hrow;refine⟨v,rfl,ownsRow_base_a hrow (qE _),fun k hk=>?_,?_⟩;·have:=(hrow.lt k hk).1;simp at this;omega
 exact(zr.alloc _).trans (G:=fun k=>w.heap.size+1<=k) (by have:=Only.of_below hb;simpa using this) fun k hk=>.inr zAA
end
end Go.Proofs.YtdmmebjjojimiaaGreatDoor
