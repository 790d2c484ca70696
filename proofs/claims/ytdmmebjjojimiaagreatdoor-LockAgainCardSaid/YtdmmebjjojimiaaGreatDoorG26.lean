/- The document's virtual names, exact. Printed by gen_gr5.py. -/
import Derived.Test.YtdmmebjjojimiaaGreatDoorG23
set_option maxRecDepth 100000
set_option maxHeartbeats 8000000
set_option linter.all false
namespace Go.Proofs
theorem zAl{p:Prop}(h:p:=by(intro w hSw;(try dsimp only at hSw);obtain⟨k0,k1,k2⟩:=aF.out w (gK.out.same hSw);have gl0:=HIl.out w (aeV.out.same hSw);have fJ:=(jq.out w (gK.out.same hSw)).1;have gy5:=fJ 5 _ rfl;clear fJ;go_simp<;>(try with_reducible rfl))):p:=h
theorem zAs{p:Prop}(h:p:=by(intro w hSw;(try dsimp only at hSw);obtain⟨k0,k1,k2⟩:=aF.out w (gK.out.same hSw);have hrr:=(GL.out w (gK.out.same hSw)).1;have QK:=hrr 0 _ rfl;rw[qF]at QK;clear hrr;go_simp<;>(try with_reducible rfl))):p:=h
theorem zBJ{p:Prop}(h:p:=by(intro w hSw;(try dsimp only at hSw);obtain⟨k0,k1,k2⟩:=aF.out w (kU.out.same hSw);have hrz:=(jd.out w (kU.out.same hSw)).1;have nY:=hrz 0 _ rfl;rw[qF]at nY;clear hrz;go_simp<;>(try with_reducible rfl))):p:=h
theorem zCc{p:Prop}(h:p:=by rw[Hid,F7.out,DK x _ _ true HBv.out,HS.out,<-Zi];rfl):p:=h
theorem zC7{p:Prop}(h:p:=by intro u hu;unfold bZ at hu;obtain⟨s2,-,rfl⟩:=yD.1 hu;rfl):p:=h
theorem zGd{p:Prop}(h:p:=by
 rcases qW.1 h with h|h
 ·exact kU.out t (List.mem_of_mem_take h)
 ·simp at h;rw[h];exact HSk.out):p:=h
theorem zGk{p:Prop}(h:p:=by
 rcases s1 k hk with h|h
 ·simp[Value.ownBlock]at h;subst h;exact qH _
 ·simp at h;omega):p:=h
theorem zGu{p:Prop}(h:p:=by
 have:=tZ.out
 simp[bZ,Hid]
 omega):p:=h
end Go.Proofs
namespace Go.Proofs.YtdmmebjjojimiaaGreatDoor
open Go.RowKit
section
variable {w w':World} {B:Nat}
def SL(r:List Str)(w w':World)(e:Ending):Prop:= ∃v,e= .returned v/\aS 1 bU w'.heap.size w' v r/\O0 w w'
theorem SL.own{r:List Str}{v:Value}{m:Nat}{e:Ending}(he:e= .returned v)(hl:r.length=m)(h:w'.ownsRow 0 9 1 v m (bZ r))(hk:∀s∈r,okS s)(ho:O0 w w'):SL r w w' e:=⟨v,he,oO hl h hk,ho⟩
theorem SN(l:List Str)(s:Str):(vJ l s).length<=l.length+1:=by
 unfold vJ;dsimp only;split;·omega
 simp;omega
theorem ab5{l:List Str}{i:Nat}{u s:Str}(h:∀t∈l.take i,t.toList<s.toList)(hu:l[i]? =some u)(h2:u.toList<s.toList):∀t∈l.take (i+1),t.toList<s.toList:=fun t ht=>by
 rcases bH hu ht with h3|rfl
 ·exact h t h3
 ·exact h2
theorem Xp{vl:Value}{l:List Str}(hl:aS 1 bU B w vl l)(hBw:B<=w.heap.size)(hlen:l.length<=2000000)(s:Str)(hs:okS s):Calls Tryz.prog 215 #[vl,.string s] w fun e w'=>SL (vJ l s) w w' e:=by
 obtain⟨a_l,kH,CO,rfl,Ym,JK,tZ,EL⟩:=open_strs hl;clear hl;obtain⟨W0,hW0⟩:=zB w;have aV:Hid (O0 w W0):=zBU;have nO:=EL W0 aV.out;clear EL;have HSk:=zh hs;have HBw:=zh hBw;have kU:Hid (∀t∈l,okS t):=fun t ht=>by obtain⟨cs,hC⟩:=(nO.out W0 zr).all t ht;exact hC.2
 rw[tZ.out]at hlen;subst hW0;go_enter Tryz.func215,Tryz.ntmps215;go_wp2_with fail;go_loopw [5] (fun vi bD=>Hid (O0 W0 bD)/\∃i:Nat,vi= .int .i64 i/\i<=kH/\Hid (∀t∈l.take i,t.toList<s.toList)) (fun v _=>kH-(RowKit.intOf v).toNat);case atStart=>exact⟨show Hid _ from Only.refl _ _,0,rfl,qE _,show Hid _ from fun t ht=>by simp at ht⟩
 case round=>
  obtain⟨bD,rfl⟩:=zB wr;obtain⟨gK,i,rfl,hi,HQ⟩:=hrel;by_cases ci:i<kH
  ·have iE:=zw (i+1);obtain⟨yu,hxu⟩:=zG l i zAy;obtain⟨X9,GI,heu,aiZ,Oj⟩:=iR (nO.out W0 zr) hxu;first|subst heu| (simp only[qG,qO,and_true]at heu;obtain⟨rfl,rfl⟩:=heu)
   have HEu:=zh Oj;have HXu:=zh hxu;clear Oj hxu;have JF:=(HEu.out bD gK.out).1;have Qj:=JF 0 _ rfl;rw[qF]at Qj;rw[yH]at Qj;clear JF;have hbd:=fP yu s;obtain⟨b1,e1⟩:=ze (Op.bytesLess yu.toList s.toList);have hlt:decide (yu.toList<s.toList)=b1:=by rw[<-iD];exact e1
   cases b1 with
   |true=>
    have pI:Hid (∀t∈l.take (i+1),t.toList<s.toList):=ab5 HQ.out HXu.out (of_decide_eq_true hlt);clear hlt;go_wp2_with fail;go_roundw;case rel=>exact⟨gK,i+1,by first|rfl|go_num,by omega,pI⟩
    case measure=>simp[RowKit.intOf]<;>omega
   |false=>
    by_cases hy:yu=s;·rw[qX hy]at hbd;have HW:Hid (vJ l s=l):=Zf HXu.out HQ.out hy;clear hy hlt;go_wp2_with fail;go_ret;rw[HW.out];exact⟨_,rfl,(nO.out bD gK.out).lift bU.lift (qR HBw.out (aV.out.same gK.out).size) (qH _),aV.out.same gK.out⟩
    rw[qP hy]at hbd;have HW:Hid (vJ l s=l.take i++[s]++l.drop i):=SK zAy HQ.out fun u hu=>by rw[HXu.out]at hu;cases hu;exact⟨of_decide_eq_false hlt,hy⟩
    clear hy hlt;have abz:∀W,(Instr.slice 81 (.slice (some ⟨X9,GI,none⟩:Option Addr) kH CO) none (some (.int .i64 (i:Int))) none).run Tryz.prog W= .ok (.slice (some ⟨X9,GI,none⟩:Option Addr) i CO) W:=fun W=>by obtain⟨ii,zz,t1,t2,t3,-,-⟩:=iU.info;exact Bc (P:=Tryz.prog) iU.und t1 t3 (some ⟨X9,GI,none⟩:Option Addr) kH i CO zAA W
    have Zh:∀W,(Instr.slice 81 (.slice (some ⟨X9,GI,none⟩:Option Addr) kH CO) (some (.int .i64 (i:Int))) none none).run Tryz.prog W= .ok (.slice (Fa (some ⟨X9,GI,none⟩:Option Addr) i CO) (kH-i) (CO-i)) W:=fun W=>by obtain⟨ii,zz,t1,t2,t3,-,-⟩:=iU.info;exact D7 (P:=Tryz.prog) iU.und t1 t3 (some ⟨X9,GI,none⟩:Option Addr) kH i CO zCj zAA W
    have HNn:Hid ((some ⟨X9,GI,none⟩:Option Addr)=none->i=0/\CO=0):=fun e=>by have h:=(wH (nO.out W0 zr)).2.1 e;omega
    have BJ:Hid (Fa (some ⟨X9,GI,none⟩:Option Addr) i CO=none->kH-i=0/\CO-i=0):=fun e=>by
     have e2:(some ⟨X9,GI,none⟩:Option Addr)=none:=by
      unfold Fa at e
      cases(some ⟨X9,GI,none⟩:Option Addr)with
      |none=>rfl
      |some a=>simp at e
     have h:=(wH (nO.out W0 zr)).2.1 e2;omega
    have QA:Hid ((bZ (l.take i)).length=i):=by exact zGu
    have NV:Hid ((bZ (l.drop i)).length=kH-i):=by exact zGu
    go_wp2_with (at_builtin;go_must (first
     | (refine ags iU rfl (.tmp 35) (.tmp 38) rfl rfl (zn bD) rfl QA.out HNn.out (I7 (nO.out _ (gK.out.alloc _)) i) zC7 zAA zHZ ?_)))
    intro v1 w1 r1 o1 s1;have aI:Hid (O0 bD w1):=(zr.alloc _).trans o1 fun k hk=>.inr (by simp[Value.ownBlock]at hk;subst hk;exact qH _);have HB1:Hid (∀k,v1.ownBlock=some k->bD.heap.size<=k):=fun k hk=>by exact zGk
    have GU:Hid (w1.ownsRow 0 9 1 v1 i (bZ (l.take i))):=by simpa[Hid]using r1
    try rw[Nat.zero_add]at r1
    obtain⟨a1,c1,rfl,-,-⟩:=bg r1;clear r1 o1 s1 QA HNn abz;go_wp2_with (at_builtin;go_must (refine Ai (u:=.string s) iU rfl (.tmp 40) (.tmp 42) rfl rfl rfl (cell_new0 _ _ _) rfl (aW GU.out ((Only.refl (fun _=>False) _).alloc _) (fun _ _ f=>f)) zAA zHZ ?_));intro v2 w2 r2 o2 s2;have eF:Hid (O0 bD w2):=(aI.out.alloc _).trans o2 fun k hk=>.inr (HB1.out k hk);have HB2:Hid (∀k,v2.ownBlock=some k->bD.heap.size<=k):=by
     intro k hk;obtain⟨g,cap',rfl,-,-,h|h⟩:=s2;·simp[Value.ownBlock]at hk;subst hk;exact HB1.out _ h
     exact zFM
    have uN:Hid (w2.ownsRow 0 9 1 v2 (i+1) (bZ (l.take i)++[.string s])):=r2;obtain⟨a2,c2,rfl,-,-⟩:=bg r2;clear r2 o2 s2 GU HB1 aI;go_wp2_with (at_builtin;go_must (refine ags iU rfl (.tmp 44) (.tmp 47) rfl rfl uN.out rfl NV.out BJ.out (Ol (nO.out _ (gK.out.same eF.out))) zC7 zAA zHZ ?_));intro v3 w3 r3 o3 s3;have kD:Hid (O0 bD w3):=eF.out.trans o3 fun k hk=>.inr (HB2.out k hk);have VD:Hid (w3.ownsRow 0 9 1 v3 (i+1+(kH-i)) (bZ (l.take i++[s]++l.drop i))):=by simpa[bZ,Hid]using r3
    clear r3 o3 s3;obtain⟨a3,c3,rfl,-,-⟩:=bg VD.out;go_wp2_with fail;go_ret;rw[HW.out];refine SL.own rfl (by have:=tZ.out;simp;omega) VD.out (fun t ht=>?_) (aV.out.same (gK.out.same kD.out));rcases qW.1 ht with h|h;·exact zGd
    exact kU.out t (List.mem_of_mem_drop h)
  have ci0:kH=i:=by omega
  have ci1:decide ((i:Int)<(kH:Int))=false:=qP zAA;have HW:Hid (vJ l s=l.take i++[s]++l.drop i):=SK zAy HQ.out fun u hu=>by rw[List.getElem?_eq_none zAy]at hu;cases hu
  have hin:¬(i:Int)<(kH:Int):=zAA;have HDr:Hid (l.drop i=[]):=List.drop_eq_nil_of_le (by have:=tZ.out;omega);have HDl:Hid ((bZ (l.drop i)).length=0):=by rw[HDr.out];rfl
  have Na:Hid (a_l=none->CO=0):=fun e=>((wH (nO.out W0 zr)).2.1 e).2;have abz:∀W,(Instr.slice 81 (.slice a_l kH CO) none (some (.int .i64 (i:Int))) none).run Tryz.prog W= .ok (.slice a_l i CO) W:=fun W=>by obtain⟨ii,zz,t1,t2,t3,-,-⟩:=iU.info;exact Bc (P:=Tryz.prog) iU.und t1 t3 a_l kH i CO zAA W
  have Zh:∀W,(Instr.slice 81 (.slice a_l kH CO) (some (.int .i64 (i:Int))) none none).run Tryz.prog W= .ok (.slice (Fa a_l i CO) (kH-i) (CO-i)) W:=fun W=>by obtain⟨ii,zz,t1,t2,t3,-,-⟩:=iU.info;exact D7 (P:=Tryz.prog) iU.und t1 t3 a_l kH i CO zCj zAA W
  have HNn:Hid (a_l=none->i=0/\CO=0):=fun e=>by have h:=(wH (nO.out W0 zr)).2.1 e;omega
  have BJ:Hid (Fa a_l i CO=none->kH-i=0/\CO-i=0):=fun e=>by
   have e2:a_l=none:=by
    unfold Fa at e
    cases a_l with
    |none=>rfl
    |some a=>simp at e
   have h:=(wH (nO.out W0 zr)).2.1 e2;omega
  have QA:Hid ((bZ (l.take i)).length=i):=by exact zGu
  have NV:Hid ((bZ (l.drop i)).length=kH-i):=by exact zGu
  go_wp2_with (at_builtin;go_must (first
   | (refine ags iU rfl (.tmp 35) (.tmp 38) rfl rfl (zn bD) rfl QA.out HNn.out (I7 (nO.out _ (gK.out.alloc _)) i) zC7 zAA zHZ ?_)))
  intro v1 w1 r1 o1 s1;have aI:Hid (O0 bD w1):=(zr.alloc _).trans o1 fun k hk=>.inr (by simp[Value.ownBlock]at hk;subst hk;exact qH _);have HB1:Hid (∀k,v1.ownBlock=some k->bD.heap.size<=k):=fun k hk=>by exact zGk
  have GU:Hid (w1.ownsRow 0 9 1 v1 i (bZ (l.take i))):=by simpa[Hid]using r1
  try rw[Nat.zero_add]at r1
  obtain⟨a1,c1,rfl,-,-⟩:=bg r1;clear r1 o1 s1 QA HNn abz;go_wp2_with (at_builtin;go_must (refine Ai (u:=.string s) iU rfl (.tmp 40) (.tmp 42) rfl rfl rfl (cell_new0 _ _ _) rfl (aW GU.out ((Only.refl (fun _=>False) _).alloc _) (fun _ _ f=>f)) zAA zHZ ?_));intro v2 w2 r2 o2 s2;have eF:Hid (O0 bD w2):=(aI.out.alloc _).trans o2 fun k hk=>.inr (HB1.out k hk);have HB2:Hid (∀k,v2.ownBlock=some k->bD.heap.size<=k):=by
   intro k hk;obtain⟨g,cap',rfl,-,-,h|h⟩:=s2;·simp[Value.ownBlock]at hk;subst hk;exact HB1.out _ h
   exact zFM
  have uN:Hid (w2.ownsRow 0 9 1 v2 (i+1) (bZ (l.take i)++[.string s])):=r2;obtain⟨a2,c2,rfl,-,-⟩:=bg r2;clear r2 o2 s2 GU HB1 aI;go_wp2_with (at_builtin;go_must (refine ags iU rfl (.tmp 44) (.tmp 47) rfl rfl uN.out rfl HDl.out (by intro h9;have h7:=Na.out (WR h9);omega) (fun ad _ j u hu=>by rw[HDr.out]at hu;simp[bZ]at hu) zC7 zAA zHZ ?_));all_goals
   intro v3 w3 r3 o3 s3;have kD:Hid (O0 bD w3):=eF.out.trans o3 fun k hk=>.inr (HB2.out k hk);have VD:Hid (w3.ownsRow 0 9 1 v3 (i+1) (bZ (l.take i++[s]++l.drop i))):=by simpa[bZ,Hid]using r3
   clear r3 o3 s3;obtain⟨a3,c3,rfl,-,-⟩:=bg VD.out;go_wp2_with fail;go_ret;rw[HW.out];refine SL.own rfl (by have:=tZ.out;simp;omega) VD.out (fun t ht=>?_) (aV.out.same (gK.out.same kD.out));rcases qW.1 ht with h|h;·exact zGd
   exact kU.out t (List.mem_of_mem_drop h)
theorem ab6{lC:List Value}{x:aQ}(hx:fO B w lC x){Ba:List Value}{q:dD}(hq:mg B w Ba q)(ok:agx x q (x.closure q.names)):Calls Tryz.prog 141 #[.agg lC.toArray,.agg Ba.toArray] w fun e w'=>SL (x.names q) w w' e:=by
 obtain⟨aP,ak,aJ,aO,aG,aH,rfl,fF,fG,dP,dQ,aB,bJ,mY⟩:=open_rec hx;clear hx;try rw[aB.out]
 obtain⟨dw,aY,dA,rfl,oU,oV,bQ,E8⟩:=lM hq;clear hq;try rw[bQ.out]
 obtain⟨W0,hW0,aV,jK,aF⟩:=G9 w (.slice aP ak aJ) (.slice aO aG aH) (.slice dw aY dA) 25 28;obtain⟨eX,bK,bT⟩:=mY W0 aV.out;clear mY;obtain⟨zL,gu⟩:=E8 W0 aV.out;clear E8;have HDb:=zh ok.deps;have hpk:=ok.packs;rw[aB.out]at hpk;have hrb:=ok.roots;rw[bQ.out]at hrb;obtain⟨L,hL⟩:=ze (x.closure q.names);obtain⟨nL,hnL⟩:=ze L.length;have HLn:=zh hnL;have hlb:=ok.len;rw[hL,hnL]at hlb;have QA:Hid (∀p∈L,p<ak):=by have:=ok.lt;rw[hL,aB.out]at this;exact this
 have HCl:Hid (∀W,O0 W0 W->Calls Tryz.prog 37 #[.agg #[.slice aP ak aJ,.slice aO aG aH],.agg #[.slice dw aY dA]] W fun e w'=> ∃a c,e= .returned (.slice a nL c)/\Ints w' (.slice a nL c) (intsOf L)/\O0 W w'):=fun W hW=>by
  have h0:=QF (eX.out W hW) (zL.out W hW) zAt;rw[hL]at h0;refine h0.mono ?_;rintro e w' ⟨v,he,hr,-,h3⟩;have hI:Ints w' v (intsOf L):=uX hr fun i hi=>by have:=QA.out i hi;omega
  obtain⟨a,cp,rfl,-,-⟩:=bg hr;rw[HLn.out]at hI he;exact⟨a,cp,he,hI,h3⟩
 have HLL:Hid (x.closure q.names=L):=hL;clear hL hnL ok;obtain⟨k0,k1,k2⟩:=aF.out W0 zr;rw[hW0]at k0 k1 k2;go_enter Tryz.func141,Tryz.ntmps141;go_wp2_with fail;rw[<-hW0]at k0 k1 k2⊢;clear hW0;clear k0 k1 k2;go_loopw [5,15] (fun vo vi bD=>Hid (O0 W0 bD)/\∃i:Nat,vi= .int .i64 i/\i<=aY/\∃lo:List Str,Hid (aS 1 bU bD.heap.size bD vo lo)/\Hid (lo.length<=i)/\Hid (zZ x ((q.names).take i)=lo)) (fun _ v _=>aY-(RowKit.intOf v).toNat);case atStart=>exact⟨show Hid _ from zr.alloc _,0,rfl,qE _,[],(by have h:=zn W0;rw[jK.out]at h;exact oO rfl h (fun s h=>by cases h)),by simp[Hid],show Hid _ from rfl⟩
 case round=>
  obtain⟨bD,rfl⟩:=zB wr;obtain⟨gK,i,rfl,hi,lo,Ko,HLo,HS⟩:=hrel;obtain⟨k0,k1,k2⟩:=aF.out bD gK.out;by_cases ci:i<aY
  ·have iE:=zw (i+1);obtain⟨yr,hxr⟩:=zG q.roots i zBE;obtain⟨bkr,Ou,Ew,Ey,Ez,EC,ED,EF,her,Fe,Fg,Ov,Y8,zM⟩:=pU (gu.out W0 zr) hxr;first|subst her| (simp only[qG,qO,and_true]at her;obtain⟨rfl,rfl⟩:=her)
   have GL:=zh zM;have QJ:=zh hxr;clear zM hxr Fe Fg;obtain⟨bv,hbv⟩:=ze (x.nZ yr.spec.name);have HVi:Hid (∀W,O0 W0 W->Calls Tryz.prog 129 #[.agg #[.slice aP ak aJ,.slice aO aG aH],.string yr.spec.name] W fun e w'=>e= .returned (.bool bv)/\O0 W w'):=fun W hW=>by rw[<-hbv];exact xZ (eX.out W hW) zAt _
   have ajB:=zh Ov;have HBv:Hid (x.nZ yr.spec.name=bv):=hbv;have F7:Hid ((q.names).take (i+1)=(q.names).take i++[yr.spec.name]):=by
    have h:q.names[i]? =some yr.spec.name:=by unfold dD.names;rw[List.getElem?_map,QJ.out];rfl
    rw[Hid,List.take_add_one,h];rfl
   obtain⟨ao,co,hvo,-,-⟩:=Ko.out.shape;subst hvo;clear hbv;go_wp2_with fail;clear k0 k1 k2;refine aU (fun w'=>O0 bD w') zk zk (by exact zr.drew) ?_;refine qV ?_ (hy:=zAs);refine qV ?_;refine qV ?_ (hy:=zAs);iterate 4 refine qV ?_
   refine qV ?_ (hy:=zAs);refine bF (v:=.bool bv) (f:=129) (args:= #[.agg #[.slice aP ak aJ,.slice aO aG aH],.string yr.spec.name]) (by rfl) ?_ ?_ ?_;·exact zDQ
   ·(intro w hSw;exact(HVi.out w (gK.out.same hSw)).mono fun _ _ ⟨he,ho⟩=>⟨he,hSw.same ho⟩)
   try simp only[Act.put,fA,fD,fB,dW,dX,dY]
   refine wpQuiet_nil ?_;(intro w9 dR;have fK:=zh (gK.out.same dR);have U5:=zh dR;clear dR);have hs9:=U5.out;have U6:Hid (aS 1 bU w9.heap.size w9 (.slice ao lo.length co) lo):=(Ko.out.keep bU.keep (Kp.dV hs9)).lift bU.lift hs9.size (qH _);have HL9:=HLo;cases bv with
   |false=>
    have HS2:Hid (zZ x ((q.names).take (i+1))=lo):=by rw[Hid,F7.out,DK x _ _ false HBv.out,HS.out];rfl
    go_wp2_with fail;go_roundw;case rel=>exact⟨fK,i+1,by first|rfl|go_num,by omega,lo,U6,by have:=HL9.out;simp only[Hid];omega,HS2⟩
    case measure=>simp[RowKit.intOf]<;>omega
   |true=>
    obtain⟨k0,k1,k2⟩:=aF.out w9 fK.out;have hrr:=(GL.out w9 fK.out).1;have QK:=hrr 0 _ rfl;rw[qF]at QK;clear hrr;go_wp2_with fail;clear k0 k1 k2;refine(Xp U6.out (qH _) (by have:=HL9.out;omega) _ ajB.out).mono ?_;rintro e w8 ⟨v8,rfl,hr8,O8⟩;obtain⟨l8,Zi⟩:=ze (vJ lo yr.spec.name);have hl8:=SN lo yr.spec.name;rw[Zi]at hr8 hl8;have HS8:Hid (zZ x ((q.names).take (i+1))=l8):=zCc;clear Zi;have uH:=zh (fK.out.same O8);have HR8:=zh hr8;have HL8:Hid (l8.length<=i+1):=by have:=HL9.out;simp only[Hid];omega
    obtain⟨a8,c8,rfl,-,-⟩:=hr8.shape;have alQ:=zh O8;clear hr8 hl8 O8;go_wp2_with fail;go_roundw;case rel=>exact⟨uH,i+1,by first|rfl|go_num,by omega,l8,HR8,HL8,HS8⟩
    case measure=>simp[RowKit.intOf]<;>omega
  obtain rfl:aY=i:=by omega
  replace HS:Hid (zZ x q.names=lo):=by have h:=HS.out;rw[qI (by unfold dD.names;rw[qM,bQ.out];exact qH _)]at h;exact h
  obtain⟨ao,co,hvo,-,-⟩:=Ko.out.shape;subst hvo;go_wp2_with fail;refine(HCl.out bD gK.out).mono ?_;rintro e w3 ⟨a3,c3,rfl,hI3,O3⟩;have kD:=zh (gK.out.same O3);have HR3:Hid (aS 1 bU w3.heap.size w3 (.slice ao lo.length co) lo):=(Ko.out.keep bU.keep (Kp.dV O3)).lift bU.lift O3.size (qH _);have HIx:Hid (∀i p:Nat,L[i]? =some p->∃bl ol,a3=some ⟨bl,ol,none⟩/\Hid (∀W,O0 w3 W->W.cell? ⟨bl,ol+i,none⟩=some (.int .i64 (p:Int)))):=fun i p hp=>ints_at hI3 (by simp[intsOf,hp]);clear O3 hI3 HCl k0 k1 k2;obtain⟨k0,k1,k2⟩:=aF.out w3 kD.out;go_wp2_with fail;clear k0 k1 k2;go_loopw [5,42] (fun vo vi bD=>Hid (O0 W0 bD)/\Hid (O0 w3 bD)/\∃i:Nat,vi= .int .i64 i/\i<=nL/\∃lo:List Str,Hid (aS 1 bU bD.heap.size bD vo lo)/\Hid (lo.length<=aY+i*1000)/\Hid (zZ x (q.names++(L.take i).flatMap (QL x))=lo)) (fun _ v _=>nL-(RowKit.intOf v).toNat);case atStart=>exact⟨kD,show Hid _ from Only.refl _ _,0,rfl,qE _,lo,HR3,by have:=HLo.out;simp only[Hid];omega,by simpa[Hid]using HS.out⟩
  case round=>
   obtain⟨bD,rfl⟩:=zB wr;clear HR3 Ko HLo HS gK;obtain⟨gK,aeV,i,rfl,hi,lo,Ko,HLo,HS⟩:=hrel;obtain⟨k0,k1,k2⟩:=aF.out bD gK.out;by_cases ci:i<nL
   ·have iE:=zw (i+1);obtain⟨p,hp⟩:=zG L i (by rw[HLn.out];exact ci);have hpx:p<ak:=QA.out p (qT hp);obtain⟨bl,ol,hbl,HIl⟩:=HIx.out i p hp;subst hbl;have HLp:=zh hp;clear hp;obtain⟨yy,hxy⟩:=zG x.packs p zAt;obtain⟨AY,mF,og,jo,oh,sO,sQ,sS,xE,uT,xG,yc,uG,yg,EN,AZ,EO,CV,zA,CW,oq,kF,nP,rQ,qB,uU,uV,yh,Ef,je⟩:=jy (bK.out W0 zr) hxy;first|subst oq| (simp only[qG,qO,and_true]at oq;obtain⟨rfl,rfl⟩:=oq)
    have Ny4:=zh qB;have jq:=zh je;have xR:=zh hxy;clear je hxy kF nP rQ qB uU uV;have Qs:Hid (∀W,O0 W0 W->aS 7 wz B W (.slice yc uG yg) yy.deps):=fun W ho=>(jq.out W ho).2.2.2.2.1;have hdb:=HDb.out yy (qT xR.out);rw[Ny4.out]at hdb;obtain⟨_,_,-,hb3,hb4⟩:=(Qs.out W0 zr).shape;rw[Ny4.out]at hb3;obtain⟨ao,co,hvo,-,-⟩:=Ko.out.shape;subst hvo;go_wp2_with fail;clear k0 k1 k2;refine aU (fun w'=>O0 bD w') zk zk (by exact zr.drew) ?_;refine qV ?_;refine qV ?_ (hy:=zAl);iterate 3 refine qV ?_
    refine qV ?_ (hy:=zAl);iterate 2 refine qV ?_
    refine qV ?_ (hy:=zAl);refine qV ?_;refine wpQuiet_nil ?_;(intro w9 dR;have fK:=zh (gK.out.same dR);have U5:=zh dR;clear dR);have hs9:=U5.out;have U6:Hid (aS 1 bU w9.heap.size w9 (.slice ao lo.length co) lo):=(Ko.out.keep bU.keep (Kp.dV hs9)).lift bU.lift hs9.size (qH _);have HL9:=HLo;clear hs9;obtain⟨k0,k1,k2⟩:=aF.out w9 fK.out;go_wp2_with fail;clear k0 k1 k2;go_loopw [5,56] (fun vo vk iJ=>Hid (O0 W0 iJ)/\Hid (O0 w3 iJ)/\∃k:Nat,vk= .int .i64 k/\k<=uG/\∃lo:List Str,Hid (aS 1 bU iJ.heap.size iJ vo lo)/\Hid (lo.length<=aY+i*1000+k)/\Hid (zZ x (q.names++(L.take i).flatMap (QL x)++(yy.deps.take k).map (fun d=>d.on.name))=lo)) (fun _ v _=>uG-(RowKit.intOf v).toNat);case atStart=>exact⟨fK,show Hid _ from aeV.out.same U5.out,0,rfl,qE _,lo,U6,by have:=HL9.out;simp only[Hid];omega,by simpa[Hid]using HS.out⟩
    case round=>
     obtain⟨iJ,rfl⟩:=zB wr;clear fK U6 HL9 Ko HLo HS U5 gK aeV;obtain⟨kU,ajC,k,rfl,hk,lo,Ko,HLo,HS⟩:=hrel;obtain⟨k0,k1,k2⟩:=aF.out iJ kU.out;by_cases ck:k<uG
     ·have iE:=zw (k+1);obtain⟨yz,hxz⟩:=zG yy.deps k (by rw[Ny4.out];omega);obtain⟨JD,vP,vW,vX,vY,wS,wU,wV,sU,sV,sW,sD,ru,sF,qc,wC,EP,ER,Eh,AX,He,NC,jM⟩:=Aq (Qs.out W0 zr) hxz;first|subst qc| (simp only[qG,qO,and_true]at qc;obtain⟨rfl,rfl⟩:=qc)
      have jd:=zh jM;have vS:=zh hxz;clear jM hxz wC EP ER Eh;obtain⟨bv,hbv⟩:=ze (x.nZ yz.on.name);have HVi:Hid (∀W,O0 W0 W->Calls Tryz.prog 129 #[.agg #[.slice (some ⟨AY,mF,none⟩) ak aJ,.slice aO aG aH],.string yz.on.name] W fun e w'=>e= .returned (.bool bv)/\O0 W w'):=fun W hW=>by rw[<-hbv];exact xZ (eX.out W hW) zAt _
      have ajB:=zh AX;have HBv:Hid (x.nZ yz.on.name=bv):=hbv;have F7:Hid (q.names++(L.take i).flatMap (QL x)++(yy.deps.take (k+1)).map (fun d=>d.on.name)=(q.names++(L.take i).flatMap (QL x)++(yy.deps.take k).map (fun d=>d.on.name))++[yz.on.name]):=by rw[Hid,List.take_add_one,vS.out,List.map_append];simp[yW]
      obtain⟨ao,co,hvo,-,-⟩:=Ko.out.shape;subst hvo;clear hbv;go_wp2_with fail;clear k0 k1 k2;refine aU (fun w'=>O0 iJ w') zk zk (by exact zr.drew) ?_;refine qV ?_ (hy:=zBJ);iterate 5 refine qV ?_
      refine qV ?_ (hy:=zBJ);refine bF (v:=.bool bv) (f:=129) (args:= #[.agg #[.slice (some ⟨AY,mF,none⟩) ak aJ,.slice aO aG aH],.string yz.on.name]) (by rfl) ?_ ?_ ?_;·exact zDQ
      ·(intro w hSw;exact(HVi.out w (kU.out.same hSw)).mono fun _ _ ⟨he,ho⟩=>⟨he,hSw.same ho⟩)
      try simp only[Act.put,fA,fD,fB,dW,dX,dY]
      refine wpQuiet_nil ?_;(intro w9 dR;have fK:=zh (kU.out.same dR);have U5:=zh dR;clear dR);have hs9:=U5.out;have U6:Hid (aS 1 bU w9.heap.size w9 (.slice ao lo.length co) lo):=(Ko.out.keep bU.keep (Kp.dV hs9)).lift bU.lift hs9.size (qH _);have HL9:=HLo;cases bv with
      |false=>
       have HS2:Hid (zZ x (q.names++(L.take i).flatMap (QL x)++(yy.deps.take (k+1)).map (fun d=>d.on.name))=lo):=by rw[Hid,F7.out,DK x _ _ false HBv.out,HS.out];rfl
       go_wp2_with fail;go_roundw;case rel=>exact⟨fK,show Hid _ from ajC.out.same U5.out,k+1,by first|rfl|go_num,by omega,lo,U6,by have:=HL9.out;simp only[Hid];omega,HS2⟩
       case measure=>simp[RowKit.intOf]<;>omega
      |true=>
       obtain⟨k0,k1,k2⟩:=aF.out w9 fK.out;have hrz:=(jd.out w9 fK.out).1;have nY:=hrz 0 _ rfl;rw[qF]at nY;clear hrz;go_wp2_with fail;clear k0 k1 k2;refine(Xp U6.out (qH _) (by have:=HL9.out;omega) _ ajB.out).mono ?_;rintro e w8 ⟨v8,rfl,hr8,O8⟩;obtain⟨l8,Zi⟩:=ze (vJ lo yz.on.name);have hl8:=SN lo yz.on.name;rw[Zi]at hr8 hl8;have HS8:Hid (zZ x (q.names++(L.take i).flatMap (QL x)++(yy.deps.take (k+1)).map (fun d=>d.on.name))=l8):=zCc;clear Zi;have uH:=zh (fK.out.same O8);have HR8:=zh hr8;have HL8:Hid (l8.length<=aY+i*1000+(k+1)):=by have:=HL9.out;simp only[Hid];omega
       obtain⟨a8,c8,rfl,-,-⟩:=hr8.shape;have alQ:=zh O8;clear hr8 hl8 O8;go_wp2_with fail;go_roundw;case rel=>exact⟨uH,show Hid _ from(ajC.out.same U5.out).same alQ.out,k+1,by first|rfl|go_num,by omega,l8,HR8,HL8,HS8⟩
       case measure=>simp[RowKit.intOf]<;>omega
     obtain rfl:uG=k:=by omega
     have HS2:Hid (zZ x (q.names++(L.take (i+1)).flatMap (QL x))=lo):=by have h:=HS.out;rw[qI (yG Ny4.out)]at h;rw[Hid,List.take_add_one,HLp.out,List.flatMap_append,<-h,<-yW];have e:x.pack p=yy:=zA6;simp[QL,e]
     obtain⟨ao,co,hvo,-,-⟩:=Ko.out.shape;subst hvo;go_wp2_with fail;go_roundw;case rel=>exact⟨kU,ajC,i+1,by first|rfl|go_num,by omega,lo,Ko,by have:=HLo.out;simp only[Hid];omega,HS2⟩
     case measure=>simp[RowKit.intOf]<;>omega
   obtain rfl:nL=i:=by omega
   obtain⟨ao,co,hvo,-,-⟩:=Ko.out.shape;subst hvo;go_wp2_with fail;go_ret;have hfin:lo=x.names q:=by have h:=HS.out;rw[qI (yG HLn.out),<-HLL.out]at h;rw[<-h,aeS]
   rw[<-hfin];exact⟨_,rfl,Ko.out,aV.out.same gK.out⟩
end
end Go.Proofs.YtdmmebjjojimiaaGreatDoor
