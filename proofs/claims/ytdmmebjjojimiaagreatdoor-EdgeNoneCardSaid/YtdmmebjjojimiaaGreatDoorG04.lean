/- Nd3 Nd4, in one text. -/
import Derived.Test.YtdmmebjjojimiaaGreatDoorG03
set_option maxRecDepth 100000
set_option maxHeartbeats 8000000
set_option linter.all false
namespace Go.Proofs
theorem zA2{p:Prop}(h:p:=by have:=N1.out;omega):p:=h
theorem zCH{p:Prop}(h:p:=by
 refine(oL Td.out).mono ?_
 rintro e w1 ⟨bb,rfl,hb,O1⟩
 have bM:=zh (HO.out.same O1)
 have HOx:=zh O1
 have HB1:=zh hb
 clear O1 hb
 cases bb with
 |false=>
  obtain⟨k0,k1,k2,k3,k4,k5,k6,k7⟩:=aG.out w1 bM.out
  have HR3:=zh (uD HR2.out HOx.out)
  have e0:=HR3.out 0 _ rfl
  have e1:=HR3.out 1 _ rfl
  have e2:=HR3.out 2 _ rfl
  simp only[qF]at e0
  go_wp2_with fail
  refine(oL (eF.keep HS2.out (Kp.iI HOx.out))).mono ?_
  rintro e w2 ⟨bb,rfl,hb,O1⟩
  have fK:=zh (bM.out.same O1)
  have HB2:=zh hb
  clear O1 hb
  cases bb with
  |false=>
   go_wp2_with fail
   go_roundw
   case rel=>exact⟨fK,i+1,by first|rfl|go_num,by omega,show Hid _ from fun z hz=>by
     rcases dI HX.out hz with h|rfl
     ·exact HI.out z h
     ·exact⟨by first|exact HB1.out trivial|exact HB1.out rfl|exact HB1.out,by first|exact HB2.out trivial|exact HB2.out rfl|exact HB2.out⟩⟩
   case measure=>simp[intOf]<;>omega
  |true=>
   go_wp2_with fail
   go_ret
   exact dB.mk true rfl nofun (bW.same fK.out)
 |true=>
  go_wp2_with fail
  go_ret
  exact dB.mk true rfl nofun (bW.same bM.out)):p:=h
theorem zCT{p:Prop}(h:p:=by
 go_wp2_with fail
 go_ret
 exact dB.mk true rfl nofun (bW)):p:=h
theorem zCV{p:Prop}(h:p:=by
 go_wp2_with fail
 go_ret
 exact dB.mk true rfl nofun (bW.same bM.out)):p:=h
theorem zCb{p:Prop}(h:p:=by
 go_wp2_with fail
 go_roundw
 case rel=>exact⟨HO,i+1,by first|rfl|go_num,by omega⟩
 case measure=>simp[intOf]<;>omega):p:=h
theorem zCx{p:Prop}(h:p:=by
 go_wp2_with fail
 go_ret
 exact dB.mk true rfl nofun ((bW.trans HO.out fun _ f=>.inl f))):p:=h
theorem zDt{p:Prop}(h:p:=by
 go_wp2_with fail
 go_roundw
 case rel=>exact⟨bM,i+1,by first|rfl|go_num,by omega⟩
 case measure=>simp[intOf]<;>omega):p:=h
theorem zDy{p:Prop}(h:p:=by
 go_wp2_with fail
 go_ret
 exact dB.mk true rfl nofun (bW.same HO.out)):p:=h
theorem zEx{p:Prop}(h:p:=by
 go_wp2_with fail
 refine(rJ HV.out).mono ?_
 rintro e w1 ⟨bb,rfl,hb,O1⟩
 have bM:=zh (HO.out.same O1)
 clear O1
 cases bb with
 |false=>
  exact zDt
 |true=>
  exact zCV):p:=h
end Go.Proofs
namespace Go.Proofs.YtdmmebjjojimiaaGreatDoor
open Go.RowKit Go.Shelf
theorem Gh{w:World}{b o:Nat}{c1 c2 c3:List Value}(h:w.rangeAt b o (c1++c2++c3)):w.rangeAt b o c1:=fun j u hu=>h j u (by
 have hj:=(qJ.1 hu).1
 rw[yW,yM hj];exact hu)
theorem Ep{w:World}{b o:Nat}{c1 c2 c3:List Value}(h:w.rangeAt b o (c1++c2++c3)):w.rangeAt b o (c1++c2):=fun j u hu=>h j u (by
 have hj:=(qJ.1 hu).1
 rw[yM hj];exact hu)
theorem Es{w:World}{b o:Nat}{c1 c2:List Value}(h:w.rangeAt b o (c1++c2)):w.rangeAt b (o+c1.length) c2:=fun j u hu=>by
 have:=h (c1.length+j) u (by rw[yN zBk];simpa using hu)
 rwa[<-Nat.add_assoc]at this
theorem uD{w w':World}{b o:Nat}{cs:List Value}(h:w.rangeAt b o cs)(k:O0 w w'):w'.rangeAt b o cs:=by intro j u hu;have hb:=World.block_lt_of_cell? _ _ (h j u hu);rw[World.cell?_of_block (w:=w) (k.block b hb (fun f=>f))];exact h j u hu
abbrev jc(s:jE):Prop:=s.sets.length<=20/\s.spans.length<=30
structure Dy (x:iT):Prop where
 bY:x.bY.length<=30
 vars:x.vars.length<=20
 deps:x.deps.length<=40
 cons:x.cons.length<=40
 eG:x.provides.length<=50
 abw:∀z∈x.deps,jc z.on/\jc z.cond
 abx:∀z∈x.cons,jc z.cond/\jc z.with'
section
variable {w w':World} {B:Nat}
def dB(w w':World)(e:Ending)(p:Prop):Prop:= ∃b,e= .returned (.bool b)/\(b=false->p)/\O0 w w'
theorem dB.mk{w w':World}{e:Ending}{p:Prop}(b:Bool)(he:e= .returned (.bool b))(h:b=false->p)(o:O0 w w'):dB w w' e p:=⟨b,he,h,o⟩
theorem rJ{v:Value}{zs:List Str}(h:aQ 1 fM B w v zs):Calls Tryz.prog 46 #[v] w fun e w'=>dB w w' e (zs.length<=50):=by
 obtain⟨ao,cap,rfl,hc1,hc2⟩:=h.shape;have HH:=zh h;obtain⟨n,hn⟩:=ze zs.length;have HN:=zh hn;rw[hn]at hc1⊢;clear h hn;go_enter Tryz.func46,Tryz.ntmps46;by_cases h50:50<n;·go_wp2_with fail;go_ret;exact dB.mk true rfl nofun zr
 go_wp2_with fail;go_loopw [9] (fun vi wr=>Hid (O0 w wr)/\∃i:Nat,vi= .int .i64 i/\i<=n) (fun v _=>n-(intOf v).toNat);case atStart=>exact⟨show Hid _ from Only.refl _ _,0,rfl,qE _⟩
 case round=>
  obtain⟨HO,i,rfl,hi⟩:=hrel;by_cases ci:i<n
  ·have h2:=HH.out;rw[HN.out]at h2;obtain⟨b,off,he,-,-⟩:=h2.at zBC;subst he;obtain⟨s,hx⟩:=zG zs i zAl;obtain⟨cs,hl,hr,rfl,hs⟩:=(h2.keep fM.keep (Kp.iI HO.out)).get hx;have hcell:=hr 0 _ rfl;simp only[yH,qF]at hcell;have jh:=zw (i+1);clear hx h2 hl hr;by_cases hs:100<s.size;·go_wp2_with fail;go_ret;exact dB.mk true rfl nofun HO.out
   exact zCb
  have:i=n:=by omega
  subst this;go_wp2_with fail;go_ret;exact dB.mk false rfl (fun _=>by omega) HO.out
--GEN: printed by anx.py
theorem Wx{v:Value}{zs:List jY}(h:aQ 2 gq B w v zs):Calls Tryz.prog 177 #[v] w fun e w'=>dB w w' e (zs.length<=30):=by
 obtain⟨ao,cap,rfl,hc1,hc2⟩:=h.shape;have HH:=zh h;obtain⟨n,hn⟩:=ze zs.length;have HN:=zh hn;rw[hn]at hc1⊢;clear h hn;go_enter Tryz.func177,Tryz.ntmps177;by_cases q0:30<n;·go_wp2_with fail;go_ret;exact dB.mk true rfl nofun zr
 have nJ:Hid (O0 w w):=Only.refl _ _;have bW:O0 w w:=Only.refl _ _;go_wp2_with fail;go_loopw [9] (fun vi wr=>Hid (O0 w wr)/\∃i:Nat,vi= .int .i64 i/\i<=n) (fun v _=>n-(intOf v).toNat);case atStart=>exact⟨show Hid _ from nJ.out,0,rfl,qE _⟩
 case round=>
  obtain⟨HO,i,rfl,hi⟩:=hrel;by_cases ci:i<n
  ·have h2:=HH.out;try rw[HN.out]at h2
   obtain⟨b,off,he,-,-⟩:=h2.at (by have:=HN.out;omega);subst he;obtain⟨y,hx⟩:=zG zs i zAl;obtain⟨cs,hl,hr,hC⟩:=(h2.keep gq.keep (Kp.iI (bW.trans HO.out fun _ f=>.inl f))).get hx;have jh:=zw (i+1);obtain⟨rfl,-,-⟩:=hC;have hc0:=hr 0 _ rfl;try simp only[qF]at hc0
   have hc1:=hr 1 _ rfl;try simp only[qF]at hc1
   clear hx h2 hl hr;by_cases q0:100<y.lo.size;·exact zCx
   by_cases q1:100<y.hi.size;·exact zCx
   exact zCb
  obtain rfl:n=i:=by omega
  clear hi ci;go_wp2_with fail;go_ret;exact dB.mk false rfl (fun _=>by have:=HN.out;omega) HO.out
theorem oL{cs:List Value}{x:jE}(h:eF B w cs x):Calls Tryz.prog 100 #[.agg cs.toArray] w fun e w'=>dB w w' e (jc x):=by
 obtain⟨o1,o2,c1,c2,rfl,hsz,h1,h2⟩:=h.cells;obtain⟨m1,hm1⟩:=ze x.spans.length;obtain⟨n,hn⟩:=ze x.sets.length;obtain⟨_,_,-,g1,g2⟩:=h1.shape;obtain⟨_,_,e2,g3,g4⟩:=h2.shape;simp only[qU]at e2;obtain⟨-,-,rfl⟩:=e2;rw[hm1]at h1;rw[hn]at h2 g3;have H1:=zh h1;have H2:=zh h2;have HN:=zh hn;rw[hm1,hn];have aG:Hid (∀W,O0 (w.alloc (.cells #[.string x.name,.slice o1 m1 c1,.slice o2 n c2] 108)) W->W.cell? ⟨w.heap.size,0,none⟩=some (.string x.name)/\W.cell? ⟨w.heap.size,1,none⟩=some (.slice o1 m1 c1)/\W.cell? ⟨w.heap.size,2,none⟩=some (.slice o2 n c2)):=fun W ho=>by have hb:=ho.block w.heap.size zAM (fun f=>f);refine⟨?_,?_,?_⟩;all_goals (rw[World.cell?_of_block (w:=(w.alloc (.cells #[.string x.name,.slice o1 m1 c1,.slice o2 n c2] 108))) hb];simp)
 clear h h1 h2 hn hm1 g1 g2;go_enter Tryz.func100,Tryz.ntmps100;have bW:O0 w (w.alloc (.cells #[.string x.name,.slice o1 m1 c1,.slice o2 n c2] 108)):=zr.alloc _;by_cases q0:100<x.name.size;·exact zCT
 by_cases q1:20<n;·exact zCT
 go_wp2_with fail;refine(Wx (H1.out.keep gq.keep (Kp.iI bW))).mono ?_;rintro e w1 ⟨bb,rfl,hb,O1⟩;have bM:=zh ((Only.refl (fun _=>False) (w.alloc (.cells #[.string x.name,.slice o1 m1 c1,.slice o2 n c2] 108))).same O1);clear O1;cases bb with
 |false=>
  have HSp:=zh hb;clear hb;obtain⟨k0,k1,k2⟩:=aG.out w1 bM.out;have nJ:=bM;go_wp2_with fail;go_loopw [22] (fun vi wr=>Hid (O0 (w.alloc (.cells #[.string x.name,.slice o1 m1 c1,.slice o2 n c2] 108)) wr)/\∃i:Nat,vi= .int .i64 i/\i<=n) (fun v _=>n-(intOf v).toNat);case atStart=>exact⟨show Hid _ from nJ.out,0,rfl,qE _⟩
  case round=>
   obtain⟨HO,i,rfl,hi⟩:=hrel;obtain⟨k0,k1,k2⟩:=aG.out wr HO.out;by_cases ci:i<n
   ·have h2:=H2.out;try rw[HN.out]at h2
    obtain⟨b,off,he,-,-⟩:=h2.at (by have:=HN.out;omega);subst he;obtain⟨y,hx⟩:=zG x.sets i zAl;obtain⟨cs,hl,hr,hC⟩:=(h2.keep lg.keep (Kp.iI (bW.trans HO.out fun _ f=>.inl f))).get hx;have jh:=zw (i+1);obtain⟨rfl,-,-⟩:=hC;have hc0:=hr 0 _ rfl;try simp only[qF]at hc0
    have hc1:=hr 1 _ rfl;try simp only[qF]at hc1
    clear hx h2 hl hr;by_cases q0:100<y.name.size;·exact zCx
    by_cases q1:100<y.value.size;·exact zCx
    exact zCb
   obtain rfl:n=i:=by omega
   clear hi ci;go_wp2_with fail;go_ret;exact dB.mk false rfl (fun _=>⟨by have:=HN.out;omega,by first|exact HSp.out trivial|exact HSp.out rfl|exact HSp.out⟩) (bW.same HO.out)
 |true=>exact zCV
theorem N9{cs:List Value}{x:jE}(h:eF B w cs x):Calls Tryz.prog 47 #[.agg cs.toArray] w fun e w'=>dB w w' e (jc x):=by have HH:=zh h;obtain⟨o1,o2,c1,c2,rfl,-,-,-⟩:=h.cells;clear h;go_enter Tryz.func47,Tryz.ntmps47;go_wp2_with fail;refine(oL (eF.keep HH.out (Kp.iI ((Only.refl (fun _=>False) w).alloc _)))).mono ?_;rintro e w1 ⟨b,rfl,hb,O1⟩;have HB:=zh hb;clear hb;go_wp2_with fail;go_ret;exact dB.mk b rfl HB.out (((Only.refl (fun _=>False) w).alloc _).same O1)
theorem IE{cs:List Value}{x:iT}(h:iU B w cs x):Calls Tryz.prog 45 #[.agg cs.toArray] w fun e w'=>dB w w' e (Dy x):=by
 obtain⟨o1,o2,o3,o4,o5,o6,c1,c2,c3,c4,c5,c6,rfl,-,-,h1,h2,h3,h4,h5,h6⟩:=h.cells;obtain⟨n1,hn1⟩:=ze x.bY.length;obtain⟨n2,hn2⟩:=ze x.vars.length;obtain⟨n3,hn3⟩:=ze x.provides.length;obtain⟨n4,hn4⟩:=ze x.deps.length;obtain⟨n5,Wy⟩:=ze x.cons.length;obtain⟨n6,hn6⟩:=ze x.files.length;obtain⟨_,_,e1,g1,g1'⟩:=h1.shape;simp only[qU]at e1;obtain⟨-,-,rfl⟩:=e1;obtain⟨_,_,e2,g2,g2'⟩:=h2.shape;simp only[qU]at e2;obtain⟨-,-,rfl⟩:=e2;obtain⟨_,_,e3,g3,g3'⟩:=h3.shape;simp only[qU]at e3;obtain⟨-,-,rfl⟩:=e3;obtain⟨_,_,e4,g4,g4'⟩:=h4.shape;simp only[qU]at e4;obtain⟨-,-,rfl⟩:=e4;obtain⟨_,_,e5,g5,g5'⟩:=h5.shape;simp only[qU]at e5;obtain⟨-,-,rfl⟩:=e5;obtain⟨_,_,e6,g6,g6'⟩:=h6.shape;simp only[qU]at e6;obtain⟨-,-,rfl⟩:=e6;rw[hn1]at h1 g1;have R1:=zh h1;have N1:=zh hn1;rw[hn2]at h2 g2;have R2:=zh h2;have N2:=zh hn2;rw[hn3]at h3 g3;have R3:=zh h3;have N3:=zh hn3;rw[hn4]at h4 g4;have R4:=zh h4;have N4:=zh hn4;rw[Wy]at h5 g5;have R5:=zh h5;have N5:=zh Wy;rw[hn6]at h6 g6;have R6:=zh h6;rw[hn1,hn2,hn3,hn4,Wy,hn6];have aG:Hid (∀W,O0 (w.alloc (.cells #[.string x.name,.int .i64 x.line,.slice o1 n1 c1,.slice o2 n2 c2,.slice o3 n3 c3,.slice o4 n4 c4,.slice o5 n5 c5,.slice o6 n6 c6] 101)) W->W.cell? ⟨w.heap.size,0,none⟩=some (.string x.name)/\W.cell? ⟨w.heap.size,1,none⟩=some (.int .i64 x.line)/\W.cell? ⟨w.heap.size,2,none⟩=some (.slice o1 n1 c1)/\W.cell? ⟨w.heap.size,3,none⟩=some (.slice o2 n2 c2)/\W.cell? ⟨w.heap.size,4,none⟩=some (.slice o3 n3 c3)/\W.cell? ⟨w.heap.size,5,none⟩=some (.slice o4 n4 c4)/\W.cell? ⟨w.heap.size,6,none⟩=some (.slice o5 n5 c5)/\W.cell? ⟨w.heap.size,7,none⟩=some (.slice o6 n6 c6)):=fun W ho=>by have hb:=ho.block w.heap.size zAM (fun f=>f);refine⟨?_,?_,?_,?_,?_,?_,?_,?_⟩;all_goals (rw[World.cell?_of_block (w:=(w.alloc (.cells #[.string x.name,.int .i64 x.line,.slice o1 n1 c1,.slice o2 n2 c2,.slice o3 n3 c3,.slice o4 n4 c4,.slice o5 n5 c5,.slice o6 n6 c6] 101))) hb];simp)
 clear h h1 h2 h3 h4 h5 h6 hn1 hn2 hn3 hn4 Wy hn6;go_enter Tryz.func45,Tryz.ntmps45;have bW:O0 w (w.alloc (.cells #[.string x.name,.int .i64 x.line,.slice o1 n1 c1,.slice o2 n2 c2,.slice o3 n3 c3,.slice o4 n4 c4,.slice o5 n5 c5,.slice o6 n6 c6] 101)):=zr.alloc _;by_cases q0:100<x.name.size;·exact zCT
 by_cases q1:30<n1;·exact zCT
 by_cases q2:20<n2;·exact zCT
 by_cases q3:40<n4;·exact zCT
 by_cases q4:40<n5;·exact zCT
 go_wp2_with fail;refine(rJ (R3.out.keep fM.keep (Kp.iI bW))).mono ?_;rintro e w1 ⟨bb,rfl,hb,O1⟩;have bM:=zh O1;have HT:=zh hb;clear O1 hb;obtain⟨k0,k1,k2,k3,k4,k5,k6,k7⟩:=aG.out w1 bM.out;cases bb with
 |true=>exact zCV
 |false=>
  replace HT:=zh (HT.out rfl);go_wp2_with fail;refine(rJ (R6.out.keep fM.keep (Kp.iI (bW.same bM.out)))).mono ?_;rintro e w2 ⟨bb,rfl,hb,O1⟩;have nJ:=zh (bM.out.same O1);clear O1 hb;cases bb with
  |false=>
   obtain⟨k0,k1,k2,k3,k4,k5,k6,k7⟩:=aG.out w2 nJ.out;clear bM;go_wp2_with fail;go_loopw [48] (fun vi wr=>Hid (O0 (w.alloc (.cells #[.string x.name,.int .i64 x.line,.slice o1 n1 c1,.slice o2 n2 c2,.slice o3 n3 c3,.slice o4 n4 c4,.slice o5 n5 c5,.slice o6 n6 c6] 101)) wr)/\∃i:Nat,vi= .int .i64 i/\i<=n1) (fun v _=>n1-(intOf v).toNat);case atStart=>exact⟨show Hid _ from nJ.out,0,rfl,qE _⟩
   case round=>
    obtain⟨HO,i,rfl,hi⟩:=hrel;obtain⟨k0,k1,k2,k3,k4,k5,k6,k7⟩:=aG.out wr HO.out;by_cases ci:i<n1
    ·have h2:=R1.out;try rw[N1.out]at h2
     obtain⟨b,off,he,-,-⟩:=h2.at zA2;subst he;obtain⟨y,hx⟩:=zG x.bY i (by rw[N1.out];exact ci);obtain⟨cs,hl,hr,hC⟩:=(h2.keep uZ.keep (Kp.iI (bW.trans HO.out fun _ f=>.inl f))).get hx;have jh:=zw (i+1);obtain⟨rfl,-⟩:=hC;have hc0:=hr 0 _ rfl;try simp only[qF]at hc0
     clear hx h2 hl hr;by_cases q:100<y.version.size;·exact zDy
     exact zCb
    obtain rfl:n1=i:=by omega
    clear hi ci;have nJ:=HO;go_wp2_with fail;go_loopw [63] (fun vi wr=>Hid (O0 (w.alloc (.cells #[.string x.name,.int .i64 x.line,.slice o1 n1 c1,.slice o2 n2 c2,.slice o3 n3 c3,.slice o4 n4 c4,.slice o5 n5 c5,.slice o6 n6 c6] 101)) wr)/\∃i:Nat,vi= .int .i64 i/\i<=n2) (fun v _=>n2-(intOf v).toNat);case atStart=>exact⟨show Hid _ from nJ.out,0,rfl,qE _⟩
    case round=>
     obtain⟨HO,i,rfl,hi⟩:=hrel;obtain⟨k0,k1,k2,k3,k4,k5,k6,k7⟩:=aG.out wr HO.out;by_cases ci:i<n2
     ·have h2:=R2.out;try rw[N2.out]at h2
      obtain⟨b,off,he,-,-⟩:=h2.at (by have:=N2.out;omega);subst he;obtain⟨y,hx⟩:=zG x.vars i (by rw[N2.out];exact ci);obtain⟨cs,hl,hr,hC⟩:=(h2.keep pR.keep (Kp.iI (bW.trans HO.out fun _ f=>.inl f))).get hx;have jh:=zw (i+1);obtain⟨v1,rfl,-,hv⟩:=hC;obtain⟨p1,d1,rfl,-,-⟩:=hv.shape;have hc0:=hr 0 _ rfl;try simp only[qF]at hc0
      have hc1:=hr 1 _ rfl;try simp only[qF]at hc1
      have HV:=zh hv;clear hx h2 hl hr hv;by_cases q:100<y.name.size;·exact zDy
      exact zEx
     obtain rfl:n2=i:=by omega
     clear hi ci;have nJ:=HO;go_wp2_with fail;go_loopw [87] (fun vi wr=>Hid (O0 (w.alloc (.cells #[.string x.name,.int .i64 x.line,.slice o1 n1 c1,.slice o2 n2 c2,.slice o3 n3 c3,.slice o4 n4 c4,.slice o5 n5 c5,.slice o6 n6 c6] 101)) wr)/\∃i:Nat,vi= .int .i64 i/\i<=n4/\Hid (∀z∈x.deps.take i,jc z.on/\jc z.cond)) (fun v _=>n4-(intOf v).toNat);case atStart=>exact⟨show Hid _ from nJ.out,0,rfl,qE _,show Hid _ from fun z hz=>by simp at hz⟩
     case round=>
      obtain⟨HO,i,rfl,hi,HI⟩:=hrel;obtain⟨k0,k1,k2,k3,k4,k5,k6,k7⟩:=aG.out wr HO.out;by_cases ci:i<n4
      ·have h2:=R4.out;try rw[N4.out]at h2
       obtain⟨b,off,he,-,-⟩:=h2.at (by have:=N4.out;omega);subst he;obtain⟨y,hx⟩:=zG x.deps i (by rw[N4.out];exact ci);obtain⟨cs,hl,hr,hC⟩:=(h2.keep nC.keep (Kp.iI (bW.trans HO.out fun _ f=>.inl f))).get hx;have jh:=zw (i+1);obtain⟨s1,s2,rfl,hS1,hS2,-⟩:=hC;have Td:=zh hS1;have HS2:=zh hS2;obtain⟨p1,p2,d1,d2,rfl,-,-,-⟩:=hS1.cells;obtain⟨p3,p4,d3,d4,rfl,-,-,-⟩:=hS2.cells;have HR1:=zh (show wr.rangeAt b (off+i*7) _ from Gh hr);have HR2:=zh (show wr.rangeAt b (off+i*7+3) _ from Es (Ep hr));have HX:=zh hx;clear hx h2 hl hr hS1 hS2;go_wp2_with (refine wpList_load_mid rfl 108 (.tmp 94) rfl b (off+i*7) rfl _ _ HR1.out Tryz.underlying108 rfl zk ?_);exact zCH
      obtain rfl:n4=i:=by omega
      clear hi ci;have nJ:=HO;have HSd:Hid (∀z∈x.deps,jc z.on/\jc z.cond):=by have:=HI.out;rw[qI (yG N4.out)]at this;exact this
      clear HI;go_wp2_with fail;go_loopw [110] (fun vi wr=>Hid (O0 (w.alloc (.cells #[.string x.name,.int .i64 x.line,.slice o1 n1 c1,.slice o2 n2 c2,.slice o3 n3 c3,.slice o4 n4 c4,.slice o5 n5 c5,.slice o6 n6 c6] 101)) wr)/\∃i:Nat,vi= .int .i64 i/\i<=n5/\Hid (∀z∈x.cons.take i,jc z.cond/\jc z.with')) (fun v _=>n5-(intOf v).toNat);case atStart=>exact⟨show Hid _ from nJ.out,0,rfl,qE _,show Hid _ from fun z hz=>by simp at hz⟩
      case round=>
       obtain⟨HO,i,rfl,hi,HI⟩:=hrel;obtain⟨k0,k1,k2,k3,k4,k5,k6,k7⟩:=aG.out wr HO.out;by_cases ci:i<n5
       ·have h2:=R5.out;try rw[N5.out]at h2
        obtain⟨b,off,he,-,-⟩:=h2.at (by have:=N5.out;omega);subst he;obtain⟨y,hx⟩:=zG x.cons i (by rw[N5.out];exact ci);obtain⟨cs,hl,hr,hC⟩:=(h2.keep sU.keep (Kp.iI (bW.trans HO.out fun _ f=>.inl f))).get hx;have jh:=zw (i+1);obtain⟨s1,s2,rfl,hS1,hS2,-⟩:=hC;have Td:=zh hS1;have HS2:=zh hS2;obtain⟨p1,p2,d1,d2,rfl,-,-,-⟩:=hS1.cells;obtain⟨p3,p4,d3,d4,rfl,-,-,-⟩:=hS2.cells;have HR1:=zh (show wr.rangeAt b (off+i*7) _ from Gh hr);have HR2:=zh (show wr.rangeAt b (off+i*7+3) _ from Es (Ep hr));have HX:=zh hx;clear hx h2 hl hr hS1 hS2;go_wp2_with (refine wpList_load_mid rfl 108 (.tmp 117) rfl b (off+i*7) rfl _ _ HR1.out Tryz.underlying108 rfl zk ?_);exact zCH
       obtain rfl:n5=i:=by omega
       clear hi ci;go_wp2_with fail;go_ret;exact dB.mk false rfl (fun _=>⟨by have:=N1.out;omega,by have:=N2.out;omega,by have:=N4.out;omega,by have:=N5.out;omega,by have:=N3.out;have:=HT.out;omega,HSd.out,by
        have:=HI.out
        rw[qI (yG N5.out)]at this
        exact this⟩) (bW.same HO.out)
  |true=>go_wp2_with fail;go_ret;exact dB.mk true rfl nofun (bW.same nJ.out)
end
theorem Ob{w:World}{b o:Nat}{c1 c2:List Value}(h:w.rangeAt b o (c1++c2)):w.rangeAt b o c1:=fun j u hu=>h j u (by
 have hj:=(qJ.1 hu).1
 rw[yM hj];exact hu)
structure rM (x:aH):Prop where
 packs:x.packs.length<=30
 iH:x.iH.length<=20
 all:∀p∈x.packs,Dy p
section
variable {w w':World} {B:Nat}
theorem WA{cs:List Value}{x:aH}(h:jl B w cs x):Calls Tryz.prog 7 #[.agg cs.toArray] w fun e w'=>dB w w' e (rM x):=by
 obtain⟨v1,v2,rfl,h1,h2⟩:=h;obtain⟨o1,c1,rfl,g1,g1'⟩:=h1.shape;obtain⟨o2,c2,rfl,g2,g2'⟩:=h2.shape;obtain⟨n1,hn1⟩:=ze x.packs.length;obtain⟨n2,hn2⟩:=ze x.iH.length;rw[hn1]at h1 g1;rw[hn2]at h2 g2;have R1:=zh h1;have R2:=zh h2;have N1:=zh hn1;have N2:=zh hn2;rw[hn1,hn2];have aG:Hid (∀W,O0 (w.alloc (.cells #[.slice o1 n1 c1,.slice o2 n2 c2] 25)) W->W.cell? ⟨w.heap.size,0,none⟩=some (.slice o1 n1 c1)/\W.cell? ⟨w.heap.size,1,none⟩=some (.slice o2 n2 c2)):=fun W ho=>by have hb:=ho.block w.heap.size zAM (fun f=>f);refine⟨?_,?_⟩;all_goals (rw[World.cell?_of_block (w:=(w.alloc (.cells #[.slice o1 n1 c1,.slice o2 n2 c2] 25))) hb];simp)
 clear h1 h2 hn1 hn2;go_enter Tryz.func7,Tryz.ntmps7;have bW:O0 w (w.alloc (.cells #[.slice o1 n1 c1,.slice o2 n2 c2] 25)):=zr.alloc _;have nJ:Hid (O0 (w.alloc (.cells #[.slice o1 n1 c1,.slice o2 n2 c2] 25)) (w.alloc (.cells #[.slice o1 n1 c1,.slice o2 n2 c2] 25))):=Only.refl _ _;by_cases q0:30<n1;·exact zCT
 by_cases q1:20<n2;·exact zCT
 go_wp2_with fail;go_loopw [18] (fun vi wr=>Hid (O0 (w.alloc (.cells #[.slice o1 n1 c1,.slice o2 n2 c2] 25)) wr)/\∃i:Nat,vi= .int .i64 i/\i<=n1/\Hid (∀p∈x.packs.take i,Dy p)) (fun v _=>n1-(intOf v).toNat);case atStart=>exact⟨show Hid _ from nJ.out,0,rfl,qE _,show Hid _ from fun z hz=>by simp at hz⟩
 case round=>
  obtain⟨HO,i,rfl,hi,HI⟩:=hrel;obtain⟨k0,k1⟩:=aG.out wr HO.out;by_cases ci:i<n1
  ·have h2:=R1.out;try rw[N1.out]at h2
   obtain⟨b,off,he,-,-⟩:=h2.at zA2;subst he;obtain⟨y,hx⟩:=zG x.packs i (by rw[N1.out];exact ci);obtain⟨cs,hl,hr,hC⟩:=(h2.keep iU.keep (Kp.iI (bW.trans HO.out fun _ f=>.inl f))).get hx;have jh:=zw (i+1);have HX:=zh hx;have HC:=zh hC;obtain⟨p1,p2,p3,p4,p5,p6,d1,d2,d3,d4,d5,d6,rfl,-⟩:=hC.cells;have HR:=zh hr;clear hx h2 hl hr hC;go_wp2_with (refine wpList_load_mid rfl 101 (.tmp 24) rfl b (off+i*8) rfl _ _ HR.out Tryz.underlying101 rfl zk ?_);refine(IE HC.out).mono ?_;rintro e w1 ⟨bb,rfl,hb,O1⟩;have bM:=zh (HO.out.same O1);have HB:=zh hb;clear O1 hb;cases bb with
   |false=>
    go_wp2_with fail;go_roundw;case rel=>exact⟨bM,i+1,by first|rfl|go_num,by omega,show Hid _ from fun z hz=>by
      rcases dI HX.out hz with h|rfl
      ·exact HI.out z h
      ·first|exact HB.out|exact HB.out trivial|exact HB.out rfl⟩
    case measure=>simp[intOf]<;>omega
   |true=>exact zCV
  obtain rfl:n1=i:=by omega
  clear hi ci;have nJ:=HO;have HS:Hid (∀p∈x.packs,Dy p):=by have:=HI.out;rw[qI (yG N1.out)]at this;exact this
  clear HI;go_wp2_with fail;go_loopw [31] (fun vi wr=>Hid (O0 (w.alloc (.cells #[.slice o1 n1 c1,.slice o2 n2 c2] 25)) wr)/\∃i:Nat,vi= .int .i64 i/\i<=n2) (fun v _=>n2-(intOf v).toNat);case atStart=>exact⟨show Hid _ from nJ.out,0,rfl,qE _⟩
  case round=>
   obtain⟨HO,i,rfl,hi⟩:=hrel;obtain⟨k0,k1⟩:=aG.out wr HO.out;by_cases ci:i<n2
   ·have h2:=R2.out;try rw[N2.out]at h2
    obtain⟨b,off,he,-,-⟩:=h2.at (by have:=N2.out;omega);subst he;obtain⟨y,hx⟩:=zG x.iH i (by rw[N2.out];exact ci);obtain⟨cs,hl,hr,hC⟩:=(h2.keep nS.keep (Kp.iI (bW.trans HO.out fun _ f=>.inl f))).get hx;have jh:=zw (i+1);obtain⟨v1,rfl,-,-,hv⟩:=hC;obtain⟨p1,d1,rfl,-,-⟩:=hv.shape;have hc0:=hr 0 _ rfl;try simp only[qF]at hc0
    have hc1:=hr 1 _ rfl;try simp only[qF]at hc1
    have HV:=zh hv;clear hx h2 hl hr hv;by_cases q:100<y.virtual.size;·exact zDy
    exact zEx
   obtain rfl:n2=i:=by omega
   clear hi ci;go_wp2_with fail;go_ret;exact dB.mk false rfl (fun _=>⟨by have:=N1.out;omega,by have:=N2.out;omega,HS.out⟩) (bW.same HO.out)
theorem WC{cs:List Value}{x:fV}(h:mV B w cs x):Calls Tryz.prog 8 #[.agg cs.toArray] w fun e w'=>dB w w' e (x.roots.length<=40/\∀z∈x.roots,jc z.spec):=by
 obtain⟨v1,rfl,h1⟩:=h;obtain⟨o1,c1,rfl,g1,g1'⟩:=h1.shape;obtain⟨n1,hn1⟩:=ze x.roots.length;rw[hn1]at h1 g1;have R1:=zh h1;have N1:=zh hn1;rw[hn1];have aG:Hid (∀W,O0 (w.alloc (.cells #[.slice o1 n1 c1] 28)) W->W.cell? ⟨w.heap.size,0,none⟩=some (.slice o1 n1 c1)):=fun W ho=>by have hb:=ho.block w.heap.size zAM (fun f=>f);refine ?_;all_goals (rw[World.cell?_of_block (w:=(w.alloc (.cells #[.slice o1 n1 c1] 28))) hb];simp)
 clear h1 hn1;go_enter Tryz.func8,Tryz.ntmps8;have bW:O0 w (w.alloc (.cells #[.slice o1 n1 c1] 28)):=zr.alloc _;have nJ:Hid (O0 (w.alloc (.cells #[.slice o1 n1 c1] 28)) (w.alloc (.cells #[.slice o1 n1 c1] 28))):=Only.refl _ _;by_cases q0:40<n1;·exact zCT
 go_wp2_with fail;go_loopw [11] (fun vi wr=>Hid (O0 (w.alloc (.cells #[.slice o1 n1 c1] 28)) wr)/\∃i:Nat,vi= .int .i64 i/\i<=n1/\Hid (∀z∈x.roots.take i,jc z.spec)) (fun v _=>n1-(intOf v).toNat);case atStart=>exact⟨show Hid _ from nJ.out,0,rfl,qE _,show Hid _ from fun z hz=>by simp at hz⟩
 case round=>
  obtain⟨HO,i,rfl,hi,HI⟩:=hrel;have k0:=aG.out wr HO.out;by_cases ci:i<n1
  ·have h2:=R1.out;try rw[N1.out]at h2
   obtain⟨b,off,he,-,-⟩:=h2.at zA2;subst he;obtain⟨y,hx⟩:=zG x.roots i (by rw[N1.out];exact ci);obtain⟨cs,hl,hr,hC⟩:=(h2.keep lY.keep (Kp.iI (bW.trans HO.out fun _ f=>.inl f))).get hx;have jh:=zw (i+1);have hx0:=hx;obtain⟨s1,rfl,hS1,-⟩:=hC;have Td:=zh hS1;have HR1:=zh (Ob hr);obtain⟨p1,p2,d1,d2,rfl,-,-,-⟩:=hS1.cells;clear hx h2 hl hr hS1;have HX:=zh hx0;clear hx0;have e0:=HR1.out 0 _ rfl;have e1:=HR1.out 1 _ rfl;have e2:=HR1.out 2 _ rfl;simp only[qF]at e0;go_wp2_with fail;refine(N9 Td.out).mono ?_;rintro e w1 ⟨bb,rfl,hb,O1⟩;have bM:=zh (HO.out.same O1);have HB:=zh hb;clear O1 hb;cases bb with
   |false=>
    go_wp2_with fail;go_roundw;case rel=>exact⟨bM,i+1,by first|rfl|go_num,by omega,show Hid _ from fun z hz=>by
      rcases dI HX.out hz with h|rfl
      ·exact HI.out z h
      ·first|exact HB.out trivial|exact HB.out rfl|exact HB.out⟩
    case measure=>simp[intOf]<;>omega
   |true=>exact zCV
  obtain rfl:n1=i:=by omega
  clear hi ci;go_wp2_with fail;go_ret;exact dB.mk false rfl (fun _=>⟨by have:=N1.out;omega,by
   have:=HI.out
   rw[qI (yG N1.out)]at this
   exact this⟩) (bW.same HO.out)
end
end Go.Proofs.YtdmmebjjojimiaaGreatDoor
