/- Which literals are so, what follows of a clause, passes over clauses: plain functions.; The walks of cooperref18: Value, Follows, Right. -/
import Derived.Test.YtdmmebjjojimiaaGreatDoorG06
import Derived.Test.YtdmmebjjojimiaaGreatDoorG03
import Derived.Deep.CutBlock
import Derived.Deep.DeepCutAuto
set_option maxRecDepth 100000
set_option maxHeartbeats 8000000
set_option linter.all false
namespace Go.Proofs.YtdmmebjjojimiaaGreatDoor
namespace ig
def value(l:List Int)(x:Int):Int:=
 match l with
 | []=>0
 |y::r=>if y=x then 1 else if y= -x then -1 else value r x
end ig
namespace ig
def andThen(p:List Int×Bool)(f:List Int->List Int×Bool):List Int×Bool:=if p.2 then (p.1,true)else f p.1
end ig
end Go.Proofs.YtdmmebjjojimiaaGreatDoor
namespace Go.Proofs.YtdmmebjjojimiaaGreatDoor
open Go.RowKit
namespace ig
def aoo(k x:Int):Bool:= !wr x&&decide ((x.natAbs:Int)<=k)
def right(k:Int)(c:List Int):Bool:=c.all (aoo k)&&(form c).isSome
theorem ab2{α:Type}(p:α->Bool){c:List α}{k:Nat}(d:α)(h:k<c.length):(c.drop k).all p=(p (c.getD k d)&&(c.drop (k+1)).all p):=by
 rw[List.drop_eq_getElem_cons h,List.all_cons];have e:c.getD k d=c[k]:=by simp[qC,h]
 rw[e]
end ig
end Go.Proofs.YtdmmebjjojimiaaGreatDoor
namespace Go.Proofs
theorem zCG{p:Prop}(h:p:=by
 go_wp2_with fail
 go_ret
 exact⟨rfl,rfl⟩):p:=h
theorem zE6{p:Prop}(h:p:=by
 rintro e w' ⟨rfl,rfl⟩
 go_wp2_with fail
 refine(HAt.out _).mono ?_
 rintro e w' ⟨rfl,rfl⟩
 exact zCG):p:=h
theorem zFP{p:Prop}(h:p:=by
 go_enter Tryz.func40,Tryz.ntmps40
 go_wp2_with fail
 refine(AX x hx false HW.out).mono ?_
 rintro e w' ⟨rfl,rfl⟩
 go_wp2_with fail
 refine(HAt.out _).mono ?_
 exact zE6):p:=h
theorem zFQ{p:Prop}(h:p:=by
 go_enter Tryz.func40,Tryz.ntmps40
 go_wp2_with fail
 refine(AX x hx false HW.out).mono ?_
 exact zE6):p:=h
end Go.Proofs
namespace Go.Proofs.YtdmmebjjojimiaaGreatDoor
open Go.RowKit
structure Bools (w:World) (v:Value) (bs:List Bool):Prop where
 shape:∃ao cap,v= .slice ao bs.length cap/\bs.length<=cap/\cap<=9223372036854775807
 cells:∀ao len cap,v= .slice ao len cap->0<bs.length->∃b off,ao=some ⟨b,off,none⟩/\b<w.heap.size/\∀i,i<bs.length->w.cell? ⟨b,off+i,none⟩=some (.bool (bs.getD i false))
theorem Bools.aH{w w':World}{v:Value}{bs:List Bool}(h:Bools w v bs)(ho:O0 w w'):Bools w' v bs:=by refine⟨h.shape,fun ao len cap hv hp=>?_⟩;obtain⟨b,off,rfl,hb,hc⟩:=h.cells ao len cap hv hp;refine⟨b,off,rfl,Nat.lt_of_lt_of_le hb ho.size,fun i hi=>?_⟩;rw[World.cell?_of_block (w:=w) (ho.block b hb (fun f=>f))];exact hc i hi
theorem Bools.dV{w:World}{v:Value}{bs:List Bool}{t:TypeId}(h:w.ownsRow 0 t 1 v bs.length (bs.map Value.bool)):Bools w v bs:=by obtain⟨ao,cap,rfl,h1,h2⟩:=aJ h;unfold maxLen at h2;refine⟨⟨ao,cap,rfl,h1,by omega⟩,fun ao' len' cap' hv hp=>?_⟩;exact zCJ
namespace ig
def WL(x:Int)(m:List Bool):Bool:=if wr x then false else if x<0 then !(m.getD (x.natAbs-1) false)else m.getD (x.natAbs-1) false
def holdsB(css:List (List Int))(m:List Bool):Bool:=css.all fun c=>c.any fun x=>WL x m
end ig
section
variable {w:World}
theorem WM{v:Value}{m:List Bool}(hm:Bools w v m)(x:Int)(hx:bg x)(r:Bool)(hr:ig.WL x m=r):Calls Tryz.prog 40 #[.int .i64 x,v] w fun e w'=>e= .returned (.bool r)/\w=w':=by
 obtain⟨ao,cap,rfl,hc1,hc2⟩:=hm.shape;subst hr;unfold ig.WL;cases hw:ig.wr x
 ·have HW:=zh hw;have hl:ig.Lit x:=⟨hx,hw⟩;have hlo:=hl.lo;have hne:=hl.ne0;clear hw hl;simp only[Bool.false_eq_true,if_false];by_cases hle:x.natAbs<=m.length
  ·obtain⟨b,off,rfl,_,hcs⟩:=hm.cells _ _ _ rfl zAB;have q:=hcs (x.natAbs-1) zAB;have d1:decide (x.natAbs<=m.length)=true:=qX hle;have hp:1<=x.natAbs:=zAB;clear hcs;generalize m.getD (x.natAbs-1) false=y at*;have hat:=fun W=>(Tf (w:=W) x hx HW.out);have HAt:=zh hat;clear hat;generalize hna:x.natAbs=na at*;clear hna;by_cases hneg:x<0;·rw[if_pos hneg];have d2:decide (x<0)=true:=qX hneg;exact zFP
   rw[if_neg hneg];have d2:decide (x<0)=false:=qP hneg;exact zFP
  have d1:decide (x.natAbs<=m.length)=false:=qP hle;have hz:m.getD (x.natAbs-1) false=false:=by rw[qC,List.getElem?_eq_none zAB];rfl
  rw[hz];have hat:=fun W=>(Tf (w:=W) x hx HW.out);have HAt:=zh hat;clear hat hz;generalize hna:x.natAbs=na at*;clear hna;by_cases hneg:x<0;·rw[if_pos hneg];have d2:decide (x<0)=true:=qX hneg;exact zFQ
  rw[if_neg hneg];have d2:decide (x<0)=false:=qP hneg;exact zFQ
 have HW:=zh hw;clear hw;simp only[if_true];go_enter Tryz.func40,Tryz.ntmps40;go_wp2_with fail;refine(AX x hx true HW.out).mono ?_;rintro e w' ⟨rfl,rfl⟩;exact zCG
theorem ab3{α:Type}(p:α->Bool){c:List α}{k:Nat}(d:α)(h:k<c.length):(c.take (k+1)).any p=((c.take k).any p||p (c.getD k d)):=by
 rw[yL h,List.any_append];have e:c.getD k d=c[k]:=by simp[qC,h]
 rw[e];simp
theorem ZK{vcs v:Value}{css:List (List Int)}{m:List Bool}(hI:tH w vcs css)(hm:Bools w v m)(r:Bool)(hr:ig.holdsB css m=r):Calls Tryz.prog 27 #[vcs,v] w fun e w'=>e= .returned (.bool r)/\w=w':=by
 obtain⟨ac,cc,rfl,hc1,hc2⟩:=hI.shape;have hm0:=hm.shape;obtain⟨ao,cap,rfl,_,_⟩:=hm0;have hR:r=(css.drop 0).all fun c=>c.any fun x=>ig.WL x m:=hr.symm;have HR:=zh hR;clear hr hR;go_enter Tryz.func27,Tryz.ntmps27;go_wp2_with fail;go_loop [10] (fun v=> ∃k:Nat,v= .int .i64 k/\k<=css.length/\r=(css.drop k).all fun c=>c.any fun x=>ig.WL x m) (fun v=>css.length-(intOf v).toNat);case atStart=>exact⟨0,rfl,qE _,HR.out⟩
 case round=>
  clear HR;obtain⟨k,rfl,hk,hR⟩:=hrel;by_cases ck:k<css.length
  ·obtain⟨b,off,u,rfl,_,q,hu⟩:=hI.at ck;obtain⟨au,cu,rfl,hu1,hu2⟩:=hu.shape;rw[ig.ab2 _ [] ck]at hR;have HR:=zh hR;clear hR;have kb:(k:Int)<(css.length:Int):=zAB;generalize css.getD k []=c at*;go_wp2_with fail;go_loop [6,18] (fun vf v=> ∃j:Nat,v= .int .i64 j/\j<=c.length/\vf= .bool ((c.take j).any fun x=>ig.WL x m)) (fun _ v=>c.length-(intOf v).toNat);case atStart=>exact⟨0,rfl,qE _,rfl⟩
   case round=>
    obtain⟨j,rfl,hj,rfl⟩:=hrel;by_cases cj:j<c.length
    ·obtain⟨b2,off2,rfl,_,hcs⟩:=hu.cells _ _ _ rfl zAB;have q2:=hcs j cj;have hx:=hu.range' j;have hat:=ab3 (fun x=>ig.WL x m) 0 cj;have jb:(j:Int)<(c.length:Int):=zAB;clear hcs;generalize c.getD j 0=x at*;have HAT:=zh hat;have HX:=zh hx;clear hat hx;cases hf:(c.take j).any fun x=>ig.WL x m
     ·have HF:=zh hf;clear hf;cases hs:ig.WL x m
      ·have HS:=zh hs;clear hs;go_wp2_with fail;refine(WM hm x HX.out false HS.out).mono ?_;rintro e w' ⟨rfl,rfl⟩;go_wp2_with fail;go_round;case rel=>exact⟨j+1,by go_num,by omega,by rw[HAT.out,HF.out,HS.out];rfl⟩
       case measure=>simp[intOf];omega
      have HS:=zh hs;clear hs;go_wp2_with fail;refine(WM hm x HX.out true HS.out).mono ?_;rintro e w' ⟨rfl,rfl⟩;go_wp2_with fail;go_round;case rel=>exact⟨j+1,by go_num,by omega,by rw[HAT.out,HF.out,HS.out];rfl⟩
      case measure=>simp[intOf];omega
     have HF:=zh hf;clear hf;go_wp2_with fail;go_round;case rel=>exact⟨j+1,by go_num,by omega,by rw[HAT.out,HF.out];rfl⟩
     case measure=>simp[intOf];omega
    have hj':j=c.length:=by omega
    have hte:c.take j=c:=by rw[hj'];exact qI (qH _)
    rw[hte];cases hf:c.any fun x=>ig.WL x m
    ·have hrf:r=false:=by rw[HR.out,hf];rfl
     have HRF:=zh hrf;clear hrf hte hf;go_wp2_with fail;go_ret;rw[HRF.out];exact⟨rfl,rfl⟩
    have HF:=zh hf;clear hf hte;go_wp2_with fail;go_round;case rel=>exact⟨k+1,by go_num,by omega,by rw[HR.out,HF.out];simp⟩
    case measure=>simp[intOf];omega
  have hrt:r=true:=by rw[hR,List.drop_of_length_le zAB];rfl
  have Yy:=zh hrt;clear hrt hR;go_wp2_with fail;go_ret;rw[Yy.out];exact⟨rfl,rfl⟩
end
end Go.Proofs.YtdmmebjjojimiaaGreatDoor
namespace Go.Proofs
theorem zAq{p:Prop}(h:p:=by have:=N1.out;omega):p:=h
theorem zB6{p:Prop}(h:p:=by
 refine(nR WQ.out).mono ?_
 rintro e w1 ⟨bb,rfl,hb,O1⟩
 have aW:=zh (HO.out.same O1)
 have HOx:=zh O1
 have HB1:=zh hb
 clear O1 hb
 cases bb with
 |false=>
  obtain⟨k0,k1,k2,k3,k4,k5,k6,k7⟩:=aU.out w1 aW.out
  have HR3:=zh (sZ HR2.out HOx.out)
  have e0:=HR3.out 0 _ rfl
  have e1:=HR3.out 1 _ rfl
  have e2:=HR3.out 2 _ rfl
  simp only[qF]at e0
  go_wp2_with fail
  refine(nR (dB.keep HS2.out (Kp.gV HOx.out))).mono ?_
  rintro e w2 ⟨bb,rfl,hb,O1⟩
  have iO:=zh (aW.out.same O1)
  have HB2:=zh hb
  clear O1 hb
  cases bb with
  |false=>
   go_wp2_with fail
   go_roundw
   case rel=>exact⟨iO,i+1,by first|rfl|go_num,by omega,show Hid _ from fun z hz=>by
     rcases bH HX.out hz with h|rfl
     ·exact HI.out z h
     ·exact⟨by first|exact HB1.out trivial|exact HB1.out rfl|exact HB1.out,by first|exact HB2.out trivial|exact HB2.out rfl|exact HB2.out⟩⟩
   case measure=>simp[intOf]<;>omega
  |true=>
   go_wp2_with fail
   go_ret
   exact bV.mk true rfl nofun (bM.same iO.out)
 |true=>
  go_wp2_with fail
  go_ret
  exact bV.mk true rfl nofun (bM.same aW.out)):p:=h
theorem zCN{p:Prop}(h:p:=by
 go_wp2_with fail
 go_ret
 exact bV.mk true rfl nofun (bM)):p:=h
theorem zCQ{p:Prop}(h:p:=by
 go_wp2_with fail
 go_ret
 exact bV.mk true rfl nofun (bM.same aW.out)):p:=h
theorem zCR{p:Prop}(h:p:=by
 go_wp2_with fail
 go_roundw
 case rel=>exact⟨HO,i+1,by first|rfl|go_num,by omega⟩
 case measure=>simp[intOf]<;>omega):p:=h
theorem zCu{p:Prop}(h:p:=by
 go_wp2_with fail
 go_ret
 exact bV.mk true rfl nofun ((bM.trans HO.out fun _ f=>.inl f))):p:=h
theorem zDz{p:Prop}(h:p:=by
 go_wp2_with fail
 go_roundw
 case rel=>exact⟨aW,i+1,by first|rfl|go_num,by omega⟩
 case measure=>simp[intOf]<;>omega):p:=h
theorem zD7{p:Prop}(h:p:=by
 go_wp2_with fail
 go_ret
 exact bV.mk true rfl nofun (bM.same HO.out)):p:=h
theorem zFB{p:Prop}(h:p:=by
 go_wp2_with fail
 refine(qm HV.out).mono ?_
 rintro e w1 ⟨bb,rfl,hb,O1⟩
 have aW:=zh (HO.out.same O1)
 clear O1
 cases bb with
 |false=>
  exact zDz
 |true=>
  exact zCQ):p:=h
end Go.Proofs
namespace Go.Proofs.YtdmmebjjojimiaaGreatDoor
open Go.RowKit Go.Shelf
theorem Fp{w:World}{b o:Nat}{c1 c2 c3:List Value}(h:w.rangeAt b o (c1++c2++c3)):w.rangeAt b o c1:=fun j u hu=>h j u (by
 have hj:=(qJ.1 hu).1
 rw[yW,yM hj];exact hu)
theorem Dv{w:World}{b o:Nat}{c1 c2 c3:List Value}(h:w.rangeAt b o (c1++c2++c3)):w.rangeAt b o (c1++c2):=fun j u hu=>h j u (by
 have hj:=(qJ.1 hu).1
 rw[yM hj];exact hu)
theorem Dw{w:World}{b o:Nat}{c1 c2:List Value}(h:w.rangeAt b o (c1++c2)):w.rangeAt b (o+c1.length) c2:=fun j u hu=>by
 have:=h (c1.length+j) u (by rw[yN zAB];simpa using hu)
 rwa[<-Nat.add_assoc]at this
theorem sZ{w w':World}{b o:Nat}{cs:List Value}(h:w.rangeAt b o cs)(k:O0 w w'):w'.rangeAt b o cs:=by intro j u hu;have hb:=World.block_lt_of_cell? _ _ (h j u hu);rw[World.cell?_of_block (w:=w) (k.block b hb (fun f=>f))];exact h j u hu
abbrev gU(s:gZ):Prop:=s.sets.length<=20/\s.spans.length<=30
structure BU (x:fP):Prop where
 aX:x.aX.length<=30
 vars:x.vars.length<=20
 deps:x.deps.length<=40
 cons:x.cons.length<=40
 dh:x.provides.length<=50
 ab5:∀z∈x.deps,gU z.on/\gU z.cond
 ab6:∀z∈x.cons,gU z.cond/\gU z.with'
section
variable {w w':World} {B:Nat}
def bV(w w':World)(e:Ending)(p:Prop):Prop:= ∃b,e= .returned (.bool b)/\(b=false->p)/\O0 w w'
theorem bV.mk{w w':World}{e:Ending}{p:Prop}(b:Bool)(he:e= .returned (.bool b))(h:b=false->p)(o:O0 w w'):bV w w' e p:=⟨b,he,h,o⟩
theorem qm{v:Value}{zs:List Str}(h:aQ 1 dN B w v zs):Calls Tryz.prog 46 #[v] w fun e w'=>bV w w' e (zs.length<=50):=by
 obtain⟨ao,cap,rfl,hc1,hc2⟩:=h.shape;have HH:=zh h;obtain⟨n,hn⟩:=ze zs.length;have HN:=zh hn;rw[hn]at hc1⊢;clear h hn;go_enter Tryz.func46,Tryz.ntmps46;by_cases h50:50<n;·go_wp2_with fail;go_ret;exact bV.mk true rfl nofun zr
 go_wp2_with fail;go_loopw [9] (fun vi wr=>Hid (O0 w wr)/\∃i:Nat,vi= .int .i64 i/\i<=n) (fun v _=>n-(intOf v).toNat);case atStart=>exact⟨show Hid _ from Only.refl _ _,0,rfl,qE _⟩
 case round=>
  obtain⟨HO,i,rfl,hi⟩:=hrel;by_cases ci:i<n
  ·have h2:=HH.out;rw[HN.out]at h2;obtain⟨b,off,he,-,-⟩:=h2.at zAi;subst he;obtain⟨s,hx⟩:=zG zs i zAT;obtain⟨cs,hl,hr,rfl,hs⟩:=(h2.keep dN.keep (Kp.gV HO.out)).get hx;have hcell:=hr 0 _ rfl;simp only[yH,qF]at hcell;have iG:=zw (i+1);clear hx h2 hl hr;by_cases hs:100<s.size;·go_wp2_with fail;go_ret;exact bV.mk true rfl nofun HO.out
   exact zCR
  have:i=n:=by omega
  subst this;go_wp2_with fail;go_ret;exact bV.mk false rfl (fun _=>by omega) HO.out
--GEN: printed by anu.py
theorem WO{v:Value}{zs:List jm}(h:aQ 2 eY B w v zs):Calls Tryz.prog 177 #[v] w fun e w'=>bV w w' e (zs.length<=30):=by
 obtain⟨ao,cap,rfl,hc1,hc2⟩:=h.shape;have HH:=zh h;obtain⟨n,hn⟩:=ze zs.length;have HN:=zh hn;rw[hn]at hc1⊢;clear h hn;go_enter Tryz.func177,Tryz.ntmps177;by_cases q0:30<n;·go_wp2_with fail;go_ret;exact bV.mk true rfl nofun zr
 have iZ:Hid (O0 w w):=Only.refl _ _;have bM:O0 w w:=Only.refl _ _;go_wp2_with fail;go_loopw [9] (fun vi wr=>Hid (O0 w wr)/\∃i:Nat,vi= .int .i64 i/\i<=n) (fun v _=>n-(intOf v).toNat);case atStart=>exact⟨show Hid _ from iZ.out,0,rfl,qE _⟩
 case round=>
  obtain⟨HO,i,rfl,hi⟩:=hrel;by_cases ci:i<n
  ·have h2:=HH.out;try rw[HN.out]at h2
   obtain⟨b,off,he,-,-⟩:=h2.at (by have:=HN.out;omega);subst he;obtain⟨y,hx⟩:=zG zs i zAT;obtain⟨cs,hl,hr,hC⟩:=(h2.keep eY.keep (Kp.gV (bM.trans HO.out fun _ f=>.inl f))).get hx;have iG:=zw (i+1);obtain⟨rfl,-,-⟩:=hC;have hc0:=hr 0 _ rfl;try simp only[qF]at hc0
   have hc1:=hr 1 _ rfl;try simp only[qF]at hc1
   clear hx h2 hl hr;by_cases q0:100<y.lo.size;·exact zCu
   by_cases q1:100<y.hi.size;·exact zCu
   exact zCR
  obtain rfl:n=i:=by omega
  clear hi ci;go_wp2_with fail;go_ret;exact bV.mk false rfl (fun _=>by have:=HN.out;omega) HO.out
theorem nR{cs:List Value}{x:gZ}(h:dB B w cs x):Calls Tryz.prog 100 #[.agg cs.toArray] w fun e w'=>bV w w' e (gU x):=by
 obtain⟨o1,o2,c1,c2,rfl,hsz,h1,h2⟩:=h.cells;obtain⟨m1,hm1⟩:=ze x.spans.length;obtain⟨n,hn⟩:=ze x.sets.length;obtain⟨_,_,-,g1,g2⟩:=h1.shape;obtain⟨_,_,e2,g3,g4⟩:=h2.shape;simp only[qU]at e2;obtain⟨-,-,rfl⟩:=e2;rw[hm1]at h1;rw[hn]at h2 g3;have H1:=zh h1;have H2:=zh h2;have HN:=zh hn;rw[hm1,hn];have aU:Hid (∀W,O0 (w.alloc (.cells #[.string x.name,.slice o1 m1 c1,.slice o2 n c2] 108)) W->W.cell? ⟨w.heap.size,0,none⟩=some (.string x.name)/\W.cell? ⟨w.heap.size,1,none⟩=some (.slice o1 m1 c1)/\W.cell? ⟨w.heap.size,2,none⟩=some (.slice o2 n c2)):=fun W ho=>by have hb:=ho.block w.heap.size zAF (fun f=>f);refine⟨?_,?_,?_⟩;all_goals (rw[World.cell?_of_block (w:=(w.alloc (.cells #[.string x.name,.slice o1 m1 c1,.slice o2 n c2] 108))) hb];simp)
 clear h h1 h2 hn hm1 g1 g2;go_enter Tryz.func100,Tryz.ntmps100;have bM:O0 w (w.alloc (.cells #[.string x.name,.slice o1 m1 c1,.slice o2 n c2] 108)):=zr.alloc _;by_cases q0:100<x.name.size;·exact zCN
 by_cases q1:20<n;·exact zCN
 go_wp2_with fail;refine(WO (H1.out.keep eY.keep (Kp.gV bM))).mono ?_;rintro e w1 ⟨bb,rfl,hb,O1⟩;have aW:=zh ((Only.refl (fun _=>False) (w.alloc (.cells #[.string x.name,.slice o1 m1 c1,.slice o2 n c2] 108))).same O1);clear O1;cases bb with
 |false=>
  have HSp:=zh hb;clear hb;obtain⟨k0,k1,k2⟩:=aU.out w1 aW.out;have iZ:=aW;go_wp2_with fail;go_loopw [22] (fun vi wr=>Hid (O0 (w.alloc (.cells #[.string x.name,.slice o1 m1 c1,.slice o2 n c2] 108)) wr)/\∃i:Nat,vi= .int .i64 i/\i<=n) (fun v _=>n-(intOf v).toNat);case atStart=>exact⟨show Hid _ from iZ.out,0,rfl,qE _⟩
  case round=>
   obtain⟨HO,i,rfl,hi⟩:=hrel;obtain⟨k0,k1,k2⟩:=aU.out wr HO.out;by_cases ci:i<n
   ·have h2:=H2.out;try rw[HN.out]at h2
    obtain⟨b,off,he,-,-⟩:=h2.at (by have:=HN.out;omega);subst he;obtain⟨y,hx⟩:=zG x.sets i zAT;obtain⟨cs,hl,hr,hC⟩:=(h2.keep ji.keep (Kp.gV (bM.trans HO.out fun _ f=>.inl f))).get hx;have iG:=zw (i+1);obtain⟨rfl,-,-⟩:=hC;have hc0:=hr 0 _ rfl;try simp only[qF]at hc0
    have hc1:=hr 1 _ rfl;try simp only[qF]at hc1
    clear hx h2 hl hr;by_cases q0:100<y.name.size;·exact zCu
    by_cases q1:100<y.value.size;·exact zCu
    exact zCR
   obtain rfl:n=i:=by omega
   clear hi ci;go_wp2_with fail;go_ret;exact bV.mk false rfl (fun _=>⟨by have:=HN.out;omega,by first|exact HSp.out trivial|exact HSp.out rfl|exact HSp.out⟩) (bM.same HO.out)
 |true=>exact zCQ
theorem NC{cs:List Value}{x:gZ}(h:dB B w cs x):Calls Tryz.prog 47 #[.agg cs.toArray] w fun e w'=>bV w w' e (gU x):=by have HH:=zh h;obtain⟨o1,o2,c1,c2,rfl,-,-,-⟩:=h.cells;clear h;go_enter Tryz.func47,Tryz.ntmps47;go_wp2_with fail;refine(nR (dB.keep HH.out (Kp.gV ((Only.refl (fun _=>False) w).alloc _)))).mono ?_;rintro e w1 ⟨b,rfl,hb,O1⟩;have HB:=zh hb;clear hb;go_wp2_with fail;go_ret;exact bV.mk b rfl HB.out (((Only.refl (fun _=>False) w).alloc _).same O1)
theorem Hf{cs:List Value}{x:fP}(h:fQ B w cs x):Calls Tryz.prog 45 #[.agg cs.toArray] w fun e w'=>bV w w' e (BU x):=by
 obtain⟨o1,o2,o3,o4,o5,o6,c1,c2,c3,c4,c5,c6,rfl,-,-,h1,h2,h3,h4,h5,h6⟩:=h.cells;obtain⟨n1,hn1⟩:=ze x.aX.length;obtain⟨n2,hn2⟩:=ze x.vars.length;obtain⟨n3,hn3⟩:=ze x.provides.length;obtain⟨n4,hn4⟩:=ze x.deps.length;obtain⟨n5,hn5⟩:=ze x.cons.length;obtain⟨n6,hn6⟩:=ze x.files.length;obtain⟨_,_,e1,g1,g1'⟩:=h1.shape;simp only[qU]at e1;obtain⟨-,-,rfl⟩:=e1;obtain⟨_,_,e2,g2,g2'⟩:=h2.shape;simp only[qU]at e2;obtain⟨-,-,rfl⟩:=e2;obtain⟨_,_,e3,g3,g3'⟩:=h3.shape;simp only[qU]at e3;obtain⟨-,-,rfl⟩:=e3;obtain⟨_,_,e4,g4,g4'⟩:=h4.shape;simp only[qU]at e4;obtain⟨-,-,rfl⟩:=e4;obtain⟨_,_,e5,g5,g5'⟩:=h5.shape;simp only[qU]at e5;obtain⟨-,-,rfl⟩:=e5;obtain⟨_,_,e6,g6,g6'⟩:=h6.shape;simp only[qU]at e6;obtain⟨-,-,rfl⟩:=e6;rw[hn1]at h1 g1;have R1:=zh h1;have N1:=zh hn1;rw[hn2]at h2 g2;have R2:=zh h2;have N2:=zh hn2;rw[hn3]at h3 g3;have R3:=zh h3;have N3:=zh hn3;rw[hn4]at h4 g4;have R4:=zh h4;have N4:=zh hn4;rw[hn5]at h5 g5;have R5:=zh h5;have N5:=zh hn5;rw[hn6]at h6 g6;have R6:=zh h6;rw[hn1,hn2,hn3,hn4,hn5,hn6];have aU:Hid (∀W,O0 (w.alloc (.cells #[.string x.name,.int .i64 x.line,.slice o1 n1 c1,.slice o2 n2 c2,.slice o3 n3 c3,.slice o4 n4 c4,.slice o5 n5 c5,.slice o6 n6 c6] 101)) W->W.cell? ⟨w.heap.size,0,none⟩=some (.string x.name)/\W.cell? ⟨w.heap.size,1,none⟩=some (.int .i64 x.line)/\W.cell? ⟨w.heap.size,2,none⟩=some (.slice o1 n1 c1)/\W.cell? ⟨w.heap.size,3,none⟩=some (.slice o2 n2 c2)/\W.cell? ⟨w.heap.size,4,none⟩=some (.slice o3 n3 c3)/\W.cell? ⟨w.heap.size,5,none⟩=some (.slice o4 n4 c4)/\W.cell? ⟨w.heap.size,6,none⟩=some (.slice o5 n5 c5)/\W.cell? ⟨w.heap.size,7,none⟩=some (.slice o6 n6 c6)):=fun W ho=>by have hb:=ho.block w.heap.size zAF (fun f=>f);refine⟨?_,?_,?_,?_,?_,?_,?_,?_⟩;all_goals (rw[World.cell?_of_block (w:=(w.alloc (.cells #[.string x.name,.int .i64 x.line,.slice o1 n1 c1,.slice o2 n2 c2,.slice o3 n3 c3,.slice o4 n4 c4,.slice o5 n5 c5,.slice o6 n6 c6] 101))) hb];simp)
 clear h h1 h2 h3 h4 h5 h6 hn1 hn2 hn3 hn4 hn5 hn6;go_enter Tryz.func45,Tryz.ntmps45;have bM:O0 w (w.alloc (.cells #[.string x.name,.int .i64 x.line,.slice o1 n1 c1,.slice o2 n2 c2,.slice o3 n3 c3,.slice o4 n4 c4,.slice o5 n5 c5,.slice o6 n6 c6] 101)):=zr.alloc _;by_cases q0:100<x.name.size;·exact zCN
 by_cases q1:30<n1;·exact zCN
 by_cases q2:20<n2;·exact zCN
 by_cases q3:40<n4;·exact zCN
 by_cases q4:40<n5;·exact zCN
 go_wp2_with fail;refine(qm (R3.out.keep dN.keep (Kp.gV bM))).mono ?_;rintro e w1 ⟨bb,rfl,hb,O1⟩;have aW:=zh O1;have HT:=zh hb;clear O1 hb;obtain⟨k0,k1,k2,k3,k4,k5,k6,k7⟩:=aU.out w1 aW.out;cases bb with
 |true=>exact zCQ
 |false=>
  replace HT:=zh (HT.out rfl);go_wp2_with fail;refine(qm (R6.out.keep dN.keep (Kp.gV (bM.same aW.out)))).mono ?_;rintro e w2 ⟨bb,rfl,hb,O1⟩;have iZ:=zh (aW.out.same O1);clear O1 hb;cases bb with
  |false=>
   obtain⟨k0,k1,k2,k3,k4,k5,k6,k7⟩:=aU.out w2 iZ.out;clear aW;go_wp2_with fail;go_loopw [48] (fun vi wr=>Hid (O0 (w.alloc (.cells #[.string x.name,.int .i64 x.line,.slice o1 n1 c1,.slice o2 n2 c2,.slice o3 n3 c3,.slice o4 n4 c4,.slice o5 n5 c5,.slice o6 n6 c6] 101)) wr)/\∃i:Nat,vi= .int .i64 i/\i<=n1) (fun v _=>n1-(intOf v).toNat);case atStart=>exact⟨show Hid _ from iZ.out,0,rfl,qE _⟩
   case round=>
    obtain⟨HO,i,rfl,hi⟩:=hrel;obtain⟨k0,k1,k2,k3,k4,k5,k6,k7⟩:=aU.out wr HO.out;by_cases ci:i<n1
    ·have h2:=R1.out;try rw[N1.out]at h2
     obtain⟨b,off,he,-,-⟩:=h2.at zAq;subst he;obtain⟨y,hx⟩:=zG x.aX i (by rw[N1.out];exact ci);obtain⟨cs,hl,hr,hC⟩:=(h2.keep oh.keep (Kp.gV (bM.trans HO.out fun _ f=>.inl f))).get hx;have iG:=zw (i+1);obtain⟨rfl,-⟩:=hC;have hc0:=hr 0 _ rfl;try simp only[qF]at hc0
     clear hx h2 hl hr;by_cases q:100<y.version.size;·exact zD7
     exact zCR
    obtain rfl:n1=i:=by omega
    clear hi ci;have iZ:=HO;go_wp2_with fail;go_loopw [63] (fun vi wr=>Hid (O0 (w.alloc (.cells #[.string x.name,.int .i64 x.line,.slice o1 n1 c1,.slice o2 n2 c2,.slice o3 n3 c3,.slice o4 n4 c4,.slice o5 n5 c5,.slice o6 n6 c6] 101)) wr)/\∃i:Nat,vi= .int .i64 i/\i<=n2) (fun v _=>n2-(intOf v).toNat);case atStart=>exact⟨show Hid _ from iZ.out,0,rfl,qE _⟩
    case round=>
     obtain⟨HO,i,rfl,hi⟩:=hrel;obtain⟨k0,k1,k2,k3,k4,k5,k6,k7⟩:=aU.out wr HO.out;by_cases ci:i<n2
     ·have h2:=R2.out;try rw[N2.out]at h2
      obtain⟨b,off,he,-,-⟩:=h2.at (by have:=N2.out;omega);subst he;obtain⟨y,hx⟩:=zG x.vars i (by rw[N2.out];exact ci);obtain⟨cs,hl,hr,hC⟩:=(h2.keep jM.keep (Kp.gV (bM.trans HO.out fun _ f=>.inl f))).get hx;have iG:=zw (i+1);obtain⟨v1,rfl,-,hv⟩:=hC;obtain⟨p1,d1,rfl,-,-⟩:=hv.shape;have hc0:=hr 0 _ rfl;try simp only[qF]at hc0
      have hc1:=hr 1 _ rfl;try simp only[qF]at hc1
      have HV:=zh hv;clear hx h2 hl hr hv;by_cases q:100<y.name.size;·exact zD7
      exact zFB
     obtain rfl:n2=i:=by omega
     clear hi ci;have iZ:=HO;go_wp2_with fail;go_loopw [87] (fun vi wr=>Hid (O0 (w.alloc (.cells #[.string x.name,.int .i64 x.line,.slice o1 n1 c1,.slice o2 n2 c2,.slice o3 n3 c3,.slice o4 n4 c4,.slice o5 n5 c5,.slice o6 n6 c6] 101)) wr)/\∃i:Nat,vi= .int .i64 i/\i<=n4/\Hid (∀z∈x.deps.take i,gU z.on/\gU z.cond)) (fun v _=>n4-(intOf v).toNat);case atStart=>exact⟨show Hid _ from iZ.out,0,rfl,qE _,show Hid _ from fun z hz=>by simp at hz⟩
     case round=>
      obtain⟨HO,i,rfl,hi,HI⟩:=hrel;obtain⟨k0,k1,k2,k3,k4,k5,k6,k7⟩:=aU.out wr HO.out;by_cases ci:i<n4
      ·have h2:=R4.out;try rw[N4.out]at h2
       obtain⟨b,off,he,-,-⟩:=h2.at (by have:=N4.out;omega);subst he;obtain⟨y,hx⟩:=zG x.deps i (by rw[N4.out];exact ci);obtain⟨cs,hl,hr,hC⟩:=(h2.keep nH.keep (Kp.gV (bM.trans HO.out fun _ f=>.inl f))).get hx;have iG:=zw (i+1);obtain⟨s1,s2,rfl,hS1,hS2,-⟩:=hC;have WQ:=zh hS1;have HS2:=zh hS2;obtain⟨p1,p2,d1,d2,rfl,-,-,-⟩:=hS1.cells;obtain⟨p3,p4,d3,d4,rfl,-,-,-⟩:=hS2.cells;have HR1:=zh (show wr.rangeAt b (off+i*7) _ from Fp hr);have HR2:=zh (show wr.rangeAt b (off+i*7+3) _ from Dw (Dv hr));have HX:=zh hx;clear hx h2 hl hr hS1 hS2;go_wp2_with (refine wpList_load_mid rfl 108 (.tmp 94) rfl b (off+i*7) rfl _ _ HR1.out Tryz.underlying108 rfl zk ?_);exact zB6
      obtain rfl:n4=i:=by omega
      clear hi ci;have iZ:=HO;have HSd:Hid (∀z∈x.deps,gU z.on/\gU z.cond):=by have:=HI.out;rw[qI (yG N4.out)]at this;exact this
      clear HI;go_wp2_with fail;go_loopw [110] (fun vi wr=>Hid (O0 (w.alloc (.cells #[.string x.name,.int .i64 x.line,.slice o1 n1 c1,.slice o2 n2 c2,.slice o3 n3 c3,.slice o4 n4 c4,.slice o5 n5 c5,.slice o6 n6 c6] 101)) wr)/\∃i:Nat,vi= .int .i64 i/\i<=n5/\Hid (∀z∈x.cons.take i,gU z.cond/\gU z.with')) (fun v _=>n5-(intOf v).toNat);case atStart=>exact⟨show Hid _ from iZ.out,0,rfl,qE _,show Hid _ from fun z hz=>by simp at hz⟩
      case round=>
       obtain⟨HO,i,rfl,hi,HI⟩:=hrel;obtain⟨k0,k1,k2,k3,k4,k5,k6,k7⟩:=aU.out wr HO.out;by_cases ci:i<n5
       ·have h2:=R5.out;try rw[N5.out]at h2
        obtain⟨b,off,he,-,-⟩:=h2.at (by have:=N5.out;omega);subst he;obtain⟨y,hx⟩:=zG x.cons i (by rw[N5.out];exact ci);obtain⟨cs,hl,hr,hC⟩:=(h2.keep rF.keep (Kp.gV (bM.trans HO.out fun _ f=>.inl f))).get hx;have iG:=zw (i+1);obtain⟨s1,s2,rfl,hS1,hS2,-⟩:=hC;have WQ:=zh hS1;have HS2:=zh hS2;obtain⟨p1,p2,d1,d2,rfl,-,-,-⟩:=hS1.cells;obtain⟨p3,p4,d3,d4,rfl,-,-,-⟩:=hS2.cells;have HR1:=zh (show wr.rangeAt b (off+i*7) _ from Fp hr);have HR2:=zh (show wr.rangeAt b (off+i*7+3) _ from Dw (Dv hr));have HX:=zh hx;clear hx h2 hl hr hS1 hS2;go_wp2_with (refine wpList_load_mid rfl 108 (.tmp 117) rfl b (off+i*7) rfl _ _ HR1.out Tryz.underlying108 rfl zk ?_);exact zB6
       obtain rfl:n5=i:=by omega
       clear hi ci;go_wp2_with fail;go_ret;exact bV.mk false rfl (fun _=>⟨by have:=N1.out;omega,by have:=N2.out;omega,by have:=N4.out;omega,by have:=N5.out;omega,by have:=N3.out;have:=HT.out;omega,HSd.out,by
        have:=HI.out
        rw[qI (yG N5.out)]at this
        exact this⟩) (bM.same HO.out)
  |true=>go_wp2_with fail;go_ret;exact bV.mk true rfl nofun (bM.same iZ.out)
end
theorem ND{w:World}{b o:Nat}{c1 c2:List Value}(h:w.rangeAt b o (c1++c2)):w.rangeAt b o c1:=fun j u hu=>h j u (by
 have hj:=(qJ.1 hu).1
 rw[yM hj];exact hu)
structure uj (x:aF):Prop where
 packs:x.packs.length<=30
 cO:x.cO.length<=20
 all:∀p∈x.packs,BU p
section
variable {w w':World} {B:Nat}
theorem WR{cs:List Value}{x:aF}(h:gy B w cs x):Calls Tryz.prog 7 #[.agg cs.toArray] w fun e w'=>bV w w' e (uj x):=by
 obtain⟨v1,v2,rfl,h1,h2⟩:=h;obtain⟨o1,c1,rfl,g1,g1'⟩:=h1.shape;obtain⟨o2,c2,rfl,g2,g2'⟩:=h2.shape;obtain⟨n1,hn1⟩:=ze x.packs.length;obtain⟨n2,hn2⟩:=ze x.cO.length;rw[hn1]at h1 g1;rw[hn2]at h2 g2;have R1:=zh h1;have R2:=zh h2;have N1:=zh hn1;have N2:=zh hn2;rw[hn1,hn2];have aU:Hid (∀W,O0 (w.alloc (.cells #[.slice o1 n1 c1,.slice o2 n2 c2] 25)) W->W.cell? ⟨w.heap.size,0,none⟩=some (.slice o1 n1 c1)/\W.cell? ⟨w.heap.size,1,none⟩=some (.slice o2 n2 c2)):=fun W ho=>by have hb:=ho.block w.heap.size zAF (fun f=>f);refine⟨?_,?_⟩;all_goals (rw[World.cell?_of_block (w:=(w.alloc (.cells #[.slice o1 n1 c1,.slice o2 n2 c2] 25))) hb];simp)
 clear h1 h2 hn1 hn2;go_enter Tryz.func7,Tryz.ntmps7;have bM:O0 w (w.alloc (.cells #[.slice o1 n1 c1,.slice o2 n2 c2] 25)):=zr.alloc _;have iZ:Hid (O0 (w.alloc (.cells #[.slice o1 n1 c1,.slice o2 n2 c2] 25)) (w.alloc (.cells #[.slice o1 n1 c1,.slice o2 n2 c2] 25))):=Only.refl _ _;by_cases q0:30<n1;·exact zCN
 by_cases q1:20<n2;·exact zCN
 go_wp2_with fail;go_loopw [18] (fun vi wr=>Hid (O0 (w.alloc (.cells #[.slice o1 n1 c1,.slice o2 n2 c2] 25)) wr)/\∃i:Nat,vi= .int .i64 i/\i<=n1/\Hid (∀p∈x.packs.take i,BU p)) (fun v _=>n1-(intOf v).toNat);case atStart=>exact⟨show Hid _ from iZ.out,0,rfl,qE _,show Hid _ from fun z hz=>by simp at hz⟩
 case round=>
  obtain⟨HO,i,rfl,hi,HI⟩:=hrel;obtain⟨k0,k1⟩:=aU.out wr HO.out;by_cases ci:i<n1
  ·have h2:=R1.out;try rw[N1.out]at h2
   obtain⟨b,off,he,-,-⟩:=h2.at zAq;subst he;obtain⟨y,hx⟩:=zG x.packs i (by rw[N1.out];exact ci);obtain⟨cs,hl,hr,hC⟩:=(h2.keep fQ.keep (Kp.gV (bM.trans HO.out fun _ f=>.inl f))).get hx;have iG:=zw (i+1);have HX:=zh hx;have HC:=zh hC;obtain⟨p1,p2,p3,p4,p5,p6,d1,d2,d3,d4,d5,d6,rfl,-⟩:=hC.cells;have HR:=zh hr;clear hx h2 hl hr hC;go_wp2_with (refine wpList_load_mid rfl 101 (.tmp 24) rfl b (off+i*8) rfl _ _ HR.out Tryz.underlying101 rfl zk ?_);refine(Hf HC.out).mono ?_;rintro e w1 ⟨bb,rfl,hb,O1⟩;have aW:=zh (HO.out.same O1);have HB:=zh hb;clear O1 hb;cases bb with
   |false=>
    go_wp2_with fail;go_roundw;case rel=>exact⟨aW,i+1,by first|rfl|go_num,by omega,show Hid _ from fun z hz=>by
      rcases bH HX.out hz with h|rfl
      ·exact HI.out z h
      ·first|exact HB.out|exact HB.out trivial|exact HB.out rfl⟩
    case measure=>simp[intOf]<;>omega
   |true=>exact zCQ
  obtain rfl:n1=i:=by omega
  clear hi ci;have iZ:=HO;have HS:Hid (∀p∈x.packs,BU p):=by have:=HI.out;rw[qI (yG N1.out)]at this;exact this
  clear HI;go_wp2_with fail;go_loopw [31] (fun vi wr=>Hid (O0 (w.alloc (.cells #[.slice o1 n1 c1,.slice o2 n2 c2] 25)) wr)/\∃i:Nat,vi= .int .i64 i/\i<=n2) (fun v _=>n2-(intOf v).toNat);case atStart=>exact⟨show Hid _ from iZ.out,0,rfl,qE _⟩
  case round=>
   obtain⟨HO,i,rfl,hi⟩:=hrel;obtain⟨k0,k1⟩:=aU.out wr HO.out;by_cases ci:i<n2
   ·have h2:=R2.out;try rw[N2.out]at h2
    obtain⟨b,off,he,-,-⟩:=h2.at (by have:=N2.out;omega);subst he;obtain⟨y,hx⟩:=zG x.cO i (by rw[N2.out];exact ci);obtain⟨cs,hl,hr,hC⟩:=(h2.keep lK.keep (Kp.gV (bM.trans HO.out fun _ f=>.inl f))).get hx;have iG:=zw (i+1);obtain⟨v1,rfl,-,-,hv⟩:=hC;obtain⟨p1,d1,rfl,-,-⟩:=hv.shape;have hc0:=hr 0 _ rfl;try simp only[qF]at hc0
    have hc1:=hr 1 _ rfl;try simp only[qF]at hc1
    have HV:=zh hv;clear hx h2 hl hr hv;by_cases q:100<y.virtual.size;·exact zD7
    exact zFB
   obtain rfl:n2=i:=by omega
   clear hi ci;go_wp2_with fail;go_ret;exact bV.mk false rfl (fun _=>⟨by have:=N1.out;omega,by have:=N2.out;omega,HS.out⟩) (bM.same HO.out)
theorem WS{cs:List Value}{x:dH}(h:lW B w cs x):Calls Tryz.prog 8 #[.agg cs.toArray] w fun e w'=>bV w w' e (x.roots.length<=40/\∀z∈x.roots,gU z.spec):=by
 obtain⟨v1,rfl,h1⟩:=h;obtain⟨o1,c1,rfl,g1,g1'⟩:=h1.shape;obtain⟨n1,hn1⟩:=ze x.roots.length;rw[hn1]at h1 g1;have R1:=zh h1;have N1:=zh hn1;rw[hn1];have aU:Hid (∀W,O0 (w.alloc (.cells #[.slice o1 n1 c1] 28)) W->W.cell? ⟨w.heap.size,0,none⟩=some (.slice o1 n1 c1)):=fun W ho=>by have hb:=ho.block w.heap.size zAF (fun f=>f);refine ?_;all_goals (rw[World.cell?_of_block (w:=(w.alloc (.cells #[.slice o1 n1 c1] 28))) hb];simp)
 clear h1 hn1;go_enter Tryz.func8,Tryz.ntmps8;have bM:O0 w (w.alloc (.cells #[.slice o1 n1 c1] 28)):=zr.alloc _;have iZ:Hid (O0 (w.alloc (.cells #[.slice o1 n1 c1] 28)) (w.alloc (.cells #[.slice o1 n1 c1] 28))):=Only.refl _ _;by_cases q0:40<n1;·exact zCN
 go_wp2_with fail;go_loopw [11] (fun vi wr=>Hid (O0 (w.alloc (.cells #[.slice o1 n1 c1] 28)) wr)/\∃i:Nat,vi= .int .i64 i/\i<=n1/\Hid (∀z∈x.roots.take i,gU z.spec)) (fun v _=>n1-(intOf v).toNat);case atStart=>exact⟨show Hid _ from iZ.out,0,rfl,qE _,show Hid _ from fun z hz=>by simp at hz⟩
 case round=>
  obtain⟨HO,i,rfl,hi,HI⟩:=hrel;have k0:=aU.out wr HO.out;by_cases ci:i<n1
  ·have h2:=R1.out;try rw[N1.out]at h2
   obtain⟨b,off,he,-,-⟩:=h2.at zAq;subst he;obtain⟨y,hx⟩:=zG x.roots i (by rw[N1.out];exact ci);obtain⟨cs,hl,hr,hC⟩:=(h2.keep lM.keep (Kp.gV (bM.trans HO.out fun _ f=>.inl f))).get hx;have iG:=zw (i+1);have hx0:=hx;obtain⟨s1,rfl,hS1,-⟩:=hC;have WQ:=zh hS1;have HR1:=zh (ND hr);obtain⟨p1,p2,d1,d2,rfl,-,-,-⟩:=hS1.cells;clear hx h2 hl hr hS1;have HX:=zh hx0;clear hx0;have e0:=HR1.out 0 _ rfl;have e1:=HR1.out 1 _ rfl;have e2:=HR1.out 2 _ rfl;simp only[qF]at e0;go_wp2_with fail;refine(NC WQ.out).mono ?_;rintro e w1 ⟨bb,rfl,hb,O1⟩;have aW:=zh (HO.out.same O1);have HB:=zh hb;clear O1 hb;cases bb with
   |false=>
    go_wp2_with fail;go_roundw;case rel=>exact⟨aW,i+1,by first|rfl|go_num,by omega,show Hid _ from fun z hz=>by
      rcases bH HX.out hz with h|rfl
      ·exact HI.out z h
      ·first|exact HB.out trivial|exact HB.out rfl|exact HB.out⟩
    case measure=>simp[intOf]<;>omega
   |true=>exact zCQ
  obtain rfl:n1=i:=by omega
  clear hi ci;go_wp2_with fail;go_ret;exact bV.mk false rfl (fun _=>⟨by have:=N1.out;omega,by
   have:=HI.out
   rw[qI (yG N1.out)]at this
   exact this⟩) (bM.same HO.out)
end
end Go.Proofs.YtdmmebjjojimiaaGreatDoor
namespace Go.Proofs.YtdmmebjjojimiaaGreatDoor
open Go.RowKit
section
variable {w w':World} {B:Nat}
def fH(l:List Str):List Value:=l.map Value.string
theorem zM:Az Tryz.prog 81 9 1 16:=Az.mk' (z:=.string .empty) Tryz.underlying81 zk rfl zAD
theorem ab7(w:World):(w.alloc (.cells #[] 9)).ownsRow 0 9 1 (.slice (some ⟨w.heap.size,0,none⟩) 0 0) 0 []:=World.ownsRow_lit (base:=0) (e:=9) (size:=1) w #[] 0 (qE _) zBY zAF
theorem sG{v:Value}{l:List Str}{n:Nat}(hn:l.length=n)(h:w.ownsRow 0 9 1 v n (fH l))(hk:∀s∈l,okS s):aQ 1 dN w.heap.size w v l:=by
 subst hn;refine aQ.dV h fun i hi=>⟨[.string l[i]],rfl,fun j u hu=>?_,rfl,hk _ (qZ hi)⟩;obtain rfl:j=0:=by have:=(qJ.1 hu).1;simpa using this
 simp at hu;subst hu;simp[fH,hi]
theorem BX{s:Str}(h:s.size=0):s=⟨#[]⟩:=by have:s.data.size=0:=h;cases s with|mk d=>simp at this;rw[this]
theorem ZL{s:Str}(h:0<s.size):s.toList≠[]:=fun e=>by
 have h1:s.data.toList=[]:=by rw[<-ByteArray.toList_eq];exact e
 have:s.data.size=0:=by rw[<-Array.length_toList,h1];rfl
 have h2:s.size=0:=this
 omega
def ahK(w:World)(n:Nat)(v:Value)(wr:World):Prop:=Hid (O0 w wr)/\∃i:Nat,v= .int .i64 i/\i<=n
end
end Go.Proofs.YtdmmebjjojimiaaGreatDoor
