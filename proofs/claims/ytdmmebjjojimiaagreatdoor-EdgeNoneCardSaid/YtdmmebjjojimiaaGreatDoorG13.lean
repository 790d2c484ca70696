/- Which literals are so, what follows of a clause, passes over clauses: plain functions.; The walks of cooperref18: Value, Follows, Right. -/
import Derived.Test.YtdmmebjjojimiaaGreatDoorG08
import Derived.Test.YtdmmebjjojimiaaGreatDoorG07
import Derived.Deep.CutBlock
import Derived.Deep.DeepCutAuto
set_option maxRecDepth 100000
set_option maxHeartbeats 8000000
set_option linter.all false
namespace Go.Proofs.YtdmmebjjojimiaaGreatDoor
namespace iE
def value(l:List Int)(x:Int):Int:=
 match l with
 | []=>0
 |y::r=>if y=x then 1 else if y= -x then -1 else value r x
end iE
namespace iE
def andThen(p:List Int×Bool)(f:List Int->List Int×Bool):List Int×Bool:=if p.2 then (p.1,true)else f p.1
end iE
end Go.Proofs.YtdmmebjjojimiaaGreatDoor
namespace Go.Proofs.YtdmmebjjojimiaaGreatDoor
open Go.RowKit
namespace iE
def apr(k x:Int):Bool:= !wr x&&decide ((x.natAbs:Int)<=k)
def right(k:Int)(c:List Int):Bool:=c.all (apr k)&&(form c).isSome
theorem acf{α:Type}(p:α->Bool){c:List α}{k:Nat}(d:α)(h:k<c.length):(c.drop k).all p=(p (c.getD k d)&&(c.drop (k+1)).all p):=by
 rw[List.drop_eq_getElem_cons h,List.all_cons];have e:c.getD k d=c[k]:=by simp[qC,h]
 rw[e]
end iE
end Go.Proofs.YtdmmebjjojimiaaGreatDoor
namespace Go.Proofs
theorem zCX{p:Prop}(h:p:=by
 rintro e w' ⟨rfl,rfl⟩
 go_wp2_with fail
 refine(HAt.out _).mono ?_
 rintro e w' ⟨rfl,rfl⟩
 go_wp2_with fail
 go_ret
 exact⟨rfl,rfl⟩):p:=h
theorem zEy{p:Prop}(h:p:=by
 go_enter Tryz.func40,Tryz.ntmps40
 go_wp2_with fail
 refine(wU x hx false HW.out).mono ?_
 rintro e w' ⟨rfl,rfl⟩
 go_wp2_with fail
 refine(HAt.out _).mono ?_
 exact zCX):p:=h
theorem zE1{p:Prop}(h:p:=by
 go_enter Tryz.func40,Tryz.ntmps40
 go_wp2_with fail
 refine(wU x hx false HW.out).mono ?_
 exact zCX):p:=h
end Go.Proofs
namespace Go.Proofs.YtdmmebjjojimiaaGreatDoor
open Go.RowKit
structure Bools (w:World) (v:Value) (bs:List Bool):Prop where
 shape:∃ao cap,v= .slice ao bs.length cap/\bs.length<=cap/\cap<=9223372036854775807
 cells:∀ao len cap,v= .slice ao len cap->0<bs.length->∃b off,ao=some ⟨b,off,none⟩/\b<w.heap.size/\∀i,i<bs.length->w.cell? ⟨b,off+i,none⟩=some (.bool (bs.getD i false))
theorem Bools.aN{w w':World}{v:Value}{bs:List Bool}(h:Bools w v bs)(ho:O0 w w'):Bools w' v bs:=by refine⟨h.shape,fun ao len cap hv hp=>?_⟩;obtain⟨b,off,rfl,hb,hc⟩:=h.cells ao len cap hv hp;refine⟨b,off,rfl,Nat.lt_of_lt_of_le hb ho.size,fun i hi=>?_⟩;rw[World.cell?_of_block (w:=w) (ho.block b hb (fun f=>f))];exact hc i hi
theorem Bools.fH{w:World}{v:Value}{bs:List Bool}{t:TypeId}(h:w.ownsRow 0 t 1 v bs.length (bs.map Value.bool)):Bools w v bs:=by obtain⟨ao,cap,rfl,h1,h2⟩:=aC h;unfold maxLen at h2;refine⟨⟨ao,cap,rfl,h1,by omega⟩,fun ao' len' cap' hv hp=>?_⟩;exact zFB
namespace iE
def Xk(x:Int)(m:List Bool):Bool:=if wr x then false else if x<0 then !(m.getD (x.natAbs-1) false)else m.getD (x.natAbs-1) false
def holdsB(css:List (List Int))(m:List Bool):Bool:=css.all fun c=>c.any fun x=>Xk x m
end iE
section
variable {w:World}
theorem acg{v:Value}{m:List Bool}(hm:Bools w v m)(x:Int)(hx:bU x)(r:Bool)(hr:iE.Xk x m=r):Calls Tryz.prog 40 #[.int .i64 x,v] w fun e w'=>e= .returned (.bool r)/\w=w':=by
 obtain⟨ao,cap,rfl,hc1,hc2⟩:=hm.shape;subst hr;unfold iE.Xk;cases hw:iE.wr x
 ·have HW:=zh hw;have hl:iE.Lit x:=⟨hx,hw⟩;have hlo:=hl.lo;have hne:=hl.ne0;clear hw hl;simp only[Bool.false_eq_true,if_false];by_cases hle:x.natAbs<=m.length
  ·obtain⟨b,off,rfl,_,hcs⟩:=hm.cells _ _ _ rfl zBk;have q:=hcs (x.natAbs-1) zBk;have d1:decide (x.natAbs<=m.length)=true:=qX hle;have hp:1<=x.natAbs:=zBk;clear hcs;generalize m.getD (x.natAbs-1) false=y at*;have hat:=fun W=>(GL (w:=W) x hx HW.out);have HAt:=zh hat;clear hat;generalize hna:x.natAbs=na at*;clear hna;by_cases hneg:x<0;·rw[if_pos hneg];have d2:decide (x<0)=true:=qX hneg;exact zEy
   rw[if_neg hneg];have d2:decide (x<0)=false:=qP hneg;exact zEy
  have d1:decide (x.natAbs<=m.length)=false:=qP hle;have hz:m.getD (x.natAbs-1) false=false:=by rw[qC,List.getElem?_eq_none zBk];rfl
  rw[hz];have hat:=fun W=>(GL (w:=W) x hx HW.out);have HAt:=zh hat;clear hat hz;generalize hna:x.natAbs=na at*;clear hna;by_cases hneg:x<0;·rw[if_pos hneg];have d2:decide (x<0)=true:=qX hneg;exact zE1
  rw[if_neg hneg];have d2:decide (x<0)=false:=qP hneg;exact zE1
 have HW:=zh hw;clear hw;simp only[if_true];go_enter Tryz.func40,Tryz.ntmps40;go_wp2_with fail;refine(wU x hx true HW.out).mono ?_;rintro e w' ⟨rfl,rfl⟩;go_wp2_with fail;exact zCd
theorem ach{α:Type}(p:α->Bool){c:List α}{k:Nat}(d:α)(h:k<c.length):(c.take (k+1)).any p=((c.take k).any p||p (c.getD k d)):=by
 rw[yL h,List.any_append];have e:c.getD k d=c[k]:=by simp[qC,h]
 rw[e];simp
theorem ZQ{vcs v:Value}{css:List (List Int)}{m:List Bool}(hI:En w vcs css)(hm:Bools w v m)(r:Bool)(hr:iE.holdsB css m=r):Calls Tryz.prog 27 #[vcs,v] w fun e w'=>e= .returned (.bool r)/\w=w':=by
 obtain⟨ac,cc,rfl,hc1,hc2⟩:=hI.shape;have hm0:=hm.shape;obtain⟨ao,cap,rfl,_,_⟩:=hm0;have hR:r=(css.drop 0).all fun c=>c.any fun x=>iE.Xk x m:=hr.symm;have HR:=zh hR;clear hr hR;go_enter Tryz.func27,Tryz.ntmps27;go_wp2_with fail;go_loop [10] (fun v=> ∃k:Nat,v= .int .i64 k/\k<=css.length/\r=(css.drop k).all fun c=>c.any fun x=>iE.Xk x m) (fun v=>css.length-(intOf v).toNat);case atStart=>exact⟨0,rfl,qE _,HR.out⟩
 case round=>
  clear HR;obtain⟨k,rfl,hk,hR⟩:=hrel;by_cases ck:k<css.length
  ·obtain⟨b,off,u,rfl,_,q,hu⟩:=hI.at ck;obtain⟨au,cu,rfl,hu1,hu2⟩:=hu.shape;rw[iE.acf _ [] ck]at hR;have HR:=zh hR;clear hR;have kb:(k:Int)<(css.length:Int):=zBk;generalize css.getD k []=c at*;go_wp2_with fail;go_loop [6,18] (fun vf v=> ∃j:Nat,v= .int .i64 j/\j<=c.length/\vf= .bool ((c.take j).any fun x=>iE.Xk x m)) (fun _ v=>c.length-(intOf v).toNat);case atStart=>exact⟨0,rfl,qE _,rfl⟩
   case round=>
    obtain⟨j,rfl,hj,rfl⟩:=hrel;by_cases cj:j<c.length
    ·obtain⟨b2,off2,rfl,_,hcs⟩:=hu.cells _ _ _ rfl zBk;have q2:=hcs j cj;have hx:=hu.range' j;have hat:=ach (fun x=>iE.Xk x m) 0 cj;have jb:(j:Int)<(c.length:Int):=zBk;clear hcs;generalize c.getD j 0=x at*;have HAT:=zh hat;have HX:=zh hx;clear hat hx;cases hf:(c.take j).any fun x=>iE.Xk x m
     ·have HF:=zh hf;clear hf;cases hs:iE.Xk x m
      ·have HS:=zh hs;clear hs;go_wp2_with fail;refine(acg hm x HX.out false HS.out).mono ?_;rintro e w' ⟨rfl,rfl⟩;go_wp2_with fail;go_round;case rel=>exact⟨j+1,by go_num,by omega,by rw[HAT.out,HF.out,HS.out];rfl⟩
       case measure=>simp[intOf];omega
      have HS:=zh hs;clear hs;go_wp2_with fail;refine(acg hm x HX.out true HS.out).mono ?_;rintro e w' ⟨rfl,rfl⟩;go_wp2_with fail;go_round;case rel=>exact⟨j+1,by go_num,by omega,by rw[HAT.out,HF.out,HS.out];rfl⟩
      case measure=>simp[intOf];omega
     have HF:=zh hf;clear hf;go_wp2_with fail;go_round;case rel=>exact⟨j+1,by go_num,by omega,by rw[HAT.out,HF.out];rfl⟩
     case measure=>simp[intOf];omega
    have hj':j=c.length:=by omega
    have hte:c.take j=c:=by rw[hj'];exact qI (qH _)
    rw[hte];cases hf:c.any fun x=>iE.Xk x m
    ·have hrf:r=false:=by rw[HR.out,hf];rfl
     have HRF:=zh hrf;clear hrf hte hf;go_wp2_with fail;go_ret;rw[HRF.out];exact⟨rfl,rfl⟩
    have HF:=zh hf;clear hf hte;go_wp2_with fail;go_round;case rel=>exact⟨k+1,by go_num,by omega,by rw[HR.out,HF.out];simp⟩
    case measure=>simp[intOf];omega
  have hrt:r=true:=by rw[hR,List.drop_of_length_le zBk];rfl
  have YD:=zh hrt;clear hrt hR;go_wp2_with fail;go_ret;rw[YD.out];exact⟨rfl,rfl⟩
end
end Go.Proofs.YtdmmebjjojimiaaGreatDoor
namespace Go.Proofs
theorem zAS{p:Prop}(h:p:=by(intro w hSw;obtain⟨k0,k1⟩:=aG.out w (bM.out.same hSw);have CB:=(HEv.out w (bM.out.same hSw)).1;have gv0:=CB 0 _ rfl;have gv1:=CB 1 _ rfl;have gv2:=CB 2 _ rfl;have gv3:=CB 3 _ rfl;have gv4:=CB 4 _ rfl;have gv5:=CB 5 _ rfl;have gv6:=CB 6 _ rfl;have gv7:=CB 7 _ rfl;rw[qF]at gv0;go_simp<;>(try with_reducible rfl))):p:=h
theorem zA7{p:Prop}(h:p:=by first|exact qL _ _| (have hb:=qL Bl.drew (.cells #[.int .u8 0,.int .i64 0] 43);exact aF hb o5 (fun f=>f))):p:=h
theorem zE7{p:Prop}(h:p:=by
 have HBr:Hid (∀V,O0 W3 V->V.cell? ⟨g,0,none⟩=some (.int .u8 c)/\V.cell? ⟨g,1,none⟩=some (.int .i64 l)):=fun V ho=>by
  have b1:=aF hg3 ho (fun f=>f)
  exact⟨by rw[ah b1];rfl,by rw[ah b1];rfl⟩
 clear ho3 hg3 hHeld
 obtain⟨r0,r1⟩:=HBr.out W3 zr
 obtain⟨k0,k1⟩:=aG.out W3 (bM.out.same BL.out)
 by_cases c0:c=0
 ·subst c0
  go_wp2_with fail
  go_roundw
  case rel=>exact⟨BL,j+1,by first|rfl|go_num,by omega⟩
  case measure=>simp[RowKit.intOf]<;>omega
 ·have c1:((c:Int)==0)=false:=by rw[yC];exact c0
  go_wp2_with (refine wpList_store_row rfl 43 (.tmp 2) (.tmp 64) rfl (w.heap.size+1) #[.int .u8 c,.int .i64 l] rfl rfl 43 #[.int .u8 0,.int .i64 0] (xK.out W3 BL.out) zk rfl zk ?_)
  refine jy (p:=2) rfl rfl rfl rfl (setRow_heap _ _ _ _ _ _ (xK.out W3 BL.out)) ?_
  exact ny.mk _ _ rfl (fun h=>absurd h c0) ((bW.out.same (bM.out.same BL.out)).trans (dN _ _ _) (fun k hk=>.inr zBk))):p:=h
theorem zFC{p:Prop}(h:p:=by
 rw[<-hW0,<-hW1]
 exact ny.mk _ _ rfl (fun h=>absurd h zBl) ((bW.out.same (bM.out.same Xl.out)).trans (dN _ _ _) (fun k hk=>.inr zBk))):p:=h
theorem zCa{p:Prop}(h:p:=by(try dsimp only)<;>(exact Only.same hHeld o5)):p:=h
theorem zDf{p:Prop}(h:p:=by(try dsimp only)<;>(exact hHeld.alloc _)):p:=h
end Go.Proofs
namespace Go.Proofs.YtdmmebjjojimiaaGreatDoor
open Go.RowKit
section
variable {w w':World} {B:Nat}
attribute [local irreducible] wpQuiet
def ny(F:Prop)(w w':World)(e:Ending):Prop:= ∃c l:Int,e= .returned (.agg #[.int .u8 c,.int .i64 l])/\(c=0->F)/\O0 w w'
theorem ny.mk{F:Prop}(c l:Int){w w':World}{e:Ending}(he:e= .returned (.agg #[.int .u8 c,.int .i64 l]))(hf:c=0->F)(ho:O0 w w'):ny F w w' e:=⟨c,l,he,hf,ho⟩
theorem zi{P:Program}{o:Oper}{a:Act}{w:World}{K:Act->World->Prop}{Q:Exit->Act->World->Prop}(ty:TypeId)(x y:Operand)(ho:o.op= .store ty x y)
  (g:Nat) (cells:Array Value) (hx:a.eval x= .pointer (some ⟨g,0,none⟩)) (hy:a.eval y= .agg cells)
  (t:TypeId) (old:Array Value) (hg:w.heap[g]? =some (.cells old t (0,0))) (hi:(P.info? ty).map (·.size)=some cells.size)
  (hold:old.size=cells.size) (h1:cells.all (·.oneCell')=true)
  (h:∀W3:World,W3.heap[g]? =some (.cells cells t (0,0))->Only (fun k=>k=g) w W3->K (a.put o.dst undef) W3):o.wp P a w K Q:=
 wp_store_row ty x y ho g cells hx hy t old hg hi hold h1 (h _ (setRow_heap _ _ _ _ _ _ hg) (dN _ _ _))
theorem Uy{tZ:List Value}{x:aH}(hx:jl B w tZ x)(hlen:x.packs.length<=1000000):Calls Tryz.prog 13 #[.agg tZ.toArray] w fun e w'=>ny (∀p∈x.packs,EY p) w w' e:=by
 obtain⟨bQ,aj,aT,bg,aP,aU,rfl,jm,jo,iO,iP,aB,fO,uK⟩:=open_rec hx;clear hx;try rw[aB.out]
 obtain⟨W0,hW0,bW,nR,aG⟩:=Wv w (.slice bQ aj aT) (.slice bg aP aU) 25;obtain⟨kC,dP,eP⟩:=uK W0 bW.out;clear uK;rw[aB.out]at hlen;obtain⟨W1,hW1⟩:=zB (W0.alloc (.cells #[.int .u8 0,.int .i64 0] 43));have bM:Hid (O0 W0 W1):=zAp;have xK:Hid (∀W,O0 W1 W->W.heap[w.heap.size+1]? =some (.cells #[.int .u8 0,.int .i64 0] 43)):=fun W ho=>by have b0:W1.heap[w.heap.size+1]? =some (.cells #[.int .u8 0,.int .i64 0] 43):=zA3;exact aF b0 ho (fun f=>f)
 have Xl:Hid (O0 W1 W1):=Only.refl _ _;by_cases q1:24<aj
 ·obtain⟨yy,hxy⟩:=zG x.packs 24 zAk;obtain⟨xO,lq,sW,mG,sZ,vI,mJ,vJ,Cj,BK,Cm,y7,oK,y8,DY,zK,DZ,EW,Eu,EX,mW,kM,l9,oQ,mY,oU,rZ,xP,BF,jw⟩:=jR (dP.out W0 zr) hxy;first|subst mW| (simp only[qG,qO,and_true]at mW;obtain⟨rfl,rfl⟩:=mW)
  have NQ:=zh kM;have Ny2:=zh l9;have Ny3:=zh oQ;have Gs:=zh mY;have Ny5:=zh oU;have Ny6:=zh rZ;have je:=zh jw;have Af:=zh hxy;clear jw hxy kM l9 oQ mY oU rZ;have BD:Hid (∀W,O0 W0 W->aQ 2 uZ B W (.slice sW mG sZ) yy.bY):=fun W ho=>(je.out W ho).2.1;have IY:Hid (∀W,O0 W0 W->aQ 2 pR B W (.slice vI mJ vJ) yy.vars):=fun W ho=>(je.out W ho).2.2.1;have ahc:Hid (∀W,O0 W0 W->aQ 1 fM B W (.slice Cj BK Cm) yy.provides):=fun W ho=>(je.out W ho).2.2.2.1;have BG:Hid (∀W,O0 W0 W->aQ 7 nC B W (.slice y7 oK y8) yy.deps):=fun W ho=>(je.out W ho).2.2.2.2.1;have aci:Hid (∀W,O0 W0 W->aQ 7 sU B W (.slice DY zK DZ) yy.cons):=fun W ho=>(je.out W ho).2.2.2.2.2.1;have ahd:Hid (∀W,O0 W0 W->aQ 1 fM B W (.slice EW Eu EX) yy.files):=fun W ho=>(je.out W ho).2.2.2.2.2.2.1;have HCy:Hid (∀W,O0 W0 W->iU B W [.string yy.name,.int .i64 yy.line,.slice sW mG sZ,.slice vI mJ vJ,.slice Cj BK Cm,.slice y7 oK y8,.slice DY zK DZ,.slice EW Eu EX] yy):=fun W ho=>(je.out W ho).2.2.2.2.2.2.2;have dM:=(je.out W1 bM.out).1;have Pz:=dM 1 _ rfl;clear dM;obtain⟨k0,k1⟩:=aG.out W1 (bM.out.same Xl.out);have hz:=xK.out W1 Xl.out;rw[hW1,hW0]at Pz k0 k1 hz;go_enter Tryz.func13,Tryz.ntmps13;go_wp2_with (refine wpList_store_row rfl 43 (.tmp 2) (.tmp 17) rfl (w.heap.size+1) #[.int .u8 1,.int .i64 yy.line] rfl rfl 43 #[.int .u8 0,.int .i64 0] hz zk rfl zk ?_);refine jy (p:=2) rfl rfl rfl rfl (setRow_heap _ _ _ _ _ _ hz) ?_;exact zFC
 by_cases q2:8<aP
 ·obtain⟨yz,hxz⟩:=zG x.iH 8 zBa;obtain⟨NR,xQ,II,Et,Gj,pV,rP,BR,QM,kU⟩:=Gf (eP.out W0 zr) hxz;first|subst pV| (simp only[qG,qO,and_true]at pV;obtain⟨rfl,rfl⟩:=pV)
  have nV:=zh kU;clear kU hxz rP;have hrz:=(nV.out W1 bM.out).1;have gz2:=hrz 2 _ rfl;clear hrz;obtain⟨k0,k1⟩:=aG.out W1 (bM.out.same Xl.out);have hz:=xK.out W1 Xl.out;rw[hW1,hW0]at gz2 k0 k1 hz;go_enter Tryz.func13,Tryz.ntmps13;go_wp2_with (refine wpList_store_row rfl 43 (.tmp 2) (.tmp 27) rfl (w.heap.size+1) #[.int .u8 1,.int .i64 yz.line] rfl rfl 43 #[.int .u8 0,.int .i64 0] hz zk rfl zk ?_);refine jy (p:=2) rfl rfl rfl rfl (setRow_heap _ _ _ _ _ _ hz) ?_;exact zFC
 go_enter Tryz.func13,Tryz.ntmps13;go_wp2_with fail;rw[<-hW0,<-hW1];clear hW0 hW1;have kK:=Xl;go_loopw [31] (fun vi dG=>Hid (O0 W1 dG)/\∃i:Nat,vi= .int .i64 i/\i<=aj/\Hid (∀d∈x.packs.take i,EY d)) (fun v _=>aj-(RowKit.intOf v).toNat);case atStart=>exact⟨kK,0,rfl,qE _,show Hid _ from fun v hv=>by simp at hv⟩
 case round=>
  obtain⟨dG,rfl⟩:=zB wr;clear kK;obtain⟨PD,i,rfl,hi,HZ⟩:=hrel;obtain⟨k0,k1⟩:=aG.out dG (bM.out.same PD.out);by_cases ci:i<aj
  ·have jh:=zw (i+1);have HAl:=zh (Zy (kC.out dG (bM.out.same PD.out)) zAg (by rw[aB.out];exact ci));go_wp2_with fail;refine HAl.out.mono ?_;rintro e w2 ⟨c,rfl,hcr,hcf,O2⟩;have HP2:=zh (PD.out.same O2);clear O2 HAl k0 k1;obtain⟨k0,k1⟩:=aG.out w2 (bM.out.same HP2.out);by_cases c0:c=0
   ·subst c0;have hok:=hcf rfl;have HZ2:Hid (∀p∈x.packs.take (i+1),EY p):=fun v hv=>by
     have hpi:x.packs[i]? =some (x.pack i):=by unfold aH.pack;rw[qC,qA (by rw[aB.out];exact ci)];rfl
     rcases dI hpi hv with h|rfl;·exact HZ.out v h
     exact hok
    clear hcf hok;go_wp2_with fail;go_roundw;case rel=>exact⟨HP2,i+1,by first|rfl|go_num,by omega,HZ2⟩
    case measure=>simp[RowKit.intOf]<;>omega
   have c1:((c:Int)==0)=false:=by rw[yC];exact c0
   clear hcf;obtain⟨yy,hxy⟩:=zG x.packs i zAk;obtain⟨xO,lq,sW,mG,sZ,vI,mJ,vJ,Cj,BK,Cm,y7,oK,y8,DY,zK,DZ,EW,Eu,EX,mW,kM,l9,oQ,mY,oU,rZ,xP,BF,jw⟩:=jR (dP.out W0 zr) hxy;first|subst mW| (simp only[qG,qO,and_true]at mW;obtain⟨rfl,rfl⟩:=mW)
   have NQ:=zh kM;have Ny2:=zh l9;have Ny3:=zh oQ;have Gs:=zh mY;have Ny5:=zh oU;have Ny6:=zh rZ;have je:=zh jw;have Af:=zh hxy;clear jw hxy kM l9 oQ mY oU rZ;have BD:Hid (∀W,O0 W0 W->aQ 2 uZ B W (.slice sW mG sZ) yy.bY):=fun W ho=>(je.out W ho).2.1;have IY:Hid (∀W,O0 W0 W->aQ 2 pR B W (.slice vI mJ vJ) yy.vars):=fun W ho=>(je.out W ho).2.2.1;have ahc:Hid (∀W,O0 W0 W->aQ 1 fM B W (.slice Cj BK Cm) yy.provides):=fun W ho=>(je.out W ho).2.2.2.1;have BG:Hid (∀W,O0 W0 W->aQ 7 nC B W (.slice y7 oK y8) yy.deps):=fun W ho=>(je.out W ho).2.2.2.2.1;have aci:Hid (∀W,O0 W0 W->aQ 7 sU B W (.slice DY zK DZ) yy.cons):=fun W ho=>(je.out W ho).2.2.2.2.2.1;have ahd:Hid (∀W,O0 W0 W->aQ 1 fM B W (.slice EW Eu EX) yy.files):=fun W ho=>(je.out W ho).2.2.2.2.2.2.1;have HCy:Hid (∀W,O0 W0 W->iU B W [.string yy.name,.int .i64 yy.line,.slice sW mG sZ,.slice vI mJ vJ,.slice Cj BK Cm,.slice y7 oK y8,.slice DY zK DZ,.slice EW Eu EX] yy):=fun W ho=>(je.out W ho).2.2.2.2.2.2.2;have dM:=(je.out w2 (bM.out.same HP2.out)).1;have Pz:=dM 1 _ rfl;clear dM;go_wp2_with (refine wpList_store_row rfl 43 (.tmp 2) (.tmp 46) rfl (w.heap.size+1) #[.int .u8 c,.int .i64 yy.line] rfl rfl 43 #[.int .u8 0,.int .i64 0] (xK.out w2 HP2.out) zk rfl zk ?_);refine jy (p:=2) rfl rfl rfl rfl (setRow_heap _ _ _ _ _ _ (xK.out w2 HP2.out)) ?_;exact ny.mk _ _ rfl (fun h=>absurd h c0) ((bW.out.same (bM.out.same HP2.out)).trans (dN _ _ _) (fun k hk=>.inr zBk))
  obtain rfl:aj=i:=by omega
  have HZa:Hid (∀d∈x.packs,EY d):=fun d hd=>HZ.out d (by
   rw[qI (yG aB.out)]
   exact hd)
  have kK:=PD;go_wp2_with fail;clear k0 k1;go_loopw [51] (fun vj Bl=>Hid (O0 W1 Bl)/\∃j:Nat,vj= .int .i64 j/\j<=aj) (fun v _=>aj-(RowKit.intOf v).toNat);case atStart=>exact⟨kK,0,rfl,qE _⟩
  case round=>
   obtain⟨Bl,rfl⟩:=zB wr;clear kK;obtain⟨Ti,j,rfl,hj⟩:=hrel;obtain⟨k0,k1⟩:=aG.out Bl (bM.out.same Ti.out);by_cases cj:j<aj
   ·have jh:=zw (j+1);obtain⟨yv,hxv⟩:=zG x.packs j zAk;obtain⟨bkv,akv,av1,nv1,cv1,av2,nv2,cv2,av3,nv3,cv3,av4,nv4,cv4,av5,nv5,cv5,av6,nv6,cv6,hev,ahg,ahh,ahi,ahj,ahk,ahl,aoL,inv1,abI⟩:=jR (dP.out W0 zr) hxv;first|subst hev| (simp only[qG,qO,and_true]at hev;obtain⟨rfl,rfl⟩:=hev)
    have HEv:=zh abI;clear abI hxv ahg ahh ahi ahj ahk ahl;have HCv:Hid (∀W,O0 W0 W->iU B W [.string yv.name,.int .i64 yv.line,.slice av1 nv1 cv1,.slice av2 nv2 cv2,.slice av3 nv3 cv3,.slice av4 nv4 cv4,.slice av5 nv5 cv5,.slice av6 nv6 cv6] yv):=fun W ho=>(HEv.out W ho).2.2.2.2.2.2.2;obtain⟨c,l,hcl⟩:∃c l:Int,y9 x yv=(c,l):=⟨_,_,rfl⟩;have HRl:Hid (∀W,O0 W1 W->Calls Tryz.prog 54 #[.agg #[.slice (some ⟨bkv,akv,none⟩) aj aT,.slice bg aP aU],.agg #[.string yv.name,.int .i64 yv.line,.slice av1 nv1 cv1,.slice av2 nv2 cv2,.slice av3 nv3 cv3,.slice av4 nv4 cv4,.slice av5 nv5 cv5,.slice av6 nv6 cv6]] W fun e w'=>e= .returned (.agg #[.int .u8 c,.int .i64 l])/\O0 W w'):=fun W hW=>by have:=WL (kC.out W (bM.out.same hW)) (HCv.out W (bM.out.same hW)) zAg;rw[hcl]at this;exact this
    clear hcl;go_wp2_with fail;clear k0 k1;refine bH (n:=9) (E:=fun k=>k=8) (S:=fun W=>O0 W1 W) zk rfl (by exact Ti.out.drew) (fun hHeld=>?_);refine tK 0 ?_ (hy:=zAS);refine tW 1 ?_;refine tK 2 ?_ (hy:=zAS);refine tW 3 ?_;refine tW 4 ?_;refine tK 5 ?_ (hy:=zAS);refine fP (rs:=[6,7]) zk zAM ?_;refine dA.cons (i:=6) rfl (fun K hK=>?_) ?_
    ·(go_simp;refine(HRl.out _ hHeld).mono ?_;rintro e w5 ⟨rfl,o5⟩;try go_wp2_with fail);refine hK.out _ _ ?_ (fun hHeld=>?_);·exact zCa
     clear hK K;try simp only[Act.put,gJ,gU,gK,gu,gy,gG]
     refine tO 7 fun K hK=>?_;go_simp;refine hK.out _ _ ?_ (fun hHeld=>?_);·exact zDf
     clear hK K;try simp only[Act.put,gJ,gU,gK,gu,gy,gG]
     refine fP (rs:=[8]) zk zAM ?_;refine dA.late (i:=8) rfl zk (fun K hK=>?_) ?_
     ·(rw[if_pos zk];refine zi 43 (.tmp 6) (.tmp 60) rfl _ #[.int .u8 c,.int .i64 l] rfl rfl 43 #[.int .u8 0,.int .i64 0] zA7 zk rfl zk ?_;intro W3 hg3 ho3);refine hK.out _ _ ?_;clear hK K;try simp only[Act.put,gJ,gU,gK,gu,gy,gG]
      refine aZ zk ?_ _;generalize hgg:w5.heap.size=g at*;have BL:Hid (O0 W1 W3):=hHeld.trans ho3 (fun k hk=>.inr (by have:=((‹O0 W1 w5› :O0 W1 w5)).size;(try simp at hgg);omega));exact zE7
     exact dA.nil
    refine dA.cons (i:=7) rfl (fun K hK=>?_) ?_
    ·go_simp;refine hK.out _ _ ?_ (fun hHeld=>?_);·exact zDf
     clear hK K;try simp only[Act.put,gJ,gU,gK,gu,gy,gG]
     refine tO 6 fun K hK=>?_;(go_simp;refine(HRl.out _ hHeld).mono ?_;rintro e w5 ⟨rfl,o5⟩;try go_wp2_with fail);refine hK.out _ _ ?_ (fun hHeld=>?_);·exact zCa
     clear hK K;try simp only[Act.put,gJ,gU,gK,gu,gy,gG]
     refine fP (rs:=[8]) zk zAM ?_;refine dA.late (i:=8) rfl zk (fun K hK=>?_) ?_
     ·(rw[if_pos zk];refine zi 43 (.tmp 6) (.tmp 60) rfl _ #[.int .u8 c,.int .i64 l] rfl rfl 43 #[.int .u8 0,.int .i64 0] zA7 zk rfl zk ?_;intro W3 hg3 ho3);refine hK.out _ _ ?_;clear hK K;try simp only[Act.put,gJ,gU,gK,gu,gy,gG]
      refine aZ zk ?_ _;generalize hgg:Bl.heap.size=g at*;have BL:Hid (O0 W1 W3):=hHeld.trans ho3 (fun k hk=>.inr (by have:=(Ti.out).size;(try simp at hgg);omega));exact zE7
     exact dA.nil
    exact dA.nil
   obtain rfl:aj=j:=by omega
   have kK:=Ti;go_wp2_with fail;clear k0 k1;go_loopw [69] (fun vm Tf=>Hid (O0 W1 Tf)/\∃m:Nat,vm= .int .i64 m/\m<=aP) (fun v _=>aP-(RowKit.intOf v).toNat);case atStart=>exact⟨kK,0,rfl,qE _⟩
   case round=>
    obtain⟨Tf,rfl⟩:=zB wr;clear kK;obtain⟨V5,m,rfl,hm⟩:=hrel;obtain⟨k0,k1⟩:=aG.out Tf (bM.out.same V5.out);by_cases cm:m<aP
    ·have jh:=zw (m+1);have HPf:=zh (Ue (kC.out Tf (bM.out.same V5.out)) zAg (by rw[fO.out];exact cm));go_wp2_with fail;refine HPf.out.mono ?_;rintro e w2 ⟨bb,rfl,O2⟩;have HP2:=zh (V5.out.same O2);clear O2 HPf k0 k1;obtain⟨k0,k1⟩:=aG.out w2 (bM.out.same HP2.out);cases bb with
     |true=>
      go_wp2_with fail;go_roundw;case rel=>exact⟨HP2,m+1,by first|rfl|go_num,by omega⟩
      case measure=>simp[RowKit.intOf]<;>omega
     |false=>
      obtain⟨yf,hxf⟩:=zG x.iH m zBa;obtain⟨bkf,avr,af1,nf1,cf1,hef,aps,avs,avt,akZ⟩:=Gf (eP.out W0 zr) hxf;first|subst hef| (simp only[qG,qO,and_true]at hef;obtain⟨rfl,rfl⟩:=hef)
      have HEf:=zh akZ;clear akZ hxf aps;have hrf:=(HEf.out w2 (bM.out.same HP2.out)).1;have gf2:=hrf 2 _ rfl;clear hrf;go_wp2_with (refine wpList_store_row rfl 43 (.tmp 2) (.tmp 82) rfl (w.heap.size+1) #[.int .u8 10,.int .i64 yf.line] rfl rfl 43 #[.int .u8 0,.int .i64 0] (xK.out w2 HP2.out) zk rfl zk ?_);refine jy (p:=2) rfl rfl rfl rfl (setRow_heap _ _ _ _ _ _ (xK.out w2 HP2.out)) ?_;exact ny.mk _ _ rfl (fun h=>absurd h zBl) ((bW.out.same (bM.out.same HP2.out)).trans (dN _ _ _) (fun k hk=>.inr zBk))
    obtain rfl:aP=m:=by omega
    go_wp2_with (refine wpList_store_row rfl 43 (.tmp 2) (.tmp 84) rfl (w.heap.size+1) #[.int .u8 0,.int .i64 0] rfl rfl 43 #[.int .u8 0,.int .i64 0] (xK.out Tf V5.out) zk rfl zk ?_);refine jy (p:=2) rfl rfl rfl rfl (setRow_heap _ _ _ _ _ _ (xK.out Tf V5.out)) ?_;exact ny.mk _ _ rfl (fun _=>HZa.out) ((bW.out.same (bM.out.same V5.out)).trans (dN _ _ _) (fun k hk=>.inr zBk))
end
end Go.Proofs.YtdmmebjjojimiaaGreatDoor
