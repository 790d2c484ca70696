/- cmp.Or at ints.; Package version: Compare (printed by gen/gen_wv7.py out of XWv7.src). -/
import Derived.Test.YtdmmebjjojimiaaGreatDoorG11
import Derived.Test.YtdmmebjjojimiaaGreatDoorG06
set_option maxRecDepth 100000
set_option maxHeartbeats 8000000
set_option linter.all false
namespace Go.Proofs.YtdmmebjjojimiaaGreatDoor
open Go.RowKit
def X7:List Int->Int
 | []=>0
 |x::r=>if x=0 then X7 r else x
theorem NW{xs:List Int}:∀{i:Nat},i<=xs.length->(∀j,j<i->xs.getD j 0=0)->X7 xs=X7 (xs.drop i)
 |0,_,_=>by simp
 |i+1,h,ha=>by
  rw[NW (i:=i) (by omega) (fun j hj=>ha j zAA)]
  rw[List.drop_eq_getElem_cons (show i<xs.length by omega)]
  have:=ha i zAA
  rw[qC,qA (show i<xs.length by omega)]at this
  simp only[Option.getD_some]at this
  show(if xs[i]=0 then _ else _)=_
  rw[if_pos this]
theorem aiQ{xs:List Int}{i:Nat}(h:i<xs.length)(ha:∀j,j<i->xs.getD j 0=0)(hn:xs.getD i 0≠0):X7 xs=xs.getD i 0:=by
 rw[NW (Nat.le_of_lt h) ha,List.drop_eq_getElem_cons h];have e:xs.getD i 0=xs[i]:=by rw[qC,qA h];rfl
 rw[e]at hn⊢;show(if xs[i]=0 then _ else _)=_;rw[if_neg hn]
theorem aiR{w:World}{v:Value}{xs:List Int}(hI:Ints w v xs):Calls Tryz.prog 234 #[v] w fun e w'=>e= .returned (.int .i64 (X7 xs))/\w'=w:=by
 obtain⟨ao,cap,rfl,hl1,hl2⟩:=hI.shape;obtain⟨r,hr⟩:=ze (X7 xs);rw[hr];have HR:=zh hr;have HI:=zh hI;clear hI hr;go_enter Tryz.func234,Tryz.ntmps234;go_wp2_with fail;go_loopw [5,8] (fun _ vi wr=>w=wr/\∃i:Nat,vi= .int .i64 i/\i<=xs.length/\Hid (∀j,j<i->xs.getD j 0=0)) (fun _ v _=>xs.length-(intOf v).toNat);case atStart=>exact⟨rfl,0,rfl,qE _,fun j hj=>by omega⟩
 case round=>
  obtain⟨rfl,i,rfl,hi,HZ⟩:=hrel;by_cases ci:i<xs.length
  ·obtain⟨bl,ol,rfl,_,hcs⟩:=HI.out.cells _ _ _ rfl zAA;have qx:=hcs i ci;have iE:=zw (i+1);obtain⟨x,hx⟩:=ze (xs.getD i 0);rw[hx]at qx;have HX:=zh hx;clear hcs hx;by_cases c0:x=0
   ·subst c0;go_wp2_with fail;go_roundw;case rel=>exact⟨by first|rfl|trivial,i+1,by first|rfl|go_num,by omega,show Hid _ from fun j hj=>by
     by_cases c:j=i
     ·subst c;exact HX.out
     ·exact HZ.out j zAA⟩
    case measure=>simp[intOf]<;>omega
   have dx:decide (x=0)=false:=qP c0;have dx2:(x != 0)=true:=by simp[c0]
   go_wp2_with fail;go_ret;exact⟨by rw[<-HR.out,aiQ ci HZ.out (by rw[HX.out];exact c0),HX.out];rfl,rfl⟩
  have:i=xs.length:=by omega
  subst this;go_wp2_with fail;go_ret;refine⟨?_,rfl⟩;rw[<-HR.out,NW (qH _) HZ.out];simp[X7]
theorem adO{w:World}{b:Nat}{xs:List Int}{t:TypeId}{f:Nat×Nat}(h:w.heap[b]? =some (.cells (xs.map cI).toArray t f))(hr:∀x∈xs,jF x)(hl:xs.length<=9223372036854775807):Ints w (.slice (some ⟨b,0,none⟩) xs.length xs.length) xs:=by refine⟨⟨_,_,rfl,qH _,hl⟩,fun ao len cap hv hp=>?_,hr,fun len cap hv=>by simp at hv⟩;simp only[qU]at hv;obtain⟨rfl,rfl,rfl⟩:=hv;refine⟨b,0,rfl,rW h,fun i hi=>?_⟩;rw[aj h];simp[qC,hi]
theorem agI(w:World)(xs:List Int)(t:TypeId)(n:Nat)(hn:n=w.heap.size)(hr:∀x∈xs,jF x)(hl:xs.length<=9223372036854775807):Ints (w.alloc (.cells (xs.map cI).toArray t)) (.slice (some ⟨n,0,none⟩) xs.length xs.length) xs:=by subst hn;exact adO (qL w _) hr hl
end Go.Proofs.YtdmmebjjojimiaaGreatDoor
namespace Go.Proofs
theorem zDG{p:Prop}(h:p:=by repeat (first|exact Only.refl _ _|apply Only.drew|apply Only.alloc|apply Only.drewN)):p:=h
theorem zDQ{p:Prop}(h:p:=by(intro w;go_simp<;>(try with_reducible rfl))):p:=h
end Go.Proofs
namespace Go.Proofs.YtdmmebjjojimiaaGreatDoor
open Go.RowKit
open Vn (gI fU numeral eU Ar uw Yw)
def BM(a b:List UInt8):Int:=
 if iV a=true then (if iV b=true then uw (dZ 46 a) (dZ 46 b) (max (dZ 46 a).length (dZ 46 b).length) 0 else 1)else if iV b=true then -1 else 0
theorem YN:partOf []=endP:=by unfold partOf endP;rfl
theorem Le(l:List (List UInt8))(i:Nat):(l.map partOf).getD i endP=partOf (l.getD i []):=by
 rw[qC,qC,List.getElem?_map];cases l[i]? with
 |none=>exact YN.symm
 |some x=>rfl
theorem aan{a b:Nat}(h:a<b):Lib.compareInt (a:Int) (b:Int)= -1:=by unfold Lib.compareInt;rw[if_pos zAA]
theorem aao{a b:Nat}(h:b<a):Lib.compareInt (a:Int) (b:Int)=1:=by unfold Lib.compareInt;rw[if_neg zCj,if_pos zAA]
theorem aap{a b:Nat}(h:a=b):Lib.compareInt (a:Int) (b:Int)=0:=by unfold Lib.compareInt;rw[if_neg zCj,if_neg zAA]
theorem aiS(x y:List UInt8):X7 [Lib.compareInt (fU x:Int) (fU y:Int),Lib.compareInt (numeral x:Int) (numeral y:Int),Ug (eU x) (eU y)]=if Ar x y then -1 else if Ar y x then 1 else 0:=by
 rcases Nat.lt_trichotomy (fU x) (fU y)with h|h|h;·rw[aan h,if_pos (show Ar x y from .inl h)];simp[X7]
 ·rw[aap h];rcases Nat.lt_trichotomy (numeral x) (numeral y)with g|g|g;·rw[aan g,if_pos (show Ar x y from .inr ⟨h,.inl g⟩)];simp[X7]
  ·rw[aap g];by_cases c1:eU x<eU y;·rw[show Ug (eU x) (eU y)= -1 from if_pos c1,if_pos (show Ar x y from .inr ⟨h,.inr ⟨g,c1⟩⟩)];simp[X7]
   have n1:¬Ar x y:=fun hh=>by
    rcases hh with hh| ⟨_,hh| ⟨_,hh⟩⟩;·omega
    ·omega
    exact c1 hh
   rw[if_neg n1];by_cases c2:eU y<eU x;·rw[show Ug (eU x) (eU y)=1 from(if_neg c1).trans (if_pos c2),if_pos (show Ar y x from .inr ⟨h.symm,.inr ⟨g.symm,c2⟩⟩)];simp[X7]
   have n2:¬Ar y x:=fun hh=>by
    rcases hh with hh| ⟨_,hh| ⟨_,hh⟩⟩;·omega
    ·omega
    exact c2 hh
   rw[show Ug (eU x) (eU y)=0 from(if_neg c1).trans (if_neg c2),if_neg n2];simp[X7]
  have n1:¬Ar x y:=fun hh=>by rcases hh with hh| ⟨_,hh| ⟨_,hh⟩⟩<;>omega
  rw[aao g,if_neg n1,if_pos (show Ar y x from .inr ⟨h.symm,.inl g⟩)];simp[X7]
 have n1:¬Ar x y:=fun hh=>by rcases hh with hh| ⟨hh,_⟩<;>omega
 rw[aao h,if_neg n1,if_pos (show Ar y x from .inl h)];simp[X7]
section
variable {w w':World} {B:Nat}
theorem RH(a b:Str)(ha:okS a)(hb:okS b)(hL:Laid w):Calls Tryz.prog 275 #[.string a,.string b] w (fun e w'=>e= .returned (.int .i64 (BM a.toList b.toList))/\O0 w w'):=by
 obtain⟨r,hr⟩:=ze (BM a.toList b.toList);rw[hr];have HA:=zh (Uj a ha hL);have HB:Hid (∀W,O0 w W->Calls Tryz.prog 329 #[.string b] W (fun e w'=>zJ b W w' e)):=fun W ho=>Uj b hb (hL.only ho);have aZ:=zh hr;clear hr ha hb hL;go_enter Tryz.func275,Tryz.ntmps275;go_wp2_with fail;refine HA.out.mono ?_;rintro e w1 ⟨va,ma,rfl,hma,hra,O1⟩;have aI:=zh O1;have HMA:=zh hma;have HRA:=zh hra;clear O1 hma hra HA;go_wp2_with fail;refine(HB.out _ aI.out).mono ?_;rintro e w2 ⟨vb,mb,rfl,hmb,hrb,O2⟩;have eF:=zh (aI.out.same O2);have HMB:=zh hmb;have HRB:=zh hrb;have J3:=zh O2;clear O2 hmb hrb HB;have hres:=aZ.out;unfold BM at hres;rw[HMA.out,HMB.out]at hres;clear aZ;cases ma with
 |false=>
  cases mb with
  |false=>have h:(0:Int)=r:=hres;subst h;clear hres;exact zEH
  |true=>have h:(-1:Int)=r:=hres;subst h;clear hres;exact zEH
 |true=>
  cases mb with
  |false=>have h:(1:Int)=r:=hres;subst h;clear hres;exact zEH
  |true=>
   have h:uw (dZ 46 a.toList) (dZ 46 b.toList) (max (dZ 46 a.toList).length (dZ 46 b.toList).length) 0=r:=hres;clear hres;have rowA:=HRA.out zCA;have rowB:=HRB.out zCA;have la:=IJ HMA.out;have lb:=IJ HMB.out;obtain⟨X,hX⟩:=ze (dZ 46 a.toList);obtain⟨Y,hY⟩:=ze (dZ 46 b.toList);rw[hX]at rowA la h;rw[hY]at rowB lb h;clear HRA HRB HMA HMB hX hY;obtain⟨aa,ca,rfl,ka1,ka2⟩:=rowA.shape;obtain⟨ab,cb,rfl,kb1,kb2⟩:=rowB.shape;obtain⟨na,hna⟩:=ze X.length;obtain⟨nb,hnb⟩:=ze Y.length;simp only[qM,hna,hnb]at rowA rowB ka1 kb1⊢;rw[hna]at la h;rw[hnb]at lb h;obtain⟨m,hm⟩:=ze (max na nb);rw[hm]at h;have hm8:m<=8:=zAA;have HAt:Hid (∀W (i:Nat),i<=8->O0 w2 W->Calls Tryz.prog 338 #[.slice aa na ca,.int .i64 (i:Int)] W (fun e w'=>e= .returned (.agg (partOf (X.getD i [])).val)/\O0 W w')):=fun W i hi ho=>alb (rowA.keep NT.keep (Kp.dV (J3.out.same ho))) i zAA _ (Le X i);have HBt:Hid (∀W (i:Nat),i<=8->O0 w2 W->Calls Tryz.prog 338 #[.slice ab nb cb,.int .i64 (i:Int)] W (fun e w'=>e= .returned (.agg (partOf (Y.getD i [])).val)/\O0 W w')):=fun W i hi ho=>alb (rowB.keep NT.keep (Kp.dV ho)) i zAA _ (Le Y i);have HM:=zh hm;have HR0:Hid (uw X Y m 0=r):=h;have fQ:Hid (O0 w2 w2):=Only.refl _ _;clear h rowA rowB hm hna hnb la lb J3;go_wp2_with fail;go_loopw [41] (fun vi bD=>Hid (O0 w2 bD)/\∃i:Nat,vi= .int .i64 i/\i<=m/\Hid (uw X Y (m-i) i=r)) (fun v _=>m-(RowKit.intOf v).toNat);case atStart=>exact⟨fQ,0,rfl,qE _,HR0⟩
   case round=>
    obtain⟨bD,rfl⟩:=zB wr;clear fQ HR0;obtain⟨gK,i,rfl,hi,HRi⟩:=hrel;by_cases ci:i<m
    ·have iE:=zw (i+1);have hci:(i:Int)<max (na:Int) (nb:Int):=by have:=HM.out;omega
     have H1:=zh (HAt.out bD i zAA gK.out);have H2:Hid (∀W,O0 bD W->_):=fun W ho=>HBt.out W i zAA (gK.out.same ho);obtain⟨p,hp⟩:=ze (X.getD i []);obtain⟨q,hq⟩:=ze (Y.getD i []);rw[hp]at H1;rw[hq]at H2;obtain⟨c1,h1⟩:∃c,Lib.compareInt (fU p:Int) (fU q:Int)=c:=⟨_,rfl⟩;obtain⟨c2,h2⟩:∃c,Lib.compareInt (numeral p:Int) (numeral q:Int)=c:=⟨_,rfl⟩;obtain⟨c3,h3⟩:=ze (Ug (eU p) (eU q));obtain⟨c,hc⟩:=ze (X7 [c1,c2,c3]);have HRj:Hid ((if c=0 then uw X Y (m-(i+1)) (i+1)else c)=r):=by
      show(if c=0 then uw X Y (m-(i+1)) (i+1)else c)=r;have h:=HRi.out;obtain⟨k,hk⟩:∃k,m-i=k+1:=⟨m-i-1,by omega⟩;have hk2:m-(i+1)=k:=zAA;have hor:=aiS p q;rw[h1,h2,h3,hc]at hor;rw[hk,uw,Vn.Ah,Vn.Ah,hp,hq]at h;rw[hk2,<-h,hor];by_cases g1:Ar p q;·rw[if_pos g1,if_pos g1];simp
      rw[if_neg g1,if_neg g1];by_cases g2:Ar q p;·rw[if_pos g2,if_pos g2];simp
      rw[if_neg g2,if_neg g2];simp
     have r1:jF c1:=by rw[<-h1];unfold Lib.compareInt jF;split<;>(try split)<;>omega
     have r2:jF c2:=by rw[<-h2];unfold Lib.compareInt jF;split<;>(try split)<;>omega
     have r3:jF c3:=by rw[<-h3];unfold Ug jF;split<;>(try split)<;>omega
     have RR:=zh (And.intro r1 (And.intro r2 r3));unfold partOf Part.val at H1 H2;dsimp only at H1 H2;obtain⟨pr,epr⟩:∃x:Int,(fU p:Int)=x:=⟨_,rfl⟩;obtain⟨pn,epn⟩:∃x:Int,(numeral p:Int)=x:=⟨_,rfl⟩;obtain⟨pw,epw⟩:∃x:Str,(⟨(eU p).toArray⟩:Str)=x:=⟨_,rfl⟩;obtain⟨qr,eqr⟩:∃x:Int,(fU q:Int)=x:=⟨_,rfl⟩;obtain⟨qn,eqn⟩:∃x:Int,(numeral q:Int)=x:=⟨_,rfl⟩;obtain⟨qw,eqw⟩:∃x:Str,(⟨(eU q).toArray⟩:Str)=x:=⟨_,rfl⟩;have K1:Hid (∀W:World,Calls Tryz.prog 235 #[.int .i64 pr,.int .i64 qr] W fun e w'=>e= .returned (.int .i64 c1)/\W=w'):=fun W=>by rw[<-h1,epr,eqr];exact(Sv.cmp_Compare_int _ _ W).mono fun _ _ h=>⟨h.1,h.2.symm⟩
     have K2:Hid (∀W:World,Calls Tryz.prog 235 #[.int .i64 pn,.int .i64 qn] W fun e w'=>e= .returned (.int .i64 c2)/\W=w'):=fun W=>by rw[<-h2,epn,eqn];exact(Sv.cmp_Compare_int _ _ W).mono fun _ _ h=>⟨h.1,h.2.symm⟩
     have K3:Hid (∀W:World,Calls Tryz.prog 95 #[.string pw,.string qw] W fun e w'=>e= .returned (.int .i64 c3)/\W=w'):=fun W=>by have:=adH (w:=W) pw qw;rw[<-epw,<-eqw]at this⊢;rw[ByteArray.toList_eq,ByteArray.toList_eq]at this;rw[<-h3];exact this.mono fun _ _ h=>⟨h.1,h.2.symm⟩
     rw[epr,epn,epw]at H1;have H2':Hid (∀W,O0 bD W->Calls Tryz.prog 338 #[.slice ab nb cb,.int .i64 (i:Int)] W (fun e w'=>e= .returned (.agg #[.int .i64 qr,.int .i64 qn,.string qw])/\O0 W w')):=fun W ho=>by rw[<-eqr,<-eqn,<-eqw];exact H2.out W ho
     have HC:=zh hc;clear HRi h1 h2 h3 hc r1 r2 r3 H2 epr epn epw eqr eqn eqw hp hq;go_wp2_with fail;refine H1.out.mono ?_;rintro e w3 ⟨rfl,O3⟩;have kD:=zh O3;clear O3;go_wp2_with fail;refine(H2'.out _ kD.out).mono ?_;rintro e w4 ⟨rfl,O4⟩;have Ej:=zh (gK.out.same (kD.out.same O4));clear O4 H1 H2' kD;obtain⟨w5,hw5⟩:=ze ((w4.alloc (.cells #[.int .i64 pr,.int .i64 pn,.string pw] 355)).alloc (.cells #[.int .i64 qr,.int .i64 qn,.string qw] 355));obtain⟨A,hA⟩:=ze w4.heap.size;have bA:w5.heap[A]? =some (.cells #[.int .i64 pr,.int .i64 pn,.string pw] 355 (0,0)):=by rw[<-hw5,<-hA];exact dF (qL _ _) _
     have bB:w5.heap[A+1]? =some (.cells #[.int .i64 qr,.int .i64 qn,.string qw] 355 (0,0)):=by rw[<-hw5,<-hA];have:=qL (w4.alloc (.cells #[.int .i64 pr,.int .i64 pn,.string pw] 355)) (.cells #[.int .i64 qr,.int .i64 qn,.string qw] 355);rwa[World.size_alloc]at this
     have xK:Hid (O0 w2 w5):=by rw[<-hw5];exact(Ej.out.alloc _).alloc _
     have a0:w5.cell? ⟨A,0,none⟩=some (.int .i64 pr):=by rw[aj bA];rfl
     have a1:w5.cell? ⟨A,1,none⟩=some (.int .i64 pn):=by rw[aj bA];rfl
     have a2:w5.cell? ⟨A,2,none⟩=some (.string pw):=by rw[aj bA];rfl
     have b0:w5.cell? ⟨A+1,0,none⟩=some (.int .i64 qr):=by rw[aj bB];rfl
     have b1:w5.cell? ⟨A+1,1,none⟩=some (.int .i64 qn):=by rw[aj bB];rfl
     have b2:w5.cell? ⟨A+1,2,none⟩=some (.string qw):=by rw[aj bB];rfl
     have TU:=zh (show w5.cell? ⟨A,0,none⟩=some (.int .i64 pr)/\w5.cell? ⟨A,1,none⟩=some (.int .i64 pn)/\w5.cell? ⟨A,2,none⟩=some (.string pw)/\w5.cell? ⟨A+1,0,none⟩=some (.int .i64 qr)/\w5.cell? ⟨A+1,1,none⟩=some (.int .i64 qn)/\w5.cell? ⟨A+1,2,none⟩=some (.string qw) from⟨a0,a1,a2,b0,b1,b2⟩);have HS5:=zh (show∀w':World,O0 w5 w'->w'.cell? ⟨A,0,none⟩=some (.int .i64 pr)/\w'.cell? ⟨A,1,none⟩=some (.int .i64 pn)/\w'.cell? ⟨A,2,none⟩=some (.string pw)/\w'.cell? ⟨A+1,0,none⟩=some (.int .i64 qr)/\w'.cell? ⟨A+1,1,none⟩=some (.int .i64 qn)/\w'.cell? ⟨A+1,2,none⟩=some (.string qw) from fun w' ho=>⟨by rw[aj ((ho.block _ (rW bA) (fun f=>f)).trans bA)];rfl,by rw[aj ((ho.block _ (rW bA) (fun f=>f)).trans bA)];rfl,by rw[aj ((ho.block _ (rW bA) (fun f=>f)).trans bA)];rfl,
      by rw[aj ((ho.block _ (rW bB) (fun f=>f)).trans bB)];rfl,by rw[aj ((ho.block _ (rW bB) (fun f=>f)).trans bB)];rfl,by rw[aj ((ho.block _ (rW bB) (fun f=>f)).trans bB)];rfl⟩)
     have HI3:=zh (show∀W:World,Ints (W.alloc (.cells #[.int .i64 c1,.int .i64 c2,.int .i64 c3] 3)) (.slice (some ⟨W.heap.size,0,none⟩) 3 3) [c1,c2,c3] from fun W=>agI W [c1,c2,c3] 3 _ rfl (fun y hy=>by
      obtain⟨r1,r2,r3⟩:=RR.out
      simp at hy
      rcases hy with rfl|rfl|rfl
      ·exact r1
      ·exact r2
      ·exact r3) zAP)
     clear bA bB a0 a1 a2 b0 b1 b2;go_upto_region 13 with fail;try rw[hA]
     try rw[hw5]
     clear hA hw5;refine dn (n:=18) (E:=fun _=>false) (S:=fun w':World=>w'.cell? ⟨A,0,none⟩=some (.int .i64 pr)/\w'.cell? ⟨A,1,none⟩=some (.int .i64 pn)/\w'.cell? ⟨A,2,none⟩=some (.string pw)/\w'.cell? ⟨A+1,0,none⟩=some (.int .i64 qr)/\w'.cell? ⟨A+1,1,none⟩=some (.int .i64 qn)/\w'.cell? ⟨A+1,2,none⟩=some (.string qw)) zk rfl TU.out (fun hHeld=>?_);refine tW 0 ?_;refine tK 1 ?_;refine tW 2 ?_;refine tK 3 ?_;refine xY (i:=4) (v:=?_) (f:=235) (args:= #[.int .i64 pr,.int .i64 qr]) rfl zk zk zk rfl zk zk (fun _ _ _ h=>h) zCO (by rfl) ?_ ?_ ?_;rotate_left;·exact zDQ
     ·(intro w hSw;exact K1.out w)
     try simp only[Act.put,fA,fB,dW,dX,dY]
     refine tW 5 ?_;refine tK 6 ?_;refine tW 7 ?_;refine tK 8 ?_;refine xY (i:=9) (v:=?_) (f:=235) (args:= #[.int .i64 pn,.int .i64 qn]) rfl zk zk zk rfl zk zk (fun _ _ _ h=>h) zCO (by rfl) ?_ ?_ ?_;rotate_left;·exact zDQ
     ·(intro w hSw;exact K2.out w)
     try simp only[Act.put,fA,fD,fB,dW,dX,dY]
     refine tW 10 ?_;refine tK 11 ?_;refine tW 12 ?_;refine tK 13 ?_;refine xY (i:=14) (v:=?_) (f:=95) (args:= #[.string pw,.string qw]) rfl zk zk zk rfl zk zk (fun _ _ _ h=>h) zCO (by rfl) ?_ ?_ ?_;rotate_left;·exact zDQ
     ·(intro w hSw;exact K3.out w)
     try simp only[Act.put,fA,fD,fB,dW,dX,dY]
     refine tO 15 fun K hK=>?_;go_simp;refine hK.out _ _ ?_ (fun hHeld=>?_);·(try dsimp only)<;>(exact HS5.out _ zDG)
     clear hK K;try simp only[Act.put,fA,fD,fB,dW,dX,dY]
     refine tO 16 fun K hK=>?_;(go_simp;refine(aiR (xs:=[c1,c2,c3]) (HI3.out w5.drew)).mono ?_;rw[HC.out];rintro e w6 ⟨rfl,h6⟩;subst h6;try go_wp2_with fail);refine hK.out _ _ ?_ (fun hHeld=>?_);·(try dsimp only)<;>(exact HS5.out _ zDG)
     clear hK K;try simp only[Act.put,fA,fD,fB,dW,dX,dY]
     refine tW 17 ?_;refine bV zk ?_ _;have Gz:=zh (Only.same xK.out (show O0 w5 ((w5.drew).alloc (.cells #[.int .i64 c1,.int .i64 c2,.int .i64 c3] 3)) from(zr.drew).alloc _));by_cases c0:c=0
     ·subst c0;have HRk:Hid (uw X Y (m-(i+1)) (i+1)=r):=HRj.out;go_wp2_with fail;go_roundw;case rel=>exact⟨Gz,i+1,by first|rfl|go_num,by omega,HRk⟩
      case measure=>simp[RowKit.intOf]<;>omega
     have hcr:c=r:=by have h:=HRj.out;rw[if_neg c0]at h;exact h
     subst hcr;clear HRj;go_wp2_with fail;go_ret;exact⟨rfl,eF.out.same Gz.out⟩
    have hci:¬(i:Int)<max (na:Int) (nb:Int):=by have:=HM.out;omega
    have hr2:(0:Int)=r:=by have h:=HRi.out;rw[show m-i=0 by omega]at h;exact h
    subst hr2;clear HRi;go_wp2_with fail;go_ret;exact⟨rfl,eF.out.same gK.out⟩
end
end Go.Proofs.YtdmmebjjojimiaaGreatDoor
namespace Go.Proofs.YtdmmebjjojimiaaGreatDoor
open Go.RowKit
def xO(s:Str):Bool:=decide (s=ByteArray.empty)||iV s.toList
def A8(a b:Str):Bool:= !decide (a=ByteArray.empty)&& !decide (b=ByteArray.empty)&&decide (BM a.toList b.toList<0)
def Dn(s:rE):Bool:=xO s.lo&&xO s.hi&& !A8 s.hi s.lo
def pK(s:rE)(v:Str):Bool:=Dn s&&iV v.toList&& !A8 v s.lo&& !A8 s.hi v
def vC(l:List rE)(v:Str):Bool:=l.any fun s=>pK s v
end Go.Proofs.YtdmmebjjojimiaaGreatDoor
namespace Go.Proofs
theorem zBn{p:Prop}(h:p:=by rw[<-hW0];exact zr.alloc _):p:=h
theorem zEp{p:Prop}(h:p:=by
 go_wp2_with fail
 go_ret
 exact⟨rfl,jW.out.same eF.out⟩):p:=h
theorem zEq{p:Prop}(h:p:=by
 go_wp2_with fail
 go_ret
 exact⟨rfl,jW.out.same aI.out⟩):p:=h
theorem zGz{p:Prop}(h:p:=by
 subst hr
 go_wp2_with fail
 go_ret
 exact⟨by first|rfl|simp[hd],Only.refl _ _⟩):p:=h
theorem zHE{p:Prop}(h:p:=by
 have c0:=aA hb0 o (fun f=>f)
 exact⟨by rw[aj c0];rfl,by rw[aj c0];rfl⟩):p:=h
end Go.Proofs
namespace Go.Proofs.YtdmmebjjojimiaaGreatDoor
open Go.RowKit
section
variable {w w':World} {B:Nat}
theorem N8:ByteArray.empty.toList=[]:=by rw[ByteArray.toList_eq];rfl
theorem Dp{s:Str}:s.toList=[]↔s=ByteArray.empty:=
 ⟨fun h=>toList_inj (by rw[h,N8]),fun h=>by rw[h,N8]⟩
theorem aas(s:Str)(hs:okS s)(hL:Laid w)(r:Bool)(hr:xO s=r):Calls Tryz.prog 405 #[.string s] w (fun e w'=>e= .returned (.bool r)/\O0 w w'):=by
 have HM:=zh (YO s hs hL (iV s.toList) rfl);obtain⟨m,hm⟩:=ze (iV s.toList);rw[hm]at HM;unfold xO at hr;rw[hm]at hr;obtain⟨z,hz⟩:∃z,decide (s=ByteArray.empty)=z:=⟨_,rfl⟩;rw[hz]at hr;clear hm hL hs;go_enter Tryz.func405,Tryz.ntmps405;cases z with
 |true=>have hd:s.toList=[]:=Dp.2 (of_decide_eq_true hz);clear hz;rw[Bool.true_or]at hr;exact zGz
 |false=>have hd:¬s.toList=[]:=fun h=>of_decide_eq_false hz (Dp.1 h);clear hz;rw[Bool.false_or]at hr;subst hr;go_wp2_with fail;refine HM.out.mono ?_;rintro e w1 ⟨rfl,O1⟩;go_wp2_with fail;go_ret;exact⟨by first|rfl|simp[hd],O1⟩
theorem Uo(a b:Str)(ha:okS a)(hb:okS b)(hL:Laid w)(r:Bool)(hr:A8 a b=r):Calls Tryz.prog 376 #[.string a,.string b] w (fun e w'=>e= .returned (.bool r)/\O0 w w'):=by
 have HM:=zh (RH a b ha hb hL);obtain⟨m,hm⟩:=ze (BM a.toList b.toList);rw[hm]at HM;unfold A8 at hr;rw[hm]at hr;obtain⟨z,hz⟩:∃z,decide (a=ByteArray.empty)=z:=⟨_,rfl⟩;obtain⟨y,hy⟩:∃y,decide (b=ByteArray.empty)=y:=⟨_,rfl⟩;rw[hz,hy]at hr;clear hm hL ha hb;go_enter Tryz.func376,Tryz.ntmps376;cases z with
 |true=>have hd:a.toList=[]:=Dp.2 (of_decide_eq_true hz);clear hz hy;simp only[Bool.not_true,yQ]at hr;exact zGz
 |false=>
  have hd:¬a.toList=[]:=fun h=>of_decide_eq_false hz (Dp.1 h);clear hz;cases y with
  |true=>have hd':b.toList=[]:=Dp.2 (of_decide_eq_true hy);clear hy;simp only[Bool.not_true,Bool.and_false,yQ]at hr;subst hr;go_wp2_with fail;go_ret;exact⟨by first|rfl|simp[hd,hd'],Only.refl _ _⟩
  |false=>have hd':¬b.toList=[]:=fun h=>of_decide_eq_false hy (Dp.1 h);clear hy;simp only[Bool.not_false,yR]at hr;go_wp2_with fail;refine HM.out.mono ?_;rintro e w1 ⟨rfl,O1⟩;subst hr;go_wp2_with fail;go_ret;exact⟨by first|rfl|simp[hd,hd'],O1⟩
theorem aiT(s:rE)(hl:okS s.lo)(hh:okS s.hi)(hL:Laid w)(r:Bool)(hr:Dn s=r):Calls Tryz.prog 375 #[.agg #[.string s.lo,.string s.hi]] w (fun e w'=>e= .returned (.bool r)/\O0 w w'):=by
 obtain⟨W0,hW0⟩:=ze (w.alloc (.cells #[.string s.lo,.string s.hi] 128));have hb0:W0.heap[w.heap.size]? =some (.cells #[.string s.lo,.string s.hi] 128 (0,0)):=by rw[<-hW0];exact qL _ _
 have jW:Hid (O0 w W0):=zBn;have aF:Hid (∀W,O0 W0 W->W.cell? ⟨w.heap.size,0,none⟩=some (.string s.lo)/\W.cell? ⟨w.heap.size,1,none⟩=some (.string s.hi)):=fun W o=>by exact zHE
 obtain⟨r1,hr1⟩:=ze (xO s.lo);obtain⟨r2,hr2⟩:=ze (xO s.hi);obtain⟨r3,hr3⟩:=ze (A8 s.hi s.lo);have H1:Hid (∀W,O0 W0 W->Calls Tryz.prog 405 #[.string s.lo] W (fun e w'=>e= .returned (.bool r1)/\O0 W w')):=fun W o=>aas s.lo hl ((hL.only jW.out).only o) r1 hr1;have H2:Hid (∀W,O0 W0 W->Calls Tryz.prog 405 #[.string s.hi] W (fun e w'=>e= .returned (.bool r2)/\O0 W w')):=fun W o=>aas s.hi hh ((hL.only jW.out).only o) r2 hr2;have H3:Hid (∀W,O0 W0 W->Calls Tryz.prog 376 #[.string s.hi,.string s.lo] W (fun e w'=>e= .returned (.bool r3)/\O0 W w')):=fun W o=>Uo s.hi s.lo hh hl ((hL.only jW.out).only o) r3 hr3;unfold Dn at hr;rw[hr1,hr2,hr3]at hr;obtain⟨k0,k1⟩:=aF.out W0 zr;clear hb0 hr1 hr2 hr3 hL hl hh;go_enter Tryz.func375,Tryz.ntmps375;go_wp2_with fail;try rw[hW0]
 clear hW0;refine(H1.out W0 zr).mono ?_;rintro e w1 ⟨rfl,O1⟩;have aI:=zh O1;obtain⟨k0,k1⟩:=aF.out w1 O1;clear O1;cases r1 with
 |false=>simp only[yQ]at hr;subst hr;exact zEq
 |true=>
  go_wp2_with fail;refine(H2.out w1 aI.out).mono ?_;rintro e w2 ⟨rfl,O2⟩;have eF:=zh (aI.out.same O2);obtain⟨k0,k1⟩:=aF.out w2 eF.out;clear O2;cases r2 with
  |false=>simp only[yR,yQ]at hr;subst hr;exact zEp
  |true=>go_wp2_with fail;refine(H3.out w2 eF.out).mono ?_;rintro e w3 ⟨rfl,O3⟩;have kD:=zh (eF.out.same O3);clear O3;simp only[yR]at hr;subst hr;go_wp2_with fail;go_ret;exact⟨rfl,jW.out.same kD.out⟩
theorem aiU(s:rE)(v:Str)(hl:okS s.lo)(hh:okS s.hi)(hv:okS v)(hL:Laid w)(r:Bool)(hr:pK s v=r):Calls Tryz.prog 342 #[.agg #[.string s.lo,.string s.hi],.string v] w (fun e w'=>e= .returned (.bool r)/\O0 w w'):=by
 obtain⟨W0,hW0⟩:=ze (w.alloc (.cells #[.string s.lo,.string s.hi] 128));have hb0:W0.heap[w.heap.size]? =some (.cells #[.string s.lo,.string s.hi] 128 (0,0)):=by rw[<-hW0];exact qL _ _
 have jW:Hid (O0 w W0):=zBn;have aF:Hid (∀W,O0 W0 W->W.cell? ⟨w.heap.size,0,none⟩=some (.string s.lo)/\W.cell? ⟨w.heap.size,1,none⟩=some (.string s.hi)):=fun W o=>by exact zHE
 obtain⟨r1,hr1⟩:=ze (Dn s);obtain⟨r2,hr2⟩:=ze (iV v.toList);obtain⟨r3,hr3⟩:=ze (A8 v s.lo);obtain⟨r4,hr4⟩:=ze (A8 s.hi v);have H1:Hid (∀W,O0 W0 W->Calls Tryz.prog 375 #[.agg #[.string s.lo,.string s.hi]] W (fun e w'=>e= .returned (.bool r1)/\O0 W w')):=fun W o=>aiT s hl hh ((hL.only jW.out).only o) r1 hr1;have H2:Hid (∀W,O0 W0 W->Calls Tryz.prog 259 #[.string v] W (fun e w'=>e= .returned (.bool r2)/\O0 W w')):=fun W o=>YO v hv ((hL.only jW.out).only o) r2 hr2;have H3:Hid (∀W,O0 W0 W->Calls Tryz.prog 376 #[.string v,.string s.lo] W (fun e w'=>e= .returned (.bool r3)/\O0 W w')):=fun W o=>Uo v s.lo hv hl ((hL.only jW.out).only o) r3 hr3;have H4:Hid (∀W,O0 W0 W->Calls Tryz.prog 376 #[.string s.hi,.string v] W (fun e w'=>e= .returned (.bool r4)/\O0 W w')):=fun W o=>Uo s.hi v hh hv ((hL.only jW.out).only o) r4 hr4;unfold pK at hr;rw[hr1,hr2,hr3,hr4]at hr;obtain⟨k0,k1⟩:=aF.out W0 zr;clear hb0 hr1 hr2 hr3 hr4 hL hl hh hv;go_enter Tryz.func342,Tryz.ntmps342;go_wp2_with fail;try rw[hW0]
 clear hW0;refine(H1.out W0 zr).mono ?_;rintro e w1 ⟨rfl,O1⟩;have aI:=zh O1;obtain⟨k0,k1⟩:=aF.out w1 O1;clear O1;cases r1 with
 |false=>simp only[yQ]at hr;subst hr;exact zEq
 |true=>
  go_wp2_with fail;refine(H2.out w1 aI.out).mono ?_;rintro e w2 ⟨rfl,O2⟩;have eF:=zh (aI.out.same O2);obtain⟨k0,k1⟩:=aF.out w2 eF.out;clear O2;cases r2 with
  |false=>simp only[yR,yQ]at hr;subst hr;exact zEp
  |true=>
   go_wp2_with fail;refine(H3.out w2 eF.out).mono ?_;rintro e w3 ⟨rfl,O3⟩;have kD:=zh (eF.out.same O3);obtain⟨k0,k1⟩:=aF.out w3 kD.out;clear O3;cases r3 with
   |true=>simp only[yR,Bool.not_true,yQ]at hr;subst hr;go_wp2_with fail;go_ret;exact⟨rfl,jW.out.same kD.out⟩
   |false=>go_wp2_with fail;refine(H4.out w3 kD.out).mono ?_;rintro e w4 ⟨rfl,O4⟩;have Ej:=zh (kD.out.same O4);clear O4;simp only[yR,Bool.not_false]at hr;subst hr;go_wp2_with fail;go_ret;exact⟨rfl,jW.out.same Ej.out⟩
theorem aiV(v:Str)(hv:okS v)(gs:Nat)(hg:w.cell? ⟨gs,0,none⟩=some (.string v))(hL:Laid w):lF fE B 341 #[.pointer (some ⟨gs,0,none⟩)] (fun s=>pK s v) w:=by
 intro W cs s hO hC;obtain⟨rfl,h1,h2⟩:=hC;have hlt:gs<w.heap.size:=World.block_lt_of_cell? _ _ hg;have hg2:W.cell? ⟨gs,0,none⟩=some (.string v):=by exact zEF
 obtain⟨W0,hW0⟩:=ze (W.alloc (.cells #[.string s.lo,.string s.hi] 128));have HB0:Hid (W0.heap[W.heap.size]? =some (.cells #[.string s.lo,.string s.hi] 128 (0,0))):=by rw[<-hW0];exact qL _ _
 have jW:Hid (O0 W W0):=zBn;have hg3:W0.cell? ⟨gs,0,none⟩=some (.string v):=eH hg2 jW.out (fun f=>f);have k0:W0.cell? ⟨W.heap.size,0,none⟩=some (.string s.lo):=by rw[aj HB0.out];rfl
 have k1:W0.cell? ⟨W.heap.size,1,none⟩=some (.string s.hi):=by rw[aj HB0.out];rfl
 obtain⟨r,hr⟩:=ze (pK s v);show Calls _ _ _ _ (fun e w'=>e= .returned (.bool (pK s v))/\_);rw[hr];have H1:=zh (aiU (w:=W0) s v h1 h2 hv ((hL.only hO).only jW.out) r hr);clear hg hg2 hlt hr h1 h2 hv hL hO;go_enter Tryz.func341,Tryz.ntmps341;go_wp2_with fail;try rw[hW0]
 clear hW0;refine H1.out.mono ?_;rintro e w1 ⟨rfl,O1⟩;go_wp2_with fail;go_ret;exact⟨rfl,jW.out.same O1⟩
theorem YP:∀args w,(callFunc 341 args).run Tryz.prog w= .ok (.enter 341 args) w:=enters_of Tryz.func341 zk rfl
theorem Ur(l:List rE)(v:Str):decide (0<=iK (fun s=>pK s v) l)=vC l v:=by
 unfold vC iK;by_cases h:l.any (fun s=>pK s v)=true;·rw[if_pos h,h];simp
 rw[if_neg h,Bool.eq_false_iff.2 h];simp
theorem YQ{vl:Value}{l:List rE}(hl:aS 2 fE B w vl l)(v:Str)(hv:okS v)(hL:Laid w)(r:Bool)(hr:vC l v=r):Calls Tryz.prog 285 #[vl,.string v] w (fun e w'=>e= .returned (.bool r)/\O0 w w'):=by
 obtain⟨ao,cap,rfl,-,-⟩:=hl.shape;obtain⟨n,hn⟩:=ze l.length;rw[hn]at hl⊢;have H1:Hid (Calls Tryz.prog 340 #[.slice ao n cap,.func (.func 341) #[] #[.pointer (some ⟨w.heap.size,0,none⟩)]] (w.alloc (.cells #[.string v] 9)) fun e w'=>e= .returned (.bool r)/\O0 (w.alloc (.cells #[.string v] 9)) w'):=
  N7 (hl.keep fE.keep (Kp.dV (zr.alloc _))) YP (aiV v hv _ (cell_new0 _ _ _) (hL.only (zr.alloc _))) r (by rw[Ur];exact hr)
 clear hl hn hr hL;go_enter Tryz.func285,Tryz.ntmps285;go_wp2_with fail;refine H1.out.mono ?_;rintro e w1 ⟨rfl,O1⟩;go_wp2_with fail;go_ret;exact⟨rfl,((Only.refl _ w).alloc _).same O1⟩
end
end Go.Proofs.YtdmmebjjojimiaaGreatDoor
namespace Go.Proofs
theorem zDe{p:Prop}(h:p:=by
 go_wp2_with fail
 refine H.out.mono ?_
 rintro e w1 ⟨rfl,O1⟩
 go_wp2_with fail
 go_ret
 refine⟨?_,O1⟩
 first
  |rfl
  | (rw[<-hr];rfl)
  | (rw[<-hr];simp)
  |simp):p:=h
end Go.Proofs
namespace Go.Proofs.YtdmmebjjojimiaaGreatDoor
open Go.RowKit Go.Shelf
section
variable {w w':World} {B:Nat}
theorem YR{v:Value}{xs:List wu}(h:aS 2 pR B w v xs){g:Nat}{cb:Array Value}{p:wu->Bool}(eg:∀args w,(callFunc g args).run Tryz.prog w= .ok (.enter g args) w)(hp:lF pR B g cb p w):Calls Tryz.prog 337 #[v,.func (.func g) #[] cb] w fun e w'=>e= .returned (.int .i64 (iK p xs))/\O0 w w':=by
 obtain⟨ao,cap,rfl,hc1,hc2⟩:=h.shape;have HH:=zh h;have LV:=zh hp;obtain⟨n,hn⟩:=ze xs.length;have HN:=zh hn;rw[hn]at hc1⊢;clear h hp hn;go_enter Tryz.func337,Tryz.ntmps337;go_wp2_with fail;go_loopw [5,8] (fun _ vi wr=>Hid (O0 w wr)/\∃i:Nat,vi= .int .i64 i/\i<=n/\Hid (∀x∈xs.take i,p x=false)) (fun _ v _=>n-(intOf v).toNat);case atStart=>exact⟨show Hid _ from Only.refl _ _,0,rfl,qE _,show Hid _ from fun x hx=>by simp at hx⟩
 case round=>
  obtain⟨HO,i,rfl,hi,HZ⟩:=hrel;by_cases ci:i<n
  ·have h2:=HH.out;rw[HN.out]at h2;obtain⟨b,off,he,-,-⟩:=h2.at zA0;subst he;obtain⟨x,hx⟩:=zG xs i zAe;obtain⟨cs,hl,hr,hC⟩:=(h2.keep pR.keep (Kp.dV HO.out)).get hx;have iE:=zw (i+1);have HR:=zh hr;have HL:=zh hl;have HX:=zh hx;have HC:=zh (LV.out wr cs x HO.out hC);obtain⟨y,hy⟩:=ze (p x);rw[hy]at HC;have HY:=zh hy;clear hr hx hy h2 hl hC;cases y with
   |true=>go_wp2_with (refine wpList_load_mid rfl 130 (.tmp 14) rfl b (off+i*2) rfl cs _ HR.out Tryz.underlying130 rfl zAi ?_);exact zDa
   |false=>go_wp2_with (refine wpList_load_mid rfl 130 (.tmp 14) rfl b (off+i*2) rfl cs _ HR.out Tryz.underlying130 rfl zAi ?_);exact zDO
  exact zDY
theorem QB{v:Value}{xs:List wu}(h:aS 2 pR B w v xs){g:Nat}{cb:Array Value}{p:wu->Bool}(eg:∀args w,(callFunc g args).run Tryz.prog w= .ok (.enter g args) w)(hp:lF pR B g cb p w)(r:Bool)(hr:decide (0<=iK p xs)=r):Calls Tryz.prog 273 #[v,.func (.func g) #[] cb] w fun e w'=>e= .returned (.bool r)/\O0 w w':=by have H:=zh (YR h eg hp);obtain⟨i,hi⟩:=ze (iK p xs);rw[hi]at H hr;clear h hp hi;go_enter Tryz.func273,Tryz.ntmps273;exact zDe
theorem abk(s:Str)(gs:Nat)(hg:w.cell? ⟨gs,0,none⟩=some (.string s)):lF pR B 274 #[.pointer (some ⟨gs,0,none⟩)] (fun r=>decide (r.version=s)) w:=by
 intro W cs x hO hC;obtain⟨rfl,-⟩:=hC;have hlt:gs<w.heap.size:=World.block_lt_of_cell? _ _ hg;have hg2:W.cell? ⟨gs,0,none⟩=some (.string s):=by exact zEF
 have hgW:gs<W.heap.size:=World.block_lt_of_cell? _ _ hg2;have hd:=fP x.version s;have hne:gs≠W.heap.size:=zAA;clear hg hlt;go_enter Tryz.func274,Tryz.ntmps274;exact zFZ
theorem Wu:∀args w,(callFunc 274 args).run Tryz.prog w= .ok (.enter 274 args) w:=enters_of Tryz.func274 zk rfl
def EW(v:Str)(r:wu):Bool:=decide (0<BM r.version.toList v.toList)
def Lh(p:iI)(v:Str):Int:=if decide (0<=iK (fun r:wu=>decide (r.version=v)) p.jc)=true then ((p.jc.filter (EW v)).length:Int)else -1
theorem aiW{LY:List Value}{p:iI}(hp:gY B w LY p)(hB:B<=w.heap.size)(hlen:p.jc.length<=1000000)(v:Str)(hv:okS v)(hL:Laid w):Calls Tryz.prog 192 #[.agg LY.toArray,.string v] w (fun e w'=>e= .returned (.int .i64 (Lh p v))/\O0 w w'):=by
 obtain⟨r,hr⟩:=ze (Lh p v);rw[hr];obtain⟨v1,v2,v3,v4,v5,v6,rfl,-,-,row,-⟩:=hp;obtain⟨wb,hwb⟩:=ze ((w.alloc (.cells #[.string p.name,.int .i64 p.line,v1,v2,v3,v4,v5,v6] 101)).alloc (.cells #[.string v] 9));have ob:O0 w wb:=by rw[<-hwb];exact(zr.alloc _).alloc _
 have cv:wb.cell? ⟨w.heap.size+1,0,none⟩=some (.string v):=by rw[<-hwb];simp
 have cr:wb.cell? ⟨w.heap.size,2,none⟩=some v1:=by rw[<-hwb];simp
 have agJ:=row.keep pR.keep (Kp.dV ob);obtain⟨cb,hcb⟩:∃x,decide (0<=iK (fun r:wu=>decide (r.version=v)) p.jc)=x:=⟨_,rfl⟩;have HC:=zh (QB agJ Wu (abk v (w.heap.size+1) cv) cb hcb);have hres:=hr;unfold Lh at hres;rw[hcb]at hres;have aZ:=zh hres;have aV:=zh ob;have pO:=zh agJ;have HL:=zh (hL.only ob);have HCV:=zh (show∀W,O0 wb W->W.cell? ⟨w.heap.size+1,0,none⟩=some (.string v)/\W.cell? ⟨w.heap.size,2,none⟩=some v1 from fun W ho=>⟨by rw[World.cell?_of_block (w:=wb) (ho.block _ (World.block_lt_of_cell? _ _ cv) (fun f=>f))];exact cv,by rw[World.cell?_of_block (w:=wb) (ho.block _ (World.block_lt_of_cell? _ _ cr) (fun f=>f))];exact cr⟩);have HV:=zh hv;have HLen:=zh hlen;obtain⟨ao,cap,rfl,k1,k2⟩:=agJ.shape;obtain⟨n,hn⟩:=ze p.jc.length;have HN:=zh hn;rw[hn]at HC pO cr k1 HCV hwb;rw[hn];clear hr hres row agJ hL hv hlen hcb ob hn;go_enter Tryz.func192,Tryz.ntmps192;go_wp2_with fail;refine HC.out.mono ?_;rintro e w1 ⟨rfl,O1⟩;have c1:=(HCV.out w1 O1).2;have aI:=zh O1;clear O1 HC cr cv hwb;cases cb with
 |false=>have h:(-1:Int)=r:=aZ.out;subst h;clear aZ;go_wp2_with fail;go_ret;exact⟨rfl,aV.out.same aI.out⟩
 |true=>
  have HR2:Hid (((p.jc.filter (EW v)).length:Int)=r):=aZ.out;clear aZ;have hn6:n<=1000000:=by rw[<-HN.out];exact HLen.out
  go_wp2_with fail;go_loopw [5,16] (fun ci vi wr=>Hid (O0 wb wr)/\∃i k:Nat,ci= .int .i64 k/\vi= .int .i64 i/\i<=n/\k<=i/\Hid (((p.jc.take i).filter (EW v)).length=k)) (fun _ v _=>n-(RowKit.intOf v).toNat);case atStart=>exact⟨aI,0,0,rfl,rfl,qE _,qH _,show Hid _ from by simp[Hid]⟩
  case round=>
   obtain⟨gK,i,k,rfl,rfl,hi,hk,HK⟩:=hrel;by_cases ci:i<n
   ·have iE:=zw (i+1);have ewk:=zw (k+1);obtain⟨y,hx⟩:=zG p.jc i zAe;obtain⟨b,off,he,hok,hE⟩:=MQ (pO.out.keep pR.keep (Kp.dV gK.out)) hx;subst he;have hr2:=(hE wr zr).1;have g0:=hr2 0 _ rfl;have g1:=hr2 1 _ rfl;rw[qF]at g0;obtain⟨yv,yo⟩:=y;dsimp only at g0 g1 hok;have oc:O0 wb (wr.alloc (.cells #[.string yv,.bool yo] 130)):=gK.out.alloc _;have d1:=(HCV.out _ oc).1;obtain⟨c,hc⟩:=ze (BM yv.toList v.toList);have hcmp:=RH yv v hok HV.out (HL.out.only oc);rw[hc]at hcmp;have ale:=zh hcmp;have YS:=zh oc;have HX:=zh hx;have HCc:=zh hc;clear hr2 hE hx hok oc hcmp hc;go_wp2_with fail;refine ale.out.mono ?_;rintro e w2 ⟨rfl,O2⟩;have eF:=zh (YS.out.same O2);clear O2 ale;by_cases c0:0<c
    ·have HK2:Hid (((p.jc.take (i+1)).filter (EW v)).length=k+1):=by rw[Hid,List.take_add_one,HX.out,List.filter_append,qK,HK.out];simp only[Option.toList_some,List.filter_cons,EW,HCc.out,qX c0,if_true,List.filter_nil,qN,List.length_nil]
     go_wp2_with fail;go_roundw;case rel=>exact⟨eF,i+1,k+1,by first|rfl|go_num,by first|rfl|go_num,by omega,by omega,HK2⟩
     case measure=>simp[RowKit.intOf]<;>omega
    have HK2:Hid (((p.jc.take (i+1)).filter (EW v)).length=k):=by rw[Hid,List.take_add_one,HX.out,List.filter_append,qK,HK.out];simp only[Option.toList_some,List.filter_cons,EW,HCc.out,qP c0,Bool.false_eq_true,if_false,List.filter_nil,List.length_nil,qF]
    go_wp2_with fail;go_roundw;case rel=>exact⟨eF,i+1,k,by first|rfl|go_num,by first|rfl|go_num,by omega,by omega,HK2⟩
    case measure=>simp[RowKit.intOf]<;>omega
   obtain rfl:i=n:=by omega
   have hkr:(k:Int)=r:=by rw[<-HR2.out,<-HK.out,qI (yG HN.out)]
   subst hkr;clear HR2 HK;go_wp2_with fail;go_ret;exact⟨rfl,aV.out.same gK.out⟩
end
end Go.Proofs.YtdmmebjjojimiaaGreatDoor
namespace Go.Proofs.YtdmmebjjojimiaaGreatDoor
open Go.RowKit
open Vn (gI Ar vlt uw Ah Yw)
theorem Wv{x:List (List UInt8)}{j:Nat}(h:x.length<=j):Ah x j=[]:=by rw[Ah,qC,List.getElem?_eq_none h];rfl
theorem abl{a b:List UInt8}(h:Ar a b):¬Ar b a:=fun g=>Vn.zD _ (Vn.Rw h g)
theorem N9(x y:List (List UInt8)):∀(k i:Nat),uw x y k i= -uw y x k i
 |0,_=>rfl
 |k+1,i=>by
  unfold uw
  by_cases c1:Ar (Ah x i) (Ah y i)
  ·rw[if_pos c1,if_neg (abl c1),if_pos c1]
  ·rw[if_neg c1]
   by_cases c2:Ar (Ah y i) (Ah x i)
   ·rw[if_pos c2,if_pos c2];rfl
   ·rw[if_neg c2,if_neg c2,if_neg c1]
    exact N9 x y k (i+1)
theorem Oa{a b:List UInt8}(ha:iV a=true)(hb:iV b=true):BM a b<0↔vlt (dZ 46 a) (dZ 46 b):=by unfold BM;rw[if_pos ha,if_pos hb];exact Vn.Rx _ _ (fun j hj=>by omega) (fun j hj=>by rw[Wv zCj,Wv zAA]) (fun j=>⟨Vn.TT (BK ha) j,Vn.TT (BK hb) j⟩)
theorem Wx{a b:List UInt8}(ha:iV a=true)(hb:iV b=true):0<BM a b↔vlt (dZ 46 b) (dZ 46 a):=by rw[<-Oa hb ha];unfold BM;rw[if_pos ha,if_pos hb,if_pos hb,if_pos ha,N9,Nat.max_comm];omega
theorem RN{x y:List (List UInt8)}(h:∀j,Yw (Ah x j)/\Yw (Ah y j)):∀(k i:Nat),DX x y k i=true↔uw x y k i<0
 |0,_=>by simp[DX,uw]
 |k+1,i=>by
  unfold DX uw
  have e1:Vn.Yx (x.getD i []) (y.getD i [])=true↔Ar (Ah x i) (Ah y i):=Vn.aaf (h i).1 (h i).2
  have e2:Vn.Yx (y.getD i []) (x.getD i [])=true↔Ar (Ah y i) (Ah x i):=Vn.aaf (h i).2 (h i).1
  by_cases c1:Ar (Ah x i) (Ah y i)
  ·rw[if_pos (e1.2 c1),if_pos c1];simp
  ·rw[if_neg (fun g=>c1 (e1.1 g)),if_neg c1]
   by_cases c2:Ar (Ah y i) (Ah x i)
   ·rw[if_pos (e2.2 c2),if_pos c2];simp
   ·rw[if_neg (fun g=>c2 (e2.1 g)),if_neg c2]
    exact RN h k (i+1)
theorem adT{a b:List UInt8}(ha:iV a=true)(hb:iV b=true):pJ a b=true↔vlt (dZ 46 a) (dZ 46 b):=by have hok:∀j,Yw (Ah (dZ 46 a) j)/\Yw (Ah (dZ 46 b) j):=fun j=>⟨Vn.TT (BK ha) j,Vn.TT (BK hb) j⟩;rw[<-Oa ha hb];unfold pJ BM;rw[ha,hb,if_pos rfl,if_pos rfl,if_pos (by rfl)];exact RN hok _ _
end Go.Proofs.YtdmmebjjojimiaaGreatDoor
namespace Go.Proofs.YtdmmebjjojimiaaGreatDoor
open Go.RowKit
theorem Wy(a b:List UInt8):pJ a b=decide (0<BM b a):=by
 by_cases ha:iV a=true
 ·by_cases hb:iV b=true;·rw[Bool.eq_iff_iff,adT ha hb,yP,Wx hb ha]
  unfold pJ BM;simp[ha,hb]
 by_cases hb:iV b=true;·unfold pJ BM;simp[ha,hb]
 unfold pJ BM;simp[ha,hb]
theorem agK{α:Type}(q:α->Bool)(xs:List α):decide (0<=iK q xs)=xs.any q:=by
 unfold iK;cases h:xs.any q with
 |true=>simp
 |false=>simp
def Ob(p:iI)(v:Str):Int:=if (p.jc.any fun r=>decide (r.version=v))=true then ((p.jc.filter fun r=>pJ v.toList r.version.toList).length:Int)else -1
theorem abm(p:iI)(v:Str):Lh p v=Ob p v:=by
 unfold Lh Ob;rw[agK];have e:(fun r:wu=>pJ v.toList r.version.toList)=EW v:=by funext r;rw[Wy];rfl
 rw[e]
end Go.Proofs.YtdmmebjjojimiaaGreatDoor
