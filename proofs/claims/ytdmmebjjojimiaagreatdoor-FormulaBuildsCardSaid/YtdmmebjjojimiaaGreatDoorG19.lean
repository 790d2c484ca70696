/- cmp.Or at ints.; Package version: Compare (printed by gen/gen_wv7.py out of XWv7.src). -/
import Derived.Test.YtdmmebjjojimiaaGreatDoorG18
import Derived.Test.YtdmmebjjojimiaaGreatDoorG15
set_option maxRecDepth 100000
set_option maxHeartbeats 8000000
set_option linter.all false
namespace Go.Proofs.YtdmmebjjojimiaaGreatDoor
open Go.RowKit
def VX:List Int->Int
 | []=>0
 |x::r=>if x=0 then VX r else x
theorem KZ{xs:List Int}:∀{i:Nat},i<=xs.length->(∀j,j<i->xs.getD j 0=0)->VX xs=VX (xs.drop i)
 |0,_,_=>by simp
 |i+1,h,ha=>by
  rw[KZ (i:=i) zBU (fun j hj=>ha j zAB)]
  rw[List.drop_eq_getElem_cons (show i<xs.length by omega)]
  have:=ha i zAB
  rw[qC,qA (show i<xs.length by omega)]at this
  simp only[Option.getD_some]at this
  show(if xs[i]=0 then _ else _)=_
  rw[if_pos this]
theorem ah7{xs:List Int}{i:Nat}(h:i<xs.length)(ha:∀j,j<i->xs.getD j 0=0)(hn:xs.getD i 0≠0):VX xs=xs.getD i 0:=by
 rw[KZ (Nat.le_of_lt h) ha,List.drop_eq_getElem_cons h];have e:xs.getD i 0=xs[i]:=by rw[qC,qA h];rfl
 rw[e]at hn⊢;show(if xs[i]=0 then _ else _)=_;rw[if_neg hn]
theorem ah8{w:World}{v:Value}{xs:List Int}(hI:Ints w v xs):Calls Tryz.prog 234 #[v] w fun e w'=>e= .returned (.int .i64 (VX xs))/\w'=w:=by
 obtain⟨ao,cap,rfl,hl1,hl2⟩:=hI.shape;obtain⟨r,hr⟩:=ze (VX xs);rw[hr];have HR:=zh hr;have HI:=zh hI;clear hI hr;go_enter Tryz.func234,Tryz.ntmps234;go_wp2_with fail;go_loopw [5,8] (fun _ vi wr=>w=wr/\∃i:Nat,vi= .int .i64 i/\i<=xs.length/\Hid (∀j,j<i->xs.getD j 0=0)) (fun _ v _=>xs.length-(intOf v).toNat);case atStart=>exact⟨rfl,0,rfl,qE _,fun j hj=>by omega⟩
 case round=>
  obtain⟨rfl,i,rfl,hi,HZ⟩:=hrel;by_cases ci:i<xs.length
  ·obtain⟨bl,ol,rfl,_,hcs⟩:=HI.out.cells _ _ _ rfl zAB;have qx:=hcs i ci;have iG:=zw (i+1);obtain⟨x,hx⟩:=ze (xs.getD i 0);rw[hx]at qx;have HX:=zh hx;clear hcs hx;by_cases c0:x=0
   ·subst c0;go_wp2_with fail;go_roundw;case rel=>exact⟨by first|rfl|trivial,i+1,by first|rfl|go_num,by omega,show Hid _ from fun j hj=>by
     by_cases c:j=i
     ·subst c;exact HX.out
     ·exact HZ.out j zAB⟩
    case measure=>simp[intOf]<;>omega
   have dx:decide (x=0)=false:=qP c0;have dx2:(x != 0)=true:=by simp[c0]
   go_wp2_with fail;go_ret;exact⟨by rw[<-HR.out,ah7 ci HZ.out (by rw[HX.out];exact c0),HX.out];rfl,rfl⟩
  have:i=xs.length:=by omega
  subst this;go_wp2_with fail;go_ret;refine⟨?_,rfl⟩;rw[<-HR.out,KZ (qH _) HZ.out];simp[VX]
theorem acS{w:World}{b:Nat}{xs:List Int}{t:TypeId}{f:Nat×Nat}(h:w.heap[b]? =some (.cells (xs.map cI).toArray t f))(hr:∀x∈xs,bg x)(hl:xs.length<=9223372036854775807):Ints w (.slice (some ⟨b,0,none⟩) xs.length xs.length) xs:=by refine⟨⟨_,_,rfl,qH _,hl⟩,fun ao len cap hv hp=>?_,hr,fun len cap hv=>by simp at hv⟩;simp only[qU]at hv;obtain⟨rfl,rfl,rfl⟩:=hv;refine⟨b,0,rfl,bU h,fun i hi=>?_⟩;rw[aj h];simp[qC,hi]
theorem afB(w:World)(xs:List Int)(t:TypeId)(n:Nat)(hn:n=w.heap.size)(hr:∀x∈xs,bg x)(hl:xs.length<=9223372036854775807):Ints (w.alloc (.cells (xs.map cI).toArray t)) (.slice (some ⟨n,0,none⟩) xs.length xs.length) xs:=by subst hn;exact acS (qL w _) hr hl
end Go.Proofs.YtdmmebjjojimiaaGreatDoor
namespace Go.Proofs
theorem zBM{p:Prop}(h:p:=by rw[aj bB];rfl):p:=h
theorem zBN{p:Prop}(h:p:=by rw[aj bA];rfl):p:=h
theorem zBn{p:Prop}(h:p:=by repeat (first|exact Only.refl _ _|apply Only.drew|apply Only.alloc|apply Only.drewN)):p:=h
theorem zB9{p:Prop}(h:p:=by(intro w;go_simp<;>(try with_reducible rfl))):p:=h
theorem zDU{p:Prop}(h:p:=by
 go_wp2_with fail
 go_ret
 exact⟨rfl,iO.out⟩):p:=h
end Go.Proofs
namespace Go.Proofs.YtdmmebjjojimiaaGreatDoor
open Go.RowKit
open Vn (jI gJ numeral dS Qv DJ)
def acT(a b:List UInt8):Int:=
 if wW a=true then (if wW b=true then DJ (jf 46 a) (jf 46 b) (max (jf 46 a).length (jf 46 b).length) 0 else 1)else if wW b=true then -1 else 0
theorem Xt:partOf []=endP:=by unfold partOf endP;rfl
theorem IW(l:List (List UInt8))(i:Nat):(l.map partOf).getD i endP=partOf (l.getD i []):=by
 rw[qC,qC,List.getElem?_map];cases l[i]? with
 |none=>exact Xt.symm
 |some x=>rfl
theorem YP{a b:Nat}(h:a<b):Lib.compareInt (a:Int) (b:Int)= -1:=by unfold Lib.compareInt;rw[if_pos zAB]
theorem YQ{a b:Nat}(h:b<a):Lib.compareInt (a:Int) (b:Int)=1:=by unfold Lib.compareInt;rw[if_neg zBU,if_pos zAB]
theorem YR{a b:Nat}(h:a=b):Lib.compareInt (a:Int) (b:Int)=0:=by unfold Lib.compareInt;rw[if_neg zBU,if_neg zAB]
theorem ah9(x y:List UInt8):VX [Lib.compareInt (gJ x:Int) (gJ y:Int),Lib.compareInt (numeral x:Int) (numeral y:Int),KW (dS x) (dS y)]=if Qv x y then -1 else if Qv y x then 1 else 0:=by
 rcases Nat.lt_trichotomy (gJ x) (gJ y)with h|h|h;·rw[YP h,if_pos (show Qv x y from .inl h)];simp[VX]
 ·rw[YR h];rcases Nat.lt_trichotomy (numeral x) (numeral y)with g|g|g;·rw[YP g,if_pos (show Qv x y from .inr ⟨h,.inl g⟩)];simp[VX]
  ·rw[YR g];by_cases c1:dS x<dS y;·rw[show KW (dS x) (dS y)= -1 from if_pos c1,if_pos (show Qv x y from .inr ⟨h,.inr ⟨g,c1⟩⟩)];simp[VX]
   have n1:¬Qv x y:=fun hh=>by
    rcases hh with hh| ⟨_,hh| ⟨_,hh⟩⟩;·omega
    ·omega
    exact c1 hh
   rw[if_neg n1];by_cases c2:dS y<dS x;·rw[show KW (dS x) (dS y)=1 from(if_neg c1).trans (if_pos c2),if_pos (show Qv y x from .inr ⟨h.symm,.inr ⟨g.symm,c2⟩⟩)];simp[VX]
   have n2:¬Qv y x:=fun hh=>by
    rcases hh with hh| ⟨_,hh| ⟨_,hh⟩⟩;·omega
    ·omega
    exact c2 hh
   rw[show KW (dS x) (dS y)=0 from(if_neg c1).trans (if_neg c2),if_neg n2];simp[VX]
  have n1:¬Qv x y:=fun hh=>by rcases hh with hh| ⟨_,hh| ⟨_,hh⟩⟩<;>omega
  rw[YQ g,if_neg n1,if_pos (show Qv y x from .inr ⟨h.symm,.inl g⟩)];simp[VX]
 have n1:¬Qv x y:=fun hh=>by rcases hh with hh| ⟨hh,_⟩<;>omega
 rw[YQ h,if_neg n1,if_pos (show Qv y x from .inl h)];simp[VX]
section
variable {w w':World} {B:Nat}
theorem aai(a b:Str)(ha:okS a)(hb:okS b)(hL:Laid w):Calls Tryz.prog 275 #[.string a,.string b] w (fun e w'=>e= .returned (.int .i64 (acT a.toList b.toList))/\O0 w w'):=by
 obtain⟨r,hr⟩:=ze (acT a.toList b.toList);rw[hr];have HA:=zh (QA a ha hL);have HB:Hid (∀W,O0 w W->Calls Tryz.prog 329 #[.string b] W (fun e w'=>wK b W w' e)):=fun W ho=>QA b hb (hL.only ho);have bD:=zh hr;clear hr ha hb hL;go_enter Tryz.func275,Tryz.ntmps275;go_wp2_with fail;refine HA.out.mono ?_;rintro e w1 ⟨va,ma,rfl,hma,hra,O1⟩;have aW:=zh O1;have HMA:=zh hma;have HRA:=zh hra;clear O1 hma hra HA;go_wp2_with fail;refine(HB.out _ aW.out).mono ?_;rintro e w2 ⟨vb,mb,rfl,hmb,hrb,O2⟩;have iO:=zh (aW.out.same O2);have HMB:=zh hmb;have HRB:=zh hrb;have FQ:=zh O2;clear O2 hmb hrb HB;have hres:=bD.out;unfold acT at hres;rw[HMA.out,HMB.out]at hres;clear bD;cases ma with
 |false=>
  cases mb with
  |false=>have h:(0:Int)=r:=hres;subst h;clear hres;exact zDU
  |true=>have h:(-1:Int)=r:=hres;subst h;clear hres;exact zDU
 |true=>
  cases mb with
  |false=>have h:(1:Int)=r:=hres;subst h;clear hres;exact zDU
  |true=>
   have h:DJ (jf 46 a.toList) (jf 46 b.toList) (max (jf 46 a.toList).length (jf 46 b.toList).length) 0=r:=hres;clear hres;have rowA:=HRA.out zBG;have rowB:=HRB.out zBG;have la:=Ue HMA.out;have lb:=Ue HMB.out;obtain⟨X,hX⟩:=ze (jf 46 a.toList);obtain⟨Y,hY⟩:=ze (jf 46 b.toList);rw[hX]at rowA la h;rw[hY]at rowB lb h;clear HRA HRB HMA HMB hX hY;obtain⟨aa,ca,rfl,ka1,ka2⟩:=rowA.shape;obtain⟨ab,cb,rfl,kb1,kb2⟩:=rowB.shape;obtain⟨na,hna⟩:=ze X.length;obtain⟨nb,hnb⟩:=ze Y.length;simp only[qM,hna,hnb]at rowA rowB ka1 kb1⊢;rw[hna]at la h;rw[hnb]at lb h;obtain⟨m,hm⟩:=ze (max na nb);rw[hm]at h;have hm8:m<=8:=zAB;have HAt:Hid (∀W (i:Nat),i<=8->O0 w2 W->Calls Tryz.prog 338 #[.slice aa na ca,.int .i64 (i:Int)] W (fun e w'=>e= .returned (.agg (partOf (X.getD i [])).val)/\O0 W w')):=fun W i hi ho=>ald (rowA.keep KU.keep (Kp.gV (FQ.out.same ho))) i zAB _ (IW X i);have HBt:Hid (∀W (i:Nat),i<=8->O0 w2 W->Calls Tryz.prog 338 #[.slice ab nb cb,.int .i64 (i:Int)] W (fun e w'=>e= .returned (.agg (partOf (Y.getD i [])).val)/\O0 W w')):=fun W i hi ho=>ald (rowB.keep KU.keep (Kp.gV ho)) i zAB _ (IW Y i);have HM:=zh hm;have HR0:Hid (DJ X Y m 0=r):=h;have ku:Hid (O0 w2 w2):=Only.refl _ _;clear h rowA rowB hm hna hnb la lb FQ;go_wp2_with fail;go_loopw [41] (fun vi fM=>Hid (O0 w2 fM)/\∃i:Nat,vi= .int .i64 i/\i<=m/\Hid (DJ X Y (m-i) i=r)) (fun v _=>m-(RowKit.intOf v).toNat);case atStart=>exact⟨ku,0,rfl,qE _,HR0⟩
   case round=>
    obtain⟨fM,rfl⟩:=zB wr;clear ku HR0;obtain⟨xK,i,rfl,hi,Ci⟩:=hrel;by_cases ci:i<m
    ·have iG:=zw (i+1);have hci:(i:Int)<max (na:Int) (nb:Int):=by have:=HM.out;omega
     have H1:=zh (HAt.out fM i zAB xK.out);have H2:Hid (∀W,O0 fM W->_):=fun W ho=>HBt.out W i zAB (xK.out.same ho);obtain⟨p,hp⟩:=ze (X.getD i []);obtain⟨q,hq⟩:=ze (Y.getD i []);rw[hp]at H1;rw[hq]at H2;obtain⟨c1,h1⟩:∃c,Lib.compareInt (gJ p:Int) (gJ q:Int)=c:=⟨_,rfl⟩;obtain⟨c2,h2⟩:∃c,Lib.compareInt (numeral p:Int) (numeral q:Int)=c:=⟨_,rfl⟩;obtain⟨c3,h3⟩:=ze (KW (dS p) (dS q));obtain⟨c,hc⟩:=ze (VX [c1,c2,c3]);have HRj:Hid ((if c=0 then DJ X Y (m-(i+1)) (i+1)else c)=r):=by
      show(if c=0 then DJ X Y (m-(i+1)) (i+1)else c)=r;have h:=Ci.out;obtain⟨k,hk⟩:∃k,m-i=k+1:=⟨m-i-1,by omega⟩;have hk2:m-(i+1)=k:=zAB;have hor:=ah9 p q;rw[h1,h2,h3,hc]at hor;rw[hk,DJ,Vn.atP,Vn.atP,hp,hq]at h;rw[hk2,<-h,hor];by_cases g1:Qv p q;·rw[if_pos g1,if_pos g1];simp
      rw[if_neg g1,if_neg g1];by_cases g2:Qv q p;·rw[if_pos g2,if_pos g2];simp
      rw[if_neg g2,if_neg g2];simp
     have r1:bg c1:=by rw[<-h1];unfold Lib.compareInt bg;split<;>(try split)<;>omega
     have r2:bg c2:=by rw[<-h2];unfold Lib.compareInt bg;split<;>(try split)<;>omega
     have r3:bg c3:=by rw[<-h3];unfold KW bg;split<;>(try split)<;>omega
     have RR:=zh (And.intro r1 (And.intro r2 r3));unfold partOf Part.val at H1 H2;dsimp only at H1 H2;obtain⟨pr,epr⟩:∃x:Int,(gJ p:Int)=x:=⟨_,rfl⟩;obtain⟨pn,epn⟩:∃x:Int,(numeral p:Int)=x:=⟨_,rfl⟩;obtain⟨pw,epw⟩:∃x:Str,(⟨(dS p).toArray⟩:Str)=x:=⟨_,rfl⟩;obtain⟨qr,eqr⟩:∃x:Int,(gJ q:Int)=x:=⟨_,rfl⟩;obtain⟨qn,eqn⟩:∃x:Int,(numeral q:Int)=x:=⟨_,rfl⟩;obtain⟨qw,eqw⟩:∃x:Str,(⟨(dS q).toArray⟩:Str)=x:=⟨_,rfl⟩;have K1:Hid (∀W:World,Calls Tryz.prog 235 #[.int .i64 pr,.int .i64 qr] W fun e w'=>e= .returned (.int .i64 c1)/\W=w'):=fun W=>by rw[<-h1,epr,eqr];exact(Sv.cmp_Compare_int _ _ W).mono fun _ _ h=>⟨h.1,h.2.symm⟩
     have K2:Hid (∀W:World,Calls Tryz.prog 235 #[.int .i64 pn,.int .i64 qn] W fun e w'=>e= .returned (.int .i64 c2)/\W=w'):=fun W=>by rw[<-h2,epn,eqn];exact(Sv.cmp_Compare_int _ _ W).mono fun _ _ h=>⟨h.1,h.2.symm⟩
     have K3:Hid (∀W:World,Calls Tryz.prog 95 #[.string pw,.string qw] W fun e w'=>e= .returned (.int .i64 c3)/\W=w'):=fun W=>by have:=Ui (w:=W) pw qw;rw[<-epw,<-eqw]at this⊢;rw[ByteArray.toList_eq,ByteArray.toList_eq]at this;rw[<-h3];exact this.mono fun _ _ h=>⟨h.1,h.2.symm⟩
     rw[epr,epn,epw]at H1;have H2':Hid (∀W,O0 fM W->Calls Tryz.prog 338 #[.slice ab nb cb,.int .i64 (i:Int)] W (fun e w'=>e= .returned (.agg #[.int .i64 qr,.int .i64 qn,.string qw])/\O0 W w')):=fun W ho=>by rw[<-eqr,<-eqn,<-eqw];exact H2.out W ho
     have HC:=zh hc;clear Ci h1 h2 h3 hc r1 r2 r3 H2 epr epn epw eqr eqn eqw hp hq;go_wp2_with fail;refine H1.out.mono ?_;rintro e w3 ⟨rfl,O3⟩;have uw:=zh O3;clear O3;go_wp2_with fail;refine(H2'.out _ uw.out).mono ?_;rintro e w4 ⟨rfl,O4⟩;have KY:=zh (xK.out.same (uw.out.same O4));clear O4 H1 H2' uw;obtain⟨w5,hw5⟩:=ze ((w4.alloc (.cells #[.int .i64 pr,.int .i64 pn,.string pw] 355)).alloc (.cells #[.int .i64 qr,.int .i64 qn,.string qw] 355));obtain⟨A,hA⟩:=ze w4.heap.size;have bA:w5.heap[A]? =some (.cells #[.int .i64 pr,.int .i64 pn,.string pw] 355 (0,0)):=by rw[<-hw5,<-hA];exact cZ (qL _ _) _
     have bB:w5.heap[A+1]? =some (.cells #[.int .i64 qr,.int .i64 qn,.string qw] 355 (0,0)):=by rw[<-hw5,<-hA];have:=qL (w4.alloc (.cells #[.int .i64 pr,.int .i64 pn,.string pw] 355)) (.cells #[.int .i64 qr,.int .i64 qn,.string qw] 355);rwa[World.size_alloc]at this
     have Ar:Hid (O0 w2 w5):=by rw[<-hw5];exact(KY.out.alloc _).alloc _
     have a0:w5.cell? ⟨A,0,none⟩=some (.int .i64 pr):=zBN;have a1:w5.cell? ⟨A,1,none⟩=some (.int .i64 pn):=zBN;have a2:w5.cell? ⟨A,2,none⟩=some (.string pw):=zBN;have b0:w5.cell? ⟨A+1,0,none⟩=some (.int .i64 qr):=zBM;have b1:w5.cell? ⟨A+1,1,none⟩=some (.int .i64 qn):=zBM;have b2:w5.cell? ⟨A+1,2,none⟩=some (.string qw):=zBM;have HS0:=zh (show w5.cell? ⟨A,0,none⟩=some (.int .i64 pr)/\w5.cell? ⟨A,1,none⟩=some (.int .i64 pn)/\w5.cell? ⟨A,2,none⟩=some (.string pw)/\w5.cell? ⟨A+1,0,none⟩=some (.int .i64 qr)/\w5.cell? ⟨A+1,1,none⟩=some (.int .i64 qn)/\w5.cell? ⟨A+1,2,none⟩=some (.string qw) from⟨a0,a1,a2,b0,b1,b2⟩);have GK:=zh (show∀w':World,O0 w5 w'->w'.cell? ⟨A,0,none⟩=some (.int .i64 pr)/\w'.cell? ⟨A,1,none⟩=some (.int .i64 pn)/\w'.cell? ⟨A,2,none⟩=some (.string pw)/\w'.cell? ⟨A+1,0,none⟩=some (.int .i64 qr)/\w'.cell? ⟨A+1,1,none⟩=some (.int .i64 qn)/\w'.cell? ⟨A+1,2,none⟩=some (.string qw) from fun w' ho=>⟨by rw[aj ((ho.block _ (bU bA) (fun f=>f)).trans bA)];rfl,by rw[aj ((ho.block _ (bU bA) (fun f=>f)).trans bA)];rfl,by rw[aj ((ho.block _ (bU bA) (fun f=>f)).trans bA)];rfl,
      by rw[aj ((ho.block _ (bU bB) (fun f=>f)).trans bB)];rfl,by rw[aj ((ho.block _ (bU bB) (fun f=>f)).trans bB)];rfl,by rw[aj ((ho.block _ (bU bB) (fun f=>f)).trans bB)];rfl⟩)
     have HI3:=zh (show∀W:World,Ints (W.alloc (.cells #[.int .i64 c1,.int .i64 c2,.int .i64 c3] 3)) (.slice (some ⟨W.heap.size,0,none⟩) 3 3) [c1,c2,c3] from fun W=>afB W [c1,c2,c3] 3 _ rfl (fun y hy=>by
      obtain⟨r1,r2,r3⟩:=RR.out
      simp at hy
      rcases hy with rfl|rfl|rfl
      ·exact r1
      ·exact r2
      ·exact r3) zAF)
     clear bA bB a0 a1 a2 b0 b1 b2;go_upto_region 13 with fail;try rw[hA]
     try rw[hw5]
     clear hA hw5;refine bC (n:=18) (E:=fun _=>false) (S:=fun w':World=>w'.cell? ⟨A,0,none⟩=some (.int .i64 pr)/\w'.cell? ⟨A,1,none⟩=some (.int .i64 pn)/\w'.cell? ⟨A,2,none⟩=some (.string pw)/\w'.cell? ⟨A+1,0,none⟩=some (.int .i64 qr)/\w'.cell? ⟨A+1,1,none⟩=some (.int .i64 qn)/\w'.cell? ⟨A+1,2,none⟩=some (.string qw)) zk rfl HS0.out (fun hHeld=>?_);refine tW 0 ?_;refine tK 1 ?_;refine tW 2 ?_;refine tK 3 ?_;refine mP (i:=4) (v:=?_) (f:=235) (args:= #[.int .i64 pr,.int .i64 qr]) rfl zk zk zk rfl zk zk (fun _ _ _ h=>h) (by assumption) (by rfl) ?_ ?_ ?_;rotate_left;·exact zB9
     ·(intro w hSw;exact K1.out w)
     try simp only[Act.put,eF,eG,dW,dX,dY]
     refine tW 5 ?_;refine tK 6 ?_;refine tW 7 ?_;refine tK 8 ?_;refine mP (i:=9) (v:=?_) (f:=235) (args:= #[.int .i64 pn,.int .i64 qn]) rfl zk zk zk rfl zk zk (fun _ _ _ h=>h) (by assumption) (by rfl) ?_ ?_ ?_;rotate_left;·exact zB9
     ·(intro w hSw;exact K2.out w)
     try simp only[Act.put,eF,fA,eG,dW,dX,dY]
     refine tW 10 ?_;refine tK 11 ?_;refine tW 12 ?_;refine tK 13 ?_;refine mP (i:=14) (v:=?_) (f:=95) (args:= #[.string pw,.string qw]) rfl zk zk zk rfl zk zk (fun _ _ _ h=>h) (by assumption) (by rfl) ?_ ?_ ?_;rotate_left;·exact zB9
     ·(intro w hSw;exact K3.out w)
     try simp only[Act.put,eF,fA,eG,dW,dX,dY]
     refine tO 15 fun K hK=>?_;go_simp;refine hK.out _ _ ?_ (fun hHeld=>?_);·(try dsimp only)<;>(exact GK.out _ zBn)
     clear hK K;try simp only[Act.put,eF,fA,eG,dW,dX,dY]
     refine tO 16 fun K hK=>?_;(go_simp;refine(ah8 (xs:=[c1,c2,c3]) (HI3.out w5.drew)).mono ?_;rw[HC.out];rintro e w6 ⟨rfl,h6⟩;subst h6;try go_wp2_with fail);refine hK.out _ _ ?_ (fun hHeld=>?_);·(try dsimp only)<;>(exact GK.out _ zBn)
     clear hK K;try simp only[Act.put,eF,fA,eG,dW,dX,dY]
     refine tW 17 ?_;refine bf zk ?_ _;have JD:=zh (Only.same Ar.out (show O0 w5 ((w5.drew).alloc (.cells #[.int .i64 c1,.int .i64 c2,.int .i64 c3] 3)) from(zr.drew).alloc _));by_cases c0:c=0
     ·subst c0;have HRk:Hid (DJ X Y (m-(i+1)) (i+1)=r):=HRj.out;go_wp2_with fail;go_roundw;case rel=>exact⟨JD,i+1,by first|rfl|go_num,by omega,HRk⟩
      case measure=>simp[RowKit.intOf]<;>omega
     have hcr:c=r:=by have h:=HRj.out;rw[if_neg c0]at h;exact h
     subst hcr;clear HRj;go_wp2_with fail;go_ret;exact⟨rfl,iO.out.same JD.out⟩
    have hci:¬(i:Int)<max (na:Int) (nb:Int):=by have:=HM.out;omega
    have hr2:(0:Int)=r:=by have h:=Ci.out;rw[show m-i=0 by omega]at h;exact h
    subst hr2;clear Ci;go_wp2_with fail;go_ret;exact⟨rfl,iO.out.same xK.out⟩
end
end Go.Proofs.YtdmmebjjojimiaaGreatDoor
namespace Go.Proofs.YtdmmebjjojimiaaGreatDoor
open Go.RowKit
def Hu(s:Str):Bool:=decide (s=ByteArray.empty)||wW s.toList
def Bv(a b:Str):Bool:= !decide (a=ByteArray.empty)&& !decide (b=ByteArray.empty)&&decide (acT a.toList b.toList<0)
def QB(s:jm):Bool:=Hu s.lo&&Hu s.hi&& !Bv s.hi s.lo
def xA(s:jm)(v:Str):Bool:=QB s&&wW v.toList&& !Bv v s.lo&& !Bv s.hi v
def uy(l:List jm)(v:Str):Bool:=l.any fun s=>xA s v
def lX(p k:Nat):At:=(4,p,k,0)
def iV(p t:Nat):At:=(5,p,t,0)
def fU(n:Nat):At:=(6,n,0,0)
def fG(r:Nat):At:=(7,r,0,0)
def oI(p t:Nat):At:=(8,p,t,0)
def dw(p r c:Nat):At:=(10,p,r,c)
def TB.num(S:TB)(a:At):TB×Int:=(((S.1.num a).1,S.2),(S.1.num a).2)
def TB.nums(S:TB)(l:List At):TB×List Int:=(((S.1.nums l).1,S.2),(S.1.nums l).2)
def TB.bG(S:TB)(l:List Int):TB:=if l.contains 0=true then S else (S.1,S.2.add l)
def Hw(x:Int)(l:List Int):List (List Int):=(-x::l)::l.map fun y=>[-y,x]
def nC(x:Int)(l:List Int):List (List Int):=l.map (fun y=>[-x,y])++[x::l.map fun y=> -y]
def qB(T:Tab):Nat:=T.helps+((List.range (T.l.length+1)).find? fun j=>decide (hA (T.helps+j)∉T.l)).getD 0
def TB.help(S:TB):TB×Int:=TB.num ({S.1 with helps:=qB S.1},S.2) (hA (qB S.1))
def ru(p:Nat)(aX:List lV)(l:List jm):List At:=((List.range aX.length).filter fun i=>uy l (aX.getD i default).version).map (kF p)
def TB.set(S:TB)(p:Nat)(aX:List lV)(l:List jm):TB×Int:=
 let R:=S.nums (ru p aX l)
 let H:=R.1.help
 (if 0<H.2/\R.2.contains 0=false then (H.1.1,H.1.2.adds (Hw H.2 R.2))else H.1,H.2)
def QC(vars:List eP)(s:kC):Option Nat:=(List.range vars.length).find? fun j=>decide ((vars.getD j default).name=s.name)&&iT (vars.getD j default).values s.value
def TB.value(S:TB)(p:Nat)(vars:List eP)(s:kC):TB×Int:=match QC vars s with
 |none=>(S,0)
 |some j=>S.num (lZ p j (kR (fun t=>decide (t=s.value)) (vars.getD j default).values).toNat)
def TB.values(S:TB)(p:Nat)(vars:List eP):List kC->TB×List Int
 | []=>(S,[])
 |s::r=>(((S.value p vars s).1.values p vars r).1,(S.value p vars s).2::((S.value p vars s).1.values p vars r).2)
def TB.meet(S:TB)(x:aF)(l:List Nat)(p rule c:Nat)(s:gZ):TB×Int:=
 if p∉l then (S,0)
 else if dw p rule c∈S.1.l then (S,(numOf S.1.l (dw p rule c):Int))
 else
  let N:=S.num (dw p rule c)
  let D:=N.1.num (aI p)
  let E:TB×List Int:=if eU s.spans=true then (D.1,[D.2])else ((D.1.set p (x.pack p).aX s.spans).1,[D.2,(D.1.set p (x.pack p).aX s.spans).2])
  let V:=E.1.values p (x.pack p).vars s.sets
  (if 0<N.2/\(E.2++V.2).contains 0=false then (V.1.1,V.1.2.adds (nC N.2 (E.2++V.2)))else V.1,N.2)
structure dO where
 of:List ((Nat×Nat)×List Int)
 needs:List (List Int)
 roots:List (Nat×List Int)
def dM{κ:Type}[DecidableEq κ](m:List (κ×List Int))(k:κ)(v:Int):List (κ×List Int):=if k∈m.map Prod.fst then m.map fun e=>if e.1=k then (k,e.2++[v])else e else m++[(k,[v])]
def dD{κ:Type}[DecidableEq κ](m:List (κ×List Int))(k:κ):List Int:=((m.find? fun e=>decide (e.1=k)).map Prod.snd).getD []
def kZ(m:List (List Int))(n:Nat)(v:Int):List (List Int):=m.set n (m.getD n []++[v])
abbrev ES:=TB×dO
def bY(names:List Str)(s:Str):Int:=kR (fun t=>decide (t=s)) names
def ES.root(E:ES)(x:aF)(l:List Nat)(names:List Str)(r:Nat)(s:gZ):ES:=
 let R:=E.1.num (fG r)
 let P:dO:=(x.targets s.name).foldl (fun P t=>{P with roots:=dM P.roots t R.2}) E.2
 if 0<=x.find s.name then
  let M:=R.1.meet x l (x.find s.name).toNat r 1 s
  (M.1.bG [-R.2,M.2],P)
 else if bY names s.name<0 then (R.1.bG [-R.2],P)
 else
  let N:=R.1.num (fU (bY names s.name).toNat)
  (N.1.bG [-R.2,N.2],{P with needs:=kZ P.needs (bY names s.name).toNat R.2})
def ES.goes(E:ES)(p t:Nat)(active:Int):ES×Int:=
 let N:=E.1.num (iV p t)
 ((N.1,{E.2 with of:=dM E.2.of (p,t) active}),N.2)
def ES.depend(E:ES)(x:aF)(l:List Nat)(names:List Str)(r p k:Nat)(d:tJ):ES:=
 let A:=E.1.num (lX p k)
 let R:=A.1.num (fG r)
 let W:=R.1.meet x l p r 0 d.cond
 let S:TB:=if [A.2,R.2,W.2].contains 0=true then W.1 else (W.1.1,W.1.2.adds (nC A.2 [R.2,W.2]))
 if 0<=x.find d.on.name then
  let M:=S.meet x l (x.find d.on.name).toNat r 1 d.on
  let G:=ES.goes (M.1.bG [-A.2,M.2],E.2) p (x.find d.on.name).toNat A.2
  (G.1.1.bG [-A.2,G.2],G.1.2)
 else if bY names d.on.name<0 then (S.bG [-A.2],E.2)
 else
  let N:=S.num (fU (bY names d.on.name).toNat)
  (x.dh d.on.name).foldl (fun E t=>
   let D:=E.1.num (aI t)
   let G:=ES.goes (D.1,E.2) p t A.2
   (G.1.1.bG [-A.2,-D.2,G.2],G.1.2)) (N.1.bG [-A.2,N.2],{E.2 with needs:=kZ E.2.needs (bY names d.on.name).toNat A.2})
def ES.conflict(E:ES)(x:aF)(l:List Nat)(r p:Nat)(c:xX):ES:=
 let R:=E.1.num (fG r)
 let W:=R.1.meet x l p r 0 c.cond
 if c.with'.name=ByteArray.empty then (W.1.bG [-R.2,-W.2],E.2)
 else if 0<=x.find c.with'.name/\(x.find c.with'.name).toNat∈l then
  let M:=W.1.meet x l (x.find c.with'.name).toNat r 1 c.with'
  (M.1.bG [-R.2,-W.2,-M.2],E.2)
 else (W.1,E.2)
def ES.rule(E:ES)(x:aF)(q:dH)(l:List Nat)(names:List Str)(r:Nat)(y:bW):ES:=
 if y.kind=1 then E.root x l names r (q.roots.getD y.idx.toNat default).spec
 else if y.kind=2 then E.depend x l names r y.pack.toNat y.idx.toNat ((x.pack y.pack.toNat).deps.getD y.idx.toNat default)
 else if y.kind=3 then E.conflict x l r y.pack.toNat ((x.pack y.pack.toNat).cons.getD y.idx.toNat default)
 else E
def ES.rules(E:ES)(x:aF)(q:dH)(l:List Nat)(names:List Str)(rs:List bW):Nat->ES
 |0=>E
 |r+1=>(E.rules x q l names rs r).rule x q l names r (rs.getD r default)
def kP(a b:Nat×Nat):Bool:=decide (a.1<b.1)||decide (a.1=b.1)&&decide (a.2<=b.2)
def dO.edges(P:dO):List (Nat×Nat):=(P.of.map Prod.fst).mergeSort kP
abbrev BS:=TB×List (Nat×List Int)
def BS.edge(E:BS)(P:dO)(e:Nat×Nat):BS:=
 let N:=E.1.num (iV e.1 e.2)
 let A:=N.1.num (aI e.1)
 let D:=(A.1.bG [-N.2,A.2]).num (aI e.2)
 ((D.1.bG [-N.2,D.2]).bG (-N.2::dD P.of e),dM E.2 e.2 N.2)
def TB.pairs(S:TB)(n:Int)(row:List Int):TB:=(List.range row.length).foldl (fun S k=>(row.drop (k+1)).foldl (fun S b=>S.bG [-n,-(row.getD k 0),-b]) S) S
def TB.name(S:TB)(x:aF)(P:dO)(i:Nat)(s:Str):TB:=
 let N:=S.num (fU i)
 let R:=(N.1.bG (-N.2::P.needs.getD i [])).nums ((x.dh s).map aI)
 (R.1.bG (-N.2::R.2)).pairs N.2 R.2
def TB.place(S:TB)(P:dO)(into:List (Nat×List Int))(t:Nat):TB:=(S.num (aI t)).1.bG (-(S.num (aI t)).2::(dD P.roots t++dD into t))
def TB.lg(S:TB)(x:aF)(q:dH)(l:List Nat)(names:List Str)(rs:List bW):ES:=ES.rules (S,⟨[],List.replicate names.length [],[]⟩) x q l names rs rs.length
def TB.edges(S:TB)(x:aF)(q:dH)(l:List Nat)(names:List Str)(rs:List bW):TB:=
 let E:=S.lg x q l names rs
 let B:=E.2.edges.foldl (fun B e=>BS.edge B E.2 e) (E.1,[])
 l.foldl (fun S t=>S.place E.2 B.2 t) ((List.range names.length).foldl (fun S i=>S.name x E.2 i (names.getD i ByteArray.empty)) B.1)
def Neg(c:List Int):Prop:= ∃z∈c,z<0
def aN(B:kD):Prop:= ∀c∈B.cls,∃z∈c,z<0/\ig.wr z=false
theorem aN.add{B:kD}(h:aN B){xs:List Int}(hx:Neg xs)(hm:∀f,ig.form xs=some f->∀z∈xs,z∈f):aN (B.add xs):=by
 unfold kD.add;by_cases hw:xs.any ig.wr=true;·rw[if_pos hw];exact h
 rw[if_neg hw];cases hf:ig.form xs with
 |none=>exact h
 |some f=>
  dsimp only;by_cases hl:262144<=B.cls.length;·rw[if_pos hl];exact h
  rw[if_neg hl];intro c hc;rcases qW.1 hc with hc|hc;·exact h c hc
  rw[yJ.1 hc];obtain⟨z,h1,h2⟩:=hx;refine⟨z,hm f hf z h1,h2,?_⟩;cases e:ig.wr z with
  |false=>rfl
  |true=>exact absurd (yU.2 ⟨z,h1,e⟩) hw
def iM:Prop:= ∀xs f,ig.form xs=some f->∀z∈xs,z∈f
theorem aN.adds(hF:iM):∀{cs:List (List Int)} {B:kD},aN B->(∀c∈cs,Neg c)->aN (B.adds cs)
 | [],B,h,_=>h
 |c::cs,B,h,hc=>aN.adds hF (cs:=cs) (B:=B.add c) (h.add (hc c qQ) (hF c)) fun d hd=>hc d (yE _ hd)
theorem aN.bG(hF:iM){S:TB}(h:aN S.2){l:List Int}(hl:l.contains 0=false->Neg l):aN (S.bG l).2:=by
 unfold TB.bG;split;·exact h
 rename_i hc;exact h.add (hl (by simpa using hc)) (hF l)
theorem lJ(T:Tab)(a:At):0<=(T.num a).2:=by
 unfold Tab.num;split;·exact Int.natCast_nonneg _
 split;·exact Int.le_refl _
 show 0<=(T.l.length:Int)+1;omega
theorem TB.lJ(S:TB)(a:At):0<=(S.num a).2:=Go.Proofs.YtdmmebjjojimiaaGreatDoor.lJ _ _
theorem QD:∀(l:List At) (T:Tab),∀z∈(T.nums l).2,0<=z
 | [],T,z,h=>by cases h
 |a::r,T,z,h=>by
  rcases qY.1 h with rfl|h
  ·exact lJ T a
  ·exact QD r _ z h
theorem acU{n:Int}{l:List Int}(hn:0<=n)(h:(-n::l).contains 0=false):Neg (-n::l):=by
 refine⟨-n,qQ,?_⟩;have: -n≠0:=fun e=>by rw[e]at h;simp at h
 omega
theorem afC{x:Int}{l:List Int}(hx:0<x)(hl:∀z∈l,0<=z)(h0:l.contains 0=false):∀c∈Hw x l,Neg c:=by
 intro c hc;rcases qY.1 hc with rfl|hc;·exact⟨-x,qQ,by omega⟩
 obtain⟨y,hy,rfl⟩:=yD.1 hc;have:y≠0:=fun e=>by rw[e]at hy;rw[List.contains_iff_mem.2 hy]at h0;cases h0
 have:=hl y hy;exact⟨-y,qQ,by omega⟩
theorem YS{x:Int}{l:List Int}(hx:0<x)(hl:∀z∈l,0<=z)(h0:l.contains 0=false)(hne:l≠[]):∀c∈nC x l,Neg c:=by
 intro c hc;rcases qW.1 hc with hc|hc;·obtain⟨y,hy,rfl⟩:=yD.1 hc;exact⟨-x,qQ,by omega⟩
 rw[yJ.1 hc];obtain⟨y,r,rfl⟩:=List.exists_cons_of_ne_nil hne;have:y≠0:=fun e=>by rw[e]at h0;simp at h0
 have:=hl y qQ;exact⟨-y,by simp,by omega⟩
theorem aN.num{S:TB}(h:aN S.2)(a:At):aN (S.num a).1.2:=h
theorem aN.nums{S:TB}(h:aN S.2)(l:List At):aN (S.nums l).1.2:=h
theorem aN.set(hF:iM){S:TB}(h:aN S.2)(p:Nat)(aX:List lV)(l:List jm):aN (S.set p aX l).1.2/\0<=(S.set p aX l).2:=by
 unfold TB.set;refine⟨?_,?_⟩
 ·simp only;split;·rename_i hc;exact aN.adds hF (B:=S.2) h (afC hc.1 (fun z hz=>QD _ _ z hz) hc.2)
  exact h
 exact TB.lJ _ _
theorem aN.value{S:TB}(h:aN S.2)(p:Nat)(vars:List eP)(s:kC):aN (S.value p vars s).1.2/\0<=(S.value p vars s).2:=by
 unfold TB.value;split;·exact⟨h,Int.le_refl _⟩
 exact⟨h,TB.lJ _ _⟩
theorem aN.values:∀(r:List kC) {S:TB},aN S.2->∀(p:Nat) (vars:List eP),aN (S.values p vars r).1.2/\∀z∈(S.values p vars r).2,0<=z
 | [],S,h,p,vars=>⟨h,fun z hz=>by cases hz⟩
 |s::r,S,h,p,vars=>by
  obtain⟨h1,h2⟩:=h.value p vars s
  obtain⟨h3,h4⟩:=aN.values r h1 p vars
  refine⟨h3,fun z hz=>?_⟩
  rcases qY.1 hz with rfl|hz
  ·exact h2
  ·exact h4 z hz
theorem aN.alh(hF:iM){S:TB}(h:aN S.2){z0:Int}(h0:0<=z0)(p:Nat)(aX:List lV)(l:List jm)(c:Prop)[Decidable c]:aN (if c then ((S,[z0]):TB×List Int)else ((S.set p aX l).1,[z0,(S.set p aX l).2])).1.2/\(∀z∈(if c then ((S,[z0]):TB×List Int)else ((S.set p aX l).1,[z0,(S.set p aX l).2])).2,0<=z)/\(if c then ((S,[z0]):TB×List Int)else ((S.set p aX l).1,[z0,(S.set p aX l).2])).2≠[]:=by
 by_cases hc:c;·rw[if_pos hc];exact⟨h,fun z hz=>by rw[yJ.1 hz];exact h0,by simp⟩
 rw[if_neg hc];obtain⟨h1,h2⟩:=h.set hF p aX l;refine⟨h1,fun z hz=>?_,by simp⟩;rcases qY.1 hz with rfl|hz;·exact h0
 rw[yJ.1 hz];exact h2
theorem aN.meet(hF:iM){S:TB}(h:aN S.2)(x:aF)(l:List Nat)(p rule c:Nat)(s:gZ):aN (S.meet x l p rule c s).1.2/\0<=(S.meet x l p rule c s).2:=by
 unfold TB.meet;by_cases h1:p∉l;·rw[if_pos h1];exact⟨h,Int.le_refl _⟩
 rw[if_neg h1];by_cases h2:dw p rule c∈S.1.l;·rw[if_pos h2];exact⟨h,Int.natCast_nonneg _⟩
 rw[if_neg h2];have e1:=aN.alh hF (S:=((S.num (dw p rule c)).1.num (aI p)).1) (z0:=((S.num (dw p rule c)).1.num (aI p)).2) h (TB.lJ _ _) p (x.pack p).aX s.spans (eU s.spans=true);dsimp only;generalize (if eU s.spans=true then ((((S.num (dw p rule c)).1.num (aI p)).1,[((S.num (dw p rule c)).1.num (aI p)).2]):TB×List Int)else ((((S.num (dw p rule c)).1.num (aI p)).1.set p (x.pack p).aX s.spans).1,[((S.num (dw p rule c)).1.num (aI p)).2,(((S.num (dw p rule c)).1.num (aI p)).1.set p (x.pack p).aX s.spans).2]))=E at e1⊢;obtain⟨e1,e2,e3⟩:=e1;obtain⟨v1,v2⟩:=aN.values s.sets e1 p (x.pack p).vars;refine⟨?_,TB.lJ _ _⟩;by_cases hc:0<(S.num (dw p rule c)).2/\(E.2++(E.1.values p (x.pack p).vars s.sets).2).contains 0=false
 ·rw[if_pos hc];refine aN.adds hF v1 (YS hc.1 (fun z hz=>?_) hc.2 (by simp[e3]));rcases qW.1 hz with hz|hz;·exact e2 z hz
  exact v2 z hz
 rw[if_neg hc];exact v1
theorem aN.Bz(hF:iM){S:TB}(h:aN S.2){n:Int}(hn:0<=n)(l:List Int):aN (S.bG (-n::l)).2:=h.bG hF (acU hn)
theorem aN.root(hF:iM){E:ES}(h:aN E.1.2)(x:aF)(l:List Nat)(names:List Str)(r:Nat)(s:gZ):aN (E.root x l names r s).1.2:=by
 unfold ES.root;dsimp only;by_cases h1:0<=x.find s.name;·rw[if_pos h1];exact(aN.meet hF (S:=(E.1.num (fG r)).1) h x l _ r 1 s).1.Bz hF (TB.lJ _ _) _
 rw[if_neg h1];by_cases h2:bY names s.name<0;·rw[if_pos h2];exact aN.Bz hF (S:=(E.1.num (fG r)).1) h (TB.lJ _ _) _
 rw[if_neg h2];exact aN.Bz hF (S:=((E.1.num (fG r)).1.num (fU (bY names s.name).toNat)).1) h (TB.lJ _ _) _
theorem aN.goes{E:ES}(h:aN E.1.2)(p t:Nat)(active:Int):aN (E.goes p t active).1.1.2:=h
theorem aN.uN{β:Type}(f:ES->β->ES)(hf:∀E b,aN E.1.2->aN (f E b).1.2):∀(l:List β) {E:ES},aN E.1.2->aN (l.foldl f E).1.2
 | [],_,h=>h
 |b::r,E,h=>aN.uN f hf r (hf E b h)
theorem aN.iW{β:Type}(f:TB->β->TB)(hf:∀S b,aN S.2->aN (f S b).2):∀(l:List β) {S:TB},aN S.2->aN (l.foldl f S).2
 | [],_,h=>h
 |b::r,S,h=>aN.iW f hf r (hf S b h)
theorem aN.depend(hF:iM){E:ES}(h:aN E.1.2)(x:aF)(l:List Nat)(names:List Str)(r p k:Nat)(d:tJ):aN (E.depend x l names r p k d).1.2:=by
 unfold ES.depend;dsimp only;have hA:0<=(E.1.num (lX p k)).2:=TB.lJ _ _;have hW:=aN.meet hF (S:=((E.1.num (lX p k)).1.num (fG r)).1) h x l p r 0 d.cond;have hR:0<=((E.1.num (lX p k)).1.num (fG r)).2:=TB.lJ _ _;generalize ((E.1.num (lX p k)).1.num (fG r)).1.meet x l p r 0 d.cond=W at hW⊢;generalize ((E.1.num (lX p k)).1.num (fG r)).2=R at hR⊢;generalize (E.1.num (lX p k)).2=A at hA⊢;have hS:aN (if [A,R,W.2].contains 0=true then W.1 else (W.1.1,W.1.2.adds (nC A [R,W.2]))).2:=by
  by_cases hc:[A,R,W.2].contains 0=true;·rw[if_pos hc];exact hW.1
  rw[if_neg hc];have h0:A≠0/\[R,W.2].contains 0=false:=by
   have:¬(A=0\/R=0\/W.2=0):=fun e=>hc (by simp only[List.contains_eq_mem,qY,List.not_mem_nil,or_false,yP];rcases e with e|e|e<;>simp[e]);refine⟨fun e=>this (.inl e),?_⟩;simp only[List.contains_eq_mem,qY,List.not_mem_nil,or_false,decide_eq_false_iff_not];rintro(e|e);·exact this (.inr (.inl e.symm))
   exact this (.inr (.inr e.symm))
  refine aN.adds hF hW.1 (YS zAB (fun z hz=>?_) h0.2 zBZ);rcases qY.1 hz with rfl|hz;·exact hR
  rw[yJ.1 hz];exact hW.2
 generalize (if [A,R,W.2].contains 0=true then W.1 else ((W.1.1,W.1.2.adds (nC A [R,W.2])):TB))=S at hS⊢;by_cases h1:0<=x.find d.on.name;·rw[if_pos h1];exact aN.Bz hF (aN.goes (E:=((S.meet x l (x.find d.on.name).toNat r 1 d.on).1.bG [-A,(S.meet x l (x.find d.on.name).toNat r 1 d.on).2],E.2)) ((aN.meet hF hS x l _ r 1 d.on).1.Bz hF hA _) _ _ _) hA _
 rw[if_neg h1];by_cases h2:bY names d.on.name<0;·rw[if_pos h2];exact aN.Bz hF (S:=S) hS hA _
 rw[if_neg h2];refine aN.uN _ (fun E b hE=>?_) _ (aN.Bz hF (S:=(S.num (fU (bY names d.on.name).toNat)).1) hS hA _);exact aN.Bz hF (S:=(ES.goes ((E.1.num (aI b)).1,E.2) p b A).1.1) hE hA _
theorem aN.conflict(hF:iM){E:ES}(h:aN E.1.2)(x:aF)(l:List Nat)(r p:Nat)(c:xX):aN (E.conflict x l r p c).1.2:=by
 unfold ES.conflict;dsimp only;have hR:0<=(E.1.num (fG r)).2:=TB.lJ _ _;have hW:=aN.meet hF (S:=(E.1.num (fG r)).1) h x l p r 0 c.cond;by_cases h1:c.with'.name=ByteArray.empty;·rw[if_pos h1];exact hW.1.Bz hF hR _
 rw[if_neg h1];by_cases h2:0<=x.find c.with'.name/\(x.find c.with'.name).toNat∈l;·rw[if_pos h2];exact(aN.meet hF hW.1 x l _ r 1 c.with').1.Bz hF hR _
 rw[if_neg h2];exact hW.1
theorem aN.rule(hF:iM){E:ES}(h:aN E.1.2)(x:aF)(q:dH)(l:List Nat)(names:List Str)(r:Nat)(y:bW):aN (E.rule x q l names r y).1.2:=by
 unfold ES.rule;by_cases h1:y.kind=1;·rw[if_pos h1];exact h.root hF x l names r _
 rw[if_neg h1];by_cases h2:y.kind=2;·rw[if_pos h2];exact h.depend hF x l names r _ _ _
 rw[if_neg h2];by_cases h3:y.kind=3;·rw[if_pos h3];exact h.conflict hF x l r _ _
 rw[if_neg h3];exact h
theorem aN.rules(hF:iM){E:ES}(h:aN E.1.2)(x:aF)(q:dH)(l:List Nat)(names:List Str)(rs:List bW):∀r,aN (E.rules x q l names rs r).1.2
 |0=>h
 |r+1=>(aN.rules hF h x q l names rs r).rule hF x q l names r _
theorem aN.edge(hF:iM){E:BS}(h:aN E.1.2)(P:dO)(e:Nat×Nat):aN (E.edge P e).1.2:=by unfold BS.edge;dsimp only;have hN:0<=(E.1.num (iV e.1 e.2)).2:=TB.lJ _ _;have h1:aN (((E.1.num (iV e.1 e.2)).1.num (aI e.1)).1.bG [-(E.1.num (iV e.1 e.2)).2,((E.1.num (iV e.1 e.2)).1.num (aI e.1)).2]).2:=aN.Bz hF (S:=((E.1.num (iV e.1 e.2)).1.num (aI e.1)).1) h hN _;exact aN.Bz hF (aN.Bz hF (S:=((((E.1.num (iV e.1 e.2)).1.num (aI e.1)).1.bG [-(E.1.num (iV e.1 e.2)).2,((E.1.num (iV e.1 e.2)).1.num (aI e.1)).2]).num (aI e.2)).1) h1 hN _) hN _
theorem aN.pairs(hF:iM){S:TB}(h:aN S.2){n:Int}(hn:0<=n)(row:List Int):aN (S.pairs n row).2:=aN.iW _ (fun S k hS=>aN.iW _ (fun S b hS=>hS.Bz hF hn _) _ hS) _ h
theorem aN.name(hF:iM){S:TB}(h:aN S.2)(x:aF)(P:dO)(i:Nat)(s:Str):aN (S.name x P i s).2:=by unfold TB.name;dsimp only;have hN:0<=(S.num (fU i)).2:=TB.lJ _ _;exact aN.pairs hF (aN.Bz hF (aN.nums (aN.Bz hF (S:=(S.num (fU i)).1) h hN _) _) hN _) hN _
theorem aN.place(hF:iM){S:TB}(h:aN S.2)(P:dO)(into:List (Nat×List Int))(t:Nat):aN (S.place P into t).2:=aN.Bz hF (S:=(S.num (aI t)).1) h (TB.lJ _ _) _
theorem aN.edges(hF:iM){S:TB}(h:aN S.2)(x:aF)(q:dH)(l:List Nat)(names:List Str)(rs:List bW):aN (S.edges x q l names rs).2:=by
 unfold TB.edges;dsimp only;have h1:aN (S.lg x q l names rs).1.2:=aN.rules hF (E:=(S,⟨[],List.replicate names.length [],[]⟩)) h x q l names rs _;generalize S.lg x q l names rs=E at h1⊢;have h2:∀(es:List (Nat×Nat)) (B:BS),aN B.1.2->aN (es.foldl (fun B e=>BS.edge B E.2 e) B).1.2:=fun es=>by
  induction es with
  |nil=>exact fun B hB=>hB
  |cons e r ih=>exact fun B hB=>ih _ (aN.edge hF hB E.2 e)
 exact aN.iW _ (fun S t hS=>hS.place hF E.2 _ t) _ (aN.iW _ (fun S i hS=>hS.name hF x E.2 i _) _ (h2 _ _ h1))
end Go.Proofs.YtdmmebjjojimiaaGreatDoor
