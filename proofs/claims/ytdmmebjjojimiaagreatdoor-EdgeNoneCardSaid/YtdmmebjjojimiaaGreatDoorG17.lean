/- Package version: Compare (printed by gen/gen_wv7.py out of XWv7.src).; Package edge as plain functions: what the second part adds to a table and a builder, in th -/
import Derived.Test.YtdmmebjjojimiaaGreatDoorG16
set_option maxRecDepth 100000
set_option maxHeartbeats 8000000
set_option linter.all false
namespace Go.Proofs
theorem zBc{p:Prop}(h:p:=by rw[ah bB];rfl):p:=h
theorem zBd{p:Prop}(h:p:=by rw[ah bA];rfl):p:=h
theorem zB2{p:Prop}(h:p:=by repeat (first|exact Only.refl _ _|apply Only.drew|apply Only.alloc|apply Only.drewN)):p:=h
theorem zD0{p:Prop}(h:p:=by
 subst h
 clear hres
 go_wp2_with fail
 go_ret
 exact⟨rfl,fK.out⟩):p:=h
theorem zE4{p:Prop}(h:p:=by(intro w;go_simp<;>(try with_reducible rfl))):p:=h
end Go.Proofs
namespace Go.Proofs.YtdmmebjjojimiaaGreatDoor
open Go.RowKit
open Vn (kY iZ numeral fZ Ri ED)
def acO(a b:List UInt8):Int:=
 if xR a=true then (if xR b=true then ED (jU 46 a) (jU 46 b) (max (jU 46 a).length (jU 46 b).length) 0 else 1)else if xR b=true then -1 else 0
theorem Xv:partOf []=endP:=by unfold partOf endP;rfl
theorem JG(l:List (List UInt8))(i:Nat):(l.map partOf).getD i endP=partOf (l.getD i []):=by
 rw[qC,qC,List.getElem?_map];cases l[i]? with
 |none=>exact Xv.symm
 |some x=>rfl
theorem YQ{a b:Nat}(h:a<b):Lib.compareInt (a:Int) (b:Int)= -1:=by unfold Lib.compareInt;rw[if_pos zBk]
theorem YR{a b:Nat}(h:b<a):Lib.compareInt (a:Int) (b:Int)=1:=by unfold Lib.compareInt;rw[if_neg zAC,if_pos zBk]
theorem YS{a b:Nat}(h:a=b):Lib.compareInt (a:Int) (b:Int)=0:=by unfold Lib.compareInt;rw[if_neg zAC,if_neg zBk]
theorem ahS(x y:List UInt8):V9 [Lib.compareInt (iZ x:Int) (iZ y:Int),Lib.compareInt (numeral x:Int) (numeral y:Int),Rl (fZ x) (fZ y)]=if Ri x y then -1 else if Ri y x then 1 else 0:=by
 rcases Nat.lt_trichotomy (iZ x) (iZ y)with h|h|h;·rw[YQ h,if_pos (show Ri x y from .inl h)];simp[V9]
 ·rw[YS h];rcases Nat.lt_trichotomy (numeral x) (numeral y)with g|g|g;·rw[YQ g,if_pos (show Ri x y from .inr ⟨h,.inl g⟩)];simp[V9]
  ·rw[YS g];by_cases c1:fZ x<fZ y;·rw[show Rl (fZ x) (fZ y)= -1 from if_pos c1,if_pos (show Ri x y from .inr ⟨h,.inr ⟨g,c1⟩⟩)];simp[V9]
   have n1:¬Ri x y:=fun hh=>by
    rcases hh with hh| ⟨_,hh| ⟨_,hh⟩⟩;·omega
    ·omega
    exact c1 hh
   rw[if_neg n1];by_cases c2:fZ y<fZ x;·rw[show Rl (fZ x) (fZ y)=1 from(if_neg c1).trans (if_pos c2),if_pos (show Ri y x from .inr ⟨h.symm,.inr ⟨g.symm,c2⟩⟩)];simp[V9]
   have n2:¬Ri y x:=fun hh=>by
    rcases hh with hh| ⟨_,hh| ⟨_,hh⟩⟩;·omega
    ·omega
    exact c2 hh
   rw[show Rl (fZ x) (fZ y)=0 from(if_neg c1).trans (if_neg c2),if_neg n2];simp[V9]
  have n1:¬Ri x y:=fun hh=>by rcases hh with hh| ⟨_,hh| ⟨_,hh⟩⟩<;>omega
  rw[YR g,if_neg n1,if_pos (show Ri y x from .inr ⟨h.symm,.inl g⟩)];simp[V9]
 have n1:¬Ri x y:=fun hh=>by rcases hh with hh| ⟨hh,_⟩<;>omega
 rw[YR h,if_neg n1,if_pos (show Ri y x from .inl h)];simp[V9]
section
variable {w w':World} {B:Nat}
theorem Z8(a b:Str)(ha:okS a)(hb:okS b)(hL:Laid w):Calls Tryz.prog 275 #[.string a,.string b] w (fun e w'=>e= .returned (.int .i64 (acO a.toList b.toList))/\O0 w w'):=by
 obtain⟨r,hr⟩:=ze (acO a.toList b.toList);rw[hr];have HA:=zh (Rq a ha hL);have HB:Hid (∀W,O0 w W->Calls Tryz.prog 329 #[.string b] W (fun e w'=>xE b W w' e)):=fun W ho=>Rq b hb (hL.only ho);have jd:=zh hr;clear hr ha hb hL;go_enter Tryz.func275,Tryz.ntmps275;go_wp2_with fail;refine HA.out.mono ?_;rintro e w1 ⟨va,ma,rfl,hma,hra,O1⟩;have bM:=zh O1;have HMA:=zh hma;have HRA:=zh hra;clear O1 hma hra HA;go_wp2_with fail;refine(HB.out _ bM.out).mono ?_;rintro e w2 ⟨vb,mb,rfl,hmb,hrb,O2⟩;have fK:=zh (bM.out.same O2);have HMB:=zh hmb;have HRB:=zh hrb;have ale:=zh O2;clear O2 hmb hrb HB;have hres:=jd.out;unfold acO at hres;rw[HMA.out,HMB.out]at hres;clear jd;cases ma with
 |false=>
  cases mb with
  |false=>have h:(0:Int)=r:=hres;exact zD0
  |true=>have h:(-1:Int)=r:=hres;exact zD0
 |true=>
  cases mb with
  |false=>have h:(1:Int)=r:=hres;exact zD0
  |true=>
   have h:ED (jU 46 a.toList) (jU 46 b.toList) (max (jU 46 a.toList).length (jU 46 b.toList).length) 0=r:=hres;clear hres;have rowA:=HRA.out zBU;have rowB:=HRB.out zBU;have la:=UH HMA.out;have lb:=UH HMB.out;obtain⟨X,hX⟩:=ze (jU 46 a.toList);obtain⟨Y,hY⟩:=ze (jU 46 b.toList);rw[hX]at rowA la h;rw[hY]at rowB lb h;clear HRA HRB HMA HMB hX hY;obtain⟨aa,ca,rfl,ka1,ka2⟩:=rowA.shape;obtain⟨ab,cb,rfl,kb1,kb2⟩:=rowB.shape;obtain⟨na,hna⟩:=ze X.length;obtain⟨nb,hnb⟩:=ze Y.length;simp only[qM,hna,hnb]at rowA rowB ka1 kb1⊢;rw[hna]at la h;rw[hnb]at lb h;obtain⟨m,hm⟩:=ze (max na nb);rw[hm]at h;have hm8:m<=8:=zBk;have HAt:Hid (∀W (i:Nat),i<=8->O0 w2 W->Calls Tryz.prog 338 #[.slice aa na ca,.int .i64 (i:Int)] W (fun e w'=>e= .returned (.agg (partOf (X.getD i [])).val)/\O0 W w')):=fun W i hi ho=>ak8 (rowA.keep Me.keep (Kp.iI (ale.out.same ho))) i zBk _ (JG X i);have HBt:Hid (∀W (i:Nat),i<=8->O0 w2 W->Calls Tryz.prog 338 #[.slice ab nb cb,.int .i64 (i:Int)] W (fun e w'=>e= .returned (.agg (partOf (Y.getD i [])).val)/\O0 W w')):=fun W i hi ho=>ak8 (rowB.keep Me.keep (Kp.iI ho)) i zBk _ (JG Y i);have HM:=zh hm;have HR0:Hid (ED X Y m 0=r):=h;have kK:Hid (O0 w2 w2):=Only.refl _ _;clear h rowA rowB hm hna hnb la lb ale;go_wp2_with fail;go_loopw [41] (fun vi dG=>Hid (O0 w2 dG)/\∃i:Nat,vi= .int .i64 i/\i<=m/\Hid (ED X Y (m-i) i=r)) (fun v _=>m-(RowKit.intOf v).toNat);case atStart=>exact⟨kK,0,rfl,qE _,HR0⟩
   case round=>
    obtain⟨dG,rfl⟩:=zB wr;clear kK HR0;obtain⟨gV,i,rfl,hi,HRi⟩:=hrel;by_cases ci:i<m
    ·have jh:=zw (i+1);have hci:(i:Int)<max (na:Int) (nb:Int):=by have:=HM.out;omega
     have H1:=zh (HAt.out dG i zBk gV.out);have H2:Hid (∀W,O0 dG W->_):=fun W ho=>HBt.out W i zBk (gV.out.same ho);obtain⟨p,hp⟩:=ze (X.getD i []);obtain⟨q,hq⟩:=ze (Y.getD i []);rw[hp]at H1;rw[hq]at H2;obtain⟨c1,h1⟩:∃c,Lib.compareInt (iZ p:Int) (iZ q:Int)=c:=⟨_,rfl⟩;obtain⟨c2,h2⟩:∃c,Lib.compareInt (numeral p:Int) (numeral q:Int)=c:=⟨_,rfl⟩;obtain⟨c3,h3⟩:=ze (Rl (fZ p) (fZ q));obtain⟨c,hc⟩:=ze (V9 [c1,c2,c3]);have HRj:Hid ((if c=0 then ED X Y (m-(i+1)) (i+1)else c)=r):=by
      show(if c=0 then ED X Y (m-(i+1)) (i+1)else c)=r;have h:=HRi.out;obtain⟨k,hk⟩:∃k,m-i=k+1:=⟨m-i-1,by omega⟩;have hk2:m-(i+1)=k:=zBk;have hor:=ahS p q;rw[h1,h2,h3,hc]at hor;rw[hk,ED,Vn.atP,Vn.atP,hp,hq]at h;rw[hk2,<-h,hor];by_cases g1:Ri p q;·rw[if_pos g1,if_pos g1];simp
      rw[if_neg g1,if_neg g1];by_cases g2:Ri q p;·rw[if_pos g2,if_pos g2];simp
      rw[if_neg g2,if_neg g2];simp
     have r1:bU c1:=by rw[<-h1];unfold Lib.compareInt bU;split<;>(try split)<;>omega
     have r2:bU c2:=by rw[<-h2];unfold Lib.compareInt bU;split<;>(try split)<;>omega
     have r3:bU c3:=by rw[<-h3];unfold Rl bU;split<;>(try split)<;>omega
     have RR:=zh (And.intro r1 (And.intro r2 r3));unfold partOf Part.val at H1 H2;dsimp only at H1 H2;obtain⟨pr,epr⟩:∃x:Int,(iZ p:Int)=x:=⟨_,rfl⟩;obtain⟨pn,epn⟩:∃x:Int,(numeral p:Int)=x:=⟨_,rfl⟩;obtain⟨pw,epw⟩:∃x:Str,(⟨(fZ p).toArray⟩:Str)=x:=⟨_,rfl⟩;obtain⟨qr,eqr⟩:∃x:Int,(iZ q:Int)=x:=⟨_,rfl⟩;obtain⟨qn,eqn⟩:∃x:Int,(numeral q:Int)=x:=⟨_,rfl⟩;obtain⟨qw,eqw⟩:∃x:Str,(⟨(fZ q).toArray⟩:Str)=x:=⟨_,rfl⟩;have K1:Hid (∀W:World,Calls Tryz.prog 235 #[.int .i64 pr,.int .i64 qr] W fun e w'=>e= .returned (.int .i64 c1)/\W=w'):=fun W=>by rw[<-h1,epr,eqr];exact(Sv.cmp_Compare_int _ _ W).mono fun _ _ h=>⟨h.1,h.2.symm⟩
     have K2:Hid (∀W:World,Calls Tryz.prog 235 #[.int .i64 pn,.int .i64 qn] W fun e w'=>e= .returned (.int .i64 c2)/\W=w'):=fun W=>by rw[<-h2,epn,eqn];exact(Sv.cmp_Compare_int _ _ W).mono fun _ _ h=>⟨h.1,h.2.symm⟩
     have K3:Hid (∀W:World,Calls Tryz.prog 95 #[.string pw,.string qw] W fun e w'=>e= .returned (.int .i64 c3)/\W=w'):=fun W=>by have:=acG (w:=W) pw qw;rw[<-epw,<-eqw]at this⊢;rw[ByteArray.toList_eq,ByteArray.toList_eq]at this;rw[<-h3];exact this.mono fun _ _ h=>⟨h.1,h.2.symm⟩
     rw[epr,epn,epw]at H1;have H2':Hid (∀W,O0 dG W->Calls Tryz.prog 338 #[.slice ab nb cb,.int .i64 (i:Int)] W (fun e w'=>e= .returned (.agg #[.int .i64 qr,.int .i64 qn,.string qw])/\O0 W w')):=fun W ho=>by rw[<-eqr,<-eqn,<-eqw];exact H2.out W ho
     have HC:=zh hc;clear HRi h1 h2 h3 hc r1 r2 r3 H2 epr epn epw eqr eqn eqw hp hq;go_wp2_with fail;refine H1.out.mono ?_;rintro e w3 ⟨rfl,O3⟩;have mO:=zh O3;clear O3;go_wp2_with fail;refine(H2'.out _ mO.out).mono ?_;rintro e w4 ⟨rfl,O4⟩;have xw:=zh (gV.out.same (mO.out.same O4));clear O4 H1 H2' mO;obtain⟨w5,hw5⟩:=ze ((w4.alloc (.cells #[.int .i64 pr,.int .i64 pn,.string pw] 355)).alloc (.cells #[.int .i64 qr,.int .i64 qn,.string qw] 355));obtain⟨A,hA⟩:=ze w4.heap.size;have bA:w5.heap[A]? =some (.cells #[.int .i64 pr,.int .i64 pn,.string pw] 355 (0,0)):=by rw[<-hw5,<-hA];exact dw (qL _ _) _
     have bB:w5.heap[A+1]? =some (.cells #[.int .i64 qr,.int .i64 qn,.string qw] 355 (0,0)):=by rw[<-hw5,<-hA];have:=qL (w4.alloc (.cells #[.int .i64 pr,.int .i64 pn,.string pw] 355)) (.cells #[.int .i64 qr,.int .i64 qn,.string qw] 355);rwa[World.size_alloc]at this
     have FI:Hid (O0 w2 w5):=by rw[<-hw5];exact(xw.out.alloc _).alloc _
     have a0:w5.cell? ⟨A,0,none⟩=some (.int .i64 pr):=zBd;have a1:w5.cell? ⟨A,1,none⟩=some (.int .i64 pn):=zBd;have a2:w5.cell? ⟨A,2,none⟩=some (.string pw):=zBd;have b0:w5.cell? ⟨A+1,0,none⟩=some (.int .i64 qr):=zBc;have b1:w5.cell? ⟨A+1,1,none⟩=some (.int .i64 qn):=zBc;have b2:w5.cell? ⟨A+1,2,none⟩=some (.string qw):=zBc;have HS0:=zh (show w5.cell? ⟨A,0,none⟩=some (.int .i64 pr)/\w5.cell? ⟨A,1,none⟩=some (.int .i64 pn)/\w5.cell? ⟨A,2,none⟩=some (.string pw)/\w5.cell? ⟨A+1,0,none⟩=some (.int .i64 qr)/\w5.cell? ⟨A+1,1,none⟩=some (.int .i64 qn)/\w5.cell? ⟨A+1,2,none⟩=some (.string qw) from⟨a0,a1,a2,b0,b1,b2⟩);have Iw:=zh (show∀w':World,O0 w5 w'->w'.cell? ⟨A,0,none⟩=some (.int .i64 pr)/\w'.cell? ⟨A,1,none⟩=some (.int .i64 pn)/\w'.cell? ⟨A,2,none⟩=some (.string pw)/\w'.cell? ⟨A+1,0,none⟩=some (.int .i64 qr)/\w'.cell? ⟨A+1,1,none⟩=some (.int .i64 qn)/\w'.cell? ⟨A+1,2,none⟩=some (.string qw) from fun w' ho=>⟨by rw[ah ((ho.block _ (dR bA) (fun f=>f)).trans bA)];rfl,by rw[ah ((ho.block _ (dR bA) (fun f=>f)).trans bA)];rfl,by rw[ah ((ho.block _ (dR bA) (fun f=>f)).trans bA)];rfl,
      by rw[ah ((ho.block _ (dR bB) (fun f=>f)).trans bB)];rfl,by rw[ah ((ho.block _ (dR bB) (fun f=>f)).trans bB)];rfl,by rw[ah ((ho.block _ (dR bB) (fun f=>f)).trans bB)];rfl⟩)
     have HI3:=zh (show∀W:World,Ints (W.alloc (.cells #[.int .i64 c1,.int .i64 c2,.int .i64 c3] 3)) (.slice (some ⟨W.heap.size,0,none⟩) 3 3) [c1,c2,c3] from fun W=>ae9 W [c1,c2,c3] 3 _ rfl (fun y hy=>by
      obtain⟨r1,r2,r3⟩:=RR.out
      simp at hy
      rcases hy with rfl|rfl|rfl
      ·exact r1
      ·exact r2
      ·exact r3) zAM)
     clear bA bB a0 a1 a2 b0 b1 b2;go_upto_region 13 with fail;try rw[hA]
     try rw[hw5]
     clear hA hw5;refine bH (n:=18) (E:=fun _=>false) (S:=fun w':World=>w'.cell? ⟨A,0,none⟩=some (.int .i64 pr)/\w'.cell? ⟨A,1,none⟩=some (.int .i64 pn)/\w'.cell? ⟨A,2,none⟩=some (.string pw)/\w'.cell? ⟨A+1,0,none⟩=some (.int .i64 qr)/\w'.cell? ⟨A+1,1,none⟩=some (.int .i64 qn)/\w'.cell? ⟨A+1,2,none⟩=some (.string qw)) zk rfl HS0.out (fun hHeld=>?_);refine tW 0 ?_;refine tK 1 ?_;refine tW 2 ?_;refine tK 3 ?_;refine nX (i:=4) (v:=?_) (f:=235) (args:= #[.int .i64 pr,.int .i64 qr]) rfl zk zk zk rfl zk zk (fun _ _ _ h=>h) (by assumption) (by rfl) ?_ ?_ ?_;rotate_left;·exact zE4
     ·(intro w hSw;exact K1.out w)
     try simp only[Act.put,gJ,gK,gu,gy,gG]
     refine tW 5 ?_;refine tK 6 ?_;refine tW 7 ?_;refine tK 8 ?_;refine nX (i:=9) (v:=?_) (f:=235) (args:= #[.int .i64 pn,.int .i64 qn]) rfl zk zk zk rfl zk zk (fun _ _ _ h=>h) (by assumption) (by rfl) ?_ ?_ ?_;rotate_left;·exact zE4
     ·(intro w hSw;exact K2.out w)
     try simp only[Act.put,gJ,gU,gK,gu,gy,gG]
     refine tW 10 ?_;refine tK 11 ?_;refine tW 12 ?_;refine tK 13 ?_;refine nX (i:=14) (v:=?_) (f:=95) (args:= #[.string pw,.string qw]) rfl zk zk zk rfl zk zk (fun _ _ _ h=>h) (by assumption) (by rfl) ?_ ?_ ?_;rotate_left;·exact zE4
     ·(intro w hSw;exact K3.out w)
     try simp only[Act.put,gJ,gU,gK,gu,gy,gG]
     refine tO 15 fun K hK=>?_;go_simp;refine hK.out _ _ ?_ (fun hHeld=>?_);·(try dsimp only)<;>(exact Iw.out _ zB2)
     clear hK K;try simp only[Act.put,gJ,gU,gK,gu,gy,gG]
     refine tO 16 fun K hK=>?_;(go_simp;refine(ahR (xs:=[c1,c2,c3]) (HI3.out w5.drew)).mono ?_;rw[HC.out];rintro e w6 ⟨rfl,h6⟩;subst h6;try go_wp2_with fail);refine hK.out _ _ ?_ (fun hHeld=>?_);·(try dsimp only)<;>(exact Iw.out _ zB2)
     clear hK K;try simp only[Act.put,gJ,gU,gK,gu,gy,gG]
     refine tW 17 ?_;refine aZ zk ?_ _;have Xw:=zh (Only.same FI.out (show O0 w5 ((w5.drew).alloc (.cells #[.int .i64 c1,.int .i64 c2,.int .i64 c3] 3)) from(zr.drew).alloc _));by_cases c0:c=0
     ·subst c0;have HRk:Hid (ED X Y (m-(i+1)) (i+1)=r):=HRj.out;go_wp2_with fail;go_roundw;case rel=>exact⟨Xw,i+1,by first|rfl|go_num,by omega,HRk⟩
      case measure=>simp[RowKit.intOf]<;>omega
     have hcr:c=r:=by have h:=HRj.out;rw[if_neg c0]at h;exact h
     subst hcr;clear HRj;go_wp2_with fail;go_ret;exact⟨rfl,fK.out.same Xw.out⟩
    have hci:¬(i:Int)<max (na:Int) (nb:Int):=by have:=HM.out;omega
    have hr2:(0:Int)=r:=by have h:=HRi.out;rw[show m-i=0 by omega]at h;exact h
    subst hr2;clear HRi;go_wp2_with fail;go_ret;exact⟨rfl,fK.out.same gV.out⟩
end
end Go.Proofs.YtdmmebjjojimiaaGreatDoor
namespace Go.Proofs.YtdmmebjjojimiaaGreatDoor
open Go.RowKit
def Jf(s:Str):Bool:=decide (s=ByteArray.empty)||xR s.toList
def Df(a b:Str):Bool:= !decide (a=ByteArray.empty)&& !decide (b=ByteArray.empty)&&decide (acO a.toList b.toList<0)
def Rt(s:jY):Bool:=Jf s.lo&&Jf s.hi&& !Df s.hi s.lo
def yg(s:jY)(v:Str):Bool:=Rt s&&xR v.toList&& !Df v s.lo&& !Df s.hi v
def uQ(l:List jY)(v:Str):Bool:=l.any fun s=>yg s v
def lW(p k:Nat):At:=(4,p,k,0)
def lC(p t:Nat):At:=(5,p,t,0)
def iJ(n:Nat):At:=(6,n,0,0)
def iK(r:Nat):At:=(7,r,0,0)
def dU(p r c:Nat):At:=(10,p,r,c)
def TB.num(S:TB)(a:At):TB×Int:=(((S.1.num a).1,S.2),(S.1.num a).2)
def TB.nums(S:TB)(l:List At):TB×List Int:=(((S.1.nums l).1,S.2),(S.1.nums l).2)
def TB.dD(S:TB)(l:List Int):TB:=if l.contains 0=true then S else (S.1,S.2.add l)
def J8(x:Int)(l:List Int):List (List Int):=(-x::l)::l.map fun y=>[-y,x]
def pz(x:Int)(l:List Int):List (List Int):=l.map (fun y=>[-x,y])++[x::l.map fun y=> -y]
def uS(T:Tab):Nat:=T.helps+((List.range (T.l.length+1)).find? fun j=>decide (hA (T.helps+j)∉T.l)).getD 0
def TB.help(S:TB):TB×Int:=TB.num ({S.1 with helps:=uS S.1},S.2) (hA (uS S.1))
def tu(p:Nat)(bY:List wJ)(l:List jY):List At:=((List.range bY.length).filter fun i=>uQ l (bY.getD i default).version).map (pX p)
def TB.set(S:TB)(p:Nat)(bY:List wJ)(l:List jY):TB×Int:=
 let R:=S.nums (tu p bY l)
 let H:=R.1.help
 (if 0<H.2/\R.2.contains 0=false then (H.1.1,H.1.2.adds (J8 H.2 R.2))else H.1,H.2)
def UQ(vars:List kS)(s:nZ):Option Nat:=(List.range vars.length).find? fun j=>decide ((vars.getD j default).name=s.name)&&tX (vars.getD j default).values s.value
def TB.value(S:TB)(p:Nat)(vars:List kS)(s:nZ):TB×Int:=match UQ vars s with
 |none=>(S,0)
 |some j=>S.num (oh p j (wL (fun t=>decide (t=s.value)) (vars.getD j default).values).toNat)
def TB.values(S:TB)(p:Nat)(vars:List kS):List nZ->TB×List Int
 | []=>(S,[])
 |s::r=>(((S.value p vars s).1.values p vars r).1,(S.value p vars s).2::((S.value p vars s).1.values p vars r).2)
def TB.meet(S:TB)(x:aH)(l:List Nat)(p rule c:Nat)(s:jE):TB×Int:=
 if p∉l then (S,0)
 else if dU p rule c∈S.1.l then (S,(numOf S.1.l (dU p rule c):Int))
 else
  let N:=S.num (dU p rule c)
  let D:=N.1.num (aJ p)
  let E:TB×List Int:=if iC s.spans=true then (D.1,[D.2])else ((D.1.set p (x.pack p).bY s.spans).1,[D.2,(D.1.set p (x.pack p).bY s.spans).2])
  let V:=E.1.values p (x.pack p).vars s.sets
  (if 0<N.2/\(E.2++V.2).contains 0=false then (V.1.1,V.1.2.adds (pz N.2 (E.2++V.2)))else V.1,N.2)
structure iM where
 of:List ((Nat×Nat)×List Int)
 needs:List (List Int)
 roots:List (Nat×List Int)
def gQ{κ:Type}[DecidableEq κ](m:List (κ×List Int))(k:κ)(v:Int):List (κ×List Int):=if k∈m.map Prod.fst then m.map fun e=>if e.1=k then (k,e.2++[v])else e else m++[(k,[v])]
def fA{κ:Type}[DecidableEq κ](m:List (κ×List Int))(k:κ):List Int:=((m.find? fun e=>decide (e.1=k)).map Prod.snd).getD []
def nU(m:List (List Int))(n:Nat)(v:Int):List (List Int):=m.set n (m.getD n []++[v])
abbrev ES:=TB×iM
def eH(names:List Str)(s:Str):Int:=wL (fun t=>decide (t=s)) names
def ES.root(E:ES)(x:aH)(l:List Nat)(names:List Str)(r:Nat)(s:jE):ES:=
 let R:=E.1.num (iK r)
 let P:iM:=(x.targets s.name).foldl (fun P t=>{P with roots:=gQ P.roots t R.2}) E.2
 if 0<=x.find s.name then
  let M:=R.1.meet x l (x.find s.name).toNat r 1 s
  (M.1.dD [-R.2,M.2],P)
 else if eH names s.name<0 then (R.1.dD [-R.2],P)
 else
  let N:=R.1.num (iJ (eH names s.name).toNat)
  (N.1.dD [-R.2,N.2],{P with needs:=nU P.needs (eH names s.name).toNat R.2})
def ES.goes(E:ES)(p t:Nat)(active:Int):ES×Int:=
 let N:=E.1.num (lC p t)
 ((N.1,{E.2 with of:=gQ E.2.of (p,t) active}),N.2)
def ES.depend(E:ES)(x:aH)(l:List Nat)(names:List Str)(r p k:Nat)(d:uY):ES:=
 let A:=E.1.num (lW p k)
 let R:=A.1.num (iK r)
 let W:=R.1.meet x l p r 0 d.cond
 let S:TB:=if [A.2,R.2,W.2].contains 0=true then W.1 else (W.1.1,W.1.2.adds (pz A.2 [R.2,W.2]))
 if 0<=x.find d.on.name then
  let M:=S.meet x l (x.find d.on.name).toNat r 1 d.on
  let G:=ES.goes (M.1.dD [-A.2,M.2],E.2) p (x.find d.on.name).toNat A.2
  (G.1.1.dD [-A.2,G.2],G.1.2)
 else if eH names d.on.name<0 then (S.dD [-A.2],E.2)
 else
  let N:=S.num (iJ (eH names d.on.name).toNat)
  (x.eG d.on.name).foldl (fun E t=>
   let D:=E.1.num (aJ t)
   let G:=ES.goes (D.1,E.2) p t A.2
   (G.1.1.dD [-A.2,-D.2,G.2],G.1.2)) (N.1.dD [-A.2,N.2],{E.2 with needs:=nU E.2.needs (eH names d.on.name).toNat A.2})
def ES.conflict(E:ES)(x:aH)(l:List Nat)(r p:Nat)(c:Ai):ES:=
 let R:=E.1.num (iK r)
 let W:=R.1.meet x l p r 0 c.cond
 if c.with'.name=ByteArray.empty then (W.1.dD [-R.2,-W.2],E.2)
 else if 0<=x.find c.with'.name/\(x.find c.with'.name).toNat∈l then
  let M:=W.1.meet x l (x.find c.with'.name).toNat r 1 c.with'
  (M.1.dD [-R.2,-W.2,-M.2],E.2)
 else (W.1,E.2)
def ES.rule(E:ES)(x:aH)(q:fV)(l:List Nat)(names:List Str)(r:Nat)(y:dH):ES:=
 if y.kind=1 then E.root x l names r (q.roots.getD y.idx.toNat default).spec
 else if y.kind=2 then E.depend x l names r y.pack.toNat y.idx.toNat ((x.pack y.pack.toNat).deps.getD y.idx.toNat default)
 else if y.kind=3 then E.conflict x l r y.pack.toNat ((x.pack y.pack.toNat).cons.getD y.idx.toNat default)
 else E
def ES.rules(E:ES)(x:aH)(q:fV)(l:List Nat)(names:List Str)(rs:List dH):Nat->ES
 |0=>E
 |r+1=>(E.rules x q l names rs r).rule x q l names r (rs.getD r default)
def mP(a b:Nat×Nat):Bool:=decide (a.1<b.1)||decide (a.1=b.1)&&decide (a.2<=b.2)
def iM.edges(P:iM):List (Nat×Nat):=(P.of.map Prod.fst).mergeSort mP
abbrev BS:=TB×List (Nat×List Int)
def BS.edge(E:BS)(P:iM)(e:Nat×Nat):BS:=
 let N:=E.1.num (lC e.1 e.2)
 let A:=N.1.num (aJ e.1)
 let D:=(A.1.dD [-N.2,A.2]).num (aJ e.2)
 ((D.1.dD [-N.2,D.2]).dD (-N.2::fA P.of e),gQ E.2 e.2 N.2)
def TB.pairs(S:TB)(n:Int)(row:List Int):TB:=(List.range row.length).foldl (fun S k=>(row.drop (k+1)).foldl (fun S b=>S.dD [-n,-(row.getD k 0),-b]) S) S
def TB.name(S:TB)(x:aH)(P:iM)(i:Nat)(s:Str):TB:=
 let N:=S.num (iJ i)
 let R:=(N.1.dD (-N.2::P.needs.getD i [])).nums ((x.eG s).map aJ)
 (R.1.dD (-N.2::R.2)).pairs N.2 R.2
def TB.place(S:TB)(P:iM)(into:List (Nat×List Int))(t:Nat):TB:=(S.num (aJ t)).1.dD (-(S.num (aJ t)).2::(fA P.roots t++fA into t))
def TB.pF(S:TB)(x:aH)(q:fV)(l:List Nat)(names:List Str)(rs:List dH):ES:=ES.rules (S,⟨[],List.replicate names.length [],[]⟩) x q l names rs rs.length
def TB.edges(S:TB)(x:aH)(q:fV)(l:List Nat)(names:List Str)(rs:List dH):TB:=
 let E:=S.pF x q l names rs
 let B:=E.2.edges.foldl (fun B e=>BS.edge B E.2 e) (E.1,[])
 l.foldl (fun S t=>S.place E.2 B.2 t) ((List.range names.length).foldl (fun S i=>S.name x E.2 i (names.getD i ByteArray.empty)) B.1)
def Neg(c:List Int):Prop:= ∃z∈c,z<0
def aO(B:lu):Prop:= ∀c∈B.cls,∃z∈c,z<0/\iE.wr z=false
theorem aO.add{B:lu}(h:aO B){xs:List Int}(hx:Neg xs)(hm:∀f,iE.form xs=some f->∀z∈xs,z∈f):aO (B.add xs):=by
 unfold lu.add;by_cases hw:xs.any iE.wr=true;·rw[if_pos hw];exact h
 rw[if_neg hw];cases hf:iE.form xs with
 |none=>exact h
 |some f=>
  dsimp only;by_cases hl:262144<=B.cls.length;·rw[if_pos hl];exact h
  rw[if_neg hl];intro c hc;rcases qW.1 hc with hc|hc;·exact h c hc
  rw[yJ.1 hc];obtain⟨z,h1,h2⟩:=hx;refine⟨z,hm f hf z h1,h2,?_⟩;cases e:iE.wr z with
  |false=>rfl
  |true=>exact absurd (yU.2 ⟨z,h1,e⟩) hw
def jH:Prop:= ∀xs f,iE.form xs=some f->∀z∈xs,z∈f
theorem aO.adds(hF:jH):∀{cs:List (List Int)} {B:lu},aO B->(∀c∈cs,Neg c)->aO (B.adds cs)
 | [],B,h,_=>h
 |c::cs,B,h,hc=>aO.adds hF (cs:=cs) (B:=B.add c) (h.add (hc c qQ) (hF c)) fun d hd=>hc d (yE _ hd)
theorem aO.dD(hF:jH){S:TB}(h:aO S.2){l:List Int}(hl:l.contains 0=false->Neg l):aO (S.dD l).2:=by
 unfold TB.dD;split;·exact h
 rename_i hc;exact h.add (hl (by simpa using hc)) (hF l)
theorem nI(T:Tab)(a:At):0<=(T.num a).2:=by
 unfold Tab.num;split;·exact Int.natCast_nonneg _
 split;·exact Int.le_refl _
 show 0<=(T.l.length:Int)+1;omega
theorem TB.nI(S:TB)(a:At):0<=(S.num a).2:=Go.Proofs.YtdmmebjjojimiaaGreatDoor.nI _ _
theorem Ru:∀(l:List At) (T:Tab),∀z∈(T.nums l).2,0<=z
 | [],T,z,h=>by cases h
 |a::r,T,z,h=>by
  rcases qY.1 h with rfl|h
  ·exact nI T a
  ·exact Ru r _ z h
theorem acP{n:Int}{l:List Int}(hn:0<=n)(h:(-n::l).contains 0=false):Neg (-n::l):=by
 refine⟨-n,qQ,?_⟩;have: -n≠0:=fun e=>by rw[e]at h;simp at h
 omega
theorem afa{x:Int}{l:List Int}(hx:0<x)(hl:∀z∈l,0<=z)(h0:l.contains 0=false):∀c∈J8 x l,Neg c:=by
 intro c hc;rcases qY.1 hc with rfl|hc;·exact⟨-x,qQ,by omega⟩
 obtain⟨y,hy,rfl⟩:=yD.1 hc;have:y≠0:=fun e=>by rw[e]at hy;rw[List.contains_iff_mem.2 hy]at h0;cases h0
 have:=hl y hy;exact⟨-y,qQ,by omega⟩
theorem YT{x:Int}{l:List Int}(hx:0<x)(hl:∀z∈l,0<=z)(h0:l.contains 0=false)(hne:l≠[]):∀c∈pz x l,Neg c:=by
 intro c hc;rcases qW.1 hc with hc|hc;·obtain⟨y,hy,rfl⟩:=yD.1 hc;exact⟨-x,qQ,by omega⟩
 rw[yJ.1 hc];obtain⟨y,r,rfl⟩:=List.exists_cons_of_ne_nil hne;have:y≠0:=fun e=>by rw[e]at h0;simp at h0
 have:=hl y qQ;exact⟨-y,by simp,by omega⟩
theorem aO.num{S:TB}(h:aO S.2)(a:At):aO (S.num a).1.2:=h
theorem aO.nums{S:TB}(h:aO S.2)(l:List At):aO (S.nums l).1.2:=h
theorem aO.set(hF:jH){S:TB}(h:aO S.2)(p:Nat)(bY:List wJ)(l:List jY):aO (S.set p bY l).1.2/\0<=(S.set p bY l).2:=by
 unfold TB.set;refine⟨?_,?_⟩
 ·simp only;split;·rename_i hc;exact aO.adds hF (B:=S.2) h (afa hc.1 (fun z hz=>Ru _ _ z hz) hc.2)
  exact h
 exact TB.nI _ _
theorem aO.value{S:TB}(h:aO S.2)(p:Nat)(vars:List kS)(s:nZ):aO (S.value p vars s).1.2/\0<=(S.value p vars s).2:=by
 unfold TB.value;split;·exact⟨h,Int.le_refl _⟩
 exact⟨h,TB.nI _ _⟩
theorem aO.values:∀(r:List nZ) {S:TB},aO S.2->∀(p:Nat) (vars:List kS),aO (S.values p vars r).1.2/\∀z∈(S.values p vars r).2,0<=z
 | [],S,h,p,vars=>⟨h,fun z hz=>by cases hz⟩
 |s::r,S,h,p,vars=>by
  obtain⟨h1,h2⟩:=h.value p vars s
  obtain⟨h3,h4⟩:=aO.values r h1 p vars
  refine⟨h3,fun z hz=>?_⟩
  rcases qY.1 hz with rfl|hz
  ·exact h2
  ·exact h4 z hz
theorem aO.alf(hF:jH){S:TB}(h:aO S.2){z0:Int}(h0:0<=z0)(p:Nat)(bY:List wJ)(l:List jY)(c:Prop)[Decidable c]:aO (if c then ((S,[z0]):TB×List Int)else ((S.set p bY l).1,[z0,(S.set p bY l).2])).1.2/\(∀z∈(if c then ((S,[z0]):TB×List Int)else ((S.set p bY l).1,[z0,(S.set p bY l).2])).2,0<=z)/\(if c then ((S,[z0]):TB×List Int)else ((S.set p bY l).1,[z0,(S.set p bY l).2])).2≠[]:=by
 by_cases hc:c;·rw[if_pos hc];exact⟨h,fun z hz=>by rw[yJ.1 hz];exact h0,by simp⟩
 rw[if_neg hc];obtain⟨h1,h2⟩:=h.set hF p bY l;refine⟨h1,fun z hz=>?_,by simp⟩;rcases qY.1 hz with rfl|hz;·exact h0
 rw[yJ.1 hz];exact h2
theorem aO.meet(hF:jH){S:TB}(h:aO S.2)(x:aH)(l:List Nat)(p rule c:Nat)(s:jE):aO (S.meet x l p rule c s).1.2/\0<=(S.meet x l p rule c s).2:=by
 unfold TB.meet;by_cases h1:p∉l;·rw[if_pos h1];exact⟨h,Int.le_refl _⟩
 rw[if_neg h1];by_cases h2:dU p rule c∈S.1.l;·rw[if_pos h2];exact⟨h,Int.natCast_nonneg _⟩
 rw[if_neg h2];have e1:=aO.alf hF (S:=((S.num (dU p rule c)).1.num (aJ p)).1) (z0:=((S.num (dU p rule c)).1.num (aJ p)).2) h (TB.nI _ _) p (x.pack p).bY s.spans (iC s.spans=true);dsimp only;generalize (if iC s.spans=true then ((((S.num (dU p rule c)).1.num (aJ p)).1,[((S.num (dU p rule c)).1.num (aJ p)).2]):TB×List Int)else ((((S.num (dU p rule c)).1.num (aJ p)).1.set p (x.pack p).bY s.spans).1,[((S.num (dU p rule c)).1.num (aJ p)).2,(((S.num (dU p rule c)).1.num (aJ p)).1.set p (x.pack p).bY s.spans).2]))=E at e1⊢;obtain⟨e1,e2,e3⟩:=e1;obtain⟨v1,v2⟩:=aO.values s.sets e1 p (x.pack p).vars;refine⟨?_,TB.nI _ _⟩;by_cases hc:0<(S.num (dU p rule c)).2/\(E.2++(E.1.values p (x.pack p).vars s.sets).2).contains 0=false
 ·rw[if_pos hc];refine aO.adds hF v1 (YT hc.1 (fun z hz=>?_) hc.2 (by simp[e3]));rcases qW.1 hz with hz|hz;·exact e2 z hz
  exact v2 z hz
 rw[if_neg hc];exact v1
theorem aO.Dh(hF:jH){S:TB}(h:aO S.2){n:Int}(hn:0<=n)(l:List Int):aO (S.dD (-n::l)).2:=h.dD hF (acP hn)
theorem aO.root(hF:jH){E:ES}(h:aO E.1.2)(x:aH)(l:List Nat)(names:List Str)(r:Nat)(s:jE):aO (E.root x l names r s).1.2:=by
 unfold ES.root;dsimp only;by_cases h1:0<=x.find s.name;·rw[if_pos h1];exact(aO.meet hF (S:=(E.1.num (iK r)).1) h x l _ r 1 s).1.Dh hF (TB.nI _ _) _
 rw[if_neg h1];by_cases h2:eH names s.name<0;·rw[if_pos h2];exact aO.Dh hF (S:=(E.1.num (iK r)).1) h (TB.nI _ _) _
 rw[if_neg h2];exact aO.Dh hF (S:=((E.1.num (iK r)).1.num (iJ (eH names s.name).toNat)).1) h (TB.nI _ _) _
theorem aO.goes{E:ES}(h:aO E.1.2)(p t:Nat)(active:Int):aO (E.goes p t active).1.1.2:=h
theorem aO.vw{β:Type}(f:ES->β->ES)(hf:∀E b,aO E.1.2->aO (f E b).1.2):∀(l:List β) {E:ES},aO E.1.2->aO (l.foldl f E).1.2
 | [],_,h=>h
 |b::r,E,h=>aO.vw f hf r (hf E b h)
theorem aO.mg{β:Type}(f:TB->β->TB)(hf:∀S b,aO S.2->aO (f S b).2):∀(l:List β) {S:TB},aO S.2->aO (l.foldl f S).2
 | [],_,h=>h
 |b::r,S,h=>aO.mg f hf r (hf S b h)
theorem aO.depend(hF:jH){E:ES}(h:aO E.1.2)(x:aH)(l:List Nat)(names:List Str)(r p k:Nat)(d:uY):aO (E.depend x l names r p k d).1.2:=by
 unfold ES.depend;dsimp only;have hA:0<=(E.1.num (lW p k)).2:=TB.nI _ _;have hW:=aO.meet hF (S:=((E.1.num (lW p k)).1.num (iK r)).1) h x l p r 0 d.cond;have hR:0<=((E.1.num (lW p k)).1.num (iK r)).2:=TB.nI _ _;generalize ((E.1.num (lW p k)).1.num (iK r)).1.meet x l p r 0 d.cond=W at hW⊢;generalize ((E.1.num (lW p k)).1.num (iK r)).2=R at hR⊢;generalize (E.1.num (lW p k)).2=A at hA⊢;have hS:aO (if [A,R,W.2].contains 0=true then W.1 else (W.1.1,W.1.2.adds (pz A [R,W.2]))).2:=by
  by_cases hc:[A,R,W.2].contains 0=true;·rw[if_pos hc];exact hW.1
  rw[if_neg hc];have h0:A≠0/\[R,W.2].contains 0=false:=by
   have:¬(A=0\/R=0\/W.2=0):=fun e=>hc (by simp only[List.contains_eq_mem,qY,List.not_mem_nil,or_false,yP];rcases e with e|e|e<;>simp[e]);refine⟨fun e=>this (.inl e),?_⟩;simp only[List.contains_eq_mem,qY,List.not_mem_nil,or_false,decide_eq_false_iff_not];rintro(e|e);·exact this (.inr (.inl e.symm))
   exact this (.inr (.inr e.symm))
  refine aO.adds hF hW.1 (YT zBk (fun z hz=>?_) h0.2 zBz);rcases qY.1 hz with rfl|hz;·exact hR
  rw[yJ.1 hz];exact hW.2
 generalize (if [A,R,W.2].contains 0=true then W.1 else ((W.1.1,W.1.2.adds (pz A [R,W.2])):TB))=S at hS⊢;by_cases h1:0<=x.find d.on.name;·rw[if_pos h1];exact aO.Dh hF (aO.goes (E:=((S.meet x l (x.find d.on.name).toNat r 1 d.on).1.dD [-A,(S.meet x l (x.find d.on.name).toNat r 1 d.on).2],E.2)) ((aO.meet hF hS x l _ r 1 d.on).1.Dh hF hA _) _ _ _) hA _
 rw[if_neg h1];by_cases h2:eH names d.on.name<0;·rw[if_pos h2];exact aO.Dh hF (S:=S) hS hA _
 rw[if_neg h2];refine aO.vw _ (fun E b hE=>?_) _ (aO.Dh hF (S:=(S.num (iJ (eH names d.on.name).toNat)).1) hS hA _);exact aO.Dh hF (S:=(ES.goes ((E.1.num (aJ b)).1,E.2) p b A).1.1) hE hA _
theorem aO.conflict(hF:jH){E:ES}(h:aO E.1.2)(x:aH)(l:List Nat)(r p:Nat)(c:Ai):aO (E.conflict x l r p c).1.2:=by
 unfold ES.conflict;dsimp only;have hR:0<=(E.1.num (iK r)).2:=TB.nI _ _;have hW:=aO.meet hF (S:=(E.1.num (iK r)).1) h x l p r 0 c.cond;by_cases h1:c.with'.name=ByteArray.empty;·rw[if_pos h1];exact hW.1.Dh hF hR _
 rw[if_neg h1];by_cases h2:0<=x.find c.with'.name/\(x.find c.with'.name).toNat∈l;·rw[if_pos h2];exact(aO.meet hF hW.1 x l _ r 1 c.with').1.Dh hF hR _
 rw[if_neg h2];exact hW.1
theorem aO.rule(hF:jH){E:ES}(h:aO E.1.2)(x:aH)(q:fV)(l:List Nat)(names:List Str)(r:Nat)(y:dH):aO (E.rule x q l names r y).1.2:=by
 unfold ES.rule;by_cases h1:y.kind=1;·rw[if_pos h1];exact h.root hF x l names r _
 rw[if_neg h1];by_cases h2:y.kind=2;·rw[if_pos h2];exact h.depend hF x l names r _ _ _
 rw[if_neg h2];by_cases h3:y.kind=3;·rw[if_pos h3];exact h.conflict hF x l r _ _
 rw[if_neg h3];exact h
theorem aO.rules(hF:jH){E:ES}(h:aO E.1.2)(x:aH)(q:fV)(l:List Nat)(names:List Str)(rs:List dH):∀r,aO (E.rules x q l names rs r).1.2
 |0=>h
 |r+1=>(aO.rules hF h x q l names rs r).rule hF x q l names r _
theorem aO.edge(hF:jH){E:BS}(h:aO E.1.2)(P:iM)(e:Nat×Nat):aO (E.edge P e).1.2:=by unfold BS.edge;dsimp only;have hN:0<=(E.1.num (lC e.1 e.2)).2:=TB.nI _ _;have h1:aO (((E.1.num (lC e.1 e.2)).1.num (aJ e.1)).1.dD [-(E.1.num (lC e.1 e.2)).2,((E.1.num (lC e.1 e.2)).1.num (aJ e.1)).2]).2:=aO.Dh hF (S:=((E.1.num (lC e.1 e.2)).1.num (aJ e.1)).1) h hN _;exact aO.Dh hF (aO.Dh hF (S:=((((E.1.num (lC e.1 e.2)).1.num (aJ e.1)).1.dD [-(E.1.num (lC e.1 e.2)).2,((E.1.num (lC e.1 e.2)).1.num (aJ e.1)).2]).num (aJ e.2)).1) h1 hN _) hN _
theorem aO.pairs(hF:jH){S:TB}(h:aO S.2){n:Int}(hn:0<=n)(row:List Int):aO (S.pairs n row).2:=aO.mg _ (fun S k hS=>aO.mg _ (fun S b hS=>hS.Dh hF hn _) _ hS) _ h
theorem aO.name(hF:jH){S:TB}(h:aO S.2)(x:aH)(P:iM)(i:Nat)(s:Str):aO (S.name x P i s).2:=by unfold TB.name;dsimp only;have hN:0<=(S.num (iJ i)).2:=TB.nI _ _;exact aO.pairs hF (aO.Dh hF (aO.nums (aO.Dh hF (S:=(S.num (iJ i)).1) h hN _) _) hN _) hN _
theorem aO.place(hF:jH){S:TB}(h:aO S.2)(P:iM)(into:List (Nat×List Int))(t:Nat):aO (S.place P into t).2:=aO.Dh hF (S:=(S.num (aJ t)).1) h (TB.nI _ _) _
theorem aO.edges(hF:jH){S:TB}(h:aO S.2)(x:aH)(q:fV)(l:List Nat)(names:List Str)(rs:List dH):aO (S.edges x q l names rs).2:=by
 unfold TB.edges;dsimp only;have h1:aO (S.pF x q l names rs).1.2:=aO.rules hF (E:=(S,⟨[],List.replicate names.length [],[]⟩)) h x q l names rs _;generalize S.pF x q l names rs=E at h1⊢;have h2:∀(es:List (Nat×Nat)) (B:BS),aO B.1.2->aO (es.foldl (fun B e=>BS.edge B E.2 e) B).1.2:=fun es=>by
  induction es with
  |nil=>exact fun B hB=>hB
  |cons e r ih=>exact fun B hB=>ih _ (aO.edge hF hB E.2 e)
 exact aO.mg _ (fun S t hS=>hS.place hF E.2 _ t) _ (aO.mg _ (fun S i hS=>hS.name hF x E.2 i _) _ (h2 _ _ h1))
def jF(T T':Tab):Prop:=(∃m,T'.l=T.l++m)/\(T.full=true->T'.full=true)
theorem jF.rfl'{T:Tab}:jF T T:=⟨⟨[],by simp⟩,id⟩
theorem jF.tr{a b c:Tab}(h:jF a b)(k:jF b c):jF a c:=by obtain⟨⟨m,hm⟩,h2⟩:=h;obtain⟨⟨n,hn⟩,k2⟩:=k;exact⟨⟨m++n,by rw[hn,hm,yW]⟩,fun e=>k2 (h2 e)⟩
theorem MF(T:Tab)(a:At):jF T (T.num a).1:=by
 obtain⟨m,h,-⟩:=xA.Dc T a;refine⟨⟨m,h⟩,fun e=>?_⟩;unfold Tab.num;by_cases hm:a∈T.l;·rw[if_pos hm];exact e
 rw[if_neg hm];by_cases hl:T.limit<=T.l.length;·rw[if_pos hl]
 rw[if_neg hl];exact e
theorem JH:∀(l:List At) (T:Tab),jF T (T.nums l).1
 | [],_=>jF.rfl'
 |a::r,T=>(MF T a).tr (JH r _)
theorem TB.uj(S:TB)(a:At):jF S.1 (S.num a).1.1:=MF S.1 a
theorem TB.afb(S:TB)(l:List At):jF S.1 (S.nums l).1.1:=JH l S.1
theorem TB.UR(S:TB)(l:List Int):(S.dD l).1=S.1:=by unfold TB.dD;split<;>rfl
theorem TB.AU(S:TB)(l:List Int):jF S.1 (S.dD l).1:=by rw[TB.UR];exact jF.rfl'
theorem TB.afc(S:TB):jF S.1 S.help.1.1:=TB.uj ({S.1 with helps:=uS S.1},S.2) (hA (uS S.1))
theorem TB.ahT(S:TB)(p:Nat)(bY:List wJ)(l:List jY):jF S.1 (S.set p bY l).1.1:=by have h:=(TB.afb S (tu p bY l)).tr (TB.afc (S.nums (tu p bY l)).1);unfold TB.set;dsimp only;split<;>exact h
theorem TB.acQ(S:TB)(p:Nat)(vars:List kS)(s:nZ):jF S.1 (S.value p vars s).1.1:=by
 unfold TB.value;split;·exact jF.rfl'
 exact TB.uj _ _
theorem TB.Qd(p:Nat)(vars:List kS):∀(l:List nZ) (S:TB),jF S.1 (S.values p vars l).1.1
 | [],S=>jF.rfl'
 |s::r,S=>(TB.acQ S p vars s).tr (TB.Qd p vars r _)
theorem TB.YU(S:TB)(x:aH)(l:List Nat)(p rule c:Nat)(s:jE):jF S.1 (S.meet x l p rule c s).1.1:=by
 unfold TB.meet;by_cases h1:p∉l;·rw[if_pos h1];exact jF.rfl'
 rw[if_neg h1];by_cases h2:dU p rule c∈S.1.l;·rw[if_pos h2];exact jF.rfl'
 rw[if_neg h2];dsimp only;have hD:=(TB.uj S (dU p rule c)).tr (TB.uj (S.num (dU p rule c)).1 (aJ p));have hE:jF S.1 (if iC s.spans=true then ((((S.num (dU p rule c)).1.num (aJ p)).1,[((S.num (dU p rule c)).1.num (aJ p)).2]):TB×List Int)else ((((S.num (dU p rule c)).1.num (aJ p)).1.set p (x.pack p).bY s.spans).1,[((S.num (dU p rule c)).1.num (aJ p)).2,(((S.num (dU p rule c)).1.num (aJ p)).1.set p (x.pack p).bY s.spans).2])).1.1:=by
  by_cases hc:iC s.spans=true;·rw[if_pos hc];exact hD
  rw[if_neg hc];exact hD.tr (TB.ahT _ _ _ _)
 generalize (if iC s.spans=true then ((((S.num (dU p rule c)).1.num (aJ p)).1,[((S.num (dU p rule c)).1.num (aJ p)).2]):TB×List Int)else ((((S.num (dU p rule c)).1.num (aJ p)).1.set p (x.pack p).bY s.spans).1,[((S.num (dU p rule c)).1.num (aJ p)).2,(((S.num (dU p rule c)).1.num (aJ p)).1.set p (x.pack p).bY s.spans).2]))=E at hE⊢;have hV:=hE.tr (TB.Qd p (x.pack p).vars s.sets E.1);by_cases hc:0<(S.num (dU p rule c)).2/\(E.2++(E.1.values p (x.pack p).vars s.sets).2).contains 0=false;·rw[if_pos hc];exact hV
 rw[if_neg hc];exact hV
def Rw(K:At->Prop)(T:Tab)(z:Int):Prop:=z=0/\T.full=true\/ ∃a,K a/\xA.iF T.l a z
theorem Rw.gr{K:At->Prop}{l l':Tab}{z:Int}(h:Rw K l z)(g:jF l l'):Rw K l' z:=by
 obtain⟨⟨m,hm⟩,g2⟩:=g;rcases h with h| ⟨a,h1,h2⟩;·exact .inl ⟨h.1,g2 h.2⟩
 exact .inr ⟨a,h1,by rw[hm];exact h2.mono⟩
def mD{κ:Type}(K:At->Prop)(l:Tab)(m:List (κ×List Int)):Prop:= ∀e∈m,∀z∈e.2,Rw K l z
theorem mD.gr{κ:Type}{K:At->Prop}{l l':Tab}{m:List (κ×List Int)}(h:mD K l m)(g:jF l l'):mD K l' m:=fun e he z hz=>(h e he z hz).gr g
theorem mD.push{κ:Type}[DecidableEq κ]{K:At->Prop}{l:Tab}{m:List (κ×List Int)}(h:mD K l m)(k:κ){v:Int}(hv:Rw K l v):mD K l (gQ m k v):=by
 unfold gQ;split
 ·intro e he z hz;obtain⟨e0,h0,rfl⟩:=yD.1 he;by_cases hk:e0.1=k
  ·rw[if_pos hk]at hz;rcases qW.1 hz with hz|hz;·exact h e0 h0 z hz
   rw[yJ.1 hz];exact hv
  rw[if_neg hk]at hz;exact h e0 h0 z hz
 intro e he z hz;rcases qW.1 he with he|he;·exact h e he z hz
 rw[yJ.1 he]at hz;rw[yJ.1 hz];exact hv
theorem mD.get{κ:Type}[DecidableEq κ]{K:At->Prop}{l:Tab}{m:List (κ×List Int)}(h:mD K l m)(k:κ):∀z∈fA m k,Rw K l z:=by
 intro z hz;unfold fA at hz;cases hf:m.find? (fun e=>decide (e.1=k))with
 |none=>rw[hf]at hz;simp at hz
 |some e=>rw[hf]at hz;exact h e (List.mem_of_find?_eq_some hf) z (by simpa using hz)
theorem afd(T:Tab)(a:At):((T.num a).2=0/\(T.num a).1.full=true)\/xA.iF (T.num a).1.l a (T.num a).2:=by
 unfold Tab.num;by_cases hm:a∈T.l
 ·rw[if_pos hm];refine .inr ?_;have hlt:=List.idxOf_lt_length_of_mem hm;simp only[numOf,if_pos hm];refine⟨by omega,by omega,?_⟩;have e:(((List.idxOf a T.l+1:Nat):Int).natAbs-1)=List.idxOf a T.l:=zBk;have e':((((List.idxOf a T.l:Nat):Int)+1).natAbs-1)=List.idxOf a T.l:=zBk;rw[qC];first|rw[e,qA hlt]|rw[e',qA hlt]
  simp
 rw[if_neg hm];by_cases hl:T.limit<=T.l.length;·rw[if_pos hl];exact .inl ⟨rfl,rfl⟩
 rw[if_neg hl];refine .inr ⟨by show(0:Int)<(T.l.length:Int)+1;omega,?_,?_⟩;·show(((T.l.length:Int)+1).natAbs)<=(T.l++[a]).length;simp;omega
 exact zFJ
theorem TB.Xx(S:TB)(a:At){K:At->Prop}(hK:K a):Rw K (S.num a).1.1 (S.num a).2:=(afd S.1 a).imp id fun h=>⟨a,hK,h⟩
def Di(a:At):Prop:= ∃r:Nat,a=iK r
def Bq(a:At):Prop:= ∃p t:Nat,a=lC p t
theorem MG(r:Int):∀(ts:List Nat) (P:iM) {l:Tab},mD Di l P.roots->Rw Di l r->mD Di l (ts.foldl (fun P t=>{P with roots:=gQ P.roots t r}) P).roots
 | [],P,l,h,_=>h
 |t::ts,P,l,h,hr=>MG r ts _ (h.push t hr) hr
structure zT (l0:Tab) (E:ES):Prop where
 gr:jF l0 E.1.1
 rt:mD Di E.1.1 E.2.roots
theorem zT.to{l0:Tab}{E E':ES}(h:zT l0 E)(g:jF E.1.1 E'.1.1)(hr:E'.2.roots=E.2.roots):zT l0 E':=⟨h.gr.tr g,by rw[hr];exact h.rt.gr g⟩
theorem zT.root{l0:Tab}{E:ES}(h:zT l0 E)(x:aH)(l:List Nat)(names:List Str)(r:Nat)(s:jE):zT l0 (E.root x l names r s):=by
 have g1:=TB.uj E.1 (iK r);have hP:=MG (E.1.num (iK r)).2 (x.targets s.name) E.2 (h.rt.gr g1) (TB.Xx E.1 (iK r) (K:=Di) ⟨r,rfl⟩);unfold ES.root;dsimp only;generalize (x.targets s.name).foldl (fun P t=>{P with roots:=gQ P.roots t (E.1.num (iK r)).2}) E.2=P at hP⊢;by_cases h1:0<=x.find s.name;·rw[if_pos h1];have g:=(TB.YU (E.1.num (iK r)).1 x l (x.find s.name).toNat r 1 s).tr (TB.AU _ [-(E.1.num (iK r)).2,((E.1.num (iK r)).1.meet x l (x.find s.name).toNat r 1 s).2]);exact⟨h.gr.tr (g1.tr g),hP.gr g⟩
 rw[if_neg h1];by_cases h2:eH names s.name<0;·rw[if_pos h2];have g:=TB.AU (E.1.num (iK r)).1 [-(E.1.num (iK r)).2];exact⟨h.gr.tr (g1.tr g),hP.gr g⟩
 rw[if_neg h2];have g:=(TB.uj (E.1.num (iK r)).1 (iJ (eH names s.name).toNat)).tr (TB.AU _ [-(E.1.num (iK r)).2,((E.1.num (iK r)).1.num (iJ (eH names s.name).toNat)).2]);exact⟨h.gr.tr (g1.tr g),hP.gr g⟩
theorem zT.goes{l0:Tab}{E:ES}(h:zT l0 E)(p t:Nat)(active:Int):zT l0 (E.goes p t active).1:=h.to (TB.uj _ _) rfl
theorem zT.dD{l0:Tab}{E:ES}(h:zT l0 E)(c:List Int):zT l0 (E.1.dD c,E.2):=h.to (TB.AU _ _) rfl
theorem zT.num{l0:Tab}{E:ES}(h:zT l0 E)(a:At):zT l0 ((E.1.num a).1,E.2):=h.to (TB.uj _ _) rfl
theorem zT.meet{l0:Tab}{E:ES}(h:zT l0 E)(x:aH)(l:List Nat)(p rule c:Nat)(s:jE):zT l0 ((E.1.meet x l p rule c s).1,E.2):=h.to (TB.YU _ _ _ _ _ _ _) rfl
theorem zT.vw{β:Type}{l0:Tab}(f:ES->β->ES)(hf:∀E b,zT l0 E->zT l0 (f E b)):∀(l:List β) {E:ES},zT l0 E->zT l0 (l.foldl f E)
 | [],_,h=>h
 |b::r,E,h=>zT.vw f hf r (hf E b h)
theorem zT.depend{l0:Tab}{E:ES}(h:zT l0 E)(x:aH)(l:List Nat)(names:List Str)(r p k:Nat)(d:uY):zT l0 (E.depend x l names r p k d):=by
 unfold ES.depend;dsimp only;have hW:=((h.num (lW p k)).num (iK r)).meet x l p r 0 d.cond;dsimp only at hW;generalize ((E.1.num (lW p k)).1.num (iK r)).1.meet x l p r 0 d.cond=W at hW⊢;generalize ((E.1.num (lW p k)).1.num (iK r)).2=R;generalize (E.1.num (lW p k)).2=A;have hS:zT l0 ((if [A,R,W.2].contains 0=true then W.1 else ((W.1.1,W.1.2.adds (pz A [R,W.2])):TB)),E.2):=by
  by_cases hc:[A,R,W.2].contains 0=true;·rw[if_pos hc];exact hW
  rw[if_neg hc];exact hW.to (E':=((W.1.1,W.1.2.adds (pz A [R,W.2])),E.2)) jF.rfl' rfl
 generalize (if [A,R,W.2].contains 0=true then W.1 else ((W.1.1,W.1.2.adds (pz A [R,W.2])):TB))=S at hS⊢;by_cases h1:0<=x.find d.on.name;·rw[if_pos h1];exact(((hS.meet x l _ r 1 d.on).dD _).goes _ _ _).dD _
 rw[if_neg h1];by_cases h2:eH names d.on.name<0;·rw[if_pos h2];exact hS.dD _
 rw[if_neg h2];exact zT.vw _ (fun E b hE=>((hE.num (aJ b)).goes p b A).dD _) _ (((hS.num _).dD _).to (E':=(_,{E.2 with needs:=_})) jF.rfl' rfl)
theorem zT.conflict{l0:Tab}{E:ES}(h:zT l0 E)(x:aH)(l:List Nat)(r p:Nat)(c:Ai):zT l0 (E.conflict x l r p c):=by
 unfold ES.conflict;dsimp only;have hW:=(h.num (iK r)).meet x l p r 0 c.cond;by_cases h1:c.with'.name=ByteArray.empty;·rw[if_pos h1];exact hW.dD _
 rw[if_neg h1];by_cases h2:0<=x.find c.with'.name/\(x.find c.with'.name).toNat∈l;·rw[if_pos h2];exact(hW.meet x l _ r 1 c.with').dD _
 rw[if_neg h2];exact hW
theorem zT.rule{l0:Tab}{E:ES}(h:zT l0 E)(x:aH)(q:fV)(l:List Nat)(names:List Str)(r:Nat)(y:dH):zT l0 (E.rule x q l names r y):=by
 unfold ES.rule;by_cases h1:y.kind=1;·rw[if_pos h1];exact h.root x l names r _
 rw[if_neg h1];by_cases h2:y.kind=2;·rw[if_pos h2];exact h.depend x l names r _ _ _
 rw[if_neg h2];by_cases h3:y.kind=3;·rw[if_pos h3];exact h.conflict x l r _ _
 rw[if_neg h3];exact h
theorem zT.rules{l0:Tab}{E:ES}(h:zT l0 E)(x:aH)(q:fV)(l:List Nat)(names:List Str)(rs:List dH):∀r,zT l0 (E.rules x q l names rs r)
 |0=>h
 |r+1=>(zT.rules h x q l names rs r).rule x q l names r _
end Go.Proofs.YtdmmebjjojimiaaGreatDoor
namespace Go.Proofs
theorem zBK{p:Prop}(h:p:=by rw[qN,Nat.mul_add];omega):p:=h
theorem zBW{p:Prop}(h:p:=by rw[qN];omega):p:=h
theorem zBx{p:Prop}(h:p:=by rw[Nat.succ_mul r];omega):p:=h
theorem zFI{p:Prop}(h:p:=by
 by_cases hc:[A,R,W.2].contains 0=true
 ·rw[if_pos hc];exact hW.up zAC zBk
 ·rw[if_neg hc];exact(hW.tr (Gr.adds _ _)).up zBk (by rw[MH];simp)):p:=h
end Go.Proofs
namespace Go.Proofs.YtdmmebjjojimiaaGreatDoor
open Go.RowKit
structure Gr (S S':TB) (k n:Nat):Prop where
 tab:jF S.1 S'.1
 len:S'.1.l.length<=S.1.l.length+k
 lim:S'.1.limit=S.1.limit
 full:S.1.l.length+k<=S.1.limit->S'.1.full=S.1.full
 cls:∃ds,S'.2.cls=S.2.cls++ds/\ds.length<=n
 YV:S.2.cls.length+n<=262144->S'.2.full=S.2.full
theorem Gr.rfl'{S:TB}:Gr S S 0 0:=⟨jF.rfl',qH _,rfl,fun _=>rfl,⟨[],by simp,qH _⟩,fun _=>rfl⟩
theorem Gr.up{S S':TB}{k n k' n':Nat}(h:Gr S S' k n)(hk:k<=k')(hn:n<=n'):Gr S S' k' n':=by obtain⟨ds,h1,h2⟩:=h.cls;exact⟨h.tab,by have:=h.len;omega,h.lim,fun e=>h.full zAC,⟨ds,h1,by omega⟩,fun e=>h.YV zBk⟩
theorem Gr.tr{A B C:TB}{k n k' n':Nat}(h:Gr A B k n)(g:Gr B C k' n'):Gr A C (k+k') (n+n'):=by
 obtain⟨ds,h1,h2⟩:=h.cls;obtain⟨es,g1,g2⟩:=g.cls;refine⟨h.tab.tr g.tab,by have:=h.len;have:=g.len;omega,g.lim.trans h.lim,fun e=>?_,⟨ds++es,by rw[g1,h1,yW],by rw[qK];omega⟩,fun e=>?_⟩;·rw[g.full (by rw[h.lim];have:=h.len;omega),h.full zBk]
 rw[g.YV (by rw[h1,qK];omega),h.YV zBk]
theorem Gr.num(S:TB)(a:At):Gr S (S.num a).1 1 0:=by
 refine⟨TB.uj S a,?_,?_,?_,⟨[],by simp[TB.num],qH _⟩,fun _=>rfl⟩<;>(show _;unfold TB.num Tab.num;dsimp only;by_cases hm:a∈S.1.l);·rw[if_pos hm];exact Nat.le_succ _
 ·rw[if_neg hm];by_cases hl:S.1.limit<=S.1.l.length;·rw[if_pos hl];exact Nat.le_succ _
  rw[if_neg hl];simp
 ·rw[if_pos hm]
 ·rw[if_neg hm];by_cases hl:S.1.limit<=S.1.l.length;·rw[if_pos hl]
  rw[if_neg hl]
 ·rw[if_pos hm];exact fun _=>rfl
 rw[if_neg hm];intro e;rw[if_neg zBk]
theorem Gr.nums:∀(l:List At) (S:TB),Gr S (S.nums l).1 l.length 0
 | [],S=>Gr.rfl'
 |a::r,S=>((Gr.num S a).tr (Gr.nums r (S.num a).1)).up zAd (qH _)
theorem acR(B:lu)(xs:List Int):(∃ds,(B.add xs).cls=B.cls++ds/\ds.length<=1)/\(B.cls.length+1<=262144->(B.add xs).full=B.full):=by
 unfold lu.add;split;·exact⟨⟨[],by simp,by simp⟩,fun _=>rfl⟩
 cases iE.form xs with
 |none=>exact⟨⟨[],by simp,by simp⟩,fun _=>rfl⟩
 |some f=>
  dsimp only;by_cases hl:262144<=B.cls.length;·rw[if_pos hl];exact⟨⟨[],by simp,by simp⟩,fun e=>by omega⟩
  rw[if_neg hl];exact⟨⟨[f],rfl,by simp⟩,fun _=>rfl⟩
theorem YW:∀(cs:List (List Int)) (B:lu),(∃ds,(B.adds cs).cls=B.cls++ds/\ds.length<=cs.length)/\(B.cls.length+cs.length<=262144->(B.adds cs).full=B.full)
 | [],B=>⟨⟨[],by simp[lu.adds],by simp⟩,fun _=>rfl⟩
 |c::cs,B=>by
  obtain⟨⟨d1,h1,k1⟩,f1⟩:=acR B c
  obtain⟨⟨d2,h2,k2⟩,f2⟩:=YW cs (B.add c)
  refine⟨⟨d1++d2,?_,by rw[qK,qN];omega⟩,fun e=>?_⟩
  ·show((B.add c).adds cs).cls=_
   rw[h2,h1,yW]
  ·show((B.add c).adds cs).full=_
   rw[qN]at e
   rw[f2 (by rw[h1,qK];omega),f1 zBk]
theorem Gr.dD(S:TB)(l:List Int):Gr S (S.dD l) 0 1:=by
 unfold TB.dD;by_cases hc:l.contains 0=true;·rw[if_pos hc];exact Gr.rfl'.up (qH _) (qE _)
 rw[if_neg hc];obtain⟨h1,h2⟩:=acR S.2 l;exact⟨jF.rfl',qH _,rfl,fun _=>rfl,h1,h2⟩
theorem Gr.adds(S:TB)(cs:List (List Int)):Gr S (S.1,S.2.adds cs) 0 cs.length:=by obtain⟨h1,h2⟩:=YW cs S.2;exact⟨jF.rfl',qH _,rfl,fun _=>rfl,h1,h2⟩
theorem Gr.help(S:TB):Gr S S.help.1 1 0:=by have h:=Gr.num ({S.1 with helps:=uS S.1},S.2) (hA (uS S.1));exact⟨h.tab,h.len,h.lim,h.full,h.cls,h.YV⟩
theorem acS(x:Int)(l:List Int):(J8 x l).length=l.length+1:=by simp[J8]
theorem MH(x:Int)(l:List Int):(pz x l).length=l.length+1:=by simp[pz]
theorem lM:∀(l:List At) (T:Tab),(T.nums l).2.length=l.length
 | [],T=>rfl
 |a::r,T=>by
  show((T.num a).2::((T.num a).1.nums r).2).length=_
  rw[qN,lM r,qN]
theorem Z9(p:Nat)(bY:List wJ)(l:List jY):(tu p bY l).length<=bY.length:=by unfold tu;rw[qM];exact qR (yO _ _) zAM
theorem Gr.set(S:TB)(p:Nat)(bY:List wJ)(l:List jY):Gr S (S.set p bY l).1 (bY.length+1) (bY.length+1):=by
 have hl:=Z9 p bY l;have h:=(Gr.nums (tu p bY l) S).tr (Gr.help (S.nums (tu p bY l)).1);have hn:(S.nums (tu p bY l)).2.length=(tu p bY l).length:=lM _ _;unfold TB.set;dsimp only;generalize (S.nums (tu p bY l)).1.help=H at h⊢;by_cases hc:0<H.2/\(S.nums (tu p bY l)).2.contains 0=false;·rw[if_pos hc];exact(h.tr (Gr.adds H.1 (J8 H.2 (S.nums (tu p bY l)).2))).up zBk (by rw[acS];omega)
 rw[if_neg hc];exact h.up zAC zBk
theorem Gr.value(S:TB)(p:Nat)(vars:List kS)(s:nZ):Gr S (S.value p vars s).1 1 0:=by
 unfold TB.value;split;·exact Gr.rfl'.up (qE _) (qH _)
 exact Gr.num _ _
theorem Gr.values(p:Nat)(vars:List kS):∀(l:List nZ) (S:TB),Gr S (S.values p vars l).1 l.length 0
 | [],S=>Gr.rfl'
 |s::r,S=>((Gr.value S p vars s).tr (Gr.values p vars r _)).up zBW (qH _)
theorem um(p:Nat)(vars:List kS):∀(l:List nZ) (S:TB),(S.values p vars l).2.length=l.length
 | [],S=>rfl
 |s::r,S=>by
  show((S.value p vars s).2::((S.value p vars s).1.values p vars r).2).length=_
  rw[qN,um p vars r,qN]
theorem Gr.meet(S:TB)(x:aH)(l:List Nat)(p rule c:Nat)(s:jE):Gr S (S.meet x l p rule c s).1 ((x.pack p).bY.length+s.sets.length+3) ((x.pack p).bY.length+s.sets.length+4):=by
 unfold TB.meet;by_cases h1:p∉l;·rw[if_pos h1];exact Gr.rfl'.up (qE _) (qE _)
 rw[if_neg h1];by_cases h2:dU p rule c∈S.1.l;·rw[if_pos h2];exact Gr.rfl'.up (qE _) (qE _)
 rw[if_neg h2];dsimp only;have hD:=(Gr.num S (dU p rule c)).tr (Gr.num (S.num (dU p rule c)).1 (aJ p));have hE:Gr S (if iC s.spans=true then ((((S.num (dU p rule c)).1.num (aJ p)).1,[((S.num (dU p rule c)).1.num (aJ p)).2]):TB×List Int)else ((((S.num (dU p rule c)).1.num (aJ p)).1.set p (x.pack p).bY s.spans).1,[((S.num (dU p rule c)).1.num (aJ p)).2,(((S.num (dU p rule c)).1.num (aJ p)).1.set p (x.pack p).bY s.spans).2])).1 ((x.pack p).bY.length+3) ((x.pack p).bY.length+1)/\(if iC s.spans=true then ((((S.num (dU p rule c)).1.num (aJ p)).1,[((S.num (dU p rule c)).1.num (aJ p)).2]):TB×List Int)else ((((S.num (dU p rule c)).1.num (aJ p)).1.set p (x.pack p).bY s.spans).1,[((S.num (dU p rule c)).1.num (aJ p)).2,(((S.num (dU p rule c)).1.num (aJ p)).1.set p (x.pack p).bY s.spans).2])).2.length<=2:=by
  by_cases hc:iC s.spans=true;·rw[if_pos hc];exact⟨hD.up zAC zBk,by simp⟩
  rw[if_neg hc];exact⟨(hD.tr (Gr.set _ _ _ _)).up zAC zBk,by simp⟩
 generalize (if iC s.spans=true then ((((S.num (dU p rule c)).1.num (aJ p)).1,[((S.num (dU p rule c)).1.num (aJ p)).2]):TB×List Int)else ((((S.num (dU p rule c)).1.num (aJ p)).1.set p (x.pack p).bY s.spans).1,[((S.num (dU p rule c)).1.num (aJ p)).2,(((S.num (dU p rule c)).1.num (aJ p)).1.set p (x.pack p).bY s.spans).2]))=E at hE⊢;have hV:=hE.1.tr (Gr.values p (x.pack p).vars s.sets E.1);have hl:=um p (x.pack p).vars s.sets E.1;by_cases hc:0<(S.num (dU p rule c)).2/\(E.2++(E.1.values p (x.pack p).vars s.sets).2).contains 0=false;·rw[if_pos hc];exact(hV.tr (Gr.adds (E.1.values p (x.pack p).vars s.sets).1 (pz (S.num (dU p rule c)).2 (E.2++(E.1.values p (x.pack p).vars s.sets).2)))).up zBk (by rw[MH,qK,hl];omega)
 rw[if_neg hc];exact hV.up zAC zBk
def sJ(x:aH)(M:Nat)(s:jE):Prop:= ∀p,(x.pack p).bY.length+s.sets.length+4<=M
theorem Gr.MI(S:TB)(x:aH)(l:List Nat)(p rule c:Nat){s:jE}{M:Nat}(h:sJ x M s):Gr S (S.meet x l p rule c s).1 M M:=(Gr.meet S x l p rule c s).up (by have:=h p;omega) (by have:=h p;omega)
theorem Gr.root(E:ES)(x:aH)(l:List Nat)(names:List Str)(r:Nat){s:jE}{M:Nat}(h:sJ x M s):Gr E.1 (E.root x l names r s).1 (M+2) (M+2):=by
 have g1:=Gr.num E.1 (iK r);unfold ES.root;dsimp only;by_cases h1:0<=x.find s.name;·rw[if_pos h1];exact((g1.tr (Gr.MI _ x l (x.find s.name).toNat r 1 h)).tr (Gr.dD _ _)).up zAC zBk
 rw[if_neg h1];by_cases h2:eH names s.name<0;·rw[if_pos h2];exact(g1.tr (Gr.dD _ _)).up zAC zBk
 rw[if_neg h2];exact((g1.tr (Gr.num _ _)).tr (Gr.dD _ _)).up zAC zBk
theorem Gr.vw{β:Type}(f:ES->β->ES)(k n:Nat)(hf:∀E b,Gr E.1 (f E b).1 k n):∀(l:List β) (E:ES),Gr E.1 (l.foldl f E).1 (k*l.length) (n*l.length)
 | [],_=>Gr.rfl'
 |b::r,E=>((hf E b).tr (Gr.vw f k n hf r (f E b))).up (by rw[qN,Nat.mul_add];omega) zBK
theorem Gr.mg{β:Type}(f:TB->β->TB)(k n:Nat)(hf:∀S b,Gr S (f S b) k n):∀(l:List β) (S:TB),Gr S (l.foldl f S) (k*l.length) (n*l.length)
 | [],_=>Gr.rfl'
 |b::r,S=>((hf S b).tr (Gr.mg f k n hf r (f S b))).up (by rw[qN,Nat.mul_add];omega) zBK
theorem Gr.depend(E:ES)(x:aH)(l:List Nat)(names:List Str)(r p k:Nat){d:uY}{M V:Nat}(hc:sJ x M d.cond)(ho:sJ x M d.on)(hV:(x.eG d.on.name).length<=V):Gr E.1 (E.depend x l names r p k d).1 (2*M+2*V+8) (2*M+2*V+8):=by
 unfold ES.depend;dsimp only;have hW:=((Gr.num E.1 (lW p k)).tr (Gr.num (E.1.num (lW p k)).1 (iK r))).tr (Gr.MI ((E.1.num (lW p k)).1.num (iK r)).1 x l p r 0 hc);generalize ((E.1.num (lW p k)).1.num (iK r)).1.meet x l p r 0 d.cond=W at hW⊢;generalize ((E.1.num (lW p k)).1.num (iK r)).2=R;generalize (E.1.num (lW p k)).2=A;have hS:Gr E.1 (if [A,R,W.2].contains 0=true then W.1 else ((W.1.1,W.1.2.adds (pz A [R,W.2])):TB)) (M+2) (M+3):=by exact zFI
 generalize (if [A,R,W.2].contains 0=true then W.1 else ((W.1.1,W.1.2.adds (pz A [R,W.2])):TB))=S at hS⊢;by_cases h1:0<=x.find d.on.name;·rw[if_pos h1];exact((((hS.tr (Gr.MI S x l (x.find d.on.name).toNat r 1 ho)).tr (Gr.dD _ [-A,(S.meet x l (x.find d.on.name).toNat r 1 d.on).2])).tr (Gr.num _ (lC p (x.find d.on.name).toNat))).tr (Gr.dD _ _)).up zAC zBk
 rw[if_neg h1];by_cases h2:eH names d.on.name<0;·rw[if_pos h2];exact(hS.tr (Gr.dD _ _)).up zAC zBk
 rw[if_neg h2];have hF:=Gr.vw (fun(E:ES) (t:Nat)=>((ES.goes ((E.1.num (aJ t)).1,E.2) p t A).1.1.dD [-A,-(E.1.num (aJ t)).2,(ES.goes ((E.1.num (aJ t)).1,E.2) p t A).2],(ES.goes ((E.1.num (aJ t)).1,E.2) p t A).1.2)) 2 1 (fun E b=>(((Gr.num E.1 (aJ b)).tr (Gr.num (E.1.num (aJ b)).1 (lC p b))).tr (Gr.dD _ _)).up zAC zBk) (x.eG d.on.name) ((S.num (iJ (eH names d.on.name).toNat)).1.dD [-A,(S.num (iJ (eH names d.on.name).toNat)).2],{E.2 with needs:=nU E.2.needs (eH names d.on.name).toNat A});exact(((hS.tr (Gr.num S (iJ (eH names d.on.name).toNat))).tr (Gr.dD _ _)).tr hF).up zAC zBk
theorem Gr.conflict(E:ES)(x:aH)(l:List Nat)(r p:Nat){c:Ai}{M:Nat}(hc:sJ x M c.cond)(ho:sJ x M c.with'):Gr E.1 (E.conflict x l r p c).1 (2*M+1) (2*M+1):=by
 unfold ES.conflict;dsimp only;have hW:=(Gr.num E.1 (iK r)).tr (Gr.MI (E.1.num (iK r)).1 x l p r 0 hc);by_cases h1:c.with'.name=ByteArray.empty;·rw[if_pos h1];exact(hW.tr (Gr.dD _ _)).up zAC zBk
 rw[if_neg h1];by_cases h2:0<=x.find c.with'.name/\(x.find c.with'.name).toNat∈l;·rw[if_pos h2];exact((hW.tr (Gr.MI _ x l (x.find c.with'.name).toNat r 1 ho)).tr (Gr.dD _ _)).up zAC zBk
 rw[if_neg h2];exact hW.up zAC zBk
structure Sizes (x:aH) (q:fV) (M V:Nat):Prop where
 root:∀i,sJ x M (q.roots.getD i default).spec
 dep:∀p i,sJ x M ((x.pack p).deps.getD i default).cond/\sJ x M ((x.pack p).deps.getD i default).on
 con:∀p i,sJ x M ((x.pack p).cons.getD i default).cond/\sJ x M ((x.pack p).cons.getD i default).with'
 Jg:∀s,(x.eG s).length<=V
theorem Gr.rule(E:ES){x:aH}{q:fV}(l:List Nat)(names:List Str)(r:Nat)(y:dH){M V:Nat}(z:Sizes x q M V):Gr E.1 (E.rule x q l names r y).1 (2*M+2*V+8) (2*M+2*V+8):=by
 unfold ES.rule;by_cases h1:y.kind=1;·rw[if_pos h1];exact(Gr.root E x l names r (z.root _)).up zAC zBk
 rw[if_neg h1];by_cases h2:y.kind=2;·rw[if_pos h2];exact Gr.depend E x l names r _ _ (z.dep _ _).1 (z.dep _ _).2 (z.Jg _)
 rw[if_neg h2];by_cases h3:y.kind=3;·rw[if_pos h3];exact(Gr.conflict E x l r _ (z.con _ _).1 (z.con _ _).2).up zAC zBk
 rw[if_neg h3];exact Gr.rfl'.up (qE _) (qE _)
theorem Gr.rules(E:ES){x:aH}{q:fV}(l:List Nat)(names:List Str)(rs:List dH){M V:Nat}(z:Sizes x q M V):∀r,Gr E.1 (E.rules x q l names rs r).1 (r*(2*M+2*V+8)) (r*(2*M+2*V+8))
 |0=>Gr.rfl'.up (qE _) (qE _)
 |r+1=>((Gr.rules E l names rs z r).tr (Gr.rule _ l names r _ z)).up (by rw[Nat.succ_mul r];omega) zBx
theorem Gr.edge(E:BS)(P:iM)(e:Nat×Nat):Gr E.1 (E.edge P e).1 3 3:=by unfold BS.edge;dsimp only;exact(((((Gr.num E.1 (lC e.1 e.2)).tr (Gr.num _ (aJ e.1))).tr (Gr.dD _ _)).tr (Gr.num _ (aJ e.2))).tr (Gr.dD _ _)).tr (Gr.dD _ _)
theorem Gr.pairs(S:TB)(n:Int)(row:List Int):Gr S (S.pairs n row) 0 (row.length*row.length):=by have h:=Gr.mg (fun S k=>(row.drop (k+1)).foldl (fun S b=>TB.dD S [-n,-(row.getD k 0),-b]) S) 0 row.length (fun S k=>(Gr.mg (fun S b=>TB.dD S [-n,-(row.getD k 0),-b]) 0 1 (fun S b=>Gr.dD _ _) (row.drop (k+1)) S).up zBk (by rw[List.length_drop];omega)) (List.range row.length) S;exact h.up zBk (by rw[List.length_range];exact qH _)
theorem Gr.name(S:TB)(x:aH)(P:iM)(i:Nat)(s:Str){V:Nat}(hV:(x.eG s).length<=V):Gr S (S.name x P i s) (V+1) (V*V+2):=by
 unfold TB.name;dsimp only;have h1:=((Gr.num S (iJ i)).tr (Gr.dD _ (-(S.num (iJ i)).2::P.needs.getD i []))).tr (Gr.nums ((x.eG s).map aJ) _);have hl:(((S.num (iJ i)).1.dD (-(S.num (iJ i)).2::P.needs.getD i [])).nums ((x.eG s).map aJ)).2.length<=V:=by show(Tab.nums _ _).2.length<=V;rw[lM,qM];exact hV
 refine((h1.tr (Gr.dD _ _)).tr (Gr.pairs _ _ _)).up (by rw[qM];omega) ?_;have:=Nat.mul_le_mul hl hl;omega
theorem Gr.place(S:TB)(P:iM)(into:List (Nat×List Int))(t:Nat):Gr S (S.place P into t) 1 1:=(Gr.num S (aJ t)).tr (Gr.dD _ _)
theorem AV{κ:Type}[DecidableEq κ](m:List (κ×List Int))(k:κ)(v:Int):(gQ m k v).length<=m.length+1:=by
 unfold gQ;split;·rw[qM];exact Nat.le_succ _
 simp
theorem UU(r:Int):∀(ts:List Nat) (P:iM),(ts.foldl (fun P t=>{P with roots:=gQ P.roots t r}) P).of=P.of
 | [],_=>rfl
 |_::ts,_=>UU r ts _
theorem Kz(E:ES)(x:aH)(l:List Nat)(names:List Str)(r:Nat)(s:jE):(E.root x l names r s).2.of=E.2.of:=by
 have h:=UU (E.1.num (iK r)).2 (x.targets s.name) E.2;unfold ES.root;dsimp only;by_cases h1:0<=x.find s.name;·rw[if_pos h1];exact h
 rw[if_neg h1];by_cases h2:eH names s.name<0;·rw[if_pos h2];exact h
 rw[if_neg h2];exact h
theorem Jh{β:Type}(f:ES->β->ES)(hf:∀E b,(f E b).2.of.length<=E.2.of.length+1):∀(l:List β) (E:ES),(l.foldl f E).2.of.length<=E.2.of.length+l.length
 | [],_=>qH _
 |b::r,E=>by
  have h1:=Jh f hf r (f E b)
  have h2:=hf E b
  rw[List.foldl_cons,qN]
  omega
theorem aac(E:ES)(x:aH)(l:List Nat)(names:List Str)(r p k:Nat)(d:uY){V:Nat}(hV:(x.eG d.on.name).length<=V):(E.depend x l names r p k d).2.of.length<=E.2.of.length+(V+1):=by
 unfold ES.depend;dsimp only;by_cases h1:0<=x.find d.on.name;·rw[if_pos h1];exact qR (AV E.2.of _ _) zBk
 rw[if_neg h1];by_cases h2:eH names d.on.name<0;·rw[if_pos h2];exact Nat.le_add_right _ _
 rw[if_neg h2];refine qR (Jh _ (fun E b=>?_) _ _) (by show E.2.of.length+_<=_;omega);exact AV E.2.of _ _
theorem yh(E:ES)(x:aH)(l:List Nat)(r p:Nat)(c:Ai):(E.conflict x l r p c).2.of=E.2.of:=by
 unfold ES.conflict;dsimp only;by_cases h1:c.with'.name=ByteArray.empty;·rw[if_pos h1]
 rw[if_neg h1];by_cases h2:0<=x.find c.with'.name/\(x.find c.with'.name).toNat∈l;·rw[if_pos h2]
 rw[if_neg h2]
theorem UW(E:ES){x:aH}{q:fV}(l:List Nat)(names:List Str)(rs:List dH){M V:Nat}(z:Sizes x q M V):∀r,(E.rules x q l names rs r).2.of.length<=E.2.of.length+r*(V+1)
 |0=>by simp[ES.rules]
 |r+1=>by
  have h:=UW E l names rs z r
  have h2:∀E y,(ES.rule E x q l names r y).2.of.length<=E.2.of.length+(V+1):=fun E y=>by
   unfold ES.rule
   by_cases h1:y.kind=1
   ·rw[if_pos h1,Kz];exact Nat.le_add_right _ _
   ·rw[if_neg h1]
    by_cases h2:y.kind=2
    ·rw[if_pos h2];exact aac E x l names r _ _ _ (z.Jg _)
    ·rw[if_neg h2]
     by_cases h3:y.kind=3
     ·rw[if_pos h3,yh];exact Nat.le_add_right _ _
     ·rw[if_neg h3];exact Nat.le_add_right _ _
  have h3:=h2 (E.rules x q l names rs r) (rs.getD r default)
  show(ES.rule _ x q l names r _).2.of.length<=_
  rw[Nat.succ_mul r]
  omega
theorem aad(E:ES)(x:aH)(l:List Nat)(names:List Str)(r p k:Nat){d:uY}{M V C:Nat}(hc:sJ x M d.cond)(ho:sJ x M d.on)(hV:(x.eG d.on.name).length<=V)(h1C:2*M+6<=C)(h2C:M+5*V+3<=C):∃k' o,Gr E.1 (E.depend x l names r p k d).1 k' (2*M+2*V+8)/\(E.depend x l names r p k d).2.of.length<=E.2.of.length+o/\k'+3*o<=C:=by
 unfold ES.depend;dsimp only;have hW:=((Gr.num E.1 (lW p k)).tr (Gr.num (E.1.num (lW p k)).1 (iK r))).tr (Gr.MI ((E.1.num (lW p k)).1.num (iK r)).1 x l p r 0 hc);generalize ((E.1.num (lW p k)).1.num (iK r)).1.meet x l p r 0 d.cond=W at hW⊢;generalize ((E.1.num (lW p k)).1.num (iK r)).2=R;generalize (E.1.num (lW p k)).2=A;have hS:Gr E.1 (if [A,R,W.2].contains 0=true then W.1 else ((W.1.1,W.1.2.adds (pz A [R,W.2])):TB)) (M+2) (M+3):=by exact zFI
 generalize (if [A,R,W.2].contains 0=true then W.1 else ((W.1.1,W.1.2.adds (pz A [R,W.2])):TB))=S at hS⊢;by_cases h1:0<=x.find d.on.name;·rw[if_pos h1];exact⟨2*M+3,1,((((hS.tr (Gr.MI S x l (x.find d.on.name).toNat r 1 ho)).tr (Gr.dD _ [-A,(S.meet x l (x.find d.on.name).toNat r 1 d.on).2])).tr (Gr.num _ (lC p (x.find d.on.name).toNat))).tr (Gr.dD _ _)).up zAC zBk,AV E.2.of _ _,by omega⟩
 rw[if_neg h1];by_cases h2:eH names d.on.name<0;·rw[if_pos h2];exact⟨M+2,0,(hS.tr (Gr.dD _ _)).up zAC zBk,qH _,by omega⟩
 rw[if_neg h2];have hF:=Gr.vw (fun(E:ES) (t:Nat)=>((ES.goes ((E.1.num (aJ t)).1,E.2) p t A).1.1.dD [-A,-(E.1.num (aJ t)).2,(ES.goes ((E.1.num (aJ t)).1,E.2) p t A).2],(ES.goes ((E.1.num (aJ t)).1,E.2) p t A).1.2)) 2 1 (fun E b=>(((Gr.num E.1 (aJ b)).tr (Gr.num (E.1.num (aJ b)).1 (lC p b))).tr (Gr.dD _ _)).up zAC zBk) (x.eG d.on.name) ((S.num (iJ (eH names d.on.name).toNat)).1.dD [-A,(S.num (iJ (eH names d.on.name).toNat)).2],{E.2 with needs:=nU E.2.needs (eH names d.on.name).toNat A});refine⟨M+3+2*V,V,(((hS.tr (Gr.num S (iJ (eH names d.on.name).toNat))).tr (Gr.dD _ _)).tr hF).up zAC zBk,?_,by omega⟩;refine qR (Jh _ (fun E b=>AV E.2.of _ _) _ _) (by show E.2.of.length+_<=_;omega)
theorem afg(E:ES){x:aH}{q:fV}(l:List Nat)(names:List Str)(r:Nat)(y:dH){M V C:Nat}(z:Sizes x q M V)(h1C:2*M+6<=C)(h2C:M+5*V+3<=C):∃k' o,Gr E.1 (E.rule x q l names r y).1 k' (2*M+2*V+8)/\(E.rule x q l names r y).2.of.length<=E.2.of.length+o/\k'+3*o<=C:=by
 unfold ES.rule;by_cases h1:y.kind=1;·rw[if_pos h1];exact⟨M+2,0,(Gr.root E x l names r (z.root _)).up zAC zBk,by rw[Kz];exact qH _,by omega⟩
 rw[if_neg h1];by_cases h2:y.kind=2;·rw[if_pos h2];exact aad E x l names r _ _ (z.dep _ _).1 (z.dep _ _).2 (z.Jg _) h1C h2C
 rw[if_neg h2];by_cases h3:y.kind=3;·rw[if_pos h3];exact⟨2*M+1,0,(Gr.conflict E x l r _ (z.con _ _).1 (z.con _ _).2).up zAC zBk,by rw[yh];exact qH _,by omega⟩
 rw[if_neg h3];exact⟨0,0,Gr.rfl'.up (qE _) (qE _),qH _,by omega⟩
theorem UY(E:ES){x:aH}{q:fV}(l:List Nat)(names:List Str)(rs:List dH){M V C:Nat}(z:Sizes x q M V)(h1C:2*M+6<=C)(h2C:M+5*V+3<=C):∀r,∃k o,Gr E.1 (E.rules x q l names rs r).1 k (r*(2*M+2*V+8))/\(E.rules x q l names rs r).2.of.length<=E.2.of.length+o/\k+3*o<=r*C
 |0=>⟨0,0,Gr.rfl'.up (qE _) (qE _),qH _,by omega⟩
 |r+1=>by
  obtain⟨k,o,g1,g2,g3⟩:=UY E l names rs z h1C h2C r
  obtain⟨k',o',f1,f2,f3⟩:=afg (E.rules x q l names rs r) l names r (rs.getD r default) z h1C h2C
  exact⟨k+k',o+o',(g1.tr f1).up (qH _) zBx,qR f2 zBk,by rw[Nat.succ_mul r];omega⟩
theorem Gr.edges(S:TB){x:aH}{q:fV}(l:List Nat)(names:List Str)(rs:List dH){M V C:Nat}(z:Sizes x q M V)(h1C:2*M+6<=C)(h2C:M+5*V+3<=C):Gr S (S.edges x q l names rs) (rs.length*C+names.length*(V+1)+l.length) (rs.length*(2*M+2*V+8)+rs.length*C+names.length*(V*V+2)+l.length):=by
 unfold TB.edges;dsimp only;obtain⟨k,o,h1,ho,hC⟩:=UY (S,⟨[],List.replicate names.length [],[]⟩) l names rs z h1C h2C rs.length;change Gr S (S.pF x q l names rs).1 _ _ at h1;change (S.pF x q l names rs).2.of.length<=_ at ho;generalize S.pF x q l names rs=E at h1 ho⊢;have hk:E.2.edges.length<=o:=by unfold iM.edges;rw[List.length_mergeSort,qM];simpa using ho
 have h2:∀(es:List (Nat×Nat)) (B:BS),Gr B.1 (es.foldl (fun B e=>BS.edge B E.2 e) B).1 (3*es.length) (3*es.length):=fun es=>by
  induction es with
  |nil=>exact fun B=>Gr.rfl'
  |cons e r ih=>exact fun B=>((Gr.edge B E.2 e).tr (ih _)).up (by rw[qN];omega) zBW
 have h3:=h1.tr (h2 E.2.edges (E.1,[]));generalize E.2.edges.foldl (fun B e=>BS.edge B E.2 e) (E.1,[])=B at h3⊢;have h4:=h3.tr (Gr.mg (fun S i=>TB.name S x E.2 i (names.getD i ByteArray.empty)) (V+1) (V*V+2) (fun S i=>Gr.name S x E.2 i _ (z.Jg _)) (List.range names.length) B.1);have h5:=h4.tr (Gr.mg (fun S t=>TB.place S E.2 B.2 t) 1 1 (fun S t=>Gr.place S E.2 B.2 t) l _);have e2:(V*V+2)*(List.range names.length).length=names.length*(V*V+2):=by rw[List.length_range,Nat.mul_comm]
 have e3:(V+1)*(List.range names.length).length=names.length*(V+1):=by rw[List.length_range,Nat.mul_comm]
 rw[e2,e3]at h5;exact h5.up zAC zBk
def AX(T:Tab)(t:Nat)(f:List Int):Prop:= ∀z∈f,(∃n,z= -n/\xA.iF T.l (aJ t) n)\/ ∃a,(Di a\/Bq a)/\xA.iF T.l a z
theorem AX.gr{T T':Tab}{t:Nat}{f:List Int}(h:AX T t f)(g:jF T T'):AX T' t f:=by
 obtain⟨⟨m,hm⟩,-⟩:=g;intro z hz;rw[hm];rcases h z hz with⟨n,h1,h2⟩| ⟨a,h1,h2⟩;·exact .inl ⟨n,h1,h2.mono⟩
 exact .inr ⟨a,h1,h2.mono⟩
theorem aae{E:BS}(h:mD Bq E.1.1 E.2)(P:iM)(e:Nat×Nat):mD Bq (E.edge P e).1.1 (E.edge P e).2:=by have h1:=(h.gr (TB.uj E.1 (lC e.1 e.2))).push e.2 (TB.Xx E.1 (lC e.1 e.2) (K:=Bq) ⟨_,_,rfl⟩);unfold BS.edge;dsimp only;exact h1.gr ((((TB.uj _ (aJ e.1)).tr (TB.AU _ _)).tr (TB.uj _ (aJ e.2))).tr ((TB.AU _ _).tr (TB.AU _ _)))
theorem MJ(P:iM):∀(es:List (Nat×Nat)) {B:BS},mD Bq B.1.1 B.2->mD Bq (es.foldl (fun B e=>BS.edge B P e) B).1.1 (es.foldl (fun B e=>BS.edge B P e) B).2
 | [],_,h=>h
 |e::r,_,h=>MJ P r (aae h P e)
theorem acT{K:At->Prop}{T:Tab}{z:Int}(h:Rw K T z)(hf:T.full=false):∃a,K a/\xA.iF T.l a z:=by
 rcases h with⟨-,h⟩|h;·rw[hf]at h;cases h
 exact h
theorem YX{t:Nat}{a:At}(h:Di a\/Bq a):aJ t≠a:=by rintro rfl;rcases h with⟨r,h⟩| ⟨p,u,h⟩<;>simp[aJ,iK,lC]at h
theorem Rx{S:TB}{P:iM}{into:List (Nat×List Int)}{t:Nat}(hr:mD Di S.1 P.roots)(hi:mD Bq S.1 into)(hl:(S.place P into t).1.l.length<=65536)(hf:(S.place P into t).1.full=false)(hc:S.2.cls.length<262144):∃f∈(S.place P into t).2.cls,AX (S.place P into t).1 t f:=by
 have eT:(S.place P into t).1=(S.num (aJ t)).1.1:=TB.UR _ _;rw[eT]at hl hf⊢;have g:=TB.uj S (aJ t);have hn:=acT (TB.Xx S (aJ t) (K:=fun a=>a=aJ t) rfl) hf;obtain⟨_,rfl,hn⟩:=hn;have hrow:∀z∈fA P.roots t++fA into t,∃a,(Di a\/Bq a)/\xA.iF (S.num (aJ t)).1.1.l a z:=fun z hz=>by
  rcases qW.1 hz with hz|hz;·obtain⟨a,h1,h2⟩:=acT ((hr.gr g).get t z hz) hf;exact⟨a,.inl h1,h2⟩
  obtain⟨a,h1,h2⟩:=acT ((hi.gr g).get t z hz) hf;exact⟨a,.inr h1,h2⟩
 have hall:∀z∈ -(S.num (aJ t)).2::(fA P.roots t++fA into t),z≠0/\z.natAbs<=65536:=fun z hz=>by
  rcases qY.1 hz with rfl|hz;·have h1:=hn.1;have h2:=hn.2.1;exact zCw
  obtain⟨a,-,h⟩:=hrow z hz;have h1:=h.1;have h2:=h.2.1;exact zCw
 have hop:∀z∈ -(S.num (aJ t)).2::(fA P.roots t++fA into t),-z∉ -(S.num (aJ t)).2::(fA P.roots t++fA into t):=fun z hz hm=>by
  have key:∀w∈fA P.roots t++fA into t,w=(S.num (aJ t)).2->False:=fun w hw e=>by obtain⟨a,h1,h2⟩:=hrow w hw;rw[e]at h2;exact YX h1 (hn.inj h2)
  have h0:=hn.1;rcases qY.1 hz with rfl|hz
  ·rcases qY.1 hm with e|hm;·omega
   exact key _ hm zBk
  rcases qY.1 hm with e|hm;·exact key z hz zBk
  obtain⟨a,-,h⟩:=hrow z hz;obtain⟨b,-,h'⟩:=hrow _ hm;have:=h.1;have:=h'.1;omega
 obtain⟨f,h1,h2⟩:=xA.zM hall hop;have hz0:(-(S.num (aJ t)).2::(fA P.roots t++fA into t)).contains 0=false:=by
  cases hcon:(-(S.num (aJ t)).2::(fA P.roots t++fA into t)).contains 0 with
  |false=>rfl
  |true=>exact absurd rfl (hall 0 (List.contains_iff_mem.1 hcon)).1
 have e:(S.place P into t).2.cls=S.2.cls++[f]:=by unfold TB.place TB.dD;rw[hz0,if_neg zAM];show(lu.add S.2 _).cls=_;unfold lu.add;rw[xA.G5 hall,if_neg zAM,h1];dsimp only;rw[if_neg zBk]
 rw[e];refine⟨f,List.mem_append_right _ (yJ.2 rfl),fun z hz=>?_⟩;rcases qY.1 ((h2 z).1 hz)with rfl|hz;·exact .inl ⟨_,rfl,hn⟩
 exact .inr (hrow z hz)
theorem afh{T T':Tab}(g:jF T T')(h:T'.full=false):T.full=false:=by
 cases e:T.full with
 |false=>rfl
 |true=>rw[g.2 e]at h;cases h
theorem EG(P:iM)(into:List (Nat×List Int)){t:Nat}:∀(l:List Nat) {S:TB},t∈l->mD Di S.1 P.roots->mD Bq S.1 into->(l.foldl (fun S t=>TB.place S P into t) S).1.l.length<=65536->(l.foldl (fun S t=>TB.place S P into t) S).1.full=false->S.2.cls.length+l.length<=262144->∃f∈(l.foldl (fun S t=>TB.place S P into t) S).2.cls,AX (l.foldl (fun S t=>TB.place S P into t) S).1 t f
 | [],S,h,_,_,_,_,_=>by cases h
 |u::r,S,h,hr,hi,hl,hf,hc=>by
  have g0:=Gr.place S P into u
  have g1:=Gr.mg (fun S t=>TB.place S P into t) 1 1 (fun S t=>Gr.place S P into t) r (S.place P into u)
  rw[List.foldl_cons]at hl hf⊢
  rw[qN]at hc
  by_cases ht:t∈r
  ·refine EG P into r ht (hr.gr g0.tab) (hi.gr g0.tab) hl hf ?_
   obtain⟨ds,e1,e2⟩:=g0.cls
   rw[e1,qK]
   omega
  ·rcases qY.1 h with rfl|h
   ·obtain⟨⟨m,hm⟩,-⟩:=g1.tab
    obtain⟨f,h1,h2⟩:=Rx (t:=t) hr hi (by rw[hm,qK]at hl;omega) (afh g1.tab hf) zBk
    obtain⟨ds,e1,-⟩:=g1.cls
    exact⟨f,by rw[e1];exact List.mem_append_left _ h1,h2.gr g1.tab⟩
   ·exact absurd h ht
theorem UZ(S:TB){x:aH}{q:fV}(l:List Nat)(names:List Str)(rs:List dH){M V C K N:Nat}(z:Sizes x q M V)(h1C:2*M+6<=C)(h2C:M+5*V+3<=C)(hK:rs.length*C+names.length*(V+1)+l.length<=K)(hN:rs.length*(2*M+2*V+8)+rs.length*C+names.length*(V*V+2)+l.length<=N)(h1:S.1.l.length+K<=S.1.limit)(h2:S.1.limit<=65536)(h3:S.1.full=false)(h4:S.2.cls.length+N<=190000){t:Nat}(ht:t∈l):∃f∈(S.edges x q l names rs).2.cls,AX (S.edges x q l names rs).1 t f:=by
 have G:=(Gr.edges S l names rs z h1C h2C).up hK hN;have hfull:(S.edges x q l names rs).1.full=false:=by rw[G.full zBk];exact h3
 have hlen:(S.edges x q l names rs).1.l.length<=65536:=by have:=G.len;omega
 have hcls:(S.edges x q l names rs).2.cls.length<=190000:=by obtain⟨ds,e1,e2⟩:=G.cls;rw[e1,qK];omega
 unfold TB.edges at hfull hlen hcls⊢;dsimp only at hfull hlen hcls⊢;have hE:zT S.1 (S.pF x q l names rs):=zT.rules (E:=(S,⟨[],List.replicate names.length [],[]⟩)) ⟨jF.rfl',fun e he=>by cases he⟩ x q l names rs _;generalize S.pF x q l names rs=E at hE hfull hlen hcls⊢;have hB:mD Bq (E.2.edges.foldl (fun B e=>BS.edge B E.2 e) (E.1,[])).1.1 (E.2.edges.foldl (fun B e=>BS.edge B E.2 e) (E.1,[])).2:=MJ E.2 _ (fun e he=>by cases he);have gB:∀(es:List (Nat×Nat)) (B:BS),jF B.1.1 (es.foldl (fun B e=>BS.edge B E.2 e) B).1.1:=fun es=>by
  induction es with
  |nil=>exact fun B=>jF.rfl'
  |cons e r ih=>exact fun B=>(Gr.edge B E.2 e).tab.tr (ih _)
 have hR:=hE.rt.gr (gB E.2.edges (E.1,[]));generalize E.2.edges.foldl (fun B e=>BS.edge B E.2 e) (E.1,[])=B at hB hR hfull hlen hcls⊢;have gN:=(Gr.mg (fun S i=>TB.name S x E.2 i (names.getD i ByteArray.empty)) (V*V+V+2) (V*V+V+2) (fun S i=>(Gr.name S x E.2 i _ (z.Jg _)).up zAC zBk) (List.range names.length) B.1).tab;have hR':=hR.gr gN;have hB':=hB.gr gN;generalize (List.range names.length).foldl (fun S i=>TB.name S x E.2 i (names.getD i ByteArray.empty)) B.1=D at hR' hB' hfull hlen hcls⊢;have gD:=Gr.mg (fun S t=>TB.place S E.2 B.2 t) 1 1 (fun S t=>Gr.place S E.2 B.2 t) l D;refine EG E.2 B.2 l ht hR' hB' hlen hfull ?_;obtain⟨ds,e1,e2⟩:=gD.cls;rw[e1,qK]at hcls;omega
theorem U0{B:lu}(h:aO B){m:List Bool}(hm:∀i,m.getD i false=false):iE.holdsB B.cls m=true:=by unfold iE.holdsB;rw[List.all_eq_true];intro c hc;obtain⟨z,h1,h2,h3⟩:=h c hc;rw[yU];refine⟨z,h1,?_⟩;unfold iE.Xk;rw[h3,hm];simp[h2]
theorem Ry{T:Tab}{cls:List (List Int)}{t:Nat}{f:List Int}(hl:T.l.length<=65536)(h:AX T t f)(hf:f∈cls){m:List Bool}{s:At->Bool}(hm:∀i,i<T.l.length->(T.l.getD i default).1≠9->m.getD i false=s (T.l.getD i default))(ht:s (aJ t)=true)(hs:∀a,Di a\/Bq a->s a=false):iE.holdsB cls m=false:=by
 unfold iE.holdsB;rw[List.all_eq_false];refine⟨f,hf,?_⟩;rw[Bool.not_eq_true,List.any_eq_false];intro z hz;have hw:∀z:Int,z≠0->z.natAbs<=65536->iE.wr z=false:=fun z h0 h1=>by have:=xA.G5 (c:=[z]) (fun x hx=>by rw[yJ.1 hx];exact⟨h0,h1⟩);simpa using this
 rcases h z hz with⟨n,rfl,hn⟩| ⟨a,ha,hn⟩;·have h1:=hn.1;have h2:=hn.2.1;have h3:=hn.2.2;unfold iE.Xk;rw[hw (-n) zB7 zBy,if_neg zCC,if_pos zAC,Int.natAbs_neg,hm _ zBk (by rw[h3];show(1:Int)≠9;decide),h3,ht];decide
 have h1:=hn.1;have h2:=hn.2.1;have h3:=hn.2.2;have h9:a.1≠9:=by
  rcases ha with⟨r,rfl⟩| ⟨p,u,rfl⟩;·show(7:Int)≠9;decide
  show(5:Int)≠9;decide
 unfold iE.Xk;rw[hw z zB7 zBy,if_neg zCC,if_neg zAC,hm _ zBk (by rw[h3];exact h9),h3,hs a ha];decide
theorem acU{row:List Int}(hr:∀z∈row,0<=z)(h0:row.contains 0=false):∀c∈tq row,Neg c:=by
 intro c hc;obtain⟨i,j,h1,h2,rfl⟩:=xA.LZ hc;have hm:row.getD i 0∈row:=by rw[qC,qA zBk];exact qZ _
 refine⟨-(row.getD i 0),qQ,?_⟩;have h3:=hr _ hm;have h4:row.getD i 0≠0:=fun e=>by rw[e]at hm;rw[List.contains_iff_mem.2 hm]at h0;cases h0
 omega
theorem aO.one(hF:jH){B:lu}(h:aO B){node:Int}{row:List Int}(hn:0<=node)(hr:∀z∈row,0<=z):aO (B.one node row):=by
 unfold lu.one;by_cases hc:node=0\/row.contains 0=true;·rw[if_pos hc];exact h
 rw[if_neg hc];have h0:row.contains 0=false:=by
  cases e:row.contains 0 with
  |false=>rfl
  |true=>exact absurd (.inr e) hc
 have hn0:node≠0:=fun e=>hc (.inl e);refine aO.adds hF h fun c hm=>?_;unfold zN at hm;rcases qY.1 hm with rfl|hm;·exact⟨-node,qQ,by omega⟩
 rcases qW.1 hm with hm|hm;·exact acU hr h0 c hm
 obtain⟨n,h1,rfl⟩:=yD.1 hm;refine⟨-n,qQ,?_⟩;have h3:=hr n h1;have h4:n≠0:=fun e=>by rw[e]at h1;rw[List.contains_iff_mem.2 h1]at h0;cases h0
 omega
theorem aO.acV(hF:jH){S:TB}(h:aO S.2){node:Int}(hn:0<=node)(ats:List At):aO (S.row node ats).2:=aO.one hF h hn (Ru ats S.1)
theorem aO.vars(hF:jH){S:TB}(h:aO S.2){node:Int}(hn:0<=node)(p:Nat)(vs:List kS):∀j,aO (S.vars node p vs j).2
 |0=>h
 |j+1=>(aO.vars hF h hn p vs j).acV hF hn _
theorem aO.pack(hF:jH){S:TB}(h:aO S.2)(p:Nat)(pk:iT):aO (S.pack p pk).2:=aO.vars hF (S:=TB.row ((S.1.num (aJ p)).1,S.2) (S.1.num (aJ p)).2 (ku p pk.bY.length)) (aO.acV hF (S:=((S.1.num (aJ p)).1,S.2)) h (nI _ _) _) (nI _ _) _ _ _
theorem aO.choices(hF:jH)(x:aH):∀(l:List Nat) {S:TB},aO S.2->aO (S.choices x l).2
 | [],_,h=>h
 |p::r,S,h=>aO.choices hF x r (S:=S.pack p (x.pack p)) (h.pack hF p _)
theorem YZ:jH:=fun xs f h z hz=>by
 unfold iE.form at h
 split at h
 ·cases h
 ·split at h
  ·cases h
  ·cases h
   exact(iE.lD xs z).2 hz
theorem He{α:Type}[Inhabited α]{P:α->Prop}{l:List α}(h:∀a∈l,P a)(h0:P default)(i:Nat):P (l.getD i default):=by
 rw[qC];cases e:l[i]? with
 |none=>exact h0
 |some a=>exact h a (qT e)
def vF(n:Nat)(s:jE):Prop:=s.sets.length<=n
structure Rz (p:iT):Prop where
 bY:p.bY.length<=10
 deps:∀d∈p.deps,vF 20 d.cond/\vF 20 d.on
 cons:∀c∈p.cons,vF 20 c.cond/\vF 20 c.with'
theorem MK:Rz default:=⟨qE _,fun d h=>(by cases h),fun c h=>(by cases h)⟩
theorem acW{x:aH}{q:fV}(h8:x.packs.length<=8)(hp:∀p∈x.packs,Rz p)(hr:∀r∈q.roots,vF 20 r.spec):Sizes x q 34 8:=by
 have hP:∀i,Rz (x.pack i):=fun i=>He hp MK i;have hW:∀{s:jE},vF 20 s->sJ x 34 s:=fun{s} h p=>by have h1:=(hP p).bY;unfold vF at h;omega
 refine⟨fun i=>hW (He (P:=fun r:F8=>vF 20 r.spec) hr (qE _) i),fun p i=>?_,fun p i=>?_,fun s=>?_⟩;·obtain⟨h1,h2⟩:=He (P:=fun d:uY=>vF 20 d.cond/\vF 20 d.on) (hP p).deps ⟨qE _,qE _⟩ i;exact⟨hW h1,hW h2⟩
 ·obtain⟨h1,h2⟩:=He (P:=fun c:Ai=>vF 20 c.cond/\vF 20 c.with') (hP p).cons ⟨qE _,qE _⟩ i;exact⟨hW h1,hW h2⟩
 unfold aH.eG aH.jI;exact qR (yO _ _) (by rw[List.length_range];exact h8)
end Go.Proofs.YtdmmebjjojimiaaGreatDoor
