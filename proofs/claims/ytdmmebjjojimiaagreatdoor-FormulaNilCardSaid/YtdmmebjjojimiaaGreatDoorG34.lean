/- slices.Sorted(slices.Values(l)) at strings; package variant: twice.; needs.Rank (package version under it). -/
import Derived.Test.YtdmmebjjojimiaaGreatDoorG33
set_option maxRecDepth 100000
set_option maxHeartbeats 8000000
set_option linter.all false
namespace Go.Proofs.YtdmmebjjojimiaaGreatDoor
open Go.RowKit
section
variable {w w':World} {B:Nat}
abbrev aes(bx:Nat):Value:=.func (.func 373) #[] #[.pointer (some ⟨bx,0,none⟩)]
theorem Wy(ao:Option Addr)(n c:Nat)(w:World):Calls Tryz.prog 334 #[.slice ao n c] w fun e w'=>e= .returned (aes w.heap.size)/\w'=w.alloc (.cells #[.slice ao n c] 81):=by go_enter Tryz.func334,Tryz.ntmps334;exact zBd
structure PO (w:World) (B bx:Nat) (l:List Str):Prop where
 seq:∀n,1<=n->abA Fence.wide n Tryz.prog 373 #[.pointer (some ⟨bx,0,none⟩)] abB (fun k=>k=bx\/0<l.length/\k<B) (fun _=>False) l w
 box:bx<w.heap.size
 low:0<l.length->B<=w.heap.size
 len:l.length<=1000000
theorem PO.of{ao:Option Addr}{c:Nat}{l:List Str}(h:aJ 1 dK B w (.slice ao l.length c) l)(hl:l.length<=1000000):PO (w.alloc (.cells #[.slice ao l.length c] 81)) B w.heap.size l:=by have o:O0 w (w.alloc (.cells #[.slice ao l.length c] 81)):=zr.alloc _;refine⟨fun n hn=>SH n hn (by rw[aj (qL w _)];rfl) (h.keep dK.keep (Kp.fU o)) hl,by simp,fun h0=>?_,hl⟩;obtain⟨_,_,_,_,hB,_⟩:=h.cells _ _ _ rfl h0;exact qR hB o.size
theorem SL{bx:Nat}{l:List Str}(h:PO w B bx l):Calls Tryz.prog 372 #[aes bx] w fun e w'=> ∃v,e= .returned v/\w'.ownsRow 0 9 1 v l.length (dZ l)/\(∀k,v.ownBlock=some k->w.heap.size<=k)/\O0 w w':=by have HC:=zh (LM h.seq h.box h.low h.len);clear h;go_enter Tryz.func372,Tryz.ntmps372;go_wp2_with fail;refine HC.out.mono ?_;rintro e w1 ⟨v,rfl,r1,b1,o1⟩;have H:=zh (And.intro r1 (And.intro b1 o1));obtain⟨ao,c,rfl,-,-⟩:=aH r1;clear r1 b1 o1;go_wp2_with fail;go_ret;exact⟨_,rfl,H.out⟩
theorem WA{bx:Nat}{l:List Str}(h:PO w B bx l):Calls Tryz.prog 333 #[aes bx] w fun e w'=> ∃v,e= .returned v/\w'.ownsRow 0 9 1 v l.length (dZ (oh l))/\(∀k,v.ownBlock=some k->w.heap.size<=k)/\O0 w w':=by have HC:=zh (SL h);have hl:=h.len;obtain⟨n,hn⟩:=ze l.length;have HN:=zh hn;rw[hn]at HC hl⊢;clear h hn;go_enter Tryz.func333,Tryz.ntmps333;go_wp2_with fail;refine HC.out.mono ?_;rintro e w1 ⟨v,rfl,r1,b1,o1⟩;have HS:=zh (LK HN.out r1 hl);have H:=zh (And.intro b1 o1);obtain⟨ao,c,rfl,-,-⟩:=aH r1;clear r1 b1 o1;go_wp2_with fail;refine HS.out.mono ?_;rintro e w2 ⟨rfl,r2,o2⟩;have H2:=zh (And.intro r2 o2);clear r2 o2;go_wp2_with fail;go_ret;obtain⟨b1,o1⟩:=H.out;exact⟨_,rfl,H2.out.1,b1,o1.trans H2.out.2 fun k hk=>.inr (b1 k hk)⟩
theorem PS{v:Value}{l:List Str}(h:aJ 1 dK B w v l)(hl:l.length<=1000000):Calls Tryz.prog 265 #[v] w fun e w'=>e= .returned (.bool (!fJ l))/\O0 w w':=by
 obtain⟨ao,c,rfl,-,-⟩:=h.shape;have HV:=zh (Wy ao l.length c w);have HS:=zh (WA (PO.of h hl));rw[<-Wx];obtain⟨W0,hW0⟩:=ze (w.alloc (.cells #[.slice ao l.length c] 81));have iM:Hid (O0 w W0):=by rw[<-hW0];exact zr.alloc _
 rw[hW0]at HV HS;obtain⟨m,hm⟩:=ze ((fM (oh l)).length);obtain⟨n,hn⟩:=ze l.length;have HM:=zh (And.intro hm hn);rw[hn]at HV HS hl⊢;rw[hm];clear h hm hn hW0;go_enter Tryz.func265,Tryz.ntmps265;go_wp2_with fail;refine HV.out.mono ?_;rintro e w1 ⟨rfl,rfl⟩;go_wp2_with fail;refine HS.out.mono ?_;rintro e w2 ⟨v2,rfl,r2,b2,o2⟩;have HC:=zh (Gy (by rw[wL];exact HM.out.2) r2);have H2:=zh (And.intro b2 o2);obtain⟨ku,c2,rfl,-,-⟩:=aH r2;clear r2 b2 o2;rw[HM.out.1]at HC;go_wp2_with fail;refine HC.out.mono ?_;rintro e w3 ⟨v3,rfl,r3,-,o3⟩;have H3:=zh o3;obtain⟨Ip,c3,rfl,-,-⟩:=aH r3;clear r3 o3;have hd:decide ((m:Int)<(n:Int))=decide (m<n):=decide_eq_decide.2 zBB;go_wp2_with fail;go_ret;refine⟨by first|rfl| (rw[hd]),iM.out.same (H2.out.2.trans H3.out fun k hk=>.inr (H2.out.1 k hk))⟩
end
end Go.Proofs.YtdmmebjjojimiaaGreatDoor
namespace Go.Proofs.YtdmmebjjojimiaaGreatDoor
open Go.RowKit Go.Shelf
end Go.Proofs.YtdmmebjjojimiaaGreatDoor
namespace Go.Proofs
theorem zBl{p:Prop}(h:p:=by
 go_wp2_with fail
 refine H.out.mono ?_
 rintro e w1 ⟨rfl,O1⟩
 go_wp2_with fail
 go_ret
 refine⟨?_,O1⟩
 first
  |rfl
  | (rw[<-hr];rfl)
  | (rw[<-hr];simp)
  |simp):p:=h
end Go.Proofs
namespace Go.Proofs.YtdmmebjjojimiaaGreatDoor
open Go.RowKit Go.Shelf
section
variable {w w':World} {B:Nat}
theorem LQ{v:Value}{xs:List jv}(h:aJ 2 je B w v xs){g:Nat}{cb:Array Value}{p:jv->Bool}(eg:∀args w,(callFunc g args).run Tryz.prog w= .ok (.enter g args) w)(hp:rH je B g cb p w):Calls Tryz.prog 335 #[v,.func (.func g) #[] cb] w fun e w'=>e= .returned (.int .i64 (jk p xs))/\O0 w w':=by
 obtain⟨ao,cap,rfl,hc1,hc2⟩:=h.shape;have HH:=zh h;have J6:=zh hp;obtain⟨n,hn⟩:=ze xs.length;have HN:=zh hn;rw[hn]at hc1⊢;clear h hp hn;go_enter Tryz.func335,Tryz.ntmps335;go_wp2_with fail;go_loopw [5,8] (fun _ vi wr=>Hid (O0 w wr)/\∃i:Nat,vi= .int .i64 i/\i<=n/\Hid (∀x∈xs.take i,p x=false)) (fun _ v _=>n-(intOf v).toNat);case atStart=>exact⟨show Hid _ from Only.refl _ _,0,rfl,qE _,show Hid _ from fun x hx=>by simp at hx⟩
 case round=>
  obtain⟨HO,i,rfl,hi,HZ⟩:=hrel;by_cases ci:i<n
  ·have h2:=HH.out;rw[HN.out]at h2;obtain⟨b,off,he,-,-⟩:=h2.at zAb;subst he;obtain⟨x,hx⟩:=zG xs i zAS;obtain⟨cs,hl,hr,hC⟩:=(h2.keep je.keep (Kp.fU HO.out)).get hx;have jg:=zw (i+1);have HR:=zh hr;have HL:=zh hl;have HX:=zh hx;have HC:=zh (J6.out wr cs x HO.out hC);obtain⟨y,hy⟩:=ze (p x);rw[hy]at HC;have HY:=zh hy;clear hr hx hy h2 hl hC;cases y with
   |true=>go_wp2_with (refine wpList_load_mid rfl 117 (.tmp 14) rfl b (off+i*2) rfl cs _ HR.out Tryz.underlying117 rfl zAU ?_);exact zBh
   |false=>go_wp2_with (refine wpList_load_mid rfl 117 (.tmp 14) rfl b (off+i*2) rfl cs _ HR.out Tryz.underlying117 rfl zAU ?_);exact zBa
  exact zBf
theorem D7{v:Value}{xs:List jv}(h:aJ 2 je B w v xs){g:Nat}{cb:Array Value}{p:jv->Bool}(eg:∀args w,(callFunc g args).run Tryz.prog w= .ok (.enter g args) w)(hp:rH je B g cb p w)(r:Bool)(hr:decide (0<=jk p xs)=r):Calls Tryz.prog 266 #[v,.func (.func g) #[] cb] w fun e w'=>e= .returned (.bool r)/\O0 w w':=by have H:=zh (LQ h eg hp);obtain⟨i,hi⟩:=ze (jk p xs);rw[hi]at H hr;clear h hp hi;go_enter Tryz.func266,Tryz.ntmps266;exact zBl
theorem LU{v:Value}{xs:List fE}(h:aJ 2 jF B w v xs){g:Nat}{cb:Array Value}{p:fE->Bool}(eg:∀args w,(callFunc g args).run Tryz.prog w= .ok (.enter g args) w)(hp:rH jF B g cb p w):Calls Tryz.prog 336 #[v,.func (.func g) #[] cb] w fun e w'=>e= .returned (.int .i64 (jk p xs))/\O0 w w':=by
 obtain⟨ao,cap,rfl,hc1,hc2⟩:=h.shape;have HH:=zh h;have J6:=zh hp;obtain⟨n,hn⟩:=ze xs.length;have HN:=zh hn;rw[hn]at hc1⊢;clear h hp hn;go_enter Tryz.func336,Tryz.ntmps336;go_wp2_with fail;go_loopw [5,8] (fun _ vi wr=>Hid (O0 w wr)/\∃i:Nat,vi= .int .i64 i/\i<=n/\Hid (∀x∈xs.take i,p x=false)) (fun _ v _=>n-(intOf v).toNat);case atStart=>exact⟨show Hid _ from Only.refl _ _,0,rfl,qE _,show Hid _ from fun x hx=>by simp at hx⟩
 case round=>
  obtain⟨HO,i,rfl,hi,HZ⟩:=hrel;by_cases ci:i<n
  ·have h2:=HH.out;rw[HN.out]at h2;obtain⟨b,off,he,-,-⟩:=h2.at zAb;subst he;obtain⟨x,hx⟩:=zG xs i zAS;obtain⟨cs,hl,hr,hC⟩:=(h2.keep jF.keep (Kp.fU HO.out)).get hx;have jg:=zw (i+1);have HR:=zh hr;have HL:=zh hl;have HX:=zh hx;have HC:=zh (J6.out wr cs x HO.out hC);obtain⟨y,hy⟩:=ze (p x);rw[hy]at HC;have HY:=zh hy;clear hr hx hy h2 hl hC;cases y with
   |true=>go_wp2_with (refine wpList_load_mid rfl 145 (.tmp 14) rfl b (off+i*2) rfl cs _ HR.out Tryz.underlying145 rfl zAU ?_);exact zBh
   |false=>go_wp2_with (refine wpList_load_mid rfl 145 (.tmp 14) rfl b (off+i*2) rfl cs _ HR.out Tryz.underlying145 rfl zAU ?_);exact zBa
  exact zBf
theorem D8{v:Value}{xs:List fE}(h:aJ 2 jF B w v xs){g:Nat}{cb:Array Value}{p:fE->Bool}(eg:∀args w,(callFunc g args).run Tryz.prog w= .ok (.enter g args) w)(hp:rH jF B g cb p w)(r:Bool)(hr:decide (0<=jk p xs)=r):Calls Tryz.prog 268 #[v,.func (.func g) #[] cb] w fun e w'=>e= .returned (.bool r)/\O0 w w':=by have H:=zh (LU h eg hp);obtain⟨i,hi⟩:=ze (jk p xs);rw[hi]at H hr;clear h hp hi;go_enter Tryz.func268,Tryz.ntmps268;exact zBl
theorem IX{v:Value}{xs:List zL}(h:aJ 3 jX B w v xs){g:Nat}{cb:Array Value}{p:zL->Bool}(eg:∀args w,(callFunc g args).run Tryz.prog w= .ok (.enter g args) w)(hp:rH jX B g cb p w):Calls Tryz.prog 270 #[v,.func (.func g) #[] cb] w fun e w'=>e= .returned (.int .i64 (jk p xs))/\O0 w w':=by
 obtain⟨ao,cap,rfl,hc1,hc2⟩:=h.shape;have HH:=zh h;have J6:=zh hp;obtain⟨n,hn⟩:=ze xs.length;have HN:=zh hn;rw[hn]at hc1⊢;clear h hp hn;go_enter Tryz.func270,Tryz.ntmps270;go_wp2_with fail;go_loopw [5,8] (fun _ vi wr=>Hid (O0 w wr)/\∃i:Nat,vi= .int .i64 i/\i<=n/\Hid (∀x∈xs.take i,p x=false)) (fun _ v _=>n-(intOf v).toNat);case atStart=>exact⟨show Hid _ from Only.refl _ _,0,rfl,qE _,show Hid _ from fun x hx=>by simp at hx⟩
 case round=>
  obtain⟨HO,i,rfl,hi,HZ⟩:=hrel;by_cases ci:i<n
  ·have h2:=HH.out;rw[HN.out]at h2;obtain⟨b,off,he,-,-⟩:=h2.at zAb;subst he;obtain⟨x,hx⟩:=zG xs i zAS;obtain⟨cs,hl,hr,hC⟩:=(h2.keep jX.keep (Kp.fU HO.out)).get hx;have jg:=zw (i+1);have HR:=zh hr;have HL:=zh hl;have HX:=zh hx;have HC:=zh (J6.out wr cs x HO.out hC);obtain⟨y,hy⟩:=ze (p x);rw[hy]at HC;have HY:=zh hy;clear hr hx hy h2 hl hC;cases y with
   |true=>go_wp2_with (refine wpList_load_mid rfl 103 (.tmp 14) rfl b (off+i*3) rfl cs _ HR.out Tryz.underlying103 rfl zAU ?_);exact zBh
   |false=>go_wp2_with (refine wpList_load_mid rfl 103 (.tmp 14) rfl b (off+i*3) rfl cs _ HR.out Tryz.underlying103 rfl zAU ?_);exact zBa
  exact zBf
theorem Dc{v:Value}{xs:List zL}(h:aJ 3 jX B w v xs){g:Nat}{cb:Array Value}{p:zL->Bool}(eg:∀args w,(callFunc g args).run Tryz.prog w= .ok (.enter g args) w)(hp:rH jX B g cb p w)(r:Bool)(hr:decide (0<=jk p xs)=r):Calls Tryz.prog 187 #[v,.func (.func g) #[] cb] w fun e w'=>e= .returned (.bool r)/\O0 w w':=by have H:=zh (IX h eg hp);obtain⟨i,hi⟩:=ze (jk p xs);rw[hi]at H hr;clear h hp hi;go_enter Tryz.func187,Tryz.ntmps187;exact zBl
end
section
variable {w w':World} {B:Nat}
def UQ(g:Nat)(cb:Array Value)(p:Str->Bool)(w:World):Prop:= ∀W s,O0 w W->okS s->Calls Tryz.prog g (#[.string s]++cb) W fun e w'=>e= .returned (.bool (p s))/\O0 W w'
theorem PU{v:Value}{xs:List Str}(h:aJ 1 dK B w v xs){g:Nat}{cb:Array Value}{p:Str->Bool}(eg:∀args w,(callFunc g args).run Tryz.prog w= .ok (.enter g args) w)(hp:UQ g cb p w):Calls Tryz.prog 271 #[v,.func (.func g) #[] cb] w fun e w'=>e= .returned (.int .i64 (jk p xs))/\O0 w w':=by
 obtain⟨ao,cap,rfl,hc1,hc2⟩:=h.shape;have HH:=zh h;have J6:=zh hp;obtain⟨n,hn⟩:=ze xs.length;have HN:=zh hn;rw[hn]at hc1⊢;clear h hp hn;go_enter Tryz.func271,Tryz.ntmps271;go_wp2_with fail;go_loopw [5,8] (fun _ vi wr=>Hid (O0 w wr)/\∃i:Nat,vi= .int .i64 i/\i<=n/\Hid (∀x∈xs.take i,p x=false)) (fun _ v _=>n-(intOf v).toNat);case atStart=>exact⟨show Hid _ from Only.refl _ _,0,rfl,qE _,show Hid _ from fun x hx=>by simp at hx⟩
 case round=>
  obtain⟨HO,i,rfl,hi,HZ⟩:=hrel;by_cases ci:i<n
  ·have h2:=HH.out;rw[HN.out]at h2;obtain⟨b,off,he,-,-⟩:=h2.at zAb;subst he;obtain⟨x,hx⟩:=zG xs i zAS;obtain⟨cs,hl,hr,hC⟩:=(h2.keep dK.keep (Kp.fU HO.out)).get hx;obtain⟨rfl,hok⟩:=hC;have hce:=hr 0 _ rfl;rw[qF,yH]at hce;have jg:=zw (i+1);have HX:=zh hx;have HC:=zh (J6.out wr x HO.out hok);obtain⟨y,hy⟩:=ze (p x);rw[hy]at HC;have HY:=zh hy;clear hr hx hy h2 hl hok;cases y with
   |true=>go_wp2_with fail;exact zBh
   |false=>
    go_wp2_with fail;refine HC.out.mono ?_;rintro e w1 ⟨rfl,O1⟩;have bg:=zh (HO.out.same O1);clear O1 hce;go_wp2_with fail;go_roundw;case rel=>exact⟨bg,i+1,by first|rfl|go_num,by omega,show Hid _ from fun z hz=>by
     rcases bY HX.out hz with h|rfl
     ·exact HZ.out z h
     ·exact HY.out⟩
    case measure=>simp[intOf]<;>omega
  exact zBf
theorem vV{v:Value}{xs:List Str}(h:aJ 1 dK B w v xs){g:Nat}{cb:Array Value}{p:Str->Bool}(eg:∀args w,(callFunc g args).run Tryz.prog w= .ok (.enter g args) w)(hp:UQ g cb p w)(r:Bool)(hr:xs.any p=r):Calls Tryz.prog 189 #[v,.func (.func g) #[] cb] w fun e w'=>e= .returned (.bool r)/\O0 w w':=by
 have H:=zh (PU h eg hp);obtain⟨i,hi⟩:=ze (jk p xs);have hr2:decide (0<=jk p xs)=r:=by
  rw[<-hr]
  unfold jk
  cases h:xs.any p with
  |true=>rw[if_pos rfl];exact qX zBB
  |false=>rw[if_neg zBF];exact qP zBB
 rw[hi]at H hr2;clear h hp hi hr;go_enter Tryz.func189,Tryz.ntmps189;go_wp2_with fail;refine H.out.mono ?_;rintro e w1 ⟨rfl,O1⟩;go_wp2_with fail;go_ret;refine⟨?_,O1⟩;first|rfl| (rw[<-hr2];rfl)| (rw[<-hr2];simp)|simp
theorem SQ:∀args w,(callFunc 332 args).run Tryz.prog w= .ok (.enter 332 args) w:=enters_of Tryz.func332 zk rfl
theorem aeu(w:World):UQ 332 #[] (fun s=> !Lk.su s.toList) w:=by intro W s hO hs;have HV:=zh (YF (w:=W) s hs _ rfl);obtain⟨r,hr⟩:=ze (Lk.su s.toList);show Calls Tryz.prog _ #[.string s] W fun e w'=>e= .returned (.bool (!Lk.su s.toList))/\O0 W w';rw[hr]at HV⊢;clear hr hO;go_enter Tryz.func332,Tryz.ntmps332;go_wp2_with fail;refine HV.out.mono ?_;rintro e w2 ⟨rfl,O2⟩;go_wp2_with fail;go_ret;exact⟨rfl,O2⟩
end
end Go.Proofs.YtdmmebjjojimiaaGreatDoor
namespace Go.Proofs.YtdmmebjjojimiaaGreatDoor
open Go.RowKit
section
variable {w w':World} {B:Nat}
def Zk(w:World)(g m:Nat)(f:List Bool):Prop:=f.length=m/\w.ownsRow 0 4 1 (.slice (some ⟨g,0,none⟩) m m) m (f.map Value.bool)
theorem Zk.aF{g m:Nat}{f:List Bool}(h:Zk w g m f)(ho:O0 w w'):Zk w' g m f:=⟨h.1,aB h.2 ho (fun _ _ f=>f)⟩
theorem Zk.cell{g m:Nat}{f:List Bool}(h:Zk w g m f){k:Nat}(hk:k<m):w.cell? ⟨g,k,none⟩=some (.bool (f.getD k false)):=by rw[h.2.cellAt k zBB];rw[List.getElem?_map,qC,qA (by rw[h.1];exact hk)];rfl
end
section
variable {w w':World} {B:Nat}
theorem Zk.set{g m:Nat}{f:List Bool}(h:Zk w g m f)(i:Nat):Zk (w.setCell ⟨g,i,none⟩ (.bool true)) g m (f.set i true):=by refine⟨by rw[List.length_set];exact h.1,?_⟩;have:=(h.2.stored i (.bool true)).1;rw[List.map_set];exact this
end
section
variable {w w':World} {B:Nat}
def LW(F:Nat->Prop)(w:World)(v:Value)(l:List bG):Prop:=w.ownsRow 0 158 4 v l.length (mF l)/\∀k,v.ownBlock=some k->F k
theorem LW.app{F:Nat->Prop}{w w1 w2:World}{v v':Value}{l:List bG}{r:bG}(h:LW F w v l)(hF:∀k,w1.heap.size<=k->F k)(s1:w2.ownsRow 0 158 4 v' (l.length+1) (mF l++r.cells))(s3:Qz w1 v v'):LW F w2 v' (l++[r]):=by
 refine⟨?_,fun k hk=>?_⟩
 ·rw[Ji,qK];have:mF [r]=r.cells:=by simp[mF]
  rw[this];exact s1
 rcases s3 k hk with hg|hg;·exact h.2 _ hg
 exact hF k hg
theorem LW.mono{F G:Nat->Prop}{w:World}{v:Value}{l:List bG}(h:LW F w v l)(hF:∀k,F k->G k):LW G w v l:=⟨h.1,fun k hk=>hF k (h.2 k hk)⟩
theorem LW.aF{F:Nat->Prop}{v:Value}{l:List bG}(h:LW F w v l)(ho:O0 w w'):LW F w' v l:=⟨aB h.1 ho (fun _ _ f=>f),h.2⟩
end
end Go.Proofs.YtdmmebjjojimiaaGreatDoor
namespace Go.Proofs
theorem zB4{p:Prop}(h:p:=by
 obtain⟨g,cap,rfl,-,-,hg⟩:=a
 simp only[Value.ownBlock,qG]at hk
 subst hk
 rcases hg with hg|hg
 ·exact h.new g hg
 ·omega):p:=h
end Go.Proofs
namespace Go.Proofs.YtdmmebjjojimiaaGreatDoor
open Go.RowKit
section
variable {w w':World} {B:Nat}
def onB(off:List Bool)(i:Nat):Bool:=decide (off.length<=i)|| !off.getD i false
def UR(g:GD)(w w':World)(e:Ending):Prop:= ∃r:Int,e= .returned (.int .i64 r)/\ -1<=r/\r<(eF g.x g.q (g.x.closure g.q.names)).length/\O0 w w'
theorem UR.mk{g:GD}(r:Int){w w':World}{e:Ending}(he:e= .returned (.int .i64 r))(h1: -1<=r)(h2:r<(eF g.x g.q (g.x.closure g.q.names)).length)(ho:O0 w w'):UR g w w' e:=⟨r,he,h1,h2,ho⟩
end
section
variable {w w':World} {B:Nat}
def Zl(g:GD):Prop:= ∃n,n<(eF g.x g.q (g.x.closure g.q.names)).length/\onB g.off n=true
end
section
variable {w w':World} {B:Nat}
theorem PV{e e':TypeId}{s s' n n':Nat}{v v':Value}{xs xs':List Value}(hne:e≠e')(h:w.ownsRow 0 e s v n xs)(h':w.ownsRow 0 e' s' v' n' xs'){k:Nat}(hk:v.ownBlock=some k):v'.ownBlock≠some k:=by
 intro h2;rcases h.2 with⟨rfl,_⟩| ⟨g,cap,cur,rfl,-,hg,-⟩;·cases hk
 rcases h'.2 with⟨rfl,_⟩| ⟨g',cap',cur',rfl,-,hg',-⟩;·cases h2
 simp only[Value.ownBlock,qG]at hk h2;subst hk;subst h2;rw[hg]at hg';simp only[qG,Obj.cells.injEq]at hg';exact hne hg'.2.1
structure RB (w0 w:World) (v:Value) (bs:List Bool):Prop where
 own:w.ownsRow 0 4 1 v bs.length (bs.map Value.bool)
 new:∀k,v.ownBlock=some k->w0.heap.size<=k
structure BB (w0 w:World) (v:Value) (n:Nat) (L:List Value):Prop where
 own:w.ownsRow 0 58 1 v L.length L
 new:∀k,v.ownBlock=some k->w0.heap.size<=k
 rows:∀r∈L,∃bs:List Bool,bs.length=n/\w.ownsRow 0 4 1 r n (bs.map Value.bool)
theorem RB.app{w0 w1 w2:World}{v v':Value}{bs:List Bool}{b:Bool}(h:RB w0 w1 v bs)(hs:w0.heap.size<=w1.heap.size)(s1:w2.ownsRow 0 4 1 v' (bs.length+1) (bs.map Value.bool++[.bool b]))(a:vg w1 v v' (bs.length+1)):RB w0 w2 v' (bs++[b]):=by refine⟨by simpa using s1,fun k hk=>?_⟩;exact zB4
theorem BB.only{w0 w1 w2:World}{v:Value}{n:Nat}{L:List Value}{F:Nat->Prop}(h:BB w0 w1 v n L)(ho:Only F w1 w2)(hF:∀k,F k->w1.heap.size<=k):BB w0 w2 v n L:=by refine⟨aB h.own ho (fun k hk f=>by have:=dn h.own hk;have:=hF k f;omega),h.new,fun r hr=>?_⟩;obtain⟨bs,e,hb⟩:=h.rows r hr;exact⟨bs,e,aB hb ho (fun k hk f=>by have:=dn hb hk;have:=hF k f;omega)⟩
theorem BB.aF{w0 w1 w2:World}{v:Value}{n:Nat}{L:List Value}(h:BB w0 w1 v n L)(ho:O0 w1 w2):BB w0 w2 v n L:=h.only ho (fun _ f=>f.elim)
theorem BB.app{w0 w1 w2:World}{v v':Value}{n:Nat}{L:List Value}{r:Value}(h:BB w0 w1 v n L)(hs:w0.heap.size<=w1.heap.size)(s1:w2.ownsRow 0 58 1 v' (L.length+1) (L++[r]))(o:Only (fun k=>v.ownBlock=some k) w1 w2)(a:vg w1 v v' (L.length+1))(hr:∃bs:List Bool,bs.length=n/\w1.ownsRow 0 4 1 r n (bs.map Value.bool)):BB w0 w2 v' n (L++[r]):=by
 have keep:∀r',(∃bs:List Bool,bs.length=n/\w1.ownsRow 0 4 1 r' n (bs.map Value.bool))->∃bs:List Bool,bs.length=n/\w2.ownsRow 0 4 1 r' n (bs.map Value.bool):=by rintro r' ⟨bs,e,hb⟩;exact⟨bs,e,aB hb o (fun k hk f=>PV zAC hb h.own hk f)⟩
 refine⟨by simpa using s1,fun k hk=>?_,fun r' hr'=>?_⟩;·exact zB4
 rcases qW.1 hr' with hr'|hr';·exact keep _ (h.rows r' hr')
 rw[yJ.1 hr'];exact keep _ hr
theorem BB.set{w0 w1:World}{g m cap n:Nat}{L:List Value}(h:BB w0 w1 (.slice (some ⟨g,0,none⟩) m cap) n L){i:Nat}{r:Value}(hr:∃bs:List Bool,bs.length=n/\w1.ownsRow 0 4 1 r n (bs.map Value.bool)):BB w0 (w1.setCell ⟨g,i,none⟩ r) (.slice (some ⟨g,0,none⟩) m cap) n (L.set i r):=by
 have o:Only (fun k=>k=g) w1 (w1.setCell ⟨g,i,none⟩ r):=(Only.refl (fun k=>k=g) w1).setCell (p:=⟨g,i,none⟩) (.inl rfl) _;have keep:∀r',(∃bs:List Bool,bs.length=n/\w1.ownsRow 0 4 1 r' n (bs.map Value.bool))->∃bs:List Bool,bs.length=n/\(w1.setCell ⟨g,i,none⟩ r).ownsRow 0 4 1 r' n (bs.map Value.bool):=by rintro r' ⟨bs,e,hb⟩;exact⟨bs,e,aB hb o (fun k hk f=>PV zAC hb h.own hk (by rw[f];rfl))⟩
 have hm:m=L.length:=by obtain⟨ao,c,e,-,-⟩:=aH h.own;simp only[qU]at e;exact e.2.1
 subst hm;refine⟨by rw[List.length_set];exact(h.own.stored i r).1,h.new,fun r' hr'=>?_⟩;rcases List.mem_or_eq_of_mem_set hr' with hr'|rfl;·exact keep _ (h.rows r' hr')
 exact keep _ hr
theorem BB.get{w0:World}{v:Value}{n:Nat}{L:List Value}(h:BB w0 w v n L){i:Nat}(hi:i<L.length):∃g cap a c,v= .slice (some ⟨g,0,none⟩) L.length cap/\L[i]? =some (.slice a n c)/\w.cell? ⟨g,i,none⟩=some (.slice a n c)/\∀k,k<n->∃b y,a=some ⟨b,0,none⟩/\w.cell? ⟨b,k,none⟩=some (.bool y):=by
 obtain⟨g,cap,rfl,-,-⟩:=dB h.own zBB;have hm:L[i]∈L:=qZ hi;obtain⟨bs,e,hb⟩:=h.rows _ hm;obtain⟨a,c,e2,-,-⟩:=aH hb;refine⟨g,cap,a,c,rfl,by rw[qA hi,e2],?_,fun k hk=>?_⟩;·rw[h.own.cellAt i zBB,qA hi,e2]
 rw[e2]at hb;obtain⟨b,c2,e3,-,-⟩:=dB hb zBB;simp only[qU]at e3;obtain⟨rfl,-,rfl⟩:=e3;refine⟨b,bs[k]'zBB,rfl,?_⟩;rw[hb.cellAt k zBB];simp[show k<bs.length by omega]
end
end Go.Proofs.YtdmmebjjojimiaaGreatDoor
namespace Go.Proofs
theorem zBp{p:Prop}(h:p:=by
 have h1:(0:Int)<=(k:Int)/\(k:Int)<=(cap:Int):=⟨by omega,by omega⟩
 cases ao with
 |none=>simp[Instr.slice,Instr.sliceBounds,Instr.sliceBound,run_underlying ht,sizeOf,typeInfo,hi,hs,asIntOf,Addr.add,hk,h1]
 |some a=>simp[Instr.slice,Instr.sliceBounds,Instr.sliceBound,run_underlying ht,sizeOf,typeInfo,hi,hs,asIntOf,Addr.add,hk,h1]):p:=h
end Go.Proofs
namespace Go.Proofs.YtdmmebjjojimiaaGreatDoor
open Go.RowKit
section
variable {w w':World} {B:Nat}
theorem IY{P:Program}{t e:TypeId}{i:TypeInfo}(ht:P.underlying t=some (.slice e))(hi:P.info? e=some i)(hs:i.size=1)(ao:Option Addr)(m k cap:Nat)(hk:k<=cap)(W:World):(Instr.slice t (.slice ao m cap) none (some (.int .i64 (k:Int))) none).run P W= .ok (.slice ao k cap) W:=by exact zBp
def Zm(n:Nat)(w w':World)(e:Ending):Prop:= ∃v l,e= .returned v/\aJ 1 dK w'.heap.size w' v l/\l.length<=n/\O0 w w'
theorem Zm.own{n:Nat}{v:Value}{m:Nat}{l:List Str}{e:Ending}(he:e= .returned v)(hl:l.length=m)(h:w'.ownsRow 0 9 1 v m (dZ l))(hk:∀s∈l,okS s)(hn:m<=n)(ho:O0 w w'):Zm n w w' e:=
 ⟨v,l,he,pI hl h hk,by omega,ho⟩
end
section
variable {w w':World} {B:Nat}
theorem uM{e t:TypeId}{s n b:Nat}{v:Value}{xs:List Value}{c:Array Value}{f:Nat×Nat}(hne:e≠t)(h:w.ownsRow 0 e s v n xs)(hb:w.heap[b]? =some (.cells c t f)):v.ownBlock≠some b:=by
 intro h2;rcases h.2 with⟨rfl,_⟩| ⟨g,cap,cur,rfl,-,hg,-⟩;·cases h2
 simp only[Value.ownBlock,qG]at h2;subst h2;rw[hb]at hg;simp only[qG,Obj.cells.injEq]at hg;exact hne hg.2.1.symm
def BF(P:List (CD×Value)):List Value:=P.flatMap fun p=>[.int .i64 p.1.rel,p.2]
theorem WW(a b:List (CD×Value)):BF (a++b)=BF a++BF b:=List.flatMap_append
theorem WX(l:List (CD×Value)){i j:Nat}(hi:i<l.length)(hj:j<2):(BF l)[i*2+j]? =[Value.int .i64 (l[i]'hi).1.rel,(l[i]'hi).2][j]? :=by
 unfold BF;induction l generalizing i with
 |nil=>simp at hi
 |cons x r ih=>
  rw[List.flatMap_cons];cases i with
  |zero=>rw[Nat.zero_mul,Nat.zero_add,yM zAm];rfl
  |succ i=>rw[yN zAK];rw[show(i+1)*2+j-[Value.int .i64 x.1.rel,x.2].length=i*2+j by simp;omega,ih zAk];simp
structure G5 (w0 w:World) (v:Value) (P:List (CD×Value)):Prop where
 own:w.ownsRow 0 155 2 v P.length (BF P)
 new:∀k,v.ownBlock=some k->w0.heap.size<=k
 vals:∀p∈P,w.ownsRow 0 3 1 p.2 p.1.vals.length (p.1.vals.map cI)
 rng:∀p∈P,aO p.1.rel/\∀z∈p.1.vals,aO z
theorem G5.only{w0 w1 w2:World}{v:Value}{P:List (CD×Value)}{F:Nat->Prop}(h:G5 w0 w1 v P)(ho:Only F w1 w2)(hF:∀k,F k->w1.heap.size<=k):G5 w0 w2 v P:=
 ⟨aB h.own ho (fun k hk f=>by have:=dn h.own hk;have:=hF k f;omega),h.new,fun p hp=>aB (h.vals p hp) ho (fun k hk f=>by have:=dn (h.vals p hp) hk;have:=hF k f;omega),h.rng⟩
theorem G5.app{w0 w1 w2:World}{v v':Value}{P:List (CD×Value)}{c:CD}{vv:Value}(h:G5 w0 w1 v P)(hs:w0.heap.size<=w1.heap.size)(s1:w2.ownsRow 0 155 2 v' (P.length+1) (BF P++[.int .i64 c.rel,vv]))(o:Only (fun k=>v.ownBlock=some k) w1 w2)(a:vg w1 v v' (P.length+1))(hv:w1.ownsRow 0 3 1 vv c.vals.length (c.vals.map cI))(hr:aO c.rel/\∀z∈c.vals,aO z):G5 w0 w2 v' (P++[(c,vv)]):=by
 have ne:∀{vv n xs},w1.ownsRow 0 3 1 vv n xs->w2.ownsRow 0 3 1 vv n xs:=fun hh=>aB hh o (fun k hk f=>by
  rcases h.own.2 with⟨e,_⟩| ⟨g,cap,cur,e,-,hg,-⟩
  ·rw[e]at f;cases f
  ·rw[e]at f
   simp only[Value.ownBlock,qG]at f
   subst f
   exact uM zAC hh hg hk)
 refine⟨by rw[WW];simpa[BF]using s1,fun k hk=>?_,fun p hp=>?_,fun p hp=>?_⟩;·exact zB4
 ·rcases qW.1 hp with hp|hp;·exact ne (h.vals p hp)
  rw[yJ.1 hp];exact ne hv
 rcases qW.1 hp with hp|hp;·exact h.rng p hp
 rw[yJ.1 hp];exact hr
theorem G5.put{w0 w1:World}{v:Value}{P:List (CD×Value)}{b i:Nat}{c:Array Value}{f:Nat×Nat}{t:TypeId}(h:G5 w0 w1 v P)(hb:w1.heap[b]? =some (.cells c t f))(h1:155≠t)(h2:3≠t)(u:Value):G5 w0 (w1.setCell ⟨b,i,none⟩ u) v P:=by have o:Only (fun k=>k=b) w1 (w1.setCell ⟨b,i,none⟩ u):=(Only.refl (fun k=>k=b) w1).setCell (p:=⟨b,i,none⟩) (.inl rfl) _;exact⟨aB h.own o (fun k hk e=>uM h1 h.own hb (by rw[<-e];exact hk)),h.new,fun p hp=>aB (h.vals p hp) o (fun k hk e=>uM h2 (h.vals p hp) hb (by rw[<-e];exact hk)),h.rng⟩
theorem G5.read{w0:World}{v:Value}{P:List (CD×Value)}(h:G5 w0 w v P):aJ 2 CC w.heap.size w v (P.map Prod.fst):=by
 have h0:w.ownsRow 0 155 2 v (P.map Prod.fst).length (BF P):=by rw[qM];exact h.own
 refine aJ.dF h0 fun i hi=>?_;rw[qM]at hi;have hm:P[i]∈P:=qZ hi;refine⟨[.int .i64 P[i].1.rel,P[i].2],rfl,fun j u hu=>?_,?_⟩;·have hj:j<2:=(qJ.1 hu).1;rw[WX P hi hj];exact hu
 rw[List.getElem_map];have hv:=h.vals _ hm;refine⟨P[i].2,rfl,(h.rng _ hm).1,?_⟩;refine aJ.dF hv fun j hj=>⟨[.int .i64 P[i].1.vals[j]],rfl,fun a u hu=>?_,rfl,(h.rng _ hm).2 _ (qZ hj)⟩;obtain rfl:a=0:=by have:=(qJ.1 hu).1;simpa using this
 simp at hu;subst hu;simp[hj]
end
section
variable {w w':World} {B:Nat}
structure SoP (g:GD) (a:At) (b:Bool):Prop where
 node:a.1=1->b=Rj g.c a.2.1
 on:a.1=5\/a.1=6\/a.1=7->b=true->Zl g
 any:b=true->Zl g\/Rj g.c a.2.1=true
def U2(g:GD)(a:At)(w w':World)(e:Ending):Prop:= ∃b,e= .returned (.bool b)/\SoP g a b/\O0 w w'
theorem U2.there{g:GD}{a:At}{e:Ending}(h:LV (Rj g.c a.2.1=true) w w' e)(h1:a.1≠1)(h5:¬(a.1=5\/a.1=6\/a.1=7)):U2 g a w w' e:=by obtain⟨b,he,hb,ho⟩:=h;exact⟨b,he,⟨fun h=>absurd h h1,fun h=>absurd h h5,fun h=>.inr (hb h)⟩,ho⟩
theorem U2.any{g:GD}{a:At}{e:Ending}(h:LV (Zl g) w w' e)(h1:a.1≠1):U2 g a w w' e:=by obtain⟨b,he,hb,ho⟩:=h;exact⟨b,he,⟨fun h=>absurd h h1,fun _=>hb,fun h=>.inl (hb h)⟩,ho⟩
end
end Go.Proofs.YtdmmebjjojimiaaGreatDoor
