/- slices.IndexFunc, ContainsFunc at rows of structs. Printed by gen_idxf.py.; slices.IndexFunc, ContainsFunc at strings; package variant: one$1. -/
import Derived.Test.YtdmmebjjojimiaaGreatDoorG14
import Derived.Test.YtdmmebjjojimiaaGreatDoorG13
set_option maxRecDepth 100000
set_option maxHeartbeats 8000000
set_option linter.all false
namespace Go.Proofs.YtdmmebjjojimiaaGreatDoor
open Go.RowKit Go.Shelf
section
variable {w w':World} {B:Nat}
theorem Uy{v:Value}{xs:List dM}(h:aS 2 dO B w v xs){g:Nat}{cb:Array Value}{p:dM->Bool}(eg:∀args w,(callFunc g args).run Tryz.prog w= .ok (.enter g args) w)(hp:lF dO B g cb p w):Calls Tryz.prog 335 #[v,.func (.func g) #[] cb] w fun e w'=>e= .returned (.int .i64 (iK p xs))/\O0 w w':=by
 obtain⟨ao,cap,rfl,hc1,hc2⟩:=h.shape;have HH:=zh h;have LV:=zh hp;obtain⟨n,hn⟩:=ze xs.length;have HN:=zh hn;rw[hn]at hc1⊢;clear h hp hn;go_enter Tryz.func335,Tryz.ntmps335;go_wp2_with fail;go_loopw [5,8] (fun _ vi wr=>Hid (O0 w wr)/\∃i:Nat,vi= .int .i64 i/\i<=n/\Hid (∀x∈xs.take i,p x=false)) (fun _ v _=>n-(intOf v).toNat);case atStart=>exact⟨show Hid _ from Only.refl _ _,0,rfl,qE _,show Hid _ from fun x hx=>by simp at hx⟩
 case round=>
  obtain⟨HO,i,rfl,hi,HZ⟩:=hrel;by_cases ci:i<n
  ·have h2:=HH.out;rw[HN.out]at h2;obtain⟨b,off,he,-,-⟩:=h2.at zA0;subst he;obtain⟨x,hx⟩:=zG xs i zAe;obtain⟨cs,hl,hr,hC⟩:=(h2.keep dO.keep (Kp.dV HO.out)).get hx;have iE:=zw (i+1);have HR:=zh hr;have HL:=zh hl;have HX:=zh hx;have HC:=zh (LV.out wr cs x HO.out hC);obtain⟨y,hy⟩:=ze (p x);rw[hy]at HC;have HY:=zh hy;clear hr hx hy h2 hl hC;cases y with
   |true=>go_wp2_with (refine wpList_load_mid rfl 117 (.tmp 14) rfl b (off+i*2) rfl cs _ HR.out Tryz.underlying117 rfl zAi ?_);exact zDa
   |false=>go_wp2_with (refine wpList_load_mid rfl 117 (.tmp 14) rfl b (off+i*2) rfl cs _ HR.out Tryz.underlying117 rfl zAi ?_);exact zDO
  exact zDY
theorem D5{v:Value}{xs:List dM}(h:aS 2 dO B w v xs){g:Nat}{cb:Array Value}{p:dM->Bool}(eg:∀args w,(callFunc g args).run Tryz.prog w= .ok (.enter g args) w)(hp:lF dO B g cb p w)(r:Bool)(hr:decide (0<=iK p xs)=r):Calls Tryz.prog 266 #[v,.func (.func g) #[] cb] w fun e w'=>e= .returned (.bool r)/\O0 w w':=by have H:=zh (Uy h eg hp);obtain⟨i,hi⟩:=ze (iK p xs);rw[hi]at H hr;clear h hp hi;go_enter Tryz.func266,Tryz.ntmps266;exact zDe
theorem Uz{v:Value}{xs:List jm}(h:aS 2 l9 B w v xs){g:Nat}{cb:Array Value}{p:jm->Bool}(eg:∀args w,(callFunc g args).run Tryz.prog w= .ok (.enter g args) w)(hp:lF l9 B g cb p w):Calls Tryz.prog 336 #[v,.func (.func g) #[] cb] w fun e w'=>e= .returned (.int .i64 (iK p xs))/\O0 w w':=by
 obtain⟨ao,cap,rfl,hc1,hc2⟩:=h.shape;have HH:=zh h;have LV:=zh hp;obtain⟨n,hn⟩:=ze xs.length;have HN:=zh hn;rw[hn]at hc1⊢;clear h hp hn;go_enter Tryz.func336,Tryz.ntmps336;go_wp2_with fail;go_loopw [5,8] (fun _ vi wr=>Hid (O0 w wr)/\∃i:Nat,vi= .int .i64 i/\i<=n/\Hid (∀x∈xs.take i,p x=false)) (fun _ v _=>n-(intOf v).toNat);case atStart=>exact⟨show Hid _ from Only.refl _ _,0,rfl,qE _,show Hid _ from fun x hx=>by simp at hx⟩
 case round=>
  obtain⟨HO,i,rfl,hi,HZ⟩:=hrel;by_cases ci:i<n
  ·have h2:=HH.out;rw[HN.out]at h2;obtain⟨b,off,he,-,-⟩:=h2.at zA0;subst he;obtain⟨x,hx⟩:=zG xs i zAe;obtain⟨cs,hl,hr,hC⟩:=(h2.keep l9.keep (Kp.dV HO.out)).get hx;have iE:=zw (i+1);have HR:=zh hr;have HL:=zh hl;have HX:=zh hx;have HC:=zh (LV.out wr cs x HO.out hC);obtain⟨y,hy⟩:=ze (p x);rw[hy]at HC;have HY:=zh hy;clear hr hx hy h2 hl hC;cases y with
   |true=>go_wp2_with (refine wpList_load_mid rfl 145 (.tmp 14) rfl b (off+i*2) rfl cs _ HR.out Tryz.underlying145 rfl zAi ?_);exact zDa
   |false=>go_wp2_with (refine wpList_load_mid rfl 145 (.tmp 14) rfl b (off+i*2) rfl cs _ HR.out Tryz.underlying145 rfl zAi ?_);exact zDO
  exact zDY
theorem LZ{v:Value}{xs:List jm}(h:aS 2 l9 B w v xs){g:Nat}{cb:Array Value}{p:jm->Bool}(eg:∀args w,(callFunc g args).run Tryz.prog w= .ok (.enter g args) w)(hp:lF l9 B g cb p w)(r:Bool)(hr:decide (0<=iK p xs)=r):Calls Tryz.prog 268 #[v,.func (.func g) #[] cb] w fun e w'=>e= .returned (.bool r)/\O0 w w':=by have H:=zh (Uz h eg hp);obtain⟨i,hi⟩:=ze (iK p xs);rw[hi]at H hr;clear h hp hi;go_enter Tryz.func268,Tryz.ntmps268;exact zDe
theorem QC{v:Value}{xs:List xQ}(h:aS 3 tV B w v xs){g:Nat}{cb:Array Value}{p:xQ->Bool}(eg:∀args w,(callFunc g args).run Tryz.prog w= .ok (.enter g args) w)(hp:lF tV B g cb p w):Calls Tryz.prog 270 #[v,.func (.func g) #[] cb] w fun e w'=>e= .returned (.int .i64 (iK p xs))/\O0 w w':=by
 obtain⟨ao,cap,rfl,hc1,hc2⟩:=h.shape;have HH:=zh h;have LV:=zh hp;obtain⟨n,hn⟩:=ze xs.length;have HN:=zh hn;rw[hn]at hc1⊢;clear h hp hn;go_enter Tryz.func270,Tryz.ntmps270;go_wp2_with fail;go_loopw [5,8] (fun _ vi wr=>Hid (O0 w wr)/\∃i:Nat,vi= .int .i64 i/\i<=n/\Hid (∀x∈xs.take i,p x=false)) (fun _ v _=>n-(intOf v).toNat);case atStart=>exact⟨show Hid _ from Only.refl _ _,0,rfl,qE _,show Hid _ from fun x hx=>by simp at hx⟩
 case round=>
  obtain⟨HO,i,rfl,hi,HZ⟩:=hrel;by_cases ci:i<n
  ·have h2:=HH.out;rw[HN.out]at h2;obtain⟨b,off,he,-,-⟩:=h2.at zA0;subst he;obtain⟨x,hx⟩:=zG xs i zAe;obtain⟨cs,hl,hr,hC⟩:=(h2.keep tV.keep (Kp.dV HO.out)).get hx;have iE:=zw (i+1);have HR:=zh hr;have HL:=zh hl;have HX:=zh hx;have HC:=zh (LV.out wr cs x HO.out hC);obtain⟨y,hy⟩:=ze (p x);rw[hy]at HC;have HY:=zh hy;clear hr hx hy h2 hl hC;cases y with
   |true=>go_wp2_with (refine wpList_load_mid rfl 103 (.tmp 14) rfl b (off+i*3) rfl cs _ HR.out Tryz.underlying103 rfl zAi ?_);exact zDa
   |false=>go_wp2_with (refine wpList_load_mid rfl 103 (.tmp 14) rfl b (off+i*3) rfl cs _ HR.out Tryz.underlying103 rfl zAi ?_);exact zDO
  exact zDY
theorem J6{v:Value}{xs:List xQ}(h:aS 3 tV B w v xs){g:Nat}{cb:Array Value}{p:xQ->Bool}(eg:∀args w,(callFunc g args).run Tryz.prog w= .ok (.enter g args) w)(hp:lF tV B g cb p w)(r:Bool)(hr:decide (0<=iK p xs)=r):Calls Tryz.prog 187 #[v,.func (.func g) #[] cb] w fun e w'=>e= .returned (.bool r)/\O0 w w':=by have H:=zh (QC h eg hp);obtain⟨i,hi⟩:=ze (iK p xs);rw[hi]at H hr;clear h hp hi;go_enter Tryz.func187,Tryz.ntmps187;exact zDe
end
section
variable {w w':World} {B:Nat}
def aau(g:Nat)(cb:Array Value)(p:Str->Bool)(w:World):Prop:= ∀W s,O0 w W->okS s->Calls Tryz.prog g (#[.string s]++cb) W fun e w'=>e= .returned (.bool (p s))/\O0 W w'
theorem WJ{v:Value}{xs:List Str}(h:aS 1 bU B w v xs){g:Nat}{cb:Array Value}{p:Str->Bool}(eg:∀args w,(callFunc g args).run Tryz.prog w= .ok (.enter g args) w)(hp:aau g cb p w):Calls Tryz.prog 271 #[v,.func (.func g) #[] cb] w fun e w'=>e= .returned (.int .i64 (iK p xs))/\O0 w w':=by
 obtain⟨ao,cap,rfl,hc1,hc2⟩:=h.shape;have HH:=zh h;have LV:=zh hp;obtain⟨n,hn⟩:=ze xs.length;have HN:=zh hn;rw[hn]at hc1⊢;clear h hp hn;go_enter Tryz.func271,Tryz.ntmps271;go_wp2_with fail;go_loopw [5,8] (fun _ vi wr=>Hid (O0 w wr)/\∃i:Nat,vi= .int .i64 i/\i<=n/\Hid (∀x∈xs.take i,p x=false)) (fun _ v _=>n-(intOf v).toNat);case atStart=>exact⟨show Hid _ from Only.refl _ _,0,rfl,qE _,show Hid _ from fun x hx=>by simp at hx⟩
 case round=>
  obtain⟨HO,i,rfl,hi,HZ⟩:=hrel;by_cases ci:i<n
  ·have h2:=HH.out;rw[HN.out]at h2;obtain⟨b,off,he,-,-⟩:=h2.at zA0;subst he;obtain⟨x,hx⟩:=zG xs i zAe;obtain⟨cs,hl,hr,hC⟩:=(h2.keep bU.keep (Kp.dV HO.out)).get hx;obtain⟨rfl,hok⟩:=hC;have hce:=hr 0 _ rfl;rw[qF,yH]at hce;have iE:=zw (i+1);have HX:=zh hx;have HC:=zh (LV.out wr x HO.out hok);obtain⟨y,hy⟩:=ze (p x);rw[hy]at HC;have HY:=zh hy;clear hr hx hy h2 hl hok;cases y with
   |true=>go_wp2_with fail;exact zDa
   |false=>
    go_wp2_with fail;refine HC.out.mono ?_;rintro e w1 ⟨rfl,O1⟩;have aI:=zh (HO.out.same O1);clear O1 hce;go_wp2_with fail;go_roundw;case rel=>exact⟨aI,i+1,by first|rfl|go_num,by omega,show Hid _ from fun z hz=>by
     rcases bH HX.out hz with h|rfl
     ·exact HZ.out z h
     ·exact HY.out⟩
    case measure=>simp[intOf]<;>omega
  exact zDY
theorem EY{v:Value}{xs:List Str}(h:aS 1 bU B w v xs){g:Nat}{cb:Array Value}{p:Str->Bool}(eg:∀args w,(callFunc g args).run Tryz.prog w= .ok (.enter g args) w)(hp:aau g cb p w)(r:Bool)(hr:xs.any p=r):Calls Tryz.prog 189 #[v,.func (.func g) #[] cb] w fun e w'=>e= .returned (.bool r)/\O0 w w':=by
 have H:=zh (WJ h eg hp);obtain⟨i,hi⟩:=ze (iK p xs);have hr2:decide (0<=iK p xs)=r:=by
  rw[<-hr]
  unfold iK
  cases h:xs.any p with
  |true=>rw[if_pos rfl];exact qX zAA
  |false=>rw[if_neg zCt];exact qP zAA
 rw[hi]at H hr2;clear h hp hi hr;go_enter Tryz.func189,Tryz.ntmps189;go_wp2_with fail;refine H.out.mono ?_;rintro e w1 ⟨rfl,O1⟩;go_wp2_with fail;go_ret;refine⟨?_,O1⟩;first|rfl| (rw[<-hr2];rfl)| (rw[<-hr2];simp)|simp
theorem Y1:∀args w,(callFunc 332 args).run Tryz.prog w= .ok (.enter 332 args) w:=enters_of Tryz.func332 zk rfl
theorem aiY(w:World):aau 332 #[] (fun s=> !Lk.gW s.toList) w:=by intro W s hO hs;have HV:=zh (Wq (w:=W) s hs _ rfl);obtain⟨r,hr⟩:=ze (Lk.gW s.toList);show Calls Tryz.prog _ #[.string s] W fun e w'=>e= .returned (.bool (!Lk.gW s.toList))/\O0 W w';rw[hr]at HV⊢;clear hr hO;go_enter Tryz.func332,Tryz.ntmps332;go_wp2_with fail;refine HV.out.mono ?_;rintro e w2 ⟨rfl,O2⟩;go_wp2_with fail;go_ret;exact⟨rfl,O2⟩
end
end Go.Proofs.YtdmmebjjojimiaaGreatDoor
namespace Go.Proofs
theorem zE4{p:Prop}(h:p:=by
 obtain⟨y,hy⟩:=ze (p x)
 rw[hy]at HC
 have HY:=zh hy
 clear hr hx hy h2 hl hC
 cases y with
 |true=>
  go_wp2_with (refine wpList_load_mid rfl 83 (.tmp 14) rfl b (off+i*4) rfl cs _ HR.out Tryz.underlying83 rfl zAi ?_)
  exact zDa
 |false=>
  go_wp2_with (refine wpList_load_mid rfl 83 (.tmp 14) rfl b (off+i*4) rfl cs _ HR.out Tryz.underlying83 rfl zAi ?_)
  exact zDO):p:=h
end Go.Proofs
namespace Go.Proofs.YtdmmebjjojimiaaGreatDoor
open Go.RowKit Go.Shelf
section
variable {w w':World} {B:Nat}
theorem UM{v:Value}{xs:List aC}(h:aS 4 dH B w v xs){g:Nat}{cb:Array Value}{p:aC->Bool}(eg:∀args w,(callFunc g args).run Tryz.prog w= .ok (.enter g args) w)(hp:lF dH B g cb p w):Calls Tryz.prog 287 #[v,.func (.func g) #[] cb] w fun e w'=>e= .returned (.int .i64 (iK p xs))/\O0 w w':=by
 obtain⟨ao,cap,rfl,hc1,hc2⟩:=h.shape;have HH:=zh h;have LV:=zh hp;obtain⟨n,hn⟩:=ze xs.length;have HN:=zh hn;rw[hn]at hc1⊢;clear h hp hn;go_enter Tryz.func287,Tryz.ntmps287;go_wp2_with fail;go_loopw [5,8] (fun _ vi wr=>Hid (O0 w wr)/\∃i:Nat,vi= .int .i64 i/\i<=n/\Hid (∀x∈xs.take i,p x=false)) (fun _ v _=>n-(intOf v).toNat);case atStart=>exact⟨show Hid _ from Only.refl _ _,0,rfl,qE _,show Hid _ from fun x hx=>by simp at hx⟩
 case round=>
  obtain⟨HO,i,rfl,hi,HZ⟩:=hrel;by_cases ci:i<n;·have h2:=HH.out;rw[HN.out]at h2;obtain⟨b,off,he,-,-⟩:=h2.at zA0;subst he;obtain⟨x,hx⟩:=zG xs i zAe;obtain⟨cs,hl,hr,hC⟩:=(h2.keep dH.keep (Kp.dV HO.out)).get hx;have iE:=zw (i+1);have HR:=zh hr;have HL:=zh hl;have HX:=zh hx;have HC:=zh (LV.out wr cs x HO.out hC);exact zE4
  exact zDY
theorem UN{v:Value}{xs:List iW}(h:aS 3 dJ B w v xs){g:Nat}{cb:Array Value}{p:iW->Bool}(eg:∀args w,(callFunc g args).run Tryz.prog w= .ok (.enter g args) w)(hp:lF dJ B g cb p w):Calls Tryz.prog 278 #[v,.func (.func g) #[] cb] w fun e w'=>e= .returned (.int .i64 (iK p xs))/\O0 w w':=by
 obtain⟨ao,cap,rfl,hc1,hc2⟩:=h.shape;have HH:=zh h;have LV:=zh hp;obtain⟨n,hn⟩:=ze xs.length;have HN:=zh hn;rw[hn]at hc1⊢;clear h hp hn;go_enter Tryz.func278,Tryz.ntmps278;go_wp2_with fail;go_loopw [5,8] (fun _ vi wr=>Hid (O0 w wr)/\∃i:Nat,vi= .int .i64 i/\i<=n/\Hid (∀x∈xs.take i,p x=false)) (fun _ v _=>n-(intOf v).toNat);case atStart=>exact⟨show Hid _ from Only.refl _ _,0,rfl,qE _,show Hid _ from fun x hx=>by simp at hx⟩
 case round=>
  obtain⟨HO,i,rfl,hi,HZ⟩:=hrel;by_cases ci:i<n
  ·have h2:=HH.out;rw[HN.out]at h2;obtain⟨b,off,he,-,-⟩:=h2.at zA0;subst he;obtain⟨x,hx⟩:=zG xs i zAe;obtain⟨cs,hl,hr,hC⟩:=(h2.keep dJ.keep (Kp.dV HO.out)).get hx;have iE:=zw (i+1);have HR:=zh hr;have HL:=zh hl;have HX:=zh hx;have HC:=zh (LV.out wr cs x HO.out hC);obtain⟨y,hy⟩:=ze (p x);rw[hy]at HC;have HY:=zh hy;clear hr hx hy h2 hl hC;cases y with
   |true=>go_wp2_with (refine wpList_load_mid rfl 108 (.tmp 14) rfl b (off+i*3) rfl cs _ HR.out Tryz.underlying108 rfl zAi ?_);exact zDa
   |false=>go_wp2_with (refine wpList_load_mid rfl 108 (.tmp 14) rfl b (off+i*3) rfl cs _ HR.out Tryz.underlying108 rfl zAi ?_);exact zDO
  exact zDY
theorem D9{v:Value}{xs:List iW}(h:aS 3 dJ B w v xs){g:Nat}{cb:Array Value}{p:iW->Bool}(eg:∀args w,(callFunc g args).run Tryz.prog w= .ok (.enter g args) w)(hp:lF dJ B g cb p w)(r:Bool)(hr:decide (0<=iK p xs)=r):Calls Tryz.prog 196 #[v,.func (.func g) #[] cb] w fun e w'=>e= .returned (.bool r)/\O0 w w':=by have H:=zh (UN h eg hp);obtain⟨i,hi⟩:=ze (iK p xs);rw[hi]at H hr;clear h hp hi;go_enter Tryz.func196,Tryz.ntmps196;exact zDe
theorem UO{v:Value}{xs:List Iq}(h:aS 7 vO B w v xs){g:Nat}{cb:Array Value}{p:Iq->Bool}(eg:∀args w,(callFunc g args).run Tryz.prog w= .ok (.enter g args) w)(hp:lF vO B g cb p w):Calls Tryz.prog 284 #[v,.func (.func g) #[] cb] w fun e w'=>e= .returned (.int .i64 (iK p xs))/\O0 w w':=by
 obtain⟨ao,cap,rfl,hc1,hc2⟩:=h.shape;have HH:=zh h;have LV:=zh hp;obtain⟨n,hn⟩:=ze xs.length;have HN:=zh hn;rw[hn]at hc1⊢;clear h hp hn;go_enter Tryz.func284,Tryz.ntmps284;go_wp2_with fail;go_loopw [5,8] (fun _ vi wr=>Hid (O0 w wr)/\∃i:Nat,vi= .int .i64 i/\i<=n/\Hid (∀x∈xs.take i,p x=false)) (fun _ v _=>n-(intOf v).toNat);case atStart=>exact⟨show Hid _ from Only.refl _ _,0,rfl,qE _,show Hid _ from fun x hx=>by simp at hx⟩
 case round=>
  obtain⟨HO,i,rfl,hi,HZ⟩:=hrel;by_cases ci:i<n
  ·have h2:=HH.out;rw[HN.out]at h2;obtain⟨b,off,he,-,-⟩:=h2.at zA0;subst he;obtain⟨x,hx⟩:=zG xs i zAe;obtain⟨cs,hl,hr,hC⟩:=(h2.keep vO.keep (Kp.dV HO.out)).get hx;have iE:=zw (i+1);have HR:=zh hr;have HL:=zh hl;have HX:=zh hx;have HC:=zh (LV.out wr cs x HO.out hC);obtain⟨y,hy⟩:=ze (p x);rw[hy]at HC;have HY:=zh hy;clear hr hx hy h2 hl hC;cases y with
   |true=>go_wp2_with (refine wpList_load_mid rfl 160 (.tmp 14) rfl b (off+i*7) rfl cs _ HR.out Tryz.underlying160 rfl zAi ?_);exact zDa
   |false=>go_wp2_with (refine wpList_load_mid rfl 160 (.tmp 14) rfl b (off+i*7) rfl cs _ HR.out Tryz.underlying160 rfl zAi ?_);exact zDO
  exact zDY
theorem Mc{v:Value}{xs:List Iq}(h:aS 7 vO B w v xs){g:Nat}{cb:Array Value}{p:Iq->Bool}(eg:∀args w,(callFunc g args).run Tryz.prog w= .ok (.enter g args) w)(hp:lF vO B g cb p w)(r:Bool)(hr:decide (0<=iK p xs)=r):Calls Tryz.prog 200 #[v,.func (.func g) #[] cb] w fun e w'=>e= .returned (.bool r)/\O0 w w':=by have H:=zh (UO h eg hp);obtain⟨i,hi⟩:=ze (iK p xs);rw[hi]at H hr;clear h hp hi;go_enter Tryz.func200,Tryz.ntmps200;exact zDe
theorem UQ{v:Value}{xs:List tN}(h:aS 4 mM B w v xs){g:Nat}{cb:Array Value}{p:tN->Bool}(eg:∀args w,(callFunc g args).run Tryz.prog w= .ok (.enter g args) w)(hp:lF mM B g cb p w):Calls Tryz.prog 339 #[v,.func (.func g) #[] cb] w fun e w'=>e= .returned (.int .i64 (iK p xs))/\O0 w w':=by
 obtain⟨ao,cap,rfl,hc1,hc2⟩:=h.shape;have HH:=zh h;have LV:=zh hp;obtain⟨n,hn⟩:=ze xs.length;have HN:=zh hn;rw[hn]at hc1⊢;clear h hp hn;go_enter Tryz.func339,Tryz.ntmps339;go_wp2_with fail;go_loopw [5,8] (fun _ vi wr=>Hid (O0 w wr)/\∃i:Nat,vi= .int .i64 i/\i<=n/\Hid (∀x∈xs.take i,p x=false)) (fun _ v _=>n-(intOf v).toNat);case atStart=>exact⟨show Hid _ from Only.refl _ _,0,rfl,qE _,show Hid _ from fun x hx=>by simp at hx⟩
 case round=>
  obtain⟨HO,i,rfl,hi,HZ⟩:=hrel;by_cases ci:i<n
  ·have h2:=HH.out;rw[HN.out]at h2;obtain⟨b,off,he,-,-⟩:=h2.at zA0;subst he;obtain⟨x,hx⟩:=zG xs i zAe;obtain⟨cs,hl,hr,hC⟩:=(h2.keep mM.keep (Kp.dV HO.out)).get hx;have iE:=zw (i+1);have HR:=zh hr;have HL:=zh hl;have HX:=zh hx;have HC:=zh (LV.out wr cs x HO.out hC);obtain⟨y,hy⟩:=ze (p x);rw[hy]at HC;have HY:=zh hy;clear hr hx hy h2 hl hC;cases y with
   |true=>go_wp2_with (refine wpList_load_mid rfl 110 (.tmp 14) rfl b (off+i*4) rfl cs _ HR.out Tryz.underlying110 rfl zAi ?_);exact zDa
   |false=>go_wp2_with (refine wpList_load_mid rfl 110 (.tmp 14) rfl b (off+i*4) rfl cs _ HR.out Tryz.underlying110 rfl zAi ?_);exact zDO
  exact zDY
theorem Md{v:Value}{xs:List tN}(h:aS 4 mM B w v xs){g:Nat}{cb:Array Value}{p:tN->Bool}(eg:∀args w,(callFunc g args).run Tryz.prog w= .ok (.enter g args) w)(hp:lF mM B g cb p w)(r:Bool)(hr:decide (0<=iK p xs)=r):Calls Tryz.prog 279 #[v,.func (.func g) #[] cb] w fun e w'=>e= .returned (.bool r)/\O0 w w':=by have H:=zh (UQ h eg hp);obtain⟨i,hi⟩:=ze (iK p xs);rw[hi]at H hr;clear h hp hi;go_enter Tryz.func279,Tryz.ntmps279;exact zDe
end
section
variable {w w':World} {B:Nat}
def afl{α:Type}(C:Nat->World->List Value->α->Prop)(B:Nat)(g:Nat)(cb:Array Value)(p:α->Bool)(xs:List α)(w:World):Prop:=
 ∀(W:World) (cs:List Value) (x:α),x∈xs->O0 w W->C B W cs x->Calls Tryz.prog g (#[.agg cs.toArray]++cb) W fun e w'=>e= .returned (.bool (p x))/\O0 W w'
theorem QT{v:Value}{xs:List aC}(h:aS 4 dH B w v xs){g:Nat}{cb:Array Value}{p:aC->Bool}(eg:∀args w,(callFunc g args).run Tryz.prog w= .ok (.enter g args) w)(hp:afl dH B g cb p xs w):Calls Tryz.prog 287 #[v,.func (.func g) #[] cb] w fun e w'=>e= .returned (.int .i64 (iK p xs))/\O0 w w':=by
 obtain⟨ao,cap,rfl,hc1,hc2⟩:=h.shape;have HH:=zh h;have LV:=zh hp;obtain⟨n,hn⟩:=ze xs.length;have HN:=zh hn;rw[hn]at hc1⊢;clear h hp hn;go_enter Tryz.func287,Tryz.ntmps287;go_wp2_with fail;go_loopw [5,8] (fun _ vi wr=>Hid (O0 w wr)/\∃i:Nat,vi= .int .i64 i/\i<=n/\Hid (∀x∈xs.take i,p x=false)) (fun _ v _=>n-(intOf v).toNat);case atStart=>exact⟨show Hid _ from Only.refl _ _,0,rfl,qE _,show Hid _ from fun x hx=>by simp at hx⟩
 case round=>
  obtain⟨HO,i,rfl,hi,HZ⟩:=hrel;by_cases ci:i<n;·have h2:=HH.out;rw[HN.out]at h2;obtain⟨b,off,he,-,-⟩:=h2.at zA0;subst he;obtain⟨x,hx⟩:=zG xs i zAe;obtain⟨cs,hl,hr,hC⟩:=(h2.keep dH.keep (Kp.dV HO.out)).get hx;have iE:=zw (i+1);have HR:=zh hr;have HL:=zh hl;have HX:=zh hx;have HC:=zh (LV.out wr cs x (qT hx) HO.out hC);exact zE4
  exact zDY
theorem KH{v:Value}{xs:List aC}(h:aS 4 dH B w v xs){g:Nat}{cb:Array Value}{p:aC->Bool}(eg:∀args w,(callFunc g args).run Tryz.prog w= .ok (.enter g args) w)(hp:afl dH B g cb p xs w)(r:Bool)(hr:decide (0<=iK p xs)=r):Calls Tryz.prog 281 #[v,.func (.func g) #[] cb] w fun e w'=>e= .returned (.bool r)/\O0 w w':=by have H:=zh (QT h eg hp);obtain⟨i,hi⟩:=ze (iK p xs);rw[hi]at H hr;clear h hp hi;go_enter Tryz.func281,Tryz.ntmps281;exact zDe
end
end Go.Proofs.YtdmmebjjojimiaaGreatDoor
namespace Go.Proofs
theorem zAY{p:Prop}(h:p:=by(intro w hSw;obtain⟨k0,k1,k2⟩:=aF.out w hSw;have hrz:=(jd.out w hSw).1;have gz5:=hrz 5 _ rfl;clear hrz;have JF:=(HEu.out w hSw).1;have Qj:=JF 0 _ rfl;rw[qF]at Qj;clear JF;go_simp<;>(try with_reducible rfl))):p:=h
theorem zAz{p:Prop}(h:p:=by(intro w hSw;obtain⟨k0,k1,k2⟩:=aF.out w hSw;have fJ:=(jq.out w hSw).1;have Bv:=fJ 0 _ rfl;rw[qF]at Bv;clear fJ;go_simp<;>(try with_reducible rfl))):p:=h
theorem zBE{p:Prop}(h:p:=by rw[bQ.out];omega):p:=h
theorem zD8{p:Prop}(h:p:=by(try dsimp only)<;>(exact Only.same hHeld o5)):p:=h
theorem zFQ{p:Prop}(h:p:=by(try dsimp only)<;>(exact Only.same hHeld o6)):p:=h
theorem zHJ{p:Prop}(h:p:=by
 subst hrt
 clear aZ
 go_wp2_with fail
 go_ret
 exact⟨rfl,aV.out.same pz.out⟩):p:=h
end Go.Proofs
namespace Go.Proofs.YtdmmebjjojimiaaGreatDoor
open Go.RowKit
section
variable {w w':World} {B:Nat}
theorem G5{l:List Nat}{i:Nat}:(intsOf l).contains (i:Int)=decide (i∈l):=by
 rw[Bool.eq_iff_iff,List.contains_iff_mem,yP];unfold intsOf;rw[yD];constructor
 ·rintro⟨j,hj,e⟩;obtain rfl:j=i:=by omega
  exact hj
 exact fun h=>⟨i,h,rfl⟩
def UF(w:World)(g m:Nat)(f:List Bool):Prop:=f.length=m/\w.ownsRow 0 4 1 (.slice (some ⟨g,0,none⟩) m m) m (f.map Value.bool)
theorem UF.dK{g m:Nat}{f:List Bool}(h:UF w g m f)(ho:O0 w w'):UF w' g m f:=⟨h.1,aW h.2 ho (fun _ _ f=>f)⟩
theorem UF.cell{g m:Nat}{f:List Bool}(h:UF w g m f){k:Nat}(hk:k<m):w.cell? ⟨g,k,none⟩=some (.bool (f.getD k false)):=by rw[h.2.cellAt k zAA];rw[List.getElem?_map,qC,qA (by rw[h.1];exact hk)];rfl
theorem RV(x:aQ)(l:List Str)(s:Str)(i:Nat):L6 x (l++[s]) i=(L6 x l i||decide (i∈x.targets s)):=by unfold L6;simp[List.any_append]
theorem wO{lC:List Value}{x:aQ}(hx:fO B w lC x)(hlen:x.packs.length<=1000000)(s:Str):Calls Tryz.prog 146 #[.agg lC.toArray,.string s] w fun e w'=> ∃v,e= .returned v/\Ints w' v (intsOf (x.targets s))/\O0 w w':=by
 obtain⟨aP,ak,aJ,aO,aG,aH,rfl,fF,fG,dP,dQ,aB,bJ,mY⟩:=open_rec hx;clear hx;try rw[aB.out]
 obtain⟨W0,hW0,aV,jK,aF⟩:=LW w (.slice aP ak aJ) (.slice aO aG aH) 25;obtain⟨eX,bK,bT⟩:=mY W0 aV.out;clear mY;rw[aB.out]at hlen;obtain⟨f,hf⟩:=ze (x.find s);have Gw:=x.uM s;rw[hf,aB.out]at Gw;have HT:Hid (x.targets s=if 0<=f then [f.toNat]else x.oH s):=by unfold aQ.targets;rw[hf];exact rfl
 have HF:=zh (lI (eX.out W0 zr) s);rw[hf]at HF;clear hf;obtain⟨k0,k1⟩:=aF.out W0 zr;rw[hW0]at k0 k1;go_enter Tryz.func146,Tryz.ntmps146;go_wp2_with fail;rw[<-hW0]at k0 k1⊢;clear hW0;refine HF.out.mono ?_;rintro e w1 ⟨rfl,O1⟩;have aI:=zh O1;clear O1 HF k0 k1;obtain⟨k0,k1⟩:=aF.out w1 aI.out;by_cases hf0:0<=f;·go_wp2_with fail;go_ret;refine⟨_,rfl,?_,aV.out.same (aI.out.alloc _)⟩;rw[HT.out,if_pos hf0];refine uX ?_ (fun i hi=>by simp at hi;omega);exact zF4
 have ZX:=zh (zo (eX.out w1 aI.out) zAg s);have hT2:x.targets s=x.oH s:=by rw[HT.out,if_neg hf0]
 rw[<-hT2]at ZX;clear hT2;go_wp2_with fail;refine ZX.out.mono ?_;rintro e w2 ⟨v,rfl,r1,r2,r3⟩;have HR:=zh (And.intro r1 r3);obtain⟨av,cv,rfl,-,-⟩:=bg r1;clear r1 r2 r3 ZX;go_wp2_with fail;go_ret;refine⟨_,rfl,uX HR.out.1 (fun i hi=>?_),aV.out.same (aI.out.same HR.out.2)⟩;have:=aQ.mD hi;rw[aB.out]at this;omega
theorem abw{lC:List Value}{x:aQ}(hx:fO B w lC x){Ba:List Value}{q:dD}(hq:mg B w Ba q)(hlen:x.packs.length<=1000000){g:Nat}{f:List Bool}(hin:UF w g x.packs.length f)(i:Nat):Calls Tryz.prog 96 #[.agg lC.toArray,.agg Ba.toArray,.slice (some ⟨g,0,none⟩) x.packs.length x.packs.length,.int .i64 (i:Int)] w fun e w'=>e= .returned (.bool (xP x q.names f i))/\O0 w w':=by
 obtain⟨aP,ak,aJ,aO,aG,aH,rfl,fF,fG,dP,dQ,aB,bJ,mY⟩:=open_rec hx;clear hx;try rw[aB.out]
 obtain⟨dw,aY,dA,rfl,oU,oV,bQ,E8⟩:=lM hq;clear hq;try rw[bQ.out]
 obtain⟨W0,hW0,aV,jK,aF⟩:=G9 w (.slice aP ak aJ) (.slice aO aG aH) (.slice dw aY dA) 25 28;obtain⟨eX,bK,bT⟩:=mY W0 aV.out;clear mY;obtain⟨zL,gu⟩:=E8 W0 aV.out;clear E8;rw[aB.out]at hlen hin;obtain⟨r,hr⟩:=ze (xP x q.names f i);rw[hr];have aZ:=zh hr;have HIn:Hid (∀W,O0 W0 W->UF W g ak f):=fun W hW=>hin.dK (aV.out.same hW);clear hr hin;obtain⟨k0,k1,k2⟩:=aF.out W0 zr;rw[hW0]at k0 k1 k2;go_enter Tryz.func96,Tryz.ntmps96;go_wp2_with fail;rw[<-hW0];clear hW0 k0 k1 k2;have fQ:Hid (O0 W0 W0):=Only.refl _ _;go_loopw [15] (fun vk iJ=>Hid (O0 W0 iJ)/\∃k:Nat,vk= .int .i64 k/\k<=aY/\Hid (L6 x (q.names.take k) i=false)) (fun v _=>aY-(RowKit.intOf v).toNat);case atStart=>exact⟨fQ,0,rfl,qE _,show Hid _ from rfl⟩
 case round=>
  obtain⟨iJ,rfl⟩:=zB wr;clear fQ;obtain⟨kU,k,rfl,hk,HZ⟩:=hrel;obtain⟨k0,k1,k2⟩:=aF.out iJ kU.out;by_cases ck:k<aY
  ·have iE:=zw (k+1);obtain⟨yy,hxy⟩:=zG q.roots k zBE;obtain⟨AY,mF,og,jo,oh,sO,sQ,sS,oq,kF,nP,yh,Ef,je⟩:=pU (gu.out W0 zr) hxy;first|subst oq| (simp only[qG,qO,and_true]at oq;obtain⟨rfl,rfl⟩:=oq)
   have jq:=zh je;have xR:=zh hxy;clear je hxy kF nP;obtain⟨bb,hbb⟩:=ze (decide (i∈x.targets yy.spec.name));have Rq:Hid (∀W,O0 W0 W->Calls Tryz.prog 146 #[.agg #[.slice aP ak aJ,.slice aO aG aH],.string yy.spec.name] W fun e w'=> ∃v,e= .returned v/\Ints w' v (intsOf (x.targets yy.spec.name))/\O0 W w'):=fun W hW=>wO (eX.out W hW) zAg _;have L9:Hid (∀W v,Ints W v (intsOf (x.targets yy.spec.name))->Calls Tryz.prog 39 #[v,.int .i64 (i:Int)] W fun e w'=>e= .returned (.bool bb)/\O0 W w'):=fun W v hv=>by rw[<-hbb,<-G5];exact MV hv _
   have D6:=zh hbb;clear hbb;go_wp2_with fail;clear k0 k1 k2;refine dn (n:=11) (E:=fun _=>false) (S:=fun W=>O0 W0 W) zk rfl (by exact(kU.out).drew) (fun hHeld=>?_);refine tK 0 ?_ (hy:=zAz);refine tW 1 ?_;refine tK 2 ?_ (hy:=zAz);refine tW 3 ?_;refine tW 4 ?_;refine tW 5 ?_;refine tW 6 ?_;refine tK 7 ?_ (hy:=zAz);refine tW 9 ?_;refine tO 8 fun K hK=>?_;(go_simp;refine(Rq.out _ hHeld).mono ?_;rintro e w5 ⟨vt,rfl,hI,o5⟩;try go_wp2_with fail);refine hK.out _ _ ?_ (fun hHeld=>?_);·exact zD8
   clear hK K;try simp only[Act.put,fA,fB,dW,dX,dY]
   refine tO 10 fun K hK=>?_;(go_simp;refine(L9.out _ _ hI).mono ?_;rintro e w6 ⟨rfl,o6⟩;try go_wp2_with fail);refine hK.out _ _ ?_ (fun hHeld=>?_);·exact zFQ
   clear hK K;try simp only[Act.put,fA,fD,fB,dW,dX,dY]
   refine bV zk ?_ _;have pz:=zh hHeld;clear hHeld Rq L9;obtain⟨k0,k1,k2⟩:=aF.out _ pz.out;cases bb with
   |true=>
    have hrt:r=true:=by rw[<-aZ.out];unfold xP;rw[Bool.or_eq_true];refine .inl (BP.2 ⟨yy.spec.name,?_,of_decide_eq_true D6.out⟩);unfold dD.names;exact yD.2 ⟨yy,qT xR.out,rfl⟩
    exact zHJ
   |false=>
    have HZ2:Hid (L6 x (q.names.take (k+1)) i=false):=by unfold dD.names;rw[zC (fun r:tN=>r.spec.name) xR.out,RV,D6.out];have:=HZ.out;unfold dD.names at this;rw[this];rfl
    go_wp2_with fail;go_roundw;case rel=>exact⟨pz,k+1,by first|rfl|go_num,by omega,HZ2⟩
    case measure=>simp[RowKit.intOf]<;>omega
  obtain rfl:aY=k:=by omega
  have HZa:Hid (L6 x q.names i=false):=by have:=HZ.out;rw[qI (by unfold dD.names;rw[qM];exact yG bQ.out)]at this;exact this
  have fQ:=kU;go_wp2_with fail;clear k0 k1 k2;go_loopw [33] (fun vk iJ=>Hid (O0 W0 iJ)/\∃k:Nat,vk= .int .i64 k/\k<=ak/\Hid ((List.range k).any (UA x f i)=false)) (fun v _=>ak-(RowKit.intOf v).toNat);case atStart=>exact⟨fQ,0,rfl,qE _,show Hid _ from rfl⟩
  case round=>
   obtain⟨iJ,rfl⟩:=zB wr;clear fQ;obtain⟨kU,k,rfl,hk,HZk⟩:=hrel;obtain⟨k0,k1,k2⟩:=aF.out iJ kU.out;by_cases ck:k<ak
   ·have iE:=zw (k+1);obtain⟨yz,hxz⟩:=zG x.packs k zAt;obtain⟨JD,vP,vW,vX,vY,wS,wU,wV,sU,sV,sW,sD,ru,sF,az5,nz5,cz5,az6,nz6,cz6,qc,wC,EP,ER,Eh,anU,anV,AX,NC,jM⟩:=jy (bK.out W0 zr) hxz;first|subst qc| (simp only[qG,qO,and_true]at qc;obtain⟨rfl,rfl⟩:=qc)
    have Nz4:=zh Eh;have jd:=zh jM;have vS:=zh hxz;clear jM hxz wC EP ER Eh anU anV;have Gx:Hid (∀W,O0 W0 W->aS 7 wz B W (.slice sD ru sF) yz.deps):=fun W ho=>(jd.out W ho).2.2.2.2.1;have HPz:Hid (x.pack k=yz):=by unfold aQ.pack;rw[qC,vS.out];exact rfl
    obtain⟨_,_,-,hb3,hb4⟩:=(Gx.out W0 zr).shape;rw[Nz4.out]at hb3;have gin:=(HIn.out iJ kU.out).cell ck;obtain⟨fk,hfk⟩:=ze (f.getD k false);rw[hfk]at gin;have HFk:=zh hfk;clear hfk;have hrz:=(jd.out iJ kU.out).1;have gz5:=hrz 5 _ rfl;clear hrz;cases fk with
    |false=>
     have HZ2:Hid ((List.range (k+1)).any (UA x f i)=false):=by rw[List.range_succ,List.any_append,HZk.out];simp only[List.any_cons,List.any_nil,Bool.or_false,Bool.false_or];unfold UA;rw[HFk.out,yQ];exact rfl
     go_wp2_with fail;go_roundw;case rel=>exact⟨kU,k+1,by first|rfl|go_num,by omega,HZ2⟩
     case measure=>simp[RowKit.intOf]<;>omega
    |true=>
     have fQ:=kU;go_wp2_with fail;clear gin gz5;clear k0 k1 k2;go_loopw [48] (fun vn Oi=>Hid (O0 W0 Oi)/\∃n:Nat,vn= .int .i64 n/\n<=ru/\Hid (L6 x ((yz.deps.map fun d=>d.on.name).take n) i=false)) (fun v _=>ru-(RowKit.intOf v).toNat);case atStart=>exact⟨fQ,0,rfl,qE _,show Hid _ from rfl⟩
     case round=>
      obtain⟨Oi,rfl⟩:=zB wr;clear fQ;obtain⟨Ik,n,rfl,hn,HZn⟩:=hrel;obtain⟨k0,k1,k2⟩:=aF.out Oi Ik.out;by_cases cn:n<ru
      ·have iE:=zw (n+1);obtain⟨yu,hxu⟩:=zG yz.deps n (by rw[Nz4.out];omega);obtain⟨X9,GI,au1,nu1,cu1,au2,nu2,cu2,au3,nu3,cu3,au4,nu4,cu4,heu,anX,anY,anZ,an0,aiZ,ase,asf,Oj⟩:=Aq (Gx.out W0 zr) hxu;first|subst heu| (simp only[qG,qO,and_true]at heu;obtain⟨rfl,rfl⟩:=heu)
       have HEu:=zh Oj;have HXu:=zh hxu;clear Oj hxu anX anY anZ an0;obtain⟨bb,hbb⟩:=ze (decide (i∈x.targets yu.on.name));have Rq:Hid (∀W,O0 W0 W->Calls Tryz.prog 146 #[.agg #[.slice (some ⟨JD,vP,none⟩) ak aJ,.slice aO aG aH],.string yu.on.name] W fun e w'=> ∃v,e= .returned v/\Ints w' v (intsOf (x.targets yu.on.name))/\O0 W w'):=fun W hW=>wO (eX.out W hW) zAg _;have L9:Hid (∀W v,Ints W v (intsOf (x.targets yu.on.name))->Calls Tryz.prog 39 #[v,.int .i64 (i:Int)] W fun e w'=>e= .returned (.bool bb)/\O0 W w'):=fun W v hv=>by rw[<-hbb,<-G5];exact MV hv _
       have D6:=zh hbb;clear hbb;go_wp2_with fail;clear k0 k1 k2;refine dn (n:=15) (E:=fun _=>false) (S:=fun W=>O0 W0 W) zk rfl (by exact(Ik.out).drew) (fun hHeld=>?_);refine tK 0 ?_ (hy:=zAY);refine tW 1 ?_;refine tK 2 ?_ (hy:=zAY);refine tW 3 ?_;refine tW 4 ?_;refine tW 5 ?_;refine tK 6 ?_ (hy:=zAY);refine tW 7 ?_;refine tW 8 ?_;refine tW 9 ?_;refine tW 10 ?_;refine tK 11 ?_ (hy:=zAY);refine tW 13 ?_;refine tO 12 fun K hK=>?_;(go_simp;refine(Rq.out _ hHeld).mono ?_;rintro e w5 ⟨vt,rfl,hI,o5⟩;try go_wp2_with fail);refine hK.out _ _ ?_ (fun hHeld=>?_);·exact zD8
       clear hK K;try simp only[Act.put,fA,fB,dW,dX,dY]
       refine tO 14 fun K hK=>?_;(go_simp;refine(L9.out _ _ hI).mono ?_;rintro e w6 ⟨rfl,o6⟩;try go_wp2_with fail);refine hK.out _ _ ?_ (fun hHeld=>?_);·exact zFQ
       clear hK K;try simp only[Act.put,fA,fD,fB,dW,dX,dY]
       refine bV zk ?_ _;have pz:=zh hHeld;clear hHeld Rq L9;obtain⟨k0,k1,k2⟩:=aF.out _ pz.out;cases bb with
       |true=>
        have hrt:r=true:=by rw[<-aZ.out];unfold xP;rw[Bool.or_eq_true];refine .inr (yU.2 ⟨k,yI.2 (by rw[aB.out];exact ck),?_⟩);unfold UA;rw[HFk.out,HPz.out];refine BP.2 ⟨yu.on.name,yD.2 ⟨yu,qT HXu.out,rfl⟩,of_decide_eq_true D6.out⟩
        exact zHJ
       |false=>
        have HZ4:Hid (L6 x ((yz.deps.map fun d=>d.on.name).take (n+1)) i=false):=by rw[zC (fun d:Aj=>d.on.name) HXu.out,RV,D6.out,HZn.out];rfl
        go_wp2_with fail;go_roundw;case rel=>exact⟨pz,n+1,by first|rfl|go_num,by omega,HZ4⟩
        case measure=>simp[RowKit.intOf]<;>omega
      obtain rfl:ru=n:=by omega
      have HZ2:Hid ((List.range (k+1)).any (UA x f i)=false):=by rw[List.range_succ,List.any_append,HZk.out];simp only[List.any_cons,List.any_nil,Bool.or_false,Bool.false_or];unfold UA;rw[HPz.out];have:=HZn.out;rw[qI (by rw[qM];exact yG Nz4.out)]at this;rw[this,Bool.and_false];exact rfl
      go_wp2_with fail;go_roundw;case rel=>exact⟨Ik,k+1,by first|rfl|go_num,by omega,HZ2⟩
      case measure=>simp[RowKit.intOf]<;>omega
   obtain rfl:ak=k:=by omega
   have hrf:r=false:=by rw[<-aZ.out];unfold xP;rw[HZa.out,aB.out,HZk.out];rfl
   subst hrf;clear aZ;go_wp2_with fail;go_ret;exact⟨rfl,aV.out.same kU.out⟩
end
end Go.Proofs.YtdmmebjjojimiaaGreatDoor
