/- Vr1 Vr2 Vr3 Vr4, in one text.; What may be needed, by rounds: the document's way, plain: it ends with what is reached. -/
import Derived.Test.YtdmmebjjojimiaaGreatDoorG07
set_option maxRecDepth 100000
set_option maxHeartbeats 8000000
set_option linter.all false
namespace Go.Proofs
theorem zE6{p:Prop}(h:p:=by
 clear hor
 go_wp2_with fail
 refine(HAa.out _ i zBk gV.out).mono ?_
 rintro e w5 ⟨t1,rfl,k1,O5⟩
 have FI:=zh (gV.out.same O5)
 clear O5
 go_wp2_with fail
 refine(HAb.out _ i zBk FI.out).mono ?_
 rintro e w6 ⟨t2,rfl,k2,O6⟩
 have Xw:=zh (FI.out.same O6)
 have HB1:=zh (yj (w:=w6) t1 t2 k1 k2)
 clear O6 k1 k2
 go_wp2_with fail
 refine HB1.out.mono ?_
 rintro e w7 ⟨b7,rfl,O7⟩
 have yx:=zh (Xw.out.same O7)
 clear O7 HB1
 cases b7 with
 |true=>
  go_wp2_with fail
  go_ret
  exact bD.mk _ rfl (xw.out.same yx.out)
 |false=>
  go_wp2_with fail
  refine(HAb.out _ i zBk yx.out).mono ?_
  rintro e w8 ⟨t3,rfl,k3,O8⟩
  have Iu:=zh (yx.out.same O8)
  clear O8
  go_wp2_with fail
  refine(HAa.out _ i zBk Iu.out).mono ?_
  rintro e w9 ⟨t4,rfl,k4,O9⟩
  have rY:=zh (Iu.out.same O9)
  have HB2:=zh (yj (w:=w9) t3 t4 k3 k4)
  clear O9 k3 k4
  go_wp2_with fail
  refine HB2.out.mono ?_
  rintro e w10 ⟨b10,rfl,O10⟩
  have RD:=zh (rY.out.same O10)
  clear O10 HB2
  cases b10 with
  |true=>
   go_wp2_with fail
   go_ret
   exact bD.mk _ rfl (xw.out.same RD.out)
  |false=>
   go_wp2_with fail
   go_roundw
   case rel=>exact⟨RD,i+1,by first|rfl|go_num,by omega⟩
   case measure=>simp[RowKit.intOf]<;>omega):p:=h
theorem zCz{p:Prop}(h:p:=by
 go_wp2_with fail
 go_ret
 exact bD.mk _ rfl (bW.out.same mO.out)):p:=h
theorem zC0{p:Prop}(h:p:=by
 go_wp2_with fail
 go_ret
 exact bD.mk _ rfl (bW.out.same fK.out)):p:=h
theorem zDk{p:Prop}(h:p:=by
 go_wp2_with fail
 go_roundw
 case rel=>exact⟨fK,i+1,by first|rfl|go_num,by omega⟩
 case measure=>simp[RowKit.intOf]<;>omega):p:=h
theorem zDx{p:Prop}(h:p:=by
 go_wp2_with fail
 go_ret
 exact bD.mk _ rfl mO.out):p:=h
theorem zD7{p:Prop}(h:p:=by
 rcases qW.1 ht with h|h
 ·exact Hk.out t h
 ·obtain rfl:=yJ.1 h
  exact Px (by unfold okS maxLen;omega) _ _):p:=h
theorem zEC{p:Prop}(h:p:=by
 clear hs
 go_enter Tryz.func131,Tryz.ntmps131
 go_wp2_with fail
 go_ret
 exact dQ.mk _ rfl (fun h=>by cases h) zr):p:=h
theorem zEY{p:Prop}(h:p:=by
 go_wp2_with fail
 go_ret
 exact bD.mk _ rfl fK.out):p:=h
end Go.Proofs
namespace Go.Proofs.YtdmmebjjojimiaaGreatDoor
open Go.RowKit
section
variable {w w':World} {B:Nat}
theorem AY(s:Str)(hs:okS s):Calls Tryz.prog 289 #[.string s] w (fun e w'=>bD w w' e):=by have hs2:s.size<=9223372036854775807:=zBe;clear hs;go_enter Tryz.func289,Tryz.ntmps289;go_wp2_with fail;exact zCI
def wE(w w':World)(v:Value):Prop:= ∃l:List Str,w'.ownsRow 0 9 1 v l.length (fD l)/\(∀s∈l,okS s)/\(∀k,v.ownBlock=some k->w.heap.size<=k)/\l.length<=1000000000
theorem wE.aN{w0:World}{v:Value}(h:wE w0 w v)(ho:O0 w w'):wE w0 w' v:=by obtain⟨l,h1,h2,h3,h4⟩:=h;exact⟨l,aI h1 ho (fun _ _ f=>f),h2,h3,h4⟩
theorem wE.row{w0:World}{v:Value}(h:wE w0 w v):∃l:List Str,aQ 1 fM w.heap.size w v l/\l.length<=1000000000:=by obtain⟨l,h1,h2,h3,h4⟩:=h;exact⟨l,vZ rfl h1 h2,h4⟩
theorem ML(s:Str)(hs:s.size<=40)(c:Int):Calls Tryz.prog 58 #[.string s,.int .u8 c] w (fun e w'=> ∃v,e= .returned v/\wE w w' v/\O0 w w'):=by
 go_enter Tryz.func58,Tryz.ntmps58;go_wp2_with fail;go_loopw [5,6,7] (fun vo vf vi wr=>Hid (O0 w wr)/\∃(f i:Nat) (l:List Str),vf= .int .i64 f/\vi= .int .i64 i/\f<=i/\i<=s.size+1/\l.length<=i/\Hid (wr.ownsRow 0 9 1 vo l.length (fD l))/\Hid (∀s∈l,okS s)/\Hid (∀k,vo.ownBlock=some k->w.heap.size<=k)) (fun _ _ v _=>s.size+1-(RowKit.intOf v).toNat);case atStart=>exact⟨show Hid _ from zr.alloc _,0,0,[],rfl,rfl,qH _,qE _,qH _,show Hid _ from BQ w,show Hid _ from fun s hs=>(by cases hs),show Hid _ from fun k hk=>(by simp[Value.ownBlock]at hk;omega)⟩
 case round=>
  obtain⟨dG,rfl⟩:=zB wr;obtain⟨HO,f,i,l,rfl,rfl,hfi,hi,hl,HV,Hk,HB⟩:=hrel;obtain⟨n,hn⟩:=ze l.length;rw[hn]at HV hl;obtain⟨au,cu,rfl,-,-⟩:=aC HV.out;have HN:=zh hn;clear hn;by_cases ci:i<=s.size
  ·have jh:=zw (i+1);have hle:(i:Int)<=(s.size:Int):=zBk;have hsl:∀W,(Instr.slice 9 (.string s) (some (.int .i64 (f:Int))) (some (.int .i64 (i:Int))) none).run Tryz.prog W= .ok (.string (s.extract f i)) W:=fun W=>by rw[Go.run_slice_string_if W 9 s .i64 .i64 f i Tryz.underlying9,if_pos zAC,if_pos zBk];simp
   have app:∀(P:Prop),P->P:=fun _ h=>h;by_cases ce:i=s.size
   ·subst ce;go_wp2_with (at_builtin;go_must (refine tC (u:=.string (s.extract f s.size)) nH rfl (.tmp 26) (.tmp 31) rfl rfl rfl (cell_new0 _ _ _) rfl (aI HV.out ((Only.refl (fun _=>False) _).alloc _) (fun _ _ f=>f)) zBk zBl ?_));intro v' w2 r1 r2 r3;have Ae:Hid (w2.ownsRow 0 9 1 v' (l++[s.extract f s.size]).length (fD (l++[s.extract f s.size]))):=by rw[qK,HN.out];simpa[fD,Hid]using r1
    have fK:=zh (((HO.out.alloc _).trans r2 fun k hk=>.inr (HB.out k hk)));have Hk2:Hid (∀t∈l++[s.extract f s.size],okS t):=fun t ht=>by exact zD7
    have HB2:Hid (∀k,v'.ownBlock=some k->w.heap.size<=k):=by
     intro k hk;obtain⟨g,cap',rfl,-,-,h|h⟩:=r3;·exact zDD
     simp[Value.ownBlock]at hk;subst hk;have:=HO.out.size;simp at h;omega
    obtain⟨g,cap',rfl,-,-,-⟩:=r3;clear r1 r2;go_wp2_with fail;go_roundw;case rel=>exact⟨fK,s.size+1,s.size+1,l++[s.extract f s.size],by first|rfl|go_num,by first|rfl|go_num,qH _,qH _,by rw[qK,HN.out];simp;omega,Ae,Hk2,HB2⟩
    case measure=>simp[RowKit.intOf]<;>omega
   have hlt:i<s.size:=by omega
   have hne:((i:Int)==(s.size:Int))=false:=by rw[yC];omega
   obtain⟨b,hb⟩:∃b:UInt8,s[i]=b:=⟨_,rfl⟩;by_cases cb:((b.toNat:Int)=c)
   ·have cb2:(((b.toNat:Nat):Int)==c)=true:=by rw[cb];simp
    go_wp2_with (at_builtin;go_must (refine tC (u:=.string (s.extract f i)) nH rfl (.tmp 26) (.tmp 31) rfl rfl rfl (cell_new0 _ _ _) rfl (aI HV.out ((Only.refl (fun _=>False) _).alloc _) (fun _ _ f=>f)) zBk zBl ?_));intro v' w2 r1 r2 r3;have Ae:Hid (w2.ownsRow 0 9 1 v' (l++[s.extract f i]).length (fD (l++[s.extract f i]))):=by rw[qK,HN.out];simpa[fD,Hid]using r1
    have fK:=zh (((HO.out.alloc _).trans r2 fun k hk=>.inr (HB.out k hk)));have Hk2:Hid (∀t∈l++[s.extract f i],okS t):=fun t ht=>by exact zD7
    have HB2:Hid (∀k,v'.ownBlock=some k->w.heap.size<=k):=by
     intro k hk;obtain⟨g,cap',rfl,-,-,h|h⟩:=r3;·exact zDD
     simp[Value.ownBlock]at hk;subst hk;have:=HO.out.size;simp at h;omega
    obtain⟨g,cap',rfl,-,-,-⟩:=r3;clear r1 r2;go_wp2_with fail;go_roundw;case rel=>exact⟨fK,i+1,i+1,l++[s.extract f i],by first|rfl|go_num,by first|rfl|go_num,qH _,by omega,by rw[qK,HN.out];simp;omega,Ae,Hk2,HB2⟩
    case measure=>simp[RowKit.intOf]<;>omega
   have cb2:(((b.toNat:Nat):Int)==c)=false:=by rw[yC];exact cb
   have Ae:Hid (dG.ownsRow 0 9 1 (.slice au n cu) l.length (fD l)):=by rw[HN.out];exact HV.out
   go_wp2_with fail;go_roundw;case rel=>exact⟨HO,f,i+1,l,by first|rfl|go_num,by first|rfl|go_num,by omega,by omega,by rw[HN.out];omega,Ae,Hk,HB⟩
   case measure=>simp[RowKit.intOf]<;>omega
  have avE:¬((i:Int)<=(s.size:Int)):=by omega
  go_wp2_with fail;go_ret;exact⟨_,rfl,⟨l,by rw[HN.out];exact HV.out,Hk.out,HB.out,by rw[HN.out];omega⟩,HO.out⟩
end
section
variable {w w':World} {B:Nat}
def dQ(P:Prop)(w w':World)(e:Ending):Prop:= ∃b,e= .returned (.bool b)/\(b=true->P)/\O0 w w'
theorem dQ.mk{P:Prop}(b:Bool){w w':World}{e:Ending}(he:e= .returned (.bool b))(h:b=true->P)(ho:O0 w w'):dQ P w w' e:=⟨b,he,h,ho⟩
theorem Xy(s:Str)(hs:okS s):Calls Tryz.prog 210 #[.string s] w (fun e w'=>dQ (0<s.size) w w' e):=by
 by_cases h0:s.size=0
 ·obtain rfl:=Dz h0;clear hs h0;go_enter Tryz.func210,Tryz.ntmps210;go_wp2_with fail;go_loopw [3] (fun vi wr=>QK w 0 vi wr) (fun v _=>0-(RowKit.intOf v).toNat);case atStart=>exact⟨show Hid _ from Only.refl _ _,0,rfl,qE _⟩
  case round=>
   obtain⟨HO,i,rfl,hi⟩:=hrel;obtain rfl:i=0:=by omega
   go_wp2_with fail;go_ret;exact dQ.mk _ rfl (fun h=>by cases h) HO.out
 exact(xZ s hs).mono fun e w' ⟨b,he,ho⟩=>⟨b,he,fun _=>by omega,ho⟩
theorem aaf(s:Str)(hs:okS s):Calls Tryz.prog 209 #[.string s] w (fun e w'=>bD w w' e):=by
 have HL:=zh (AY (w:=w) s hs);have HD:=fun W=>zh (Xy (w:=W) s hs);clear hs;have HDD:=zh HD;clear HD;go_enter Tryz.func209,Tryz.ntmps209;go_wp2_with fail;refine HL.out.mono ?_;rintro e w1 ⟨b1,rfl,O1⟩;have bM:=zh O1;clear O1 HL;cases b1 with
 |true=>exact zDN
 |false=>
  go_wp2_with fail;refine(HDD.out _).out.mono ?_;rintro e w2 ⟨b2,rfl,hb,O2⟩;have fK:=zh (bM.out.same O2);clear O2 HDD;cases b2 with
  |false=>clear hb;exact zEY
  |true=>have hpos:=hb rfl;clear hb;have hp2:(0:Int)<(s.size:Int):=zBk;go_wp2_with fail;all_goals (go_ret;exact bD.mk _ rfl fK.out)
theorem DT(s:Str)(hs:okS s):Calls Tryz.prog 131 #[.string s] w (fun e w'=>dQ (s.size<=40) w w' e):=by
 by_cases h0:s.size=0;·obtain rfl:=Dz h0;exact zEC
 have hne:=Zv (s:=s) zBk;have hemp:s.toList.isEmpty=false:=by cases h:s.toList with|nil=>exact absurd h hne|cons a b=>rfl
 clear hne;by_cases h40:40<s.size
 ·have h41:(40:Int)<(s.size:Int):=by omega
  exact zEC
 have h41:s.size<=40:=by omega
 have HC:=zh (ML (w:=w) s h41 46);clear hs;go_enter Tryz.func131,Tryz.ntmps131;go_wp2_with fail;refine HC.out.mono ?_;rintro e w1 ⟨v,rfl,hT,O1⟩;obtain⟨l,hR,hln⟩:=hT.row;have bM:=zh O1;obtain⟨ao,cap,rfl,-,-⟩:=hR.shape;obtain⟨n,hn⟩:=ze l.length;rw[hn]at hR hln⊢;have HN:=zh hn;have HR:Hid (∀W,O0 w1 W->aQ 1 fM w1.heap.size W (.slice ao n cap) l):=fun W ho=>hR.keep fM.keep (Kp.iI ho);have kK:Hid (O0 w1 w1):=Only.refl _ _;clear O1 HC hn hT hR;go_wp2_with fail;go_loopw [16] (fun vi dG=>Hid (O0 w1 dG)/\∃i:Nat,vi= .int .i64 i/\i<=n) (fun v _=>n-(RowKit.intOf v).toNat);case atStart=>exact⟨kK,0,rfl,qE _⟩
 case round=>
  obtain⟨dG,rfl⟩:=zB wr;clear kK;obtain⟨gV,i,rfl,hi⟩:=hrel;by_cases ci:i<n
  ·have jh:=zw (i+1);obtain⟨y,hx⟩:=zG l i zAl;obtain⟨b,off,he,hok,hE⟩:=uy (HR.out dG gV.out) hx;subst he;have hr:=(hE dG zr).1;have g0:=hr 0 _ rfl;rw[qF,yH]at g0;have HP:=zh (aaf (w:=dG) y hok);clear hr hE hx hok;go_wp2_with fail;refine HP.out.mono ?_;rintro e w2 ⟨b2,rfl,O2⟩;have fK:=zh (gV.out.same O2);clear O2 HP g0;cases b2 with
   |false=>go_wp2_with fail;go_ret;exact dQ.mk _ rfl (fun h=>by cases h) (bM.out.same fK.out)
   |true=>exact zDk
  obtain rfl:n=i:=by omega
  go_wp2_with fail;go_ret;exact dQ.mk _ rfl (fun _=>h41) (bM.out.same gV.out)
theorem Y0{v:Value}{l:List Str}(h:aQ 1 fM B w v l)(i:Nat)(hi:i<=1000000000):Calls Tryz.prog 291 #[v,.int .i64 (i:Int)] w (fun e w'=> ∃t,e= .returned (.string t)/\okS t/\O0 w w'):=by
 obtain⟨ao,cap,rfl,g1,g2⟩:=h.shape;obtain⟨n,hn⟩:=ze l.length;by_cases ci:i<l.length;·obtain⟨y,hx⟩:=zG l i ci;obtain⟨b,off,he,hok,hE⟩:=uy h hx;subst he;have hr:=(hE w zr).1;have g0:=hr 0 _ rfl;rw[qF,yH]at g0;rw[hn]at ci g1⊢;have HK:=zh hok;clear hr hE hx hok h hn;go_enter Tryz.func291,Tryz.ntmps291;go_wp2_with fail;go_ret;exact⟨_,rfl,HK.out,Only.refl _ _⟩
 rw[hn]at ci g1⊢;clear h hn;go_enter Tryz.func291,Tryz.ntmps291;go_wp2_with fail;go_ret;exact⟨_,rfl,Zu,Only.refl _ _⟩
theorem yj(a b:Str)(ha:okS a)(hb:okS b):Calls Tryz.prog 290 #[.string a,.string b] w (fun e w'=>bD w w' e):=by
 have hbd:=jZ a b;obtain⟨ee,hee⟩:∃e,decide (a=b)=e:=⟨_,rfl⟩;rw[hee]at hbd;clear hee;obtain⟨ea,hea⟩:=ze a.toList.isEmpty;obtain⟨eb,heb⟩:=ze b.toList.isEmpty;have HLa:Hid (∀W,Calls Tryz.prog 289 #[.string a] W (fun e w'=>bD W w' e)):=fun W=>AY a ha;have HLb:Hid (∀W,Calls Tryz.prog 289 #[.string b] W (fun e w'=>bD W w' e)):=fun W=>AY b hb;have HDa:Hid (∀W,Calls Tryz.prog 210 #[.string a] W (fun e w'=>bD W w' e)):=fun W=>xZ a ha;have HDb:Hid (∀W,Calls Tryz.prog 210 #[.string b] W (fun e w'=>bD W w' e)):=fun W=>xZ b hb;clear ha hb;go_enter Tryz.func290,Tryz.ntmps290;cases ee with
 |true=>exact zEk
 |false=>
  cases ea with
  |true=>go_wp2_with fail;refine(HDb.out _).mono ?_;rintro e w1 ⟨b1,rfl,O1⟩;have bM:=zh O1;clear O1;exact zDN
  |false=>
   cases eb with
   |true=>go_wp2_with fail;refine(HLa.out _).mono ?_;rintro e w1 ⟨b1,rfl,O1⟩;have bM:=zh O1;clear O1;exact zDN
   |false=>
    go_wp2_with fail;refine(HLa.out _).mono ?_;rintro e w1 ⟨b1,rfl,O1⟩;have bM:=zh O1;clear O1;go_wp2_with fail;refine(HLb.out _).mono ?_;rintro e w2 ⟨b2,rfl,O2⟩;have fK:=zh (bM.out.same O2);clear O2 bM;obtain⟨nn,hnn⟩:∃n:Bool,(b1 != b2)=n:=⟨_,rfl⟩;cases b1<;>cases b2;case false.true|true.false=>clear hnn;go_wp2_with fail;refine(HLa.out _).mono ?_;rintro e w3 ⟨b3,rfl,O3⟩;have mO:=zh (fK.out.same O3);clear O3 fK;exact zDx
    case false.false|true.true=>
     clear hnn
     go_wp2_with fail
     refine(HDa.out _).mono ?_
     rintro e w3 ⟨b3,rfl,O3⟩
     have mO:=zh (fK.out.same O3)
     clear O3 fK
     cases b3 with
     |false=>
      exact zDx
     |true=>
      by_cases hl:a.size=b.size
      ·have hl2:((a.size:Int)==(b.size:Int))=true:=by rw[hl];simp
       go_wp2_with fail
       all_goals (go_ret;exact bD.mk _ rfl mO.out)
      ·have hl2:((a.size:Int)==(b.size:Int))=false:=by rw[yC];omega
       go_wp2_with fail
       all_goals (go_ret;exact bD.mk _ rfl mO.out)
end
section
variable {w w':World} {B:Nat}
def afi(w1:World)(n:Nat)(v:Value)(wr:World):Prop:=Hid (O0 w1 wr)/\∃i:Nat,v= .int .i64 i/\i<=n
theorem Ji(a b:Str)(ha:okS a)(hb:okS b):Calls Tryz.prog 211 #[.string a,.string b] w (fun e w'=>bD w w' e):=by
 have YE:Hid (∀W,Calls Tryz.prog 131 #[.string a] W (fun e w'=>dQ (a.size<=40) W w' e)):=fun W=>DT a ha;have HMb:Hid (∀W,Calls Tryz.prog 131 #[.string b] W (fun e w'=>dQ (b.size<=40) W w' e)):=fun W=>DT b hb;clear ha hb;go_enter Tryz.func211,Tryz.ntmps211;go_wp2_with fail;refine(YE.out _).mono ?_;rintro e w1 ⟨b1,rfl,h1,O1⟩;have bM:=zh O1;clear O1;cases b1 with
 |false=>
  clear h1;go_wp2_with fail;refine(YE.out _).mono ?_;rintro e w2 ⟨b2,rfl,-,O2⟩;have fK:=zh (bM.out.same O2);clear O2;cases b2 with
  |true=>exact zEY
  |false=>go_wp2_with fail;refine(HMb.out _).mono ?_;rintro e w3 ⟨b3,rfl,-,O3⟩;have mO:=zh (fK.out.same O3);clear O3;exact zDx
 |true=>
  have apJ:=h1 rfl;clear h1;go_wp2_with fail;refine(HMb.out _).mono ?_;rintro e w2 ⟨b2,rfl,h2,O2⟩;have fK:=zh (bM.out.same O2);clear O2;cases b2 with
  |false=>
   clear h2;go_wp2_with fail;refine(YE.out _).mono ?_;rintro e w3 ⟨b3,rfl,-,O3⟩;have mO:=zh (fK.out.same O3);clear O3;cases b3 with
   |true=>exact zDx
   |false=>go_wp2_with fail;refine(HMb.out _).mono ?_;rintro e w4 ⟨b4,rfl,-,O4⟩;have xw:=zh (mO.out.same O4);clear O4;go_wp2_with fail;go_ret;exact bD.mk _ rfl xw.out
  |true=>
   have apK:=h2 rfl;clear h2 YE HMb;have HCa:=zh (ML (w:=w2) a apJ 46);go_wp2_with fail;refine HCa.out.mono ?_;rintro e w3 ⟨va,rfl,hTa,O3⟩;have HCb:=zh (ML (w:=w3) b apK 46);obtain⟨la,hRa,hla⟩:=hTa.row;have mO:=zh (fK.out.same O3);obtain⟨aa,ca,rfl,-,-⟩:=hRa.shape;obtain⟨na,hna⟩:=ze la.length;rw[hna]at hRa hla⊢;clear hTa O3 hna HCa;go_wp2_with fail;refine HCb.out.mono ?_;rintro e w4 ⟨vb,rfl,hTb,O4⟩;obtain⟨lb,hRb,hlb⟩:=hTb.row;have xw:=zh (mO.out.same O4);obtain⟨ab,cb,rfl,-,-⟩:=hRb.shape;obtain⟨nb,hnb⟩:=ze lb.length;rw[hnb]at hRb hlb⊢;have HAa:Hid (∀W (i:Nat),i<=1000000000->O0 w4 W->Calls Tryz.prog 291 #[.slice aa na ca,.int .i64 (i:Int)] W (fun e w'=> ∃t,e= .returned (.string t)/\okS t/\O0 W w')):=fun W i hi hW=>Y0 (hRa.keep fM.keep (Kp.iI (O4.same hW))) i hi;have HAb:Hid (∀W (i:Nat),i<=1000000000->O0 w4 W->Calls Tryz.prog 291 #[.slice ab nb cb,.int .i64 (i:Int)] W (fun e w'=> ∃t,e= .returned (.string t)/\okS t/\O0 W w')):=fun W i hi hW=>Y0 (hRb.keep fM.keep (Kp.iI hW)) i hi;obtain⟨m,hm⟩:=ze (max na nb);have hm1:m<=1000000000:=zBk;have HM:=zh hm;have kK:Hid (O0 w4 w4):=Only.refl _ _;clear hTb O4 hnb HCb hRa hRb hm hla hlb;go_wp2_with fail;go_loopw [7] (fun vi dG=>afi w4 m vi dG) (fun v _=>m-(RowKit.intOf v).toNat);case atStart=>exact⟨kK,0,rfl,qE _⟩
   case round=>
    obtain⟨dG,rfl⟩:=zB wr;clear kK;obtain⟨gV,i,rfl,hi⟩:=hrel;have jh:=zw (i+1);by_cases ci:i<m
    ·have hor:i<na\/i<nb:=by have:=HM.out;omega
     have fin:True:=trivial;by_cases ca1:i<na;·exact zE6
     have cb1:i<nb:=by omega
     exact zE6
    have c1:¬i<na:=by have:=HM.out;omega
    have c2:¬i<nb:=by have:=HM.out;omega
    go_wp2_with fail;go_ret;exact bD.mk _ rfl (xw.out.same gV.out)
theorem MN(s:Str)(hs:okS s):Calls Tryz.prog 378 #[.string s] w (fun e w'=>bD w w' e):=by
 have HM:=zh (DT (w:=w) s hs);obtain⟨es,hes⟩:=ze s.toList.isEmpty;clear hs;go_enter Tryz.func378,Tryz.ntmps378;cases es with
 |true=>exact zEk
 |false=>go_wp2_with fail;refine HM.out.mono ?_;rintro e w1 ⟨b1,rfl,-,O1⟩;have bM:=zh O1;clear O1 HM;exact zDN
end
section
variable {w w':World} {B:Nat}
theorem U1{W0:World}{lo hi:Str}(h:W0=w.alloc (.cells #[.string lo,.string hi] 128)):∀W,O0 W0 W->W.cell? ⟨w.heap.size,0,none⟩=some (.string lo)/\W.cell? ⟨w.heap.size,1,none⟩=some (.string hi):=fun W ho=>by
 have b0:W0.heap[w.heap.size]? =some (.cells #[.string lo,.string hi] 128):=by rw[h];exact qL w _
 have b1:=aF b0 ho (fun f=>f)
 exact⟨by rw[ah b1];rfl,by rw[ah b1];rfl⟩
theorem aag(lo hi:Str)(hl:okS lo)(hh:okS hi):Calls Tryz.prog 345 #[.agg #[.string lo,.string hi]] w (fun e w'=>bD w w' e):=by
 obtain⟨W0,hW0⟩:=zB (w.alloc (.cells #[.string lo,.string hi] 128));have bW:Hid (O0 w W0):=by rw[hW0];exact zr.alloc _
 have aG:=zh (U1 hW0);have HB1:Hid (∀W,Calls Tryz.prog 378 #[.string lo] W (fun e w'=>bD W w' e)):=fun W=>MN lo hl;have HB2:Hid (∀W,Calls Tryz.prog 378 #[.string hi] W (fun e w'=>bD W w' e)):=fun W=>MN hi hh;have HLs:Hid (∀W,Calls Tryz.prog 211 #[.string hi,.string lo] W (fun e w'=>bD W w' e)):=fun W=>Ji hi lo hh hl;obtain⟨el,hel⟩:=ze lo.toList.isEmpty;obtain⟨eh,heh⟩:=ze hi.toList.isEmpty;clear hl hh;go_enter Tryz.func345,Tryz.ntmps345;go_wp2_with fail;rw[<-hW0];clear hW0;refine(HB1.out _).mono ?_;rintro e w1 ⟨b1,rfl,O1⟩;have bM:=zh O1;clear O1;obtain⟨k0,k1⟩:=aG.out w1 bM.out;cases b1 with
 |false=>go_wp2_with fail;go_ret;exact bD.mk _ rfl (bW.out.same bM.out)
 |true=>
  go_wp2_with fail;refine(HB2.out _).mono ?_;rintro e w2 ⟨b2,rfl,O2⟩;have fK:=zh (bM.out.same O2);clear O2 k0 k1;obtain⟨k0,k1⟩:=aG.out w2 fK.out;cases b2 with
  |false=>exact zC0
  |true=>
   cases el with
   |true=>exact zC0
   |false=>
    cases eh with
    |true=>exact zC0
    |false=>
     go_wp2_with fail;refine(HLs.out _).mono ?_;rintro e w3 ⟨b3,rfl,O3⟩;have mO:=zh (fK.out.same O3);clear O3 k0 k1;cases b3 with
     |false=>exact zCz
     |true=>exact zCz
theorem aah(lo hi v:Str)(hl:okS lo)(hh:okS hi)(hv:okS v):Calls Tryz.prog 292 #[.agg #[.string lo,.string hi],.string v] w (fun e w'=>bD w w' e):=by
 obtain⟨W0,hW0⟩:=zB (w.alloc (.cells #[.string lo,.string hi] 128));have bW:Hid (O0 w W0):=by rw[hW0];exact zr.alloc _
 have aG:=zh (U1 hW0);have HMs:Hid (∀W,Calls Tryz.prog 345 #[.agg #[.string lo,.string hi]] W (fun e w'=>bD W w' e)):=fun W=>aag lo hi hl hh;have HMv:Hid (∀W,Calls Tryz.prog 131 #[.string v] W (fun e w'=>bD W w' e)):=fun W=>(DT v hv).mono fun e w' ⟨b,he,_,ho⟩=>⟨b,he,ho⟩;have HL1:Hid (∀W,Calls Tryz.prog 211 #[.string v,.string lo] W (fun e w'=>bD W w' e)):=fun W=>Ji v lo hv hl;have HL2:Hid (∀W,Calls Tryz.prog 211 #[.string hi,.string v] W (fun e w'=>bD W w' e)):=fun W=>Ji hi v hh hv;obtain⟨el,hel⟩:=ze lo.toList.isEmpty;obtain⟨eh,heh⟩:=ze hi.toList.isEmpty;clear hl hh hv;have k0:=(aG.out W0 zr).1;have k1:=(aG.out W0 zr).2;rw[hW0]at k0 k1;go_enter Tryz.func292,Tryz.ntmps292;go_wp2_with fail;rw[<-hW0];clear hW0 k0 k1;refine(HMs.out _).mono ?_;rintro e w1 ⟨b1,rfl,O1⟩;have bM:=zh O1;clear O1;cases b1 with
 |false=>go_wp2_with fail;go_ret;exact bD.mk _ rfl (bW.out.same bM.out)
 |true=>
  go_wp2_with fail;refine(HMv.out _).mono ?_;rintro e w2 ⟨b2,rfl,O2⟩;have fK:=zh (bM.out.same O2);clear O2;cases b2 with
  |false=>exact zC0
  |true=>
   obtain⟨k0,k1⟩:=aG.out w2 fK.out;cases el with
   |true=>
    cases eh with
    |true=>exact zC0
    |false=>go_wp2_with fail;refine(HL2.out _).mono ?_;rintro e w3 ⟨b3,rfl,O3⟩;have mO:=zh (fK.out.same O3);clear O3 k0 k1;exact zCz
   |false=>
    go_wp2_with fail;refine(HL1.out _).mono ?_;rintro e w3 ⟨b3,rfl,O3⟩;have mO:=zh (fK.out.same O3);clear O3 k0 k1;obtain⟨k0,k1⟩:=aG.out w3 mO.out;cases b3 with
    |true=>exact zCz
    |false=>
     cases eh with
     |true=>exact zCz
     |false=>go_wp2_with fail;refine(HL2.out _).mono ?_;rintro e w4 ⟨b4,rfl,O4⟩;have xw:=zh (mO.out.same O4);clear O4 k0 k1;go_wp2_with fail;go_ret;exact bD.mk _ rfl (bW.out.same xw.out)
theorem Xz{vl:Value}{l:List jY}(h:aQ 2 gq B w vl l)(v:Str)(hv:okS v):Calls Tryz.prog 213 #[vl,.string v] w (fun e w'=>bD w w' e):=by
 obtain⟨ao,cap,rfl,g1,g2⟩:=h.shape;obtain⟨n,hn⟩:=ze l.length;rw[hn]at h g1⊢;have HN:=zh hn;have HR:Hid (∀W,O0 w W->aQ 2 gq B W (.slice ao n cap) l):=fun W ho=>h.keep gq.keep (Kp.iI ho);have HV:=zh hv;clear hn h hv;go_enter Tryz.func213,Tryz.ntmps213;go_wp2_with fail;go_loopw [8] (fun vi dG=>Hid (O0 w dG)/\∃i:Nat,vi= .int .i64 i/\i<=n) (fun v _=>n-(RowKit.intOf v).toNat);case atStart=>exact⟨show Hid _ from Only.refl _ _,0,rfl,qE _⟩
 case round=>
  obtain⟨dG,rfl⟩:=zB wr;obtain⟨gV,i,rfl,hi⟩:=hrel;by_cases ci:i<n
  ·have jh:=zw (i+1);obtain⟨y,hx⟩:=zG l i zAl;obtain⟨b,off,he,k1,k2,hE⟩:=TL (HR.out dG gV.out) hx;subst he;have xK:=zh (hE dG zr).1;have HH:=zh (aah (w:=dG) y.lo y.hi v k1 k2 HV.out);clear hE hx k1 k2;go_wp2_with (refine wpList_load_mid rfl 128 (.tmp 13) rfl b (off+i*2) rfl _ _ xK.out Tryz.underlying128 rfl zk ?_);refine HH.out.mono ?_;rintro e w2 ⟨b2,rfl,O2⟩;have fK:=zh (gV.out.same O2);clear O2 HH xK;cases b2 with
   |true=>exact zEY
   |false=>exact zDk
  obtain rfl:n=i:=by omega
  go_wp2_with fail;go_ret;exact bD.mk _ rfl gV.out
end
end Go.Proofs.YtdmmebjjojimiaaGreatDoor
namespace Go.Proofs.YtdmmebjjojimiaaGreatDoor
def J9(x:aH)(names:List Str)(i:Nat):Bool:=names.any fun s=>decide (i∈x.targets s)
def RF(x:aH)(f:List Bool)(i:Nat)(k:Nat):Bool:=f.getD k false&&J9 x ((x.pack k).deps.map fun d=>d.on.name) i
def vG(x:aH)(names:List Str)(f:List Bool)(i:Nat):Bool:=J9 x names i||(List.range x.packs.length).any (RF x f i)
def stepD(x:aH)(names:List Str)(f:List Bool)(i:Nat):List Bool:=if (!f.getD i false&&vG x names f i)=true then f.set i true else f
def jM(x:aH)(names:List Str)(f:List Bool)(k:Nat):List Bool:=(List.range k).foldl (stepD x names) f
def gW(x:aH)(names:List Str):Nat->List Bool
 |0=>List.replicate x.packs.length false
 |n+1=>jM x names (gW x names n) x.packs.length
theorem sK(x:aH)(names:List Str)(f:List Bool)(k:Nat):jM x names f (k+1)=stepD x names (jM x names f k) k:=by unfold jM;rw[List.range_succ,List.foldl_append];rfl
theorem aai(x:aH)(names:List Str)(f:List Bool)(i:Nat):(stepD x names f i).length=f.length:=by unfold stepD;split<;>simp
theorem U2(x:aH)(names:List Str)(f:List Bool)(k:Nat):(jM x names f k).length=f.length:=by
 induction k with
 |zero=>rfl
 |succ k ih=>rw[sK,aai,ih]
theorem JI(x:aH)(names:List Str)(n:Nat):(gW x names n).length=x.packs.length:=by
 induction n with
 |zero=>simp[gW]
 |succ n ih=>rw[gW,U2,ih]
def RG(f g:List Bool):Prop:=f.length=g.length/\∀i,f.getD i false=true->g.getD i false=true
theorem RG.refl(f:List Bool):RG f f:=⟨rfl,fun _ h=>h⟩
theorem RG.trans{f g h:List Bool}(a:RG f g)(b:RG g h):RG f h:=⟨a.1.trans b.1,fun i hi=>b.2 i (a.2 i hi)⟩
theorem RG.anti{f g:List Bool}(a:RG f g)(b:RG g f):f=g:=by refine List.ext_getElem a.1 fun i h1 h2=>?_;have h3:=a.2 i;have h4:=b.2 i;simp only[qC,qA h1,qA h2,Option.getD_some]at h3 h4;cases hf:f[i]<;>cases hg:g[i]<;>simp_all
theorem MO{f:List Bool}{i j:Nat}(hi:i<f.length):(f.set i true).getD j false=if j=i then true else f.getD j false:=by
 simp only[qC,List.getElem?_set];by_cases h:i=j;·subst h;simp[hi]
 rw[if_neg h,if_neg (fun e=>h e.symm)]
theorem acX(x:aH)(names:List Str)(f:List Bool)(i:Nat):RG f (stepD x names f i):=by
 unfold stepD;split
 ·refine⟨by simp,fun j hj=>?_⟩;by_cases hi:i<f.length
  ·rw[MO hi];split;·rfl
   exact hj
  rw[List.set_eq_of_length_le zBk];exact hj
 exact RG.refl f
theorem AZ(x:aH)(names:List Str)(f:List Bool)(j k:Nat)(h:j<=k):RG (jM x names f j) (jM x names f k):=by
 induction k with
 |zero=>
  obtain rfl:j=0:=by omega
  exact RG.refl _
 |succ k ih=>
  by_cases hj:j=k+1;·subst hj;exact RG.refl _
  rw[sK];exact(ih zBk).trans (acX _ _ _ _)
def OH(f:List Bool):Nat:=f.countP id
theorem Y1:∀{f g:List Bool},RG f g->f≠g->OH f<OH g
 | [],[],_,h=>absurd rfl h
 | [],b::g,h,_=>by have:=h.1;simp at this
 |a::f,[],h,_=>by have:=h.1;simp at this
 |a::f,b::g,h,hn=>by
  have ht:RG f g:=⟨by simpa using h.1,fun i hi=>by have:=h.2 (i+1);simp only[List.getD_cons_succ]at this;exact this hi⟩
  have hd:a=true->b=true:=by have:=h.2 0;simpa using this
  unfold OH
  rw[List.countP_cons,List.countP_cons]
  by_cases hfg:f=g
  ·subst hfg
   cases a<;>cases b<;>simp_all
  ·have:=Y1 ht hfg
   unfold OH at this
   cases a<;>cases b<;>simp_all<;>omega
def Shut(x:aH)(names:List Str)(f:List Bool):Prop:=jM x names f x.packs.length=f
theorem Shut.asked{x:aH}{names:List Str}{f:List Bool}(h:Shut x names f)(hl:f.length=x.packs.length){i:Nat}(hi:i<x.packs.length)(ha:vG x names f i=true):f.getD i false=true:=by
 have h0:RG f (jM x names f i):=AZ x names f 0 i zBk;have h1:RG (jM x names f i) f:=by have:=AZ x names f i _ (Nat.le_of_lt hi);rw[h]at this;exact this
 have e1:=h1.anti h0;have h2:RG (jM x names f (i+1)) f:=by have:=AZ x names f (i+1) _ hi;rw[h]at this;exact this
 rw[sK,e1]at h2;by_cases hf:f.getD i false=true;·exact hf
 refine h2.2 i ?_;unfold stepD;rw[if_pos (by rw[ha];simp only[Bool.not_eq_true]at hf;rw[hf];rfl),MO zBk,if_pos rfl]
theorem U3(x:aH)(names:List Str)(n:Nat):Shut x names (gW x names n)\/n<=OH (gW x names n):=by
 induction n with
 |zero=>exact .inr (qE _)
 |succ n ih=>
  rcases ih with h|h;·refine .inl ?_;have:gW x names (n+1)=gW x names n:=h;rw[this];exact h
  by_cases hs:gW x names (n+1)=gW x names n;·refine .inl ?_;rw[hs];exact hs
  refine .inr ?_;have:=Y1 (AZ x names (gW x names n) 0 x.packs.length (qE _)) (fun e=>hs e.symm);have h2:OH (jM x names (gW x names n) 0)=OH (gW x names n):=rfl;rw[h2]at this;have h3:OH (jM x names (gW x names n) x.packs.length)=OH (gW x names (n+1)):=rfl;rw[h3]at this;omega
theorem Ko(x:aH)(names:List Str):Shut x names (gW x names (x.packs.length+1)):=by
 rcases U3 x names (x.packs.length+1)with h|h;·exact h
 exfalso;have:OH (gW x names (x.packs.length+1))<=(gW x names (x.packs.length+1)).length:=List.countP_le_length;rw[JI]at this;omega
def Jj(x:aH)(names:List Str)(f:List Bool):Prop:= ∀i,f.getD i false=true->x.Reach names i
theorem zU{x:aH}{names:List Str}{i:Nat}:J9 x names i=true↔ ∃s∈names,i∈x.targets s:=by unfold J9;rw[yU];simp only[yP]
theorem U4{x:aH}{names:List Str}{f:List Bool}(hs:Jj x names f){i:Nat}(h:vG x names f i=true):x.Reach names i:=by
 unfold vG at h;rw[Bool.or_eq_true]at h;rcases h with h|h;·obtain⟨s,h1,h2⟩:=zU.1 h;exact .root h1 h2
 obtain⟨k,hk,h2⟩:=yU.1 h;unfold RF at h2;rw[Bool.and_eq_true]at h2;obtain⟨s,h3,h4⟩:=zU.1 h2.2;obtain⟨d,hd,rfl⟩:=yD.1 h3;exact .step (hs k h2.1) hd h4
theorem U5{x:aH}{names:List Str}{f:List Bool}(hs:Jj x names f)(i:Nat):Jj x names (stepD x names f i):=by
 unfold stepD;split
 ·rename_i h;rw[Bool.and_eq_true]at h;intro j hj;by_cases hi:i<f.length
  ·rw[MO hi]at hj;split at hj;·next e=>subst e;exact U4 hs h.2
   exact hs j hj
  rw[List.set_eq_of_length_le zBk]at hj;exact hs j hj
 exact hs
theorem OI{x:aH}{names:List Str}{f:List Bool}(hs:Jj x names f)(k:Nat):Jj x names (jM x names f k):=by
 induction k with
 |zero=>exact hs
 |succ k ih=>rw[sK];exact U5 ih k
theorem RH(x:aH)(names:List Str)(n:Nat):Jj x names (gW x names n):=by
 induction n with
 |zero=>intro i hi;exfalso;simp only[gW,qC,List.getElem?_replicate]at hi;split at hi<;>cases hi
 |succ n ih=>exact OI ih _
theorem RI(x:aH)(names:List Str)(i:Nat):(gW x names (x.packs.length+1)).getD i false=true↔x.Reach names i:=by
 refine⟨RH x names _ i,fun h=>?_⟩;have hs:=Ko x names;have hl:=JI x names (x.packs.length+1);generalize gW x names (x.packs.length+1)=f at hs hl;induction h with
 |root h1 h2=>refine hs.asked hl (aH.tY h2) ?_;unfold vG;rw[Bool.or_eq_true];exact .inl (zU.2 ⟨_,h1,h2⟩)
 |step h1 h2 h3 ih=>refine hs.asked hl (aH.tY h3) ?_;unfold vG;rw[Bool.or_eq_true];refine .inr (yU.2 ⟨_,yI.2 (h1.lt),?_⟩);unfold RF;rw[Bool.and_eq_true];exact⟨ih,zU.2 ⟨_,yD.2 ⟨_,h2,rfl⟩,h3⟩⟩
def Dj(f:List Bool)(k:Nat):List Nat:=(List.range k).filter fun i=>f.getD i false
theorem Qe(f:List Bool)(k:Nat):Dj f (k+1)=if f.getD k false=true then Dj f k++[k]else Dj f k:=by
 unfold Dj;rw[List.range_succ,List.filter_append];by_cases h:f.getD k false=true;·rw[if_pos h];simp only[List.filter_cons,h,if_true,List.filter_nil]
 rw[if_neg h];simp only[List.filter_cons,if_neg h,List.filter_nil,List.append_nil]
theorem Dk(x:aH)(names:List Str):Dj (gW x names (x.packs.length+1)) x.packs.length=x.closure names:=by unfold Dj aH.closure;refine List.filter_congr fun i _=>?_;rw[Bool.eq_iff_iff,RI];simp
end Go.Proofs.YtdmmebjjojimiaaGreatDoor
