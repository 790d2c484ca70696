/- Strings: rows of them, and of their bytes.; Rf1 Rf2, in one text. -/
import Derived.Test.YtdmmebjjojimiaaGreatDoorG04
set_option maxRecDepth 100000
set_option maxHeartbeats 8000000
set_option linter.all false
namespace Go.Proofs.YtdmmebjjojimiaaGreatDoor
open Go.RowKit
section
variable {w w':World} {B:Nat}
def fD(l:List Str):List Value:=l.map Value.string
theorem nH:BM Tryz.prog 81 9 1 16:=BM.mk' (z:=.string .empty) Tryz.underlying81 zk rfl zAG
theorem BQ(w:World):(w.alloc (.cells #[] 9)).ownsRow 0 9 1 (.slice (some ⟨w.heap.size,0,none⟩) 0 0) 0 []:=World.ownsRow_lit (base:=0) (e:=9) (size:=1) w #[] 0 (qE _) zAe zAM
theorem vZ{v:Value}{l:List Str}{n:Nat}(hn:l.length=n)(h:w.ownsRow 0 9 1 v n (fD l))(hk:∀s∈l,okS s):aQ 1 fM w.heap.size w v l:=by
 subst hn;refine aQ.fH h fun i hi=>⟨[.string l[i]],rfl,fun j u hu=>?_,rfl,hk _ (qZ hi)⟩;obtain rfl:j=0:=by have:=(qJ.1 hu).1;simpa using this
 simp at hu;subst hu;simp[fD,hi]
theorem Px{s:Str}(hs:okS s)(i j:Nat):okS (s.extract i j):=by unfold okS at hs⊢;rw[ByteArray.size_extract];omega
theorem Zu:okS ByteArray.empty:=by unfold okS;simp
theorem Dz{s:Str}(h:s.size=0):s=⟨#[]⟩:=by have:s.data.size=0:=h;cases s with|mk d=>simp at this;rw[this]
theorem Zv{s:Str}(h:0<s.size):s.toList≠[]:=fun e=>by
 have h1:s.data.toList=[]:=by rw[<-ByteArray.toList_eq];exact e
 have:s.data.size=0:=by rw[<-Array.length_toList,h1];rfl
 have h2:s.size=0:=this
 omega
def QK(w:World)(n:Nat)(v:Value)(wr:World):Prop:=Hid (O0 w wr)/\∃i:Nat,v= .int .i64 i/\i<=n
end
end Go.Proofs.YtdmmebjjojimiaaGreatDoor
namespace Go.Proofs
theorem zAg{p:Prop}(h:p:=by rw[aB.out];exact hlen):p:=h
theorem zAk{p:Prop}(h:p:=by rw[aB.out];omega):p:=h
theorem zA1{p:Prop}(h:p:=by rw[DX.out];omega):p:=h
theorem zA6{p:Prop}(h:p:=by rw[hW0];exact Only.refl _ _):p:=h
theorem zBH{p:Prop}(h:p:=by have:=DX.out;omega):p:=h
theorem zBe{p:Prop}(h:p:=by unfold okS maxLen at hs;omega):p:=h
theorem zCI{p:Prop}(h:p:=by
 go_loopw [3] (fun vi wr=>QK w s.size vi wr) (fun v _=>s.size-(RowKit.intOf v).toNat)
 case atStart=>exact⟨show Hid _ from Only.refl _ _,0,rfl,qE _⟩
 case round=>
  obtain⟨HO,i,rfl,hi⟩:=hrel
  by_cases ci:i<s.size
  ·have jh:=zw (i+1)
   go_wp2_with fail
   all_goals first
    | (go_ret;exact bD.mk _ rfl HO.out)
    |exact⟨⟨HO,i+1,by first|rfl|go_num,by omega⟩,by simp[RowKit.intOf]<;>omega⟩
  ·obtain rfl:s.size=i:=by omega
   go_wp2_with fail
   go_ret
   exact bD.mk _ rfl HO.out):p:=h
theorem zCj{p:Prop}(h:p:=by
 go_wp2_with fail
 go_roundw
 case rel=>exact⟨HO,i+1,by first|rfl|go_num,by omega,HZ2⟩
 case measure=>simp[RowKit.intOf]<;>omega):p:=h
theorem zCs{p:Prop}(h:p:=by
 go_wp2_with fail
 go_ret
 exact⟨rfl,bW.out.same HO.out⟩):p:=h
theorem zC8{p:Prop}(h:p:=by
 go_wp2_with fail
 go_ret
 exact⟨rfl,bW.out.same bM.out⟩):p:=h
theorem zDN{p:Prop}(h:p:=by
 go_wp2_with fail
 go_ret
 exact bD.mk _ rfl bM.out):p:=h
theorem zEk{p:Prop}(h:p:=by
 go_wp2_with fail
 go_ret
 exact bD.mk _ rfl zr):p:=h
end Go.Proofs
namespace Go.Proofs.YtdmmebjjojimiaaGreatDoor
open Go.RowKit
section
variable {w w':World} {B:Nat}
theorem KT{vl:Value}{l:List Str}(hl:aQ 1 fM B w vl l)(s:Str):Calls Tryz.prog 128 #[vl,.string s] w fun e w'=>e= .returned (.bool (tX l s))/\O0 w w':=by
 obtain⟨a_l,wu,IG,rfl,g_l,aby,DX,Yu⟩:=open_strs hl;clear hl;obtain⟨W0,hW0⟩:=zB w;have bW:Hid (O0 w W0):=zA6;have wM:=Yu W0 bW.out;clear Yu;obtain⟨r,hr⟩:=ze (tX l s);rw[hr];have jd:=zh hr;clear hr;subst hW0;go_enter Tryz.func128,Tryz.ntmps128;go_wp2_with fail;go_loopw [8] (fun vi wr=>Hid (O0 W0 wr)/\∃i:Nat,vi= .int .i64 i/\i<=wu/\Hid (s∉l.take i)) (fun v _=>wu-(RowKit.intOf v).toNat);case atStart=>exact⟨show Hid _ from Only.refl _ _,0,rfl,qE _,show Hid _ from by simp[Hid]⟩
 case round=>
  obtain⟨HO,i,rfl,hi,HZ⟩:=hrel;by_cases ci:i<wu
  ·have hrow:=wM.out wr HO.out;have hrow0:=hrow;rw[<-DX.out]at hrow0;obtain⟨b,off,he,-,-⟩:=hrow0.at zBH;subst he;obtain⟨y,hx⟩:=zG l i zA1;obtain⟨cs,hl,hr,hC⟩:=hrow.get hx;clear hrow hrow0;obtain⟨rfl,-⟩:=hC;have hcell:=hr 0 _ rfl;simp only[yH,qF]at hcell;have jh:=zw (i+1);have hbd:=jZ y s;have HX:=zh hx;clear hx hr hl;by_cases hy:y=s
   ·have hd:decide (y=s)=true:=qX hy;have hrt:r=true:=by rw[<-jd.out,KP,<-hy];exact qT HX.out
    subst hrt;rw[hd]at hbd;clear hd hy;exact zCs
   have hd:decide (y=s)=false:=qP hy;rw[hd]at hbd;have HZ2:Hid (s∉l.take (i+1)):=fun hm=>by
    rcases dI HX.out hm with h|h;·exact HZ.out h
    exact hy h.symm
   clear hd hy;exact zCj
  obtain rfl:wu=i:=by omega
  have hrf:r=false:=by rw[<-jd.out,Bool.eq_false_iff];intro h;have:=HZ.out;rw[qI (yG DX.out)]at this;exact this (KP.1 h)
  subst hrf;exact zCs
theorem wz{tZ:List Value}{x:aH}(hx:jl B w tZ x)(s:Str):Calls Tryz.prog 38 #[.agg tZ.toArray,.string s] w fun e w'=>e= .returned (.int .i64 (x.find s))/\O0 w w':=by
 obtain⟨bQ,aj,aT,bg,aP,aU,rfl,jm,jo,iO,iP,aB,fO,uK⟩:=open_rec hx;clear hx;try rw[aB.out]
 obtain⟨W0,hW0,bW,nR,aG⟩:=Wv w (.slice bQ aj aT) (.slice bg aP aU) 25;obtain⟨kC,dP,eP⟩:=uK W0 bW.out;clear uK;obtain⟨r,hr⟩:=ze (x.find s);rw[hr];have jd:=zh hr;clear hr;go_enter Tryz.func38,Tryz.ntmps38;go_wp2_with fail;rw[<-hW0];clear hW0;obtain⟨k0,k1⟩:=aG.out W0 zr;go_wp2_with fail;go_loopw [9] (fun vi wr=>Hid (O0 W0 wr)/\∃i:Nat,vi= .int .i64 i/\i<=aj/\Hid (∀y∈x.packs.take i,decide (y.name=s)=false)) (fun v _=>aj-(RowKit.intOf v).toNat);case atStart=>exact⟨show Hid _ from Only.refl _ _,0,rfl,qE _,show Hid _ from fun y hy=>by simp at hy⟩
 case round=>
  clear k0 k1;obtain⟨HO,i,rfl,hi,HZ⟩:=hrel;obtain⟨k0,k1⟩:=aG.out wr HO.out;by_cases ci:i<aj
  ·have hrow:=dP.out wr HO.out;have hrow0:=hrow;rw[<-aB.out]at hrow0;obtain⟨b,off,he,-,-⟩:=hrow0.at (by have:=aB.out;omega);subst he;obtain⟨y,hx⟩:=zG x.packs i zAk;obtain⟨cs,hl,hr,hC⟩:=hrow.get hx;clear hrow hrow0;obtain⟨v1,v2,v3,v4,v5,v6,rfl,-⟩:=hC;have hcell:=hr 0 _ rfl;simp only[qF]at hcell;have jh:=zw (i+1);have hbd:=jZ y.name s;have HX:=zh hx;clear hx hr hl;by_cases hy:y.name=s
   ·have hd:decide (y.name=s)=true:=qX hy;have hri:r=i:=by rw[<-jd.out];exact Gg HX.out hd HZ.out
    subst hri;rw[hd]at hbd;clear hd hy;exact zCs
   have hd:decide (y.name=s)=false:=qP hy;have HD:=zh hd;rw[hd]at hbd;have HZ2:Hid (∀y∈x.packs.take (i+1),decide (y.name=s)=false):=fun z hz=>by
    rcases dI HX.out hz with h|rfl;·exact HZ.out z h
    exact HD.out
   clear hd hy;exact zCj
  obtain rfl:aj=i:=by omega
  have hri:r= -1:=by rw[<-jd.out];have:=HZ.out;rw[qI (yG aB.out)]at this;exact Dx this
  subst hri;exact zCs
theorem wO{tZ:List Value}{x:aH}(hx:jl B w tZ x)(hlen:x.packs.length<=1000000)(s:Str):Calls Tryz.prog 124 #[.agg tZ.toArray,.string s] w fun e w'=> ∃v,e= .returned v/\w'.ownsRow 0 3 1 v (x.eG s).length (ji (x.eG s))/\(∀k,v.ownBlock=some k->w.heap.size<=k)/\O0 w w':=by
 obtain⟨bQ,aj,aT,bg,aP,aU,rfl,jm,jo,iO,iP,aB,fO,uK⟩:=open_rec hx;clear hx;try rw[aB.out]
 obtain⟨W0,hW0,bW,nR,aG⟩:=Wv w (.slice bQ aj aT) (.slice bg aP aU) 25;obtain⟨kC,dP,eP⟩:=uK W0 bW.out;clear uK;rw[aB.out]at hlen;go_enter Tryz.func124,Tryz.ntmps124;go_wp2_with fail;rw[<-hW0];clear hW0;have bM:Hid (O0 W0 (W0.alloc (.cells #[] 3))):=zr.alloc _;have BJ:Hid ((W0.alloc (.cells #[] 3)).ownsRow 0 3 1 (.slice (some ⟨w.heap.size+1,0,none⟩) 0 0) (x.jI s 0).length (ji (x.jI s 0))):=by rw[<-nR.out];exact wI W0
 have HB1:Hid (∀k,(Value.slice (some ⟨w.heap.size+1,0,none⟩) 0 0).ownBlock=some k->W0.heap.size<=k):=fun k hk=>by simp[Value.ownBlock]at hk;have:=nR.out;omega
 obtain⟨k0,k1⟩:=aG.out _ bM.out;go_wp2_with fail;go_loopw [5,11] (fun vo vi wr=>Hid (O0 W0 wr)/\∃i:Nat,vi= .int .i64 i/\i<=aj/\Hid (wr.ownsRow 0 3 1 vo (x.jI s i).length (ji (x.jI s i)))/\Hid (∀k,vo.ownBlock=some k->W0.heap.size<=k)) (fun _ v _=>aj-(RowKit.intOf v).toNat);case atStart=>exact⟨bM,0,rfl,qE _,BJ,HB1⟩
 case round=>
  clear bM BJ HB1 k0 k1;obtain⟨HO,i,rfl,hi,HV,HB⟩:=hrel;obtain⟨k0,k1⟩:=aG.out wr HO.out;by_cases ci:i<aj
  ·have hrow:=dP.out wr HO.out;have hrow0:=hrow;rw[<-aB.out]at hrow0;obtain⟨b,off,he,-,-⟩:=hrow0.at (by have:=aB.out;omega);subst he;obtain⟨y,hx⟩:=zG x.packs i zAk;obtain⟨cs,hl,hr,hC⟩:=hrow.get hx;clear hrow hrow0;obtain⟨o1,o2,o3,o4,o5,o6,c1,c2,c3,c4,c5,c6,rfl,-,-,-,-,b5,-,-,-⟩:=hC.cells;have hcell:=hr 4 _ rfl;have jh:=zw (i+1);have Gi:=zh (KT b5 s);have hpk:x.pack i=y:=by unfold aH.pack;rw[qC,hx];rfl
   have hsu:=x.Jt s i;rw[hpk]at hsu;have HSu:=zh hsu;have hpl:(x.jI s i).length<=i:=by exact zER
   obtain⟨bb,hbb⟩:=ze (tX y.provides s);rw[hbb]at HSu Gi;clear hx hr hl hC b5 hsu hpk hbb;go_wp2_with fail;refine Gi.out.mono ?_;rintro e w1 ⟨rfl,O1⟩;have bM:=zh (HO.out.same O1);have BJ:=zh (aI HV.out O1 (fun _ _ f=>f));clear O1 Gi;cases bb with
   |false=>
    have Ae:Hid (w1.ownsRow 0 3 1 u5 (x.jI s (i+1)).length (ji (x.jI s (i+1)))):=by have h1:=HSu.out;simp at h1;rw[h1];exact BJ.out
    go_wp2_with fail;go_roundw;case rel=>exact⟨bM,i+1,by first|rfl|go_num,by omega,Ae,HB⟩
    case measure=>simp[RowKit.intOf]<;>omega
   |true=>
    obtain⟨au,cu,rfl,-,-⟩:=aC BJ.out;go_wp2_with (at_builtin;go_must (refine tC (u:=.int .i64 (i:Int)) kJ rfl (.tmp 22) (.tmp 24) rfl rfl rfl (cell_new0 _ _ _) rfl (aI BJ.out ((Only.refl (fun _=>False) _).alloc _) (fun _ _ f=>f)) zBk zBl ?_));intro v' w2 r1 r2 r3;have Ae:Hid (w2.ownsRow 0 3 1 v' (x.jI s (i+1)).length (ji (x.jI s (i+1)))):=by have h1:=HSu.out;simp at h1;rw[h1];simpa[ji,Hid]using r1
    have fK:=zh (((bM.out.alloc _).trans r2 fun k hk=>.inr (HB.out k hk)));have HB2:Hid (∀k,v'.ownBlock=some k->W0.heap.size<=k):=by
     intro k hk;obtain⟨g,cap',rfl,-,-,h|h⟩:=r3;·exact zDD
     exact zC9
    obtain⟨g,cap',rfl,-,-,-⟩:=r3;clear r1 r2;go_wp2_with fail;go_roundw;case rel=>exact⟨fK,i+1,by first|rfl|go_num,by omega,Ae,HB2⟩
    case measure=>simp[RowKit.intOf]<;>omega
  obtain rfl:aj=i:=by omega
  go_wp2_with fail;go_ret;refine⟨_,rfl,?_,fun k hk=>by have:=HB.out k hk;have:=bW.out.size;omega,bW.out.same HO.out⟩;have:=HV.out;unfold aH.eG;rw[aB.out];exact this
def aH.rO(x:aH)(s:Str):Bool:=decide (x.find s<0)&&decide (0<(x.eG s).length)
theorem vS{tZ:List Value}{x:aH}(hx:jl B w tZ x)(hlen:x.packs.length<=1000000)(s:Str):Calls Tryz.prog 129 #[.agg tZ.toArray,.string s] w fun e w'=>e= .returned (.bool (x.rO s))/\O0 w w':=by
 obtain⟨bQ,aj,aT,bg,aP,aU,rfl,jm,jo,iO,iP,aB,fO,uK⟩:=open_rec hx;clear hx;try rw[aB.out]
 obtain⟨W0,hW0,bW,nR,aG⟩:=Wv w (.slice bQ aj aT) (.slice bg aP aU) 25;obtain⟨kC,dP,eP⟩:=uK W0 bW.out;clear uK;rw[aB.out]at hlen;obtain⟨f,hf⟩:=ze (x.find s);obtain⟨np,hnp⟩:=ze ((x.eG s).length);have jd:Hid (x.rO s=(decide (f<0)&&decide (0<np))):=by unfold aH.rO;rw[hf,hnp];exact rfl
 have HF:Hid (∀W,O0 W0 W->Calls Tryz.prog 38 #[.agg #[.slice bQ aj aT,.slice bg aP aU],.string s] W fun e w'=>e= .returned (.int .i64 f)/\O0 W w'):=fun W hW=>by rw[<-hf];exact wz (kC.out W hW) s
 have Zp:Hid (∀W,O0 W0 W->Calls Tryz.prog 124 #[.agg #[.slice bQ aj aT,.slice bg aP aU],.string s] W fun e w'=> ∃a c,e= .returned (.slice a np c)/\O0 W w'):=fun W hW=>by refine(wO (kC.out W hW) zAg s).mono ?_;rintro e w' ⟨v,rfl,r1,-,r3⟩;obtain⟨a,c,rfl,-,-⟩:=aC r1;exact⟨a,c,by rw[hnp],r3⟩
 obtain⟨r,hr⟩:=ze (x.rO s);rw[hr];have HR0:=zh hr;clear hf hnp hr;go_enter Tryz.func129,Tryz.ntmps129;go_wp2_with fail;rw[<-hW0];clear hW0;obtain⟨k0,k1⟩:=aG.out W0 zr;go_wp2_with fail;refine(HF.out W0 zr).mono ?_;rintro e w1 ⟨rfl,O1⟩;have bM:=zh O1;clear O1 k0 k1;obtain⟨k0,k1⟩:=aG.out w1 bM.out;by_cases hf:f<0
 ·have hrr:r=decide (0<np):=by rw[<-HR0.out,jd.out,qX hf];simp
  subst hrr;go_wp2_with fail;refine(Zp.out w1 bM.out).mono ?_;rintro e w2 ⟨ap,cp,rfl,O2⟩;have fK:=zh (bM.out.same O2);clear O2;by_cases hp:0<np;·go_wp2_with fail;go_ret;exact⟨by rw[qX hp];first|rfl|simp,bW.out.same fK.out⟩
  go_wp2_with fail;go_ret;exact⟨by rw[qP hp];first|rfl|simp,bW.out.same fK.out⟩
 have hrr:r=false:=by rw[<-HR0.out,jd.out,qP hf];simp
 subst hrr;exact zC8
end
section
variable {w w':World} {B:Nat}
def bD(w w':World)(e:Ending):Prop:= ∃b,e= .returned (.bool b)/\O0 w w'
theorem bD.mk(b:Bool){w w':World}{e:Ending}(he:e= .returned (.bool b))(ho:O0 w w'):bD w w' e:=⟨b,he,ho⟩
theorem xZ(s:Str)(hs:okS s):Calls Tryz.prog 210 #[.string s] w (fun e w'=>bD w w' e):=by have hs2:s.size<=9223372036854775807:=zBe;clear hs;go_enter Tryz.func210,Tryz.ntmps210;go_wp2_with fail;exact zCI
theorem Py(s:Str)(hs:okS s):Calls Tryz.prog 130 #[.string s] w (fun e w'=>bD w w' e):=by
 have hs2:s.size<=9223372036854775807:=zBe;clear hs;go_enter Tryz.func130,Tryz.ntmps130;by_cases h0:s.size=0
 ·have he:s=⟨#[]⟩:=by have:s.data.size=0:=h0;cases s with|mk d=>simp at this;rw[this]
  subst he;exact zEk
 have hne:s.toList≠[]:=fun h=>h0 (by
  have h1:s.data.toList=[]:=by rw[<-ByteArray.toList_eq];exact h
  have:s.data.size=0:=by rw[<-Array.length_toList,h1];rfl
  exact this)
 have hpos:0<s.size:=zBk;go_wp2_with fail;all_goals (try (go_ret;exact bD.mk _ rfl zr))
 rename_i q1 q2 q3 q4 q5;clear q1 q2 q3 hne h0;exact zCI
theorem WE(s:Str)(hs:okS s):Calls Tryz.prog 132 #[.string s] w (fun e w'=>bD w w' e):=by
 have HN:=zh (Py (w:=w) s hs);have HD:Hid (∀W,Calls Tryz.prog 210 #[.string s] W (fun e w'=>bD W w' e)):=fun W=>xZ s hs;go_enter Tryz.func132,Tryz.ntmps132;go_wp2_with fail;refine HN.out.mono ?_;rintro e w1 ⟨b,rfl,O1⟩;have bM:=zh O1;clear O1;cases b with
 |true=>exact zDN
 |false=>
  go_wp2_with fail;refine(HD.out w1).mono ?_;rintro e w2 ⟨b,rfl,O2⟩;have fK:=zh (bM.out.same O2);clear O2;cases b with
  |true=>go_wp2_with fail;all_goals (go_ret;exact bD.mk _ rfl fK.out)
  |false=>go_wp2_with fail;all_goals (go_ret;exact bD.mk _ rfl fK.out)
end
end Go.Proofs.YtdmmebjjojimiaaGreatDoor
