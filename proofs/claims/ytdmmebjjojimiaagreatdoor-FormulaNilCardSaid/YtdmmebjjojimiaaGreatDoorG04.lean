/- Find, Providers, Targets: walks.; Nd3 Nd4, in one text. -/
import Derived.Test.YtdmmebjjojimiaaGreatDoorG02
import Derived.Test.YtdmmebjjojimiaaGreatDoorG03
set_option maxRecDepth 100000
set_option maxHeartbeats 8000000
set_option linter.all false
namespace Go.Proofs
theorem zAS{p:Prop}(h:p:=by rw[HN.out];exact ci):p:=h
theorem zAU{p:Prop}(h:p:=by rw[HL.out];kernel_rfl):p:=h
theorem zAb{p:Prop}(h:p:=by rw[HN.out];omega):p:=h
theorem zBC{p:Prop}(h:p:=by decide):p:=h
theorem zBa{p:Prop}(h:p:=by
 refine HC.out.mono ?_
 rintro e w1 ⟨rfl,O1⟩
 have bg:=zh (HO.out.same O1)
 clear O1
 go_wp2_with fail
 go_roundw
 case rel=>exact⟨bg,i+1,by first|rfl|go_num,by omega,show Hid _ from fun z hz=>by
  rcases bY HX.out hz with h|rfl
  ·exact HZ.out z h
  ·exact HY.out⟩
 case measure=>simp[intOf]<;>omega):p:=h
theorem zBf{p:Prop}(h:p:=by
 have:i=n:=by omega
 subst this
 go_wp2_with fail
 go_ret
 have:=HZ.out
 rw[qI (yG HN.out)]at this
 exact⟨by rw[mV this];rfl,HO.out⟩):p:=h
theorem zBh{p:Prop}(h:p:=by
 refine HC.out.mono ?_
 rintro e w1 ⟨rfl,O1⟩
 go_wp2_with fail
 go_ret
 exact⟨by rw[pW HX.out HY.out HZ.out];rfl,HO.out.same O1⟩):p:=h
theorem zBo{p:Prop}(h:p:=by rw[World.cell?_of_block (w:=w.alloc (.cells #[.slice ao x.packs.length cap,.slice ku x.cO.length cap2] 25)) (O1.block _ zAE (fun f=>f))];simp):p:=h
end Go.Proofs
namespace Go.Proofs.YtdmmebjjojimiaaGreatDoor
open Go.RowKit Go.Shelf
def rH{α:Type}(C:Nat->World->List Value->α->Prop)(B:Nat)(g:Nat)(cb:Array Value)(p:α->Bool)(w:World):Prop:=
 ∀(W:World) (cs:List Value) (x:α),O0 w W->C B W cs x->Calls Tryz.prog g (#[.agg cs.toArray]++cb) W fun e w'=>e= .returned (.bool (p x))/\O0 W w'
theorem bY{α:Type}{xs:List α}{i:Nat}{x y:α}(hx:xs[i]? =some x)(h:y∈xs.take (i+1)):y∈xs.take i\/y=x:=by
 obtain⟨hlt,rfl⟩:=qJ.1 hx;rw[yL hlt]at h;rcases qW.1 h with h|h;·exact .inl h
 exact .inr (yJ.1 h)
section
variable {w w':World} {B:Nat}
theorem QC{v:Value}{xs:List eP}(h:aJ 8 fF B w v xs){g:Nat}{cb:Array Value}{p:eP->Bool}(eg:∀args w,(callFunc g args).run Tryz.prog w= .ok (.enter g args) w)(hp:rH fF B g cb p w):Calls Tryz.prog 262 #[v,.func (.func g) #[] cb] w fun e w'=>e= .returned (.int .i64 (jk p xs))/\O0 w w':=by
 obtain⟨ao,cap,rfl,hc1,hc2⟩:=h.shape;have HH:=zh h;have J6:=zh hp;obtain⟨n,hn⟩:=ze xs.length;have HN:=zh hn;rw[hn]at hc1⊢;clear h hp hn;go_enter Tryz.func262,Tryz.ntmps262;go_wp2_with fail;go_loopw [5,8] (fun _ vi wr=>Hid (O0 w wr)/\∃i:Nat,vi= .int .i64 i/\i<=n/\Hid (∀x∈xs.take i,p x=false)) (fun _ v _=>n-(intOf v).toNat);case atStart=>exact⟨show Hid _ from Only.refl _ _,0,rfl,qE _,show Hid _ from fun x hx=>by simp at hx⟩
 case round=>
  obtain⟨HO,i,rfl,hi,HZ⟩:=hrel;by_cases ci:i<n
  ·have h2:=HH.out;rw[HN.out]at h2;obtain⟨b,off,he,-,-⟩:=h2.at zAb;subst he;obtain⟨x,hx⟩:=zG xs i zAS;obtain⟨cs,hl,hr,hC⟩:=(h2.keep fF.keep (Kp.fU HO.out)).get hx;have jg:=zw (i+1);have HR:=zh hr;have HL:=zh hl;have HX:=zh hx;have HC:=zh (J6.out wr cs x HO.out hC);obtain⟨y,hy⟩:=ze (p x);rw[hy]at HC;have HY:=zh hy;clear hr hx hy h2 hl hC;cases y with
   |true=>go_wp2_with (refine wpList_load_mid rfl 101 (.tmp 14) rfl b (off+i*8) rfl cs _ HR.out Tryz.underlying101 rfl zAU ?_);exact zBh
   |false=>go_wp2_with (refine wpList_load_mid rfl 101 (.tmp 14) rfl b (off+i*8) rfl cs _ HR.out Tryz.underlying101 rfl zAU ?_);exact zBa
  exact zBf
theorem BX(x y:ByteArray):(x.toList==y.toList)=decide (x=y):=by
 by_cases h:x=y;·rw[qX h,(Lib.bytes_beq_iff x y).2 h]
 rw[qP h,(Lib.bytes_beq_false_iff x y).2 h]
theorem U7(s:Str)(gs:Nat)(hg:w.cell? ⟨gs,0,none⟩=some (.string s)):rH fF B 263 #[.pointer (some ⟨gs,0,none⟩)] (fun p=>decide (p.name=s)) w:=by
 intro W cs x hO hC;obtain⟨v1,v2,v3,v4,v5,v6,rfl,-⟩:=hC;have hlt:gs<w.heap.size:=World.block_lt_of_cell? _ _ hg;have hg2:W.cell? ⟨gs,0,none⟩=some (.string s):=by rw[World.cell?_of_block (w:=w) (hO.block gs hlt (fun f=>f))];exact hg
 have hgW:gs<W.heap.size:=World.block_lt_of_cell? _ _ hg2;have hd:=BX x.name s;have hne:gs≠W.heap.size:=zBB;clear hg hlt;go_enter Tryz.func263,Tryz.ntmps263;go_wp2_with fail;go_ret;exact⟨rfl,zr.alloc _⟩
theorem Nj:∀args w,(callFunc 263 args).run Tryz.prog w= .ok (.enter 263 args) w:=enters_of Tryz.func263 zk rfl
theorem lK{cs:List Value}{x:aC}(h:gG B w cs x)(s:Str):Calls Tryz.prog 182 #[.agg cs.toArray,.string s] w fun e w'=>e= .returned (.int .i64 (x.find s))/\O0 w w':=by obtain⟨v1,v2,rfl,h1,-⟩:=h;obtain⟨ao,cap,rfl,hc1,hc2⟩:=h1.shape;have HH:=zh h1;clear h1;go_enter Tryz.func182,Tryz.ntmps182;go_wp2_with fail;refine(QC ((HH.out.keep fF.keep (Kp.fU (((Only.refl (fun _=>False) w).alloc _).alloc _)))) Nj (U7 s (w.heap.size+1) zAE)).mono ?_;rintro e w1 ⟨rfl,O1⟩;go_wp2_with fail;go_ret;exact⟨rfl,(((Only.refl (fun _=>False) w).alloc _).alloc _).same O1⟩
theorem aJ.strs{b off len cap:Nat}{zs:List Str}(h:aJ 1 dK B w (.slice (some ⟨b,off,none⟩) len cap) zs):∀j,j<zs.length->w.cell? ⟨b,off+j,none⟩=some (.string (zs.getD j ByteArray.empty)):=by intro j hj;obtain⟨cs,_,hr,rfl,_⟩:=h.get (qA hj);have:=hr 0 _ rfl;simpa[List.getD,qA hj]using this
theorem nD{v:Value}{zs:List Str}(h:aJ 1 dK B w v zs)(s:Str):Calls Tryz.prog 191 #[v,.string s] w fun e w'=>e= .returned (.bool (lJ zs s))/\w'=w:=by
 obtain⟨ao,cap,rfl,hc1,hc2⟩:=h.shape;have e1:Lib.containsS zs s=lJ zs s:=by rw[Bool.eq_iff_iff,Lib.containsS_iff,EC]
 by_cases h0:0<zs.length;·obtain⟨b,off,rfl,-,-⟩:=h.at h0;have:=Tryz.slices_Contains_string b off zs.length cap zs s w (qH _) zBB h.strs;rw[qI (qH _),e1]at this;exact this
 obtain rfl:zs=[]:=yF zBB;exact Tryz.slices_Contains_string_empty ao cap s w
def iK(l:List Nat):List Value:=l.map fun i:Nat=>Value.int .i64 (i:Int)
theorem kG{cs:List Value}{x:aC}(h:gG B w cs x)(hlen:x.packs.length<=1000000)(s:Str):Calls Tryz.prog 165 #[.agg cs.toArray,.string s] w fun e w'=> ∃v,e= .returned v/\w'.ownsRow 0 3 1 v (x.bZ s).length (iK (x.bZ s))/\(∀k,v.ownBlock=some k->w.heap.size<=k)/\O0 w w':=by
 obtain⟨v1,v2,rfl,h1,-⟩:=h;obtain⟨ao,cap,rfl,hc1,hc2⟩:=h1.shape;have HH:=zh h1;obtain⟨n,hn⟩:=ze x.packs.length;have HN:=zh hn;rw[hn]at hc1 hlen⊢;clear h1 hn;go_enter Tryz.func165,Tryz.ntmps165;go_wp2_with fail;go_loopw [5,11] (fun vo vi wr=>Hid (O0 w wr)/\∃i:Nat,vi= .int .i64 i/\i<=n/\Hid (wr.ownsRow 0 3 1 vo (x.jH s i).length (iK (x.jH s i)))/\Hid (∀k,vo.ownBlock=some k->w.heap.size<=k)) (fun _ v _=>n-(intOf v).toNat);case atStart=>exact⟨show Hid _ from zr.alloc _,0,rfl,qE _,show Hid _ from World.ownsRow_nil _ _ _ _,show Hid _ from fun k hk=>by simp[Value.ownBlock]at hk⟩
 case round=>
  obtain⟨HO,i,rfl,hi,HZ⟩:=hrel;by_cases ci:i<n
  ·obtain⟨HV,HB⟩:=HZ;have h2:=HH.out;rw[HN.out]at h2;obtain⟨b,off,he,-,-⟩:=h2.at zAb;subst he;obtain⟨p,hx⟩:=zG x.packs i zAS;obtain⟨cs,hl,hr,hC⟩:=(h2.keep fF.keep (Kp.fU HO.out)).get hx;obtain⟨o1,o2,o3,o4,o5,o6,c1,c2,c3,c4,c5,c6,rfl,-,-,-,-,b5,-,-,-⟩:=hC.cells;have jg:=zw (i+1);have HR:=zh hr;have HX:=zh hx;have HP:=zh b5;clear hr hx h2 hl b5 hC;go_wp2_with (refine wpList_load_mid rfl 101 (.tmp 14) rfl b (off+i*8) rfl _ _ HR.out Tryz.underlying101 rfl zk ?_);refine(nD (HP.out.keep dK.keep (Kp.fU ((Only.refl (fun _=>False) wr).alloc _))) s).mono ?_;rintro e w1 ⟨rfl,rfl⟩;have Nk:=zh (aB HV.out ((Only.refl (fun _=>False) wr).alloc (.cells #[.string p.name,.int .i64 p.line,.slice o1 p.aP.length c1,.slice o2 p.vars.length c2,.slice o3 p.provides.length c3,.slice o4 p.deps.length c4,.slice o5 p.cons.length c5,.slice o6 p.files.length c6] 101)) (fun _ _ f=>f));have bg:=zh (HO.out.alloc (.cells #[.string p.name,.int .i64 p.line,.slice o1 p.aP.length c1,.slice o2 p.vars.length c2,.slice o3 p.provides.length c3,.slice o4 p.deps.length c4,.slice o5 p.cons.length c5,.slice o6 p.files.length c6] 101));have hpk:x.pack i=p:=by unfold aC.pack;rw[qC,HX.out];rfl
   have hsu:=x.MW s i;rw[hpk]at hsu;have HSu:=zh hsu;have hpl:(x.jH s i).length<=i:=by unfold aC.jH;have:=yO (fun i=>lJ (x.pack i).provides s) (List.range i);simpa using this
   generalize wr.alloc _=w1 at*;obtain⟨y,hy⟩:=ze (lJ p.provides s);rw[hy]at HSu;rw[hy];clear hsu hpk hy;cases y with
   |false=>
    go_wp2_with fail;go_roundw;case rel=>exact⟨bg,i+1,by first|rfl|go_num,by omega,by rw[HSu.out,if_neg zAC];exact Nk,HB⟩
    case measure=>simp[intOf]<;>omega
   |true=>
    obtain⟨au,cu,rfl,-,-⟩:=aH Nk.out;go_wp2_with (at_builtin;go_must (refine zJ (u:=.int .i64 (i:Int)) kF rfl (.tmp 20) (.tmp 22) rfl rfl rfl (cell_new0 _ _ _) rfl (aB Nk.out ((Only.refl (fun _=>False) _).alloc _) (fun _ _ f=>f)) zBB zBC ?_));intro v' w2 r1 r2 r3;have MH:=zh r1;have jG:=zh (((bg.out.alloc _).trans r2 fun k hk=>.inr (HB.out k hk)));have HB2:Hid (∀k,v'.ownBlock=some k->w.heap.size<=k):=by
     intro k hk;obtain⟨g,cap',rfl,-,-,h|h⟩:=r3;·simp[Value.ownBlock]at hk;subst hk;exact HB.out _ h
     simp[Value.ownBlock]at hk;subst hk;have:=bg.out.size;simp at h;omega
    obtain⟨g,cap',rfl,-,-,-⟩:=r3;clear r1 r2;go_wp2_with fail;go_roundw;case rel=>exact⟨jG,i+1,by first|rfl|go_num,by omega,by rw[HSu.out];have:=MH.out;show World.ownsRow _ _ _ _ _ _ _;simpa[iK]using this,HB2⟩
    case measure=>simp[intOf]<;>omega
  have:i=n:=by omega
  subst this;go_wp2_with fail;go_ret;refine⟨_,rfl,?_,HZ.2.out,HO.out⟩;have:=HZ.1.out;unfold aC.bZ;rw[HN.out];exact this
theorem Du{cs:List Value}{x:aC}(h:gG B w cs x)(hlen:x.packs.length<=1000000)(s:Str):Calls Tryz.prog 148 #[.agg cs.toArray,.string s] w fun e w'=> ∃v,e= .returned v/\w'.ownsRow 0 3 1 v (x.targets s).length (iK (x.targets s))/\(∀k,v.ownBlock=some k->w.heap.size<=k)/\O0 w w':=by
 have HH:=zh h;obtain⟨v1,v2,rfl,h1,h2⟩:=h;obtain⟨ao,cap,rfl,-,-⟩:=h1.shape;obtain⟨ku,cap2,rfl,-,-⟩:=h2.shape;obtain⟨f,hf⟩:=ze (x.find s);have hlt:=x.rG s;have hge: -1<=x.find s:=by
  rcases kR (fun p=>decide (p.name=s)) x.packs with h| ⟨k,h,_⟩;·unfold aC.find;rw[h];omega
  unfold aC.find;rw[h];omega
 have HT:Hid (x.targets s=if 0<=f then [f.toNat]else x.bZ s):=by unfold aC.targets;rw[hf];exact rfl
 have HF:=zh (lK (gG.keep HH.out (Kp.fU ((Only.refl (fun _=>False) w).alloc (.cells #[.slice ao x.packs.length cap,.slice ku x.cO.length cap2] 25)))) s);have HPv:=fun W hO=>zh (kG (w:=W) (gG.keep HH.out (Kp.fU hO)) hlen s);rw[hf]at hlt hge HF;clear hf h1 h2;go_enter Tryz.func148,Tryz.ntmps148;go_wp2_with fail;refine HF.out.mono ?_;rintro e w1 ⟨rfl,O1⟩;have bg:=zh (((Only.refl (fun _=>False) w).alloc _).same O1);have hw1:=O1.size;simp only[World.size_alloc]at hw1;have hcell:w1.cell? ⟨w.heap.size,0,none⟩=some (.slice ao x.packs.length cap)/\w1.cell? ⟨w.heap.size,1,none⟩=some (.slice ku x.cO.length cap2):=by
  constructor;·exact zBo
  exact zBo
 obtain⟨hc1,hc2⟩:=hcell;have Xt:=HPv w1 bg.out;clear O1 HPv HF;by_cases hf0:0<=f
 ·go_wp2_with fail;go_ret;refine⟨_,rfl,?_,fun k hk=>?_,bg.out.alloc _⟩;·rw[HT.out,if_pos hf0];have:=World.ownsRow_lit (base:=0) (e:=3) (size:=1) w1 #[.int .i64 f] 1 (qE _) zAH zAE;simpa[iK,Int.toNat_of_nonneg hf0]using this
  simp[Value.ownBlock]at hk;omega
 have hT2:x.targets s=x.bZ s:=by rw[HT.out,if_neg hf0]
 rw[<-hT2]at Xt;clear hT2;go_wp2_with fail;refine Xt.out.mono ?_;rintro e w2 ⟨v,rfl,r1,r2,r3⟩;have HR:=zh (And.intro r1 (And.intro r2 r3));obtain⟨av,cv,rfl,-,-⟩:=aH r1;clear r1 r2 r3;go_wp2_with fail;go_ret;obtain⟨r1,r2,r3⟩:=HR.out;exact⟨_,rfl,r1,fun k hk=>by have:=r2 k hk;omega,bg.out.same r3⟩
end
theorem xH{w w':World}{b o:Nat}{cs:List Value}(h:w.rangeAt b o cs)(k:O0 w w'):w'.rangeAt b o cs:=by intro j u hu;have hb:=World.block_lt_of_cell? _ _ (h j u hu);rw[World.cell?_of_block (w:=w) (k.block b hb (fun f=>f))];exact h j u hu
abbrev mZ(s:fQ):Prop:=s.sets.length<=20/\s.spans.length<=30
structure Vq (x:eP):Prop where
 aP:x.aP.length<=30
 vars:x.vars.length<=20
 deps:x.deps.length<=40
 cons:x.cons.length<=40
 bZ:x.provides.length<=50
 XV:∀z∈x.deps,mZ z.on/\mZ z.cond
 XW:∀z∈x.cons,mZ z.cond/\mZ z.with'
section
variable {w w':World} {B:Nat}
def Ua(w w':World)(e:Ending)(p:Prop):Prop:= ∃b,e= .returned (.bool b)/\(b=false->p)/\O0 w w'
theorem Ua.mk{w w':World}{e:Ending}{p:Prop}(b:Bool)(he:e= .returned (.bool b))(h:b=false->p)(o:O0 w w'):Ua w w' e p:=⟨b,he,h,o⟩
end
structure sQ (x:aC):Prop where
 packs:x.packs.length<=30
 cO:x.cO.length<=20
 all:∀p∈x.packs,Vq p
section
variable {w w':World} {B:Nat}
theorem OM{v:Value}{xs:List iD}(h:aJ 2 eX B w v xs){g:Nat}{cb:Array Value}{p:iD->Bool}(eg:∀args w,(callFunc g args).run Tryz.prog w= .ok (.enter g args) w)(hp:rH eX B g cb p w):Calls Tryz.prog 374 #[v,.func (.func g) #[] cb] w fun e w'=>e= .returned (.int .i64 (jk p xs))/\O0 w w':=by
 obtain⟨ao,cap,rfl,hc1,hc2⟩:=h.shape;have HH:=zh h;have J6:=zh hp;obtain⟨n,hn⟩:=ze xs.length;have HN:=zh hn;rw[hn]at hc1⊢;clear h hp hn;go_enter Tryz.func374,Tryz.ntmps374;go_wp2_with fail;go_loopw [5,8] (fun _ vi wr=>Hid (O0 w wr)/\∃i:Nat,vi= .int .i64 i/\i<=n/\Hid (∀x∈xs.take i,p x=false)) (fun _ v _=>n-(intOf v).toNat);case atStart=>exact⟨show Hid _ from Only.refl _ _,0,rfl,qE _,show Hid _ from fun x hx=>by simp at hx⟩
 case round=>
  obtain⟨HO,i,rfl,hi,HZ⟩:=hrel;by_cases ci:i<n
  ·have h2:=HH.out;rw[HN.out]at h2;obtain⟨b,off,he,-,-⟩:=h2.at zAb;subst he;obtain⟨x,hx⟩:=zG xs i zAS;obtain⟨cs,hl,hr,hC⟩:=(h2.keep eX.keep (Kp.fU HO.out)).get hx;have jg:=zw (i+1);have HR:=zh hr;have HL:=zh hl;have HX:=zh hx;have HC:=zh (J6.out wr cs x HO.out hC);obtain⟨y,hy⟩:=ze (p x);rw[hy]at HC;have HY:=zh hy;clear hr hx hy h2 hl hC;cases y with
   |true=>go_wp2_with (refine wpList_load_mid rfl 128 (.tmp 14) rfl b (off+i*2) rfl cs _ HR.out Tryz.underlying128 rfl zAU ?_);exact zBh
   |false=>go_wp2_with (refine wpList_load_mid rfl 128 (.tmp 14) rfl b (off+i*2) rfl cs _ HR.out Tryz.underlying128 rfl zAU ?_);exact zBa
  exact zBf
theorem F8{v:Value}{xs:List iD}(h:aJ 2 eX B w v xs){g:Nat}{cb:Array Value}{p:iD->Bool}(eg:∀args w,(callFunc g args).run Tryz.prog w= .ok (.enter g args) w)(hp:rH eX B g cb p w)(r:Bool)(hr:decide (0<=jk p xs)=r):Calls Tryz.prog 340 #[v,.func (.func g) #[] cb] w fun e w'=>e= .returned (.bool r)/\O0 w w':=by have H:=zh (OM h eg hp);obtain⟨i,hi⟩:=ze (jk p xs);rw[hi]at H hr;clear h hp hi;go_enter Tryz.func340,Tryz.ntmps340;go_wp2_with fail;refine H.out.mono ?_;rintro e w1 ⟨rfl,O1⟩;go_wp2_with fail;go_ret;refine⟨?_,O1⟩;first|rfl| (rw[<-hr];rfl)| (rw[<-hr];simp)|simp
end
end Go.Proofs.YtdmmebjjojimiaaGreatDoor
namespace Go.Proofs.YtdmmebjjojimiaaGreatDoor
open Go.RowKit
theorem alloc_at{w:World}{o:Obj}{n:Nat}(h:w.heap.size=n):(w.alloc o).heap[n]? =some o:=by subst h;exact qL w o
end Go.Proofs.YtdmmebjjojimiaaGreatDoor
namespace Go.Proofs
theorem zAw{p:Prop}(h:p:=by rw[hW0];exact bC (alloc_at rfl) _):p:=h
end Go.Proofs
namespace Go.Proofs.YtdmmebjjojimiaaGreatDoor
open Go.RowKit
section
variable {w:World} {B:Nat}
theorem open_rec{cs:List Value}{x:aC}(h:gG B w cs x):∃(a1:Option Addr) (n1 c1:Nat) (a2:Option Addr) (n2 c2:Nat),cs=[.slice a1 n1 c1,.slice a2 n2 c2]/\n1<=c1/\c1<=9223372036854775807/\n2<=c2/\c2<=9223372036854775807/\Hid (x.packs.length=n1)/\Hid (x.cO.length=n2)/\∀W0,O0 w W0->Hid (∀W,O0 W0 W->gG B W [.slice a1 n1 c1,.slice a2 n2 c2] x)/\Hid (∀W,O0 W0 W->aJ 8 fF B W (.slice a1 n1 c1) x.packs)/\Hid (∀W,O0 W0 W->aJ 3 jX B W (.slice a2 n2 c2) x.cO):=by have h0:=h;obtain⟨u1,u2,rfl,r1,r2⟩:=h;obtain⟨a1,c1,rfl,g1,h1⟩:=r1.shape;obtain⟨a2,c2,rfl,g2,h2⟩:=r2.shape;exact⟨a1,_,c1,a2,_,c2,rfl,g1,h1,g2,h2,rfl,rfl,fun W0 ho=>⟨fun W hW=>gG.keep h0 (Kp.fU (ho.same hW):Kp B w W),fun W hW=>r1.keep fF.keep (Kp.fU (ho.same hW)),fun W hW=>r2.keep jX.keep (Kp.fU (ho.same hW))⟩⟩
theorem Nl{cs:List Value}{x:dG}(h:lI B w cs x):∃(a1:Option Addr) (n1 c1:Nat),cs=[.slice a1 n1 c1]/\n1<=c1/\c1<=9223372036854775807/\Hid (x.roots.length=n1)/\∀W0,O0 w W0->Hid (∀W,O0 W0 W->lI B W [.slice a1 n1 c1] x)/\Hid (∀W,O0 W0 W->aJ 4 kX B W (.slice a1 n1 c1) x.roots):=by have h0:=h;obtain⟨u1,rfl,r1⟩:=h;obtain⟨a1,c1,rfl,g1,h1⟩:=r1.shape;exact⟨a1,_,c1,rfl,g1,h1,rfl,fun W0 ho=>⟨fun W hW=>lI.keep h0 (Kp.fU (ho.same hW):Kp B w W),fun W hW=>r1.keep kX.keep (Kp.fU (ho.same hW))⟩⟩
theorem U8{cs:List Value}{x:fQ}(h:dh B w cs x):∃(a1:Option Addr) (n1 c1:Nat) (a2:Option Addr) (n2 c2:Nat),cs=[.string x.name,.slice a1 n1 c1,.slice a2 n2 c2]/\n1<=c1/\c1<=9223372036854775807/\n2<=c2/\c2<=9223372036854775807/\Hid (x.spans.length=n1)/\Hid (x.sets.length=n2)/\∀W0,O0 w W0->Hid (∀W,O0 W0 W->dh B W [.string x.name,.slice a1 n1 c1,.slice a2 n2 c2] x)/\Hid (∀W,O0 W0 W->aJ 2 eX B W (.slice a1 n1 c1) x.spans)/\Hid (∀W,O0 W0 W->aJ 2 je B W (.slice a2 n2 c2) x.sets):=by have h0:=h;obtain⟨u1,u2,rfl,-,r1,r2⟩:=h;obtain⟨a1,c1,rfl,g1,h1⟩:=r1.shape;obtain⟨a2,c2,rfl,g2,h2⟩:=r2.shape;exact⟨a1,_,c1,a2,_,c2,rfl,g1,h1,g2,h2,rfl,rfl,fun W0 ho=>⟨fun W hW=>dh.keep h0 (Kp.fU (ho.same hW):Kp B w W),fun W hW=>r1.keep eX.keep (Kp.fU (ho.same hW)),fun W hW=>r2.keep je.keep (Kp.fU (ho.same hW))⟩⟩
theorem I7{cs:List Value}{x:eP}(h:fF B w cs x):∃(a1:Option Addr) (n1 c1:Nat) (a2:Option Addr) (n2 c2:Nat) (a3:Option Addr) (n3 c3:Nat) (a4:Option Addr) (n4 c4:Nat) (a5:Option Addr) (n5 c5:Nat) (a6:Option Addr) (n6 c6:Nat),cs=[.string x.name,.int .i64 x.line,.slice a1 n1 c1,.slice a2 n2 c2,.slice a3 n3 c3,.slice a4 n4 c4,.slice a5 n5 c5,.slice a6 n6 c6]/\n1<=c1/\c1<=9223372036854775807/\n2<=c2/\c2<=9223372036854775807/\n3<=c3/\c3<=9223372036854775807/\n4<=c4/\c4<=9223372036854775807/\n5<=c5/\c5<=9223372036854775807/\n6<=c6/\c6<=9223372036854775807/\Hid (x.aP.length=n1)/\Hid (x.vars.length=n2)/\Hid (x.provides.length=n3)/\Hid (x.deps.length=n4)/\Hid (x.cons.length=n5)/\Hid (x.files.length=n6)/\∀W0,O0 w W0->Hid (∀W,O0 W0 W->fF B W [.string x.name,.int .i64 x.line,.slice a1 n1 c1,.slice a2 n2 c2,.slice a3 n3 c3,.slice a4 n4 c4,.slice a5 n5 c5,.slice a6 n6 c6] x)/\Hid (∀W,O0 W0 W->aJ 2 nK B W (.slice a1 n1 c1) x.aP)/\Hid (∀W,O0 W0 W->aJ 2 jF B W (.slice a2 n2 c2) x.vars)/\Hid (∀W,O0 W0 W->aJ 1 dK B W (.slice a3 n3 c3) x.provides)/\Hid (∀W,O0 W0 W->aJ 7 l7 B W (.slice a4 n4 c4) x.deps)/\Hid (∀W,O0 W0 W->aJ 7 oQ B W (.slice a5 n5 c5) x.cons)/\Hid (∀W,O0 W0 W->aJ 1 dK B W (.slice a6 n6 c6) x.files):=by have h0:=h;obtain⟨u1,u2,u3,u4,u5,u6,rfl,-,-,r1,r2,r3,r4,r5,r6⟩:=h;obtain⟨a1,c1,rfl,g1,h1⟩:=r1.shape;obtain⟨a2,c2,rfl,g2,h2⟩:=r2.shape;obtain⟨a3,c3,rfl,g3,h3⟩:=r3.shape;obtain⟨a4,c4,rfl,g4,h4⟩:=r4.shape;obtain⟨a5,c5,rfl,g5,h5⟩:=r5.shape;obtain⟨a6,c6,rfl,g6,h6⟩:=r6.shape;exact⟨a1,_,c1,a2,_,c2,a3,_,c3,a4,_,c4,a5,_,c5,a6,_,c6,rfl,g1,h1,g2,h2,g3,h3,g4,h4,g5,h5,g6,h6,rfl,rfl,rfl,rfl,rfl,rfl,fun W0 ho=>⟨fun W hW=>fF.keep h0 (Kp.fU (ho.same hW):Kp B w W),fun W hW=>r1.keep nK.keep (Kp.fU (ho.same hW)),fun W hW=>r2.keep jF.keep (Kp.fU (ho.same hW)),fun W hW=>r3.keep dK.keep (Kp.fU (ho.same hW)),fun W hW=>r4.keep l7.keep (Kp.fU (ho.same hW)),fun W hW=>r5.keep oQ.keep (Kp.fU (ho.same hW)),fun W hW=>r6.keep dK.keep (Kp.fU (ho.same hW))⟩⟩
theorem open_strs{v:Value}{x:List Str}(h:aJ 1 dK B w v x):∃(a:Option Addr) (n c:Nat),v= .slice a n c/\n<=c/\c<=9223372036854775807/\Hid (x.length=n)/\∀W0,O0 w W0->Hid (∀W,O0 W0 W->aJ 1 dK B W (.slice a n c) x):=by obtain⟨a,c,rfl,g1,h1⟩:=h.shape;exact⟨a,_,c,rfl,g1,h1,rfl,fun W0 ho W hW=>h.keep dK.keep (Kp.fU (ho.same hW))⟩
theorem U9{v:Value}{x:List jv}(h:aJ 2 je B w v x):∃(a:Option Addr) (n c:Nat),v= .slice a n c/\n<=c/\c<=9223372036854775807/\Hid (x.length=n)/\∀W0,O0 w W0->Hid (∀W,O0 W0 W->aJ 2 je B W (.slice a n c) x):=by obtain⟨a,c,rfl,g1,h1⟩:=h.shape;exact⟨a,_,c,rfl,g1,h1,rfl,fun W0 ho W hW=>h.keep je.keep (Kp.fU (ho.same hW))⟩
theorem ac2(w:World)(v0 v1:Value)(t0:TypeId):∃W0,W0=(w.alloc (.cells #[v0,v1] t0))/\Hid (O0 w W0)/\Hid (W0.heap.size=w.heap.size+1)/\Hid (∀W,O0 W0 W->W.cell? ⟨w.heap.size,0,none⟩=some v0/\W.cell? ⟨w.heap.size,1,none⟩=some v1):=by
 obtain⟨W0,hW0⟩:=zB (w.alloc (.cells #[v0,v1] t0));refine⟨W0,hW0,by rw[hW0];exact zr.alloc _,by rw[hW0];simp[Hid],fun W ho=>?_⟩;have b0:W0.heap[w.heap.size]? =some (.cells #[v0,v1] t0):=by rw[hW0];exact alloc_at rfl
 have d0:=ak b0 ho (fun f=>f);exact⟨by rw[aj d0];rfl,by rw[aj d0];rfl⟩
theorem Xu(w:World)(v0 v1 v2:Value)(t0 t1:TypeId):∃W0,W0=((w.alloc (.cells #[v0,v1] t0)).alloc (.cells #[v2] t1))/\Hid (O0 w W0)/\Hid (W0.heap.size=w.heap.size+2)/\Hid (∀W,O0 W0 W->W.cell? ⟨w.heap.size,0,none⟩=some v0/\W.cell? ⟨w.heap.size,1,none⟩=some v1/\W.cell? ⟨w.heap.size+1,0,none⟩=some v2):=by
 obtain⟨W0,hW0⟩:=zB ((w.alloc (.cells #[v0,v1] t0)).alloc (.cells #[v2] t1));refine⟨W0,hW0,by rw[hW0];exact(zr.alloc _).alloc _,by rw[hW0];simp[Hid],fun W ho=>?_⟩;have b0:W0.heap[w.heap.size]? =some (.cells #[v0,v1] t0):=zAw;have d0:=ak b0 ho (fun f=>f);have b1:W0.heap[w.heap.size+1]? =some (.cells #[v2] t1):=by rw[hW0];exact alloc_at zAE
 have d1:=ak b1 ho (fun f=>f);exact⟨by rw[aj d0];rfl,by rw[aj d0];rfl,by rw[aj d1];rfl⟩
theorem ac3(w:World)(v0 v1 v2 v3 v4:Value)(t0 t1:TypeId):∃W0,W0=((w.alloc (.cells #[v0,v1] t0)).alloc (.cells #[v2,v3,v4] t1))/\Hid (O0 w W0)/\Hid (W0.heap.size=w.heap.size+2)/\Hid (∀W,O0 W0 W->W.cell? ⟨w.heap.size,0,none⟩=some v0/\W.cell? ⟨w.heap.size,1,none⟩=some v1/\W.cell? ⟨w.heap.size+1,0,none⟩=some v2/\W.cell? ⟨w.heap.size+1,1,none⟩=some v3/\W.cell? ⟨w.heap.size+1,2,none⟩=some v4):=by
 obtain⟨W0,hW0⟩:=zB ((w.alloc (.cells #[v0,v1] t0)).alloc (.cells #[v2,v3,v4] t1));refine⟨W0,hW0,by rw[hW0];exact(zr.alloc _).alloc _,by rw[hW0];simp[Hid],fun W ho=>?_⟩;have b0:W0.heap[w.heap.size]? =some (.cells #[v0,v1] t0):=zAw;have d0:=ak b0 ho (fun f=>f);have b1:W0.heap[w.heap.size+1]? =some (.cells #[v2,v3,v4] t1):=by rw[hW0];exact alloc_at zAE
 have d1:=ak b1 ho (fun f=>f);exact⟨by rw[aj d0];rfl,by rw[aj d0];rfl,by rw[aj d1];rfl,by rw[aj d1];rfl,by rw[aj d1];rfl⟩
theorem ac4(w:World)(v0 v1 v2 v3 v4 v5 v6 v7 v8 v9:Value)(t0 t1:TypeId):∃W0,W0=((w.alloc (.cells #[v0,v1] t0)).alloc (.cells #[v2,v3,v4,v5,v6,v7,v8,v9] t1))/\Hid (O0 w W0)/\Hid (W0.heap.size=w.heap.size+2)/\Hid (∀W,O0 W0 W->W.cell? ⟨w.heap.size,0,none⟩=some v0/\W.cell? ⟨w.heap.size,1,none⟩=some v1/\W.cell? ⟨w.heap.size+1,0,none⟩=some v2/\W.cell? ⟨w.heap.size+1,1,none⟩=some v3/\W.cell? ⟨w.heap.size+1,2,none⟩=some v4/\W.cell? ⟨w.heap.size+1,3,none⟩=some v5/\W.cell? ⟨w.heap.size+1,4,none⟩=some v6/\W.cell? ⟨w.heap.size+1,5,none⟩=some v7/\W.cell? ⟨w.heap.size+1,6,none⟩=some v8/\W.cell? ⟨w.heap.size+1,7,none⟩=some v9):=by
 obtain⟨W0,hW0⟩:=zB ((w.alloc (.cells #[v0,v1] t0)).alloc (.cells #[v2,v3,v4,v5,v6,v7,v8,v9] t1));refine⟨W0,hW0,by rw[hW0];exact(zr.alloc _).alloc _,by rw[hW0];simp[Hid],fun W ho=>?_⟩;have b0:W0.heap[w.heap.size]? =some (.cells #[v0,v1] t0):=zAw;have d0:=ak b0 ho (fun f=>f);have b1:W0.heap[w.heap.size+1]? =some (.cells #[v2,v3,v4,v5,v6,v7,v8,v9] t1):=by rw[hW0];exact alloc_at zAE
 have d1:=ak b1 ho (fun f=>f);exact⟨by rw[aj d0];rfl,by rw[aj d0];rfl,by rw[aj d1];rfl,by rw[aj d1];rfl,by rw[aj d1];rfl,by rw[aj d1];rfl,by rw[aj d1];rfl,by rw[aj d1];rfl,by rw[aj d1];rfl,by rw[aj d1];rfl⟩
theorem ajo(w:World)(v0 v1 v2 v3 v4 v5 v6 v7:Value)(t0:TypeId):∃W0,W0=(w.alloc (.cells #[v0,v1,v2,v3,v4,v5,v6,v7] t0))/\Hid (O0 w W0)/\Hid (W0.heap.size=w.heap.size+1)/\Hid (∀W,O0 W0 W->W.cell? ⟨w.heap.size,0,none⟩=some v0/\W.cell? ⟨w.heap.size,1,none⟩=some v1/\W.cell? ⟨w.heap.size,2,none⟩=some v2/\W.cell? ⟨w.heap.size,3,none⟩=some v3/\W.cell? ⟨w.heap.size,4,none⟩=some v4/\W.cell? ⟨w.heap.size,5,none⟩=some v5/\W.cell? ⟨w.heap.size,6,none⟩=some v6/\W.cell? ⟨w.heap.size,7,none⟩=some v7):=by
 obtain⟨W0,hW0⟩:=zB (w.alloc (.cells #[v0,v1,v2,v3,v4,v5,v6,v7] t0));refine⟨W0,hW0,by rw[hW0];exact zr.alloc _,by rw[hW0];simp[Hid],fun W ho=>?_⟩;have b0:W0.heap[w.heap.size]? =some (.cells #[v0,v1,v2,v3,v4,v5,v6,v7] t0):=by rw[hW0];exact alloc_at rfl
 have d0:=ak b0 ho (fun f=>f);exact⟨by rw[aj d0];rfl,by rw[aj d0];rfl,by rw[aj d0];rfl,by rw[aj d0];rfl,by rw[aj d0];rfl,by rw[aj d0];rfl,by rw[aj d0];rfl,by rw[aj d0];rfl⟩
end
end Go.Proofs.YtdmmebjjojimiaaGreatDoor
namespace Go.Proofs.YtdmmebjjojimiaaGreatDoor
section
variable {P:Program} {ops:Array Oper} {C:World->Prop} {Q:Act->Prop} {a:Act} {o:Oper} {rest:List Oper}
theorem TM{v:Value}(hw:Region.wanted o (yielded ops a.tmps)=true)(hv:∀w,C w->(execOp a.eval o).run P w= .ok (.value v) w)
  (h:wpQuiet P ops C Q rest (a.put o.dst v)):wpQuiet P ops C Q (o::rest) a:=
 wpQuiet_step fun K hK=>by
  rw[if_pos hw]
  refine⟨v,fun w hC=>?_,hK _ h⟩
  unfold Oper.quietAt
  rw[hv w hC]
  exact⟨rfl,rfl⟩
theorem nN{v:Value}{f:FuncId}{args:Array Value}(hw:Region.wanted o (yielded ops a.tmps)=true)(he:∀w,(execOp a.eval o).run P w= .ok (.enter f args) w)
  (hc:∀w,C w->Calls P f args w fun e w'=>e= .returned v/\C w')
  (h:wpQuiet P ops C Q rest (a.put o.dst v)):wpQuiet P ops C Q (o::rest) a:=
 wpQuiet_step fun K hK=>by
  rw[if_pos hw]
  refine⟨v,fun w hC=>?_,hK _ h⟩
  unfold Oper.quietAt
  rw[he w]
  exact⟨rfl,hc w hC⟩
theorem Xv(hw:Region.wanted o (yielded ops a.tmps)=false)(h:wpQuiet P ops C Q rest (a.put o.dst undef)):wpQuiet P ops C Q (o::rest) a:=
 wpQuiet_step fun K hK=>by rw[if_neg (by rw[hw];exact Bool.false_ne_true)];exact hK _ h
theorem rJ{id:Nat}{Q:Exit->Act->World->Prop}{a:Act}{w:World}{l:List Oper}(C:World->Prop)(hm:P.follows .mixedOrders=true)(hB:Region.lexB .any l.toArray=true)(hC:C w.drew)
  (h:wpQuiet P l.toArray C (fun a'=> ∀w',C w'->Q .normal a' w') l a):(Code.region id l.toArray true).wp P Q a w:=
 wp_region_quiet (C:=C) hm hB hC (by simpa using h)
end
end Go.Proofs.YtdmmebjjojimiaaGreatDoor
namespace Go.Proofs.YtdmmebjjojimiaaGreatDoor
open Go.RowKit
section
variable {P:Program} {ops:Array Oper} {Q:Exit->Act->World->Prop} {md:Region.Mode} {S:World->Prop} {E:Nat->Bool}
theorem tW(i:Nat){oi:Oper}{v:Value}{fuel:Nat}{listed L2:Array Bool}{a a2:Act}{w:World}(h:eU P md ops Q S E fuel L2 a2 w)(hi:ops[i]? =some oi:=by exact rfl)
  (hS:iy ops E listed=true\/S w:=by exact .inr (by assumption)) (hw:Region.wanted oi (yielded ops a.tmps)=true:=by rfl) (hs:Region.noSelect ops=true:=by kernel_rfl) (hf:Region.free md ops listed i=true:=by kernel_rfl) (hr:(Region.ready md ops listed).contains i=true:=by kernel_rfl) (hEi:E i=false:=by exact rfl)
  (hy:∀w,(execOp a.eval oi).run P w= .ok (.value v) w:=by(intro w;go_simp<;>(try with_reducible rfl)))
  (eL:listed.setIfInBounds i true=L2:=by first| (simp only[List.getElem_toArray,List.getElem_cons_succ,List.getElem_cons_zero,List.setIfInBounds_toArray,List.set_cons_zero,List.set_cons_succ];rfl)|rfl) (eA:a.put oi.dst v=a2:=by first| (simp only[Act.put,dL,dQ,dM,dN,dO,dP];rfl)|rfl)
  (hQ:∀c a w,Q (.panic c) (a.put oi.dst v) w->Q (.panic c) a w:=by exact fun _ _ _ h=>h):eU P md ops Q S E (fuel+1) listed a w:=
 zS hi hs hf hr hEi hQ hS hw hy (by rw[eL,eA];exact h)
theorem tK(i:Nat){oi:Oper}{v:Value}{fuel:Nat}{listed L2:Array Bool}{a a2:Act}{w:World}(h:eU P md ops Q S E fuel L2 a2 w)(hi:ops[i]? =some oi:=by exact rfl)
  (hS:S w:=by assumption) (hw:Region.wanted oi (yielded ops a.tmps)=true:=by rfl) (hs:Region.noSelect ops=true:=by kernel_rfl) (hf:Region.free md ops listed i=true:=by kernel_rfl) (hr:(Region.ready md ops listed).contains i=true:=by kernel_rfl) (hEi:E i=false:=by exact rfl) (hE:sJ ops md E i=true:=by kernel_rfl) (hD:iy ops E listed=false:=by kernel_rfl)
  (hy:∀w,S w->(execOp a.eval oi).run P w= .ok (.value v) w:=by(intro w hSw;(try dsimp only at hSw);go_simp<;>(try with_reducible rfl)))
  (eL:listed.setIfInBounds i true=L2:=by first| (simp only[List.getElem_toArray,List.getElem_cons_succ,List.getElem_cons_zero,List.setIfInBounds_toArray,List.set_cons_zero,List.set_cons_succ];rfl)|rfl) (eA:a.put oi.dst v=a2:=by first| (simp only[Act.put,dL,dQ,dM,dN,dO,dP];rfl)|rfl)
  (hQ:∀c a w,Q (.panic c) (a.put oi.dst v) w->Q (.panic c) a w:=by exact fun _ _ _ h=>h):eU P md ops Q S E (fuel+1) listed a w:=
 Dt hi hs hf hr hEi hE hD hQ hS hw hy (by rw[eL,eA];exact h)
theorem tS(i:Nat){oi:Oper}{fuel:Nat}{listed L2:Array Bool}{a a2:Act}{w:World}(h:eU P md ops Q S E fuel L2 a2 w)(hi:ops[i]? =some oi:=by exact rfl)
  (hS:iy ops E listed=true\/S w:=by exact .inr (by assumption)) (hw:Region.wanted oi (yielded ops a.tmps)=false:=by rfl) (hs:Region.noSelect ops=true:=by kernel_rfl) (hf:Region.free md ops listed i=true:=by kernel_rfl) (hr:(Region.ready md ops listed).contains i=true:=by kernel_rfl) (hEi:E i=false:=by exact rfl)
  (eL:listed.setIfInBounds i true=L2:=by first| (simp only[List.getElem_toArray,List.getElem_cons_succ,List.getElem_cons_zero,List.setIfInBounds_toArray,List.set_cons_zero,List.set_cons_succ];rfl)|rfl) (eA:a.put oi.dst undef=a2:=by first| (simp only[Act.put,dL,dQ,dM,dN,dO,dP];rfl)|rfl)
  (hQ:∀c a w,Q (.panic c) (a.put oi.dst undef) w->Q (.panic c) a w:=by exact fun _ _ _ h=>h):eU P md ops Q S E (fuel+1) listed a w:=
 Nh hi hs hf hr hEi hQ hS hw (by rw[eL,eA];exact h)
theorem tO(i:Nat){oi:Oper}{fuel:Nat}{listed:Array Bool}{a:Act}{w:World}
  (h:∀K':Act->World->Prop,Shut (∀a w,S w->(S w->eU P md ops Q S E fuel (listed.setIfInBounds i true) a w)->K' a w)->if Region.wanted oi (yielded ops a.tmps)=true then Oper.wp P oi a w K' Q else K' (a.put oi.dst undef) w)
  (hi:ops[i]? =some oi:=by exact rfl) (hr:Region.ready md ops listed=[i]:=by kernel_rfl):eU P md ops Q S E (fuel+1) listed a w:=
 eY hr (by simp) (bD.cons hi h bD.nil)
end
section
variable {P:Program} {ops:Array Oper} {C:World->Prop} {Q:Act->Prop} {a:Act} {o:Oper} {rest:List Oper}
theorem qV{v:Value}{a2:Act}(h:wpQuiet P ops C Q rest a2)(hw:Region.wanted o (yielded ops a.tmps)=true:=by rfl)
  (hy:∀w,C w->(execOp a.eval o).run P w= .ok (.value v) w:=by(intro w hSw;(try dsimp only at hSw);go_simp<;>(try with_reducible rfl)))
  (eA:a.put o.dst v=a2:=by first| (simp only[Act.put,dL,dQ,dM,dN,dO,dP];rfl)|rfl):wpQuiet P ops C Q (o::rest) a:=
 TM hw hy (by rw[eA];exact h)
theorem qS{a2:Act}(h:wpQuiet P ops C Q rest a2)(hw:Region.wanted o (yielded ops a.tmps)=false:=by kernel_rfl)
  (eA:a.put o.dst undef=a2:=by first| (simp only[Act.put,dL,dQ,dM,dN,dO,dP];rfl)|rfl):wpQuiet P ops C Q (o::rest) a:=
 Xv hw (by rw[eA];exact h)
end
end Go.Proofs.YtdmmebjjojimiaaGreatDoor
namespace Go.Proofs.YtdmmebjjojimiaaGreatDoor
section
variable {P:Program} {ops:Array Oper} {C:World->Prop} {Q:Act->Prop} {a:Act} {o:Oper} {rest:List Oper}
theorem bV{ty:TypeId}{x:Operand}{b off:Nat}{cs:List Value}{d:TypeDesc}{w:World}(ho:o.op= .load ty x)(hx:a.eval x= .pointer (some ⟨b,off,none⟩))(hc:w.rangeAt b off cs)(hu:P.underlying ty=some d)(hd:d.isRow=true)(hi:(P.info? ty).map (·.size)=some cs.length):(execOp a.eval o).run P w= .ok (.value (.agg cs.toArray)) w:=by unfold execOp;simp only[ho,hx,Instr.loadAt,Instr.sureAddr,Sem.run_bind,Sem.run_pure,Result.andThen_ok,run_loadVar_mid w b off ty cs d hc hu hd hi]
theorem V4{ty:TypeId}{x:Operand}{b off:Nat}{cs:List Value}{d:TypeDesc}(hw:Region.wanted o (yielded ops a.tmps)=true)(ho:o.op= .load ty x)(hx:a.eval x= .pointer (some ⟨b,off,none⟩))(hc:∀w,C w->w.rangeAt b off cs)
  (hu:P.underlying ty=some d) (hd:d.isRow=true) (hi:(P.info? ty).map (·.size)=some cs.length) (h:wpQuiet P ops C Q rest (a.put o.dst (.agg cs.toArray))):wpQuiet P ops C Q (o::rest) a:=
 TM hw (fun w hC=>bV ho hx (hc w hC) hu hd hi) h
end
end Go.Proofs.YtdmmebjjojimiaaGreatDoor
