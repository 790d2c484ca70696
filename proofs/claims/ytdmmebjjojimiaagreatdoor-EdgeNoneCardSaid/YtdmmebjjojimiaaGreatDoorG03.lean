/- slices.Index, slices.Contains at []string, off the shelf.; Find, Providers, Targets: walks. -/
import Derived.Test.YtdmmebjjojimiaaGreatDoorG02
import Derived.Shelf.Slices.Turned
set_option maxRecDepth 100000
set_option maxHeartbeats 8000000
set_option linter.all false
namespace Go.Proofs.YtdmmebjjojimiaaGreatDoor
def Tryz.TN:Go.Shelf.Ren:=⟨fun |110=>191|109=>272|n=>n,fun |0=>0|3=>3|4=>4|9=>9|31=>81|n=>n,fun |n=>n⟩
theorem Tryz.Yr:Go.Proofs.Lays.n110 Tryz.prog Tryz.TN:={
 mixed:=by kernel_rfl
 f110:=Tryz.func191.trans (congrArg some zk)
 f109:=Tryz.func272.trans (congrArg some zk)
 t0:=Tryz.underlying0
 a0:=Tryz.isAgg0
 z0:=Tryz.sizeOf0
 v0:=Tryz.zeroValue0
 t3:=Tryz.underlying3
 a3:=Tryz.isAgg3
 z3:=Tryz.sizeOf3
 v3:=Tryz.zeroValue3
 t4:=Tryz.underlying4
 a4:=Tryz.isAgg4
 z4:=Tryz.sizeOf4
 v4:=Tryz.zeroValue4
 t9:=Tryz.underlying9
 a9:=Tryz.isAgg9
 z9:=Tryz.sizeOf9
 v9:=Tryz.zeroValue9
 t31:=Tryz.underlying81
 a31:=Tryz.isAgg81
 z31:=Tryz.sizeOf81
 v31:=Tryz.zeroValue81}
theorem Tryz.slices_Contains_string(b off n c:Nat)(zs:List ByteArray)(x:ByteArray)(w:World)(hz:n<=zs.length)(hbig:n<=9223372036854775807)(hc:∀j,j<zs.length->w.cell? ⟨b,off+j,none⟩=some (.string (zs.getD j ByteArray.empty))):Calls Tryz.prog 191 #[.slice (some ⟨b,off,none⟩) n c,.string x] w fun e w'=>e= .returned (.bool (Lib.containsS (zs.take n) x))/\w'=w:=Any.slices_Contains_string Tryz.Yr b off n c zs x w hz hbig hc
theorem Tryz.slices_Contains_string_empty(a:Option Addr)(c:Nat)(x:ByteArray)(w:World):Calls Tryz.prog 191 #[.slice a 0 c,.string x] w fun e w'=>e= .returned (.bool false)/\w'=w:=Any.slices_Contains_string_empty Tryz.Yr a c x w
end Go.Proofs.YtdmmebjjojimiaaGreatDoor
namespace Go.Proofs
theorem zAl{p:Prop}(h:p:=by rw[HN.out];exact ci):p:=h
theorem zBC{p:Prop}(h:p:=by rw[HN.out];omega):p:=h
theorem zBP{p:Prop}(h:p:=by rw[HL.out];kernel_rfl):p:=h
theorem zBl{p:Prop}(h:p:=by decide):p:=h
theorem zCU{p:Prop}(h:p:=by rw[World.cell?_of_block (w:=w.alloc (.cells #[.slice ao x.packs.length cap,.slice oJ x.iH.length cap2] 25)) (O1.block _ zAM (fun f=>f))];simp):p:=h
theorem zCf{p:Prop}(h:p:=by
 refine HC.out.mono ?_
 rintro e w1 ⟨rfl,O1⟩
 have bM:=zh (HO.out.same O1)
 clear O1
 go_wp2_with fail
 go_roundw
 case rel=>exact⟨bM,i+1,by first|rfl|go_num,by omega,show Hid _ from fun z hz=>by
  rcases dI HX.out hz with h|rfl
  ·exact HZ.out z h
  ·exact HY.out⟩
 case measure=>simp[intOf]<;>omega):p:=h
theorem zC9{p:Prop}(h:p:=by
 simp[Value.ownBlock]at hk;subst hk
 have:=bM.out.size
 simp at h;omega):p:=h
theorem zDD{p:Prop}(h:p:=by simp[Value.ownBlock]at hk;subst hk;exact HB.out _ h):p:=h
theorem zDg{p:Prop}(h:p:=by
 have:i=n:=by omega
 subst this
 go_wp2_with fail
 go_ret
 have:=HZ.out
 rw[qI (yG HN.out)]at this
 exact⟨by rw[Dx this];rfl,HO.out⟩):p:=h
theorem zFL{p:Prop}(h:p:=by
 have:=World.ownsRow_lit (base:=0) (e:=3) (size:=1) w1 #[.int .i64 f] 1 (qE _) zAe zAM
 simpa[ji,Int.toNat_of_nonneg hf0]using this):p:=h
theorem zDq{p:Prop}(h:p:=by
 refine HC.out.mono ?_
 rintro e w1 ⟨rfl,O1⟩
 go_wp2_with fail
 go_ret
 exact⟨by rw[Gg HX.out HY.out HZ.out];rfl,HO.out.same O1⟩):p:=h
theorem zER{p:Prop}(h:p:=by
 unfold aH.jI
 have:=yO (fun i=>tX (x.pack i).provides s) (List.range i)
 simpa using this):p:=h
end Go.Proofs
namespace Go.Proofs.YtdmmebjjojimiaaGreatDoor
open Go.RowKit Go.Shelf
def TP{α:Type}(C:Nat->World->List Value->α->Prop)(B:Nat)(g:Nat)(cb:Array Value)(p:α->Bool)(w:World):Prop:=
 ∀(W:World) (cs:List Value) (x:α),O0 w W->C B W cs x->Calls Tryz.prog g (#[.agg cs.toArray]++cb) W fun e w'=>e= .returned (.bool (p x))/\O0 W w'
theorem dI{α:Type}{xs:List α}{i:Nat}{x y:α}(hx:xs[i]? =some x)(h:y∈xs.take (i+1)):y∈xs.take i\/y=x:=by
 obtain⟨hlt,rfl⟩:=qJ.1 hx;rw[yL hlt]at h;rcases qW.1 h with h|h;·exact .inl h
 exact .inr (yJ.1 h)
section
variable {w w':World} {B:Nat}
theorem Wu{v:Value}{xs:List iT}(h:aQ 8 iU B w v xs){g:Nat}{cb:Array Value}{p:iT->Bool}(eg:∀args w,(callFunc g args).run Tryz.prog w= .ok (.enter g args) w)(hp:TP iU B g cb p w):Calls Tryz.prog 262 #[v,.func (.func g) #[] cb] w fun e w'=>e= .returned (.int .i64 (wL p xs))/\O0 w w':=by
 obtain⟨ao,cap,rfl,hc1,hc2⟩:=h.shape;have HH:=zh h;have Zp:=zh hp;obtain⟨n,hn⟩:=ze xs.length;have HN:=zh hn;rw[hn]at hc1⊢;clear h hp hn;go_enter Tryz.func262,Tryz.ntmps262;go_wp2_with fail;go_loopw [5,8] (fun _ vi wr=>Hid (O0 w wr)/\∃i:Nat,vi= .int .i64 i/\i<=n/\Hid (∀x∈xs.take i,p x=false)) (fun _ v _=>n-(intOf v).toNat);case atStart=>exact⟨show Hid _ from Only.refl _ _,0,rfl,qE _,show Hid _ from fun x hx=>by simp at hx⟩
 case round=>
  obtain⟨HO,i,rfl,hi,HZ⟩:=hrel;by_cases ci:i<n
  ·have h2:=HH.out;rw[HN.out]at h2;obtain⟨b,off,he,-,-⟩:=h2.at zBC;subst he;obtain⟨x,hx⟩:=zG xs i zAl;obtain⟨cs,hl,hr,hC⟩:=(h2.keep iU.keep (Kp.iI HO.out)).get hx;have jh:=zw (i+1);have HR:=zh hr;have HL:=zh hl;have HX:=zh hx;have HC:=zh (Zp.out wr cs x HO.out hC);obtain⟨y,hy⟩:=ze (p x);rw[hy]at HC;have HY:=zh hy;clear hr hx hy h2 hl hC;cases y with
   |true=>go_wp2_with (refine wpList_load_mid rfl 101 (.tmp 14) rfl b (off+i*8) rfl cs _ HR.out Tryz.underlying101 rfl zBP ?_);exact zDq
   |false=>go_wp2_with (refine wpList_load_mid rfl 101 (.tmp 14) rfl b (off+i*8) rfl cs _ HR.out Tryz.underlying101 rfl zBP ?_);exact zCf
  exact zDg
theorem jZ(x y:ByteArray):(x.toList==y.toList)=decide (x=y):=by
 by_cases h:x=y;·rw[qX h,(Lib.bytes_beq_iff x y).2 h]
 rw[qP h,(Lib.bytes_beq_false_iff x y).2 h]
theorem Zq(s:Str)(gs:Nat)(hg:w.cell? ⟨gs,0,none⟩=some (.string s)):TP iU B 263 #[.pointer (some ⟨gs,0,none⟩)] (fun p=>decide (p.name=s)) w:=by
 intro W cs x hO hC;obtain⟨v1,v2,v3,v4,v5,v6,rfl,-⟩:=hC;have hlt:gs<w.heap.size:=World.block_lt_of_cell? _ _ hg;have hg2:W.cell? ⟨gs,0,none⟩=some (.string s):=by rw[World.cell?_of_block (w:=w) (hO.block gs hlt (fun f=>f))];exact hg
 have hgW:gs<W.heap.size:=World.block_lt_of_cell? _ _ hg2;have hd:=jZ x.name s;have hne:gs≠W.heap.size:=zBk;clear hg hlt;go_enter Tryz.func263,Tryz.ntmps263;go_wp2_with fail;go_ret;exact⟨rfl,zr.alloc _⟩
theorem TQ:∀args w,(callFunc 263 args).run Tryz.prog w= .ok (.enter 263 args) w:=enters_of Tryz.func263 zk rfl
theorem BO{cs:List Value}{x:aH}(h:jl B w cs x)(s:Str):Calls Tryz.prog 182 #[.agg cs.toArray,.string s] w fun e w'=>e= .returned (.int .i64 (x.find s))/\O0 w w':=by obtain⟨v1,v2,rfl,h1,-⟩:=h;obtain⟨ao,cap,rfl,hc1,hc2⟩:=h1.shape;have HH:=zh h1;clear h1;go_enter Tryz.func182,Tryz.ntmps182;go_wp2_with fail;refine(Wu ((HH.out.keep iU.keep (Kp.iI (((Only.refl (fun _=>False) w).alloc _).alloc _)))) TQ (Zq s (w.heap.size+1) zAM)).mono ?_;rintro e w1 ⟨rfl,O1⟩;go_wp2_with fail;go_ret;exact⟨rfl,(((Only.refl (fun _=>False) w).alloc _).alloc _).same O1⟩
theorem aQ.strs{b off len cap:Nat}{zs:List Str}(h:aQ 1 fM B w (.slice (some ⟨b,off,none⟩) len cap) zs):∀j,j<zs.length->w.cell? ⟨b,off+j,none⟩=some (.string (zs.getD j ByteArray.empty)):=by intro j hj;obtain⟨cs,_,hr,rfl,_⟩:=h.get (qA hj);have:=hr 0 _ rfl;simpa[List.getD,qA hj]using this
theorem N7{v:Value}{zs:List Str}(h:aQ 1 fM B w v zs)(s:Str):Calls Tryz.prog 191 #[v,.string s] w fun e w'=>e= .returned (.bool (tX zs s))/\w'=w:=by
 obtain⟨ao,cap,rfl,hc1,hc2⟩:=h.shape;have e1:Lib.containsS zs s=tX zs s:=by rw[Bool.eq_iff_iff,Lib.containsS_iff,KP]
 by_cases h0:0<zs.length;·obtain⟨b,off,rfl,-,-⟩:=h.at h0;have:=Tryz.slices_Contains_string b off zs.length cap zs s w (qH _) zBk h.strs;rw[qI (qH _),e1]at this;exact this
 obtain rfl:zs=[]:=yF zBk;exact Tryz.slices_Contains_string_empty ao cap s w
def ji(l:List Nat):List Value:=l.map fun i:Nat=>Value.int .i64 (i:Int)
theorem uz{cs:List Value}{x:aH}(h:jl B w cs x)(hlen:x.packs.length<=1000000)(s:Str):Calls Tryz.prog 165 #[.agg cs.toArray,.string s] w fun e w'=> ∃v,e= .returned v/\w'.ownsRow 0 3 1 v (x.eG s).length (ji (x.eG s))/\(∀k,v.ownBlock=some k->w.heap.size<=k)/\O0 w w':=by
 obtain⟨v1,v2,rfl,h1,-⟩:=h;obtain⟨ao,cap,rfl,hc1,hc2⟩:=h1.shape;have HH:=zh h1;obtain⟨n,hn⟩:=ze x.packs.length;have HN:=zh hn;rw[hn]at hc1 hlen⊢;clear h1 hn;go_enter Tryz.func165,Tryz.ntmps165;go_wp2_with fail;go_loopw [5,11] (fun vo vi wr=>Hid (O0 w wr)/\∃i:Nat,vi= .int .i64 i/\i<=n/\Hid (wr.ownsRow 0 3 1 vo (x.jI s i).length (ji (x.jI s i)))/\Hid (∀k,vo.ownBlock=some k->w.heap.size<=k)) (fun _ v _=>n-(intOf v).toNat);case atStart=>exact⟨show Hid _ from zr.alloc _,0,rfl,qE _,show Hid _ from World.ownsRow_nil _ _ _ _,show Hid _ from fun k hk=>by simp[Value.ownBlock]at hk⟩
 case round=>
  obtain⟨HO,i,rfl,hi,HZ⟩:=hrel;by_cases ci:i<n
  ·obtain⟨HV,HB⟩:=HZ;have h2:=HH.out;rw[HN.out]at h2;obtain⟨b,off,he,-,-⟩:=h2.at zBC;subst he;obtain⟨p,hx⟩:=zG x.packs i zAl;obtain⟨cs,hl,hr,hC⟩:=(h2.keep iU.keep (Kp.iI HO.out)).get hx;obtain⟨o1,o2,o3,o4,o5,o6,c1,c2,c3,c4,c5,c6,rfl,-,-,-,-,b5,-,-,-⟩:=hC.cells;have jh:=zw (i+1);have HR:=zh hr;have HX:=zh hx;have HP:=zh b5;clear hr hx h2 hl b5 hC;go_wp2_with (refine wpList_load_mid rfl 101 (.tmp 14) rfl b (off+i*8) rfl _ _ HR.out Tryz.underlying101 rfl zk ?_);refine(N7 (HP.out.keep fM.keep (Kp.iI ((Only.refl (fun _=>False) wr).alloc _))) s).mono ?_;rintro e w1 ⟨rfl,rfl⟩;have BJ:=zh (aI HV.out ((Only.refl (fun _=>False) wr).alloc (.cells #[.string p.name,.int .i64 p.line,.slice o1 p.bY.length c1,.slice o2 p.vars.length c2,.slice o3 p.provides.length c3,.slice o4 p.deps.length c4,.slice o5 p.cons.length c5,.slice o6 p.files.length c6] 101)) (fun _ _ f=>f));have bM:=zh (HO.out.alloc (.cells #[.string p.name,.int .i64 p.line,.slice o1 p.bY.length c1,.slice o2 p.vars.length c2,.slice o3 p.provides.length c3,.slice o4 p.deps.length c4,.slice o5 p.cons.length c5,.slice o6 p.files.length c6] 101));have hpk:x.pack i=p:=by unfold aH.pack;rw[qC,HX.out];rfl
   have hsu:=x.Jt s i;rw[hpk]at hsu;have HSu:=zh hsu;have hpl:(x.jI s i).length<=i:=by exact zER
   generalize wr.alloc _=w1 at*;obtain⟨y,hy⟩:=ze (tX p.provides s);rw[hy]at HSu;rw[hy];clear hsu hpk hy;cases y with
   |false=>
    go_wp2_with fail;go_roundw;case rel=>exact⟨bM,i+1,by first|rfl|go_num,by omega,by rw[HSu.out,if_neg zAG];exact BJ,HB⟩
    case measure=>simp[intOf]<;>omega
   |true=>
    obtain⟨au,cu,rfl,-,-⟩:=aC BJ.out;go_wp2_with (at_builtin;go_must (refine tC (u:=.int .i64 (i:Int)) kJ rfl (.tmp 20) (.tmp 22) rfl rfl rfl (cell_new0 _ _ _) rfl (aI BJ.out ((Only.refl (fun _=>False) _).alloc _) (fun _ _ f=>f)) zBk zBl ?_));intro v' w2 r1 r2 r3;have Ae:=zh r1;have fK:=zh (((bM.out.alloc _).trans r2 fun k hk=>.inr (HB.out k hk)));have HB2:Hid (∀k,v'.ownBlock=some k->w.heap.size<=k):=by
     intro k hk;obtain⟨g,cap',rfl,-,-,h|h⟩:=r3;·exact zDD
     exact zC9
    obtain⟨g,cap',rfl,-,-,-⟩:=r3;clear r1 r2;go_wp2_with fail;go_roundw;case rel=>exact⟨fK,i+1,by first|rfl|go_num,by omega,by rw[HSu.out];have:=Ae.out;show World.ownsRow _ _ _ _ _ _ _;simpa[ji]using this,HB2⟩
    case measure=>simp[intOf]<;>omega
  have:i=n:=by omega
  subst this;go_wp2_with fail;go_ret;refine⟨_,rfl,?_,HZ.2.out,HO.out⟩;have:=HZ.1.out;unfold aH.eG;rw[HN.out];exact this
theorem Ju{cs:List Value}{x:aH}(h:jl B w cs x)(hlen:x.packs.length<=1000000)(s:Str):Calls Tryz.prog 148 #[.agg cs.toArray,.string s] w fun e w'=> ∃v,e= .returned v/\w'.ownsRow 0 3 1 v (x.targets s).length (ji (x.targets s))/\(∀k,v.ownBlock=some k->w.heap.size<=k)/\O0 w w':=by
 have HH:=zh h;obtain⟨v1,v2,rfl,h1,h2⟩:=h;obtain⟨ao,cap,rfl,-,-⟩:=h1.shape;obtain⟨oJ,cap2,rfl,-,-⟩:=h2.shape;obtain⟨f,hf⟩:=ze (x.find s);have hlt:=x.vP s;have hge: -1<=x.find s:=by
  rcases pU (fun p=>decide (p.name=s)) x.packs with h| ⟨k,h,_⟩;·unfold aH.find;rw[h];omega
  unfold aH.find;rw[h];omega
 have HT:Hid (x.targets s=if 0<=f then [f.toNat]else x.eG s):=by unfold aH.targets;rw[hf];exact rfl
 have HF:=zh (BO (jl.keep HH.out (Kp.iI ((Only.refl (fun _=>False) w).alloc (.cells #[.slice ao x.packs.length cap,.slice oJ x.iH.length cap2] 25)))) s);have Yt:=fun W hO=>zh (uz (w:=W) (jl.keep HH.out (Kp.iI hO)) hlen s);rw[hf]at hlt hge HF;clear hf h1 h2;go_enter Tryz.func148,Tryz.ntmps148;go_wp2_with fail;refine HF.out.mono ?_;rintro e w1 ⟨rfl,O1⟩;have bM:=zh (((Only.refl (fun _=>False) w).alloc _).same O1);have hw1:=O1.size;simp only[World.size_alloc]at hw1;have hcell:w1.cell? ⟨w.heap.size,0,none⟩=some (.slice ao x.packs.length cap)/\w1.cell? ⟨w.heap.size,1,none⟩=some (.slice oJ x.iH.length cap2):=by
  constructor;·exact zCU
  exact zCU
 obtain⟨hc1,hc2⟩:=hcell;have abv:=Yt w1 bM.out;clear O1 Yt HF;by_cases hf0:0<=f
 ·go_wp2_with fail;go_ret;refine⟨_,rfl,?_,fun k hk=>?_,bM.out.alloc _⟩;·rw[HT.out,if_pos hf0];exact zFL
  simp[Value.ownBlock]at hk;omega
 have hT2:x.targets s=x.eG s:=by rw[HT.out,if_neg hf0]
 rw[<-hT2]at abv;clear hT2;go_wp2_with fail;refine abv.out.mono ?_;rintro e w2 ⟨v,rfl,r1,r2,r3⟩;have HR:=zh (And.intro r1 (And.intro r2 r3));obtain⟨av,cv,rfl,-,-⟩:=aC r1;clear r1 r2 r3;go_wp2_with fail;go_ret;obtain⟨r1,r2,r3⟩:=HR.out;exact⟨_,rfl,r1,fun k hk=>by have:=r2 k hk;omega,bM.out.same r3⟩
end
end Go.Proofs.YtdmmebjjojimiaaGreatDoor
namespace Go.Proofs
theorem zA4{p:Prop}(h:p:=by rw[hW0];exact dw (alloc_at rfl) _):p:=h
theorem zBr{p:Prop}(h:p:=by rw[hW0];exact alloc_at zAM):p:=h
end Go.Proofs
namespace Go.Proofs.YtdmmebjjojimiaaGreatDoor
open Go.RowKit
section
variable {w:World} {B:Nat}
theorem open_rec{cs:List Value}{x:aH}(h:jl B w cs x):∃(a1:Option Addr) (n1 c1:Nat) (a2:Option Addr) (n2 c2:Nat),cs=[.slice a1 n1 c1,.slice a2 n2 c2]/\n1<=c1/\c1<=9223372036854775807/\n2<=c2/\c2<=9223372036854775807/\Hid (x.packs.length=n1)/\Hid (x.iH.length=n2)/\∀W0,O0 w W0->Hid (∀W,O0 W0 W->jl B W [.slice a1 n1 c1,.slice a2 n2 c2] x)/\Hid (∀W,O0 W0 W->aQ 8 iU B W (.slice a1 n1 c1) x.packs)/\Hid (∀W,O0 W0 W->aQ 3 nS B W (.slice a2 n2 c2) x.iH):=by have h0:=h;obtain⟨u1,u2,rfl,r1,r2⟩:=h;obtain⟨a1,c1,rfl,g1,h1⟩:=r1.shape;obtain⟨a2,c2,rfl,g2,h2⟩:=r2.shape;exact⟨a1,_,c1,a2,_,c2,rfl,g1,h1,g2,h2,rfl,rfl,fun W0 ho=>⟨fun W hW=>jl.keep h0 (Kp.iI (ho.same hW):Kp B w W),fun W hW=>r1.keep iU.keep (Kp.iI (ho.same hW)),fun W hW=>r2.keep nS.keep (Kp.iI (ho.same hW))⟩⟩
theorem rH{cs:List Value}{x:fV}(h:mV B w cs x):∃(a1:Option Addr) (n1 c1:Nat),cs=[.slice a1 n1 c1]/\n1<=c1/\c1<=9223372036854775807/\Hid (x.roots.length=n1)/\∀W0,O0 w W0->Hid (∀W,O0 W0 W->mV B W [.slice a1 n1 c1] x)/\Hid (∀W,O0 W0 W->aQ 4 lY B W (.slice a1 n1 c1) x.roots):=by have h0:=h;obtain⟨u1,rfl,r1⟩:=h;obtain⟨a1,c1,rfl,g1,h1⟩:=r1.shape;exact⟨a1,_,c1,rfl,g1,h1,rfl,fun W0 ho=>⟨fun W hW=>mV.keep h0 (Kp.iI (ho.same hW):Kp B w W),fun W hW=>r1.keep lY.keep (Kp.iI (ho.same hW))⟩⟩
theorem Pq{cs:List Value}{x:jE}(h:eF B w cs x):∃(a1:Option Addr) (n1 c1:Nat) (a2:Option Addr) (n2 c2:Nat),cs=[.string x.name,.slice a1 n1 c1,.slice a2 n2 c2]/\n1<=c1/\c1<=9223372036854775807/\n2<=c2/\c2<=9223372036854775807/\Hid (x.spans.length=n1)/\Hid (x.sets.length=n2)/\∀W0,O0 w W0->Hid (∀W,O0 W0 W->eF B W [.string x.name,.slice a1 n1 c1,.slice a2 n2 c2] x)/\Hid (∀W,O0 W0 W->aQ 2 gq B W (.slice a1 n1 c1) x.spans)/\Hid (∀W,O0 W0 W->aQ 2 lg B W (.slice a2 n2 c2) x.sets):=by have h0:=h;obtain⟨u1,u2,rfl,-,r1,r2⟩:=h;obtain⟨a1,c1,rfl,g1,h1⟩:=r1.shape;obtain⟨a2,c2,rfl,g2,h2⟩:=r2.shape;exact⟨a1,_,c1,a2,_,c2,rfl,g1,h1,g2,h2,rfl,rfl,fun W0 ho=>⟨fun W hW=>eF.keep h0 (Kp.iI (ho.same hW):Kp B w W),fun W hW=>r1.keep gq.keep (Kp.iI (ho.same hW)),fun W hW=>r2.keep lg.keep (Kp.iI (ho.same hW))⟩⟩
theorem Pv{cs:List Value}{x:iT}(h:iU B w cs x):∃(a1:Option Addr) (n1 c1:Nat) (a2:Option Addr) (n2 c2:Nat) (a3:Option Addr) (n3 c3:Nat) (a4:Option Addr) (n4 c4:Nat) (a5:Option Addr) (n5 c5:Nat) (a6:Option Addr) (n6 c6:Nat),cs=[.string x.name,.int .i64 x.line,.slice a1 n1 c1,.slice a2 n2 c2,.slice a3 n3 c3,.slice a4 n4 c4,.slice a5 n5 c5,.slice a6 n6 c6]/\n1<=c1/\c1<=9223372036854775807/\n2<=c2/\c2<=9223372036854775807/\n3<=c3/\c3<=9223372036854775807/\n4<=c4/\c4<=9223372036854775807/\n5<=c5/\c5<=9223372036854775807/\n6<=c6/\c6<=9223372036854775807/\Hid (x.bY.length=n1)/\Hid (x.vars.length=n2)/\Hid (x.provides.length=n3)/\Hid (x.deps.length=n4)/\Hid (x.cons.length=n5)/\Hid (x.files.length=n6)/\∀W0,O0 w W0->Hid (∀W,O0 W0 W->iU B W [.string x.name,.int .i64 x.line,.slice a1 n1 c1,.slice a2 n2 c2,.slice a3 n3 c3,.slice a4 n4 c4,.slice a5 n5 c5,.slice a6 n6 c6] x)/\Hid (∀W,O0 W0 W->aQ 2 uZ B W (.slice a1 n1 c1) x.bY)/\Hid (∀W,O0 W0 W->aQ 2 pR B W (.slice a2 n2 c2) x.vars)/\Hid (∀W,O0 W0 W->aQ 1 fM B W (.slice a3 n3 c3) x.provides)/\Hid (∀W,O0 W0 W->aQ 7 nC B W (.slice a4 n4 c4) x.deps)/\Hid (∀W,O0 W0 W->aQ 7 sU B W (.slice a5 n5 c5) x.cons)/\Hid (∀W,O0 W0 W->aQ 1 fM B W (.slice a6 n6 c6) x.files):=by have h0:=h;obtain⟨u1,u2,u3,u4,u5,u6,rfl,-,-,r1,r2,r3,r4,r5,r6⟩:=h;obtain⟨a1,c1,rfl,g1,h1⟩:=r1.shape;obtain⟨a2,c2,rfl,g2,h2⟩:=r2.shape;obtain⟨a3,c3,rfl,g3,h3⟩:=r3.shape;obtain⟨a4,c4,rfl,g4,h4⟩:=r4.shape;obtain⟨a5,c5,rfl,g5,h5⟩:=r5.shape;obtain⟨a6,c6,rfl,g6,h6⟩:=r6.shape;exact⟨a1,_,c1,a2,_,c2,a3,_,c3,a4,_,c4,a5,_,c5,a6,_,c6,rfl,g1,h1,g2,h2,g3,h3,g4,h4,g5,h5,g6,h6,rfl,rfl,rfl,rfl,rfl,rfl,fun W0 ho=>⟨fun W hW=>iU.keep h0 (Kp.iI (ho.same hW):Kp B w W),fun W hW=>r1.keep uZ.keep (Kp.iI (ho.same hW)),fun W hW=>r2.keep pR.keep (Kp.iI (ho.same hW)),fun W hW=>r3.keep fM.keep (Kp.iI (ho.same hW)),fun W hW=>r4.keep nC.keep (Kp.iI (ho.same hW)),fun W hW=>r5.keep sU.keep (Kp.iI (ho.same hW)),fun W hW=>r6.keep fM.keep (Kp.iI (ho.same hW))⟩⟩
theorem open_strs{v:Value}{x:List Str}(h:aQ 1 fM B w v x):∃(a:Option Addr) (n c:Nat),v= .slice a n c/\n<=c/\c<=9223372036854775807/\Hid (x.length=n)/\∀W0,O0 w W0->Hid (∀W,O0 W0 W->aQ 1 fM B W (.slice a n c) x):=by obtain⟨a,c,rfl,g1,h1⟩:=h.shape;exact⟨a,_,c,rfl,g1,h1,rfl,fun W0 ho W hW=>h.keep fM.keep (Kp.iI (ho.same hW))⟩
theorem Zr{v:Value}{x:List nZ}(h:aQ 2 lg B w v x):∃(a:Option Addr) (n c:Nat),v= .slice a n c/\n<=c/\c<=9223372036854775807/\Hid (x.length=n)/\∀W0,O0 w W0->Hid (∀W,O0 W0 W->aQ 2 lg B W (.slice a n c) x):=by obtain⟨a,c,rfl,g1,h1⟩:=h.shape;exact⟨a,_,c,rfl,g1,h1,rfl,fun W0 ho W hW=>h.keep lg.keep (Kp.iI (ho.same hW))⟩
theorem Zt{v:Value}{x:List kS}(h:aQ 2 pR B w v x):∃(a:Option Addr) (n c:Nat),v= .slice a n c/\n<=c/\c<=9223372036854775807/\Hid (x.length=n)/\∀W0,O0 w W0->Hid (∀W,O0 W0 W->aQ 2 pR B W (.slice a n c) x):=by obtain⟨a,c,rfl,g1,h1⟩:=h.shape;exact⟨a,_,c,rfl,g1,h1,rfl,fun W0 ho W hW=>h.keep pR.keep (Kp.iI (ho.same hW))⟩
theorem Wv(w:World)(v0 v1:Value)(t0:TypeId):∃W0,W0=(w.alloc (.cells #[v0,v1] t0))/\Hid (O0 w W0)/\Hid (W0.heap.size=w.heap.size+1)/\Hid (∀W,O0 W0 W->W.cell? ⟨w.heap.size,0,none⟩=some v0/\W.cell? ⟨w.heap.size,1,none⟩=some v1):=by
 obtain⟨W0,hW0⟩:=zB (w.alloc (.cells #[v0,v1] t0));refine⟨W0,hW0,by rw[hW0];exact zr.alloc _,by rw[hW0];simp[Hid],fun W ho=>?_⟩;have b0:W0.heap[w.heap.size]? =some (.cells #[v0,v1] t0):=by rw[hW0];exact alloc_at rfl
 have d0:=aF b0 ho (fun f=>f);exact⟨by rw[ah d0];rfl,by rw[ah d0];rfl⟩
theorem Aj(w:World)(v0 v1 v2:Value)(t0 t1:TypeId):∃W0,W0=((w.alloc (.cells #[v0,v1] t0)).alloc (.cells #[v2] t1))/\Hid (O0 w W0)/\Hid (W0.heap.size=w.heap.size+2)/\Hid (∀W,O0 W0 W->W.cell? ⟨w.heap.size,0,none⟩=some v0/\W.cell? ⟨w.heap.size,1,none⟩=some v1/\W.cell? ⟨w.heap.size+1,0,none⟩=some v2):=by obtain⟨W0,hW0⟩:=zB ((w.alloc (.cells #[v0,v1] t0)).alloc (.cells #[v2] t1));refine⟨W0,hW0,by rw[hW0];exact(zr.alloc _).alloc _,by rw[hW0];simp[Hid],fun W ho=>?_⟩;have b0:W0.heap[w.heap.size]? =some (.cells #[v0,v1] t0):=zA4;have d0:=aF b0 ho (fun f=>f);have b1:W0.heap[w.heap.size+1]? =some (.cells #[v2] t1):=zBr;have d1:=aF b1 ho (fun f=>f);exact⟨by rw[ah d0];rfl,by rw[ah d0];rfl,by rw[ah d1];rfl⟩
theorem ag5(w:World)(v0 v1 v2 v3 v4:Value)(t0 t1:TypeId):∃W0,W0=((w.alloc (.cells #[v0,v1] t0)).alloc (.cells #[v2,v3,v4] t1))/\Hid (O0 w W0)/\Hid (W0.heap.size=w.heap.size+2)/\Hid (∀W,O0 W0 W->W.cell? ⟨w.heap.size,0,none⟩=some v0/\W.cell? ⟨w.heap.size,1,none⟩=some v1/\W.cell? ⟨w.heap.size+1,0,none⟩=some v2/\W.cell? ⟨w.heap.size+1,1,none⟩=some v3/\W.cell? ⟨w.heap.size+1,2,none⟩=some v4):=by obtain⟨W0,hW0⟩:=zB ((w.alloc (.cells #[v0,v1] t0)).alloc (.cells #[v2,v3,v4] t1));refine⟨W0,hW0,by rw[hW0];exact(zr.alloc _).alloc _,by rw[hW0];simp[Hid],fun W ho=>?_⟩;have b0:W0.heap[w.heap.size]? =some (.cells #[v0,v1] t0):=zA4;have d0:=aF b0 ho (fun f=>f);have b1:W0.heap[w.heap.size+1]? =some (.cells #[v2,v3,v4] t1):=zBr;have d1:=aF b1 ho (fun f=>f);exact⟨by rw[ah d0];rfl,by rw[ah d0];rfl,by rw[ah d1];rfl,by rw[ah d1];rfl,by rw[ah d1];rfl⟩
theorem ag6(w:World)(v0 v1 v2 v3 v4 v5 v6 v7 v8 v9:Value)(t0 t1:TypeId):∃W0,W0=((w.alloc (.cells #[v0,v1] t0)).alloc (.cells #[v2,v3,v4,v5,v6,v7,v8,v9] t1))/\Hid (O0 w W0)/\Hid (W0.heap.size=w.heap.size+2)/\Hid (∀W,O0 W0 W->W.cell? ⟨w.heap.size,0,none⟩=some v0/\W.cell? ⟨w.heap.size,1,none⟩=some v1/\W.cell? ⟨w.heap.size+1,0,none⟩=some v2/\W.cell? ⟨w.heap.size+1,1,none⟩=some v3/\W.cell? ⟨w.heap.size+1,2,none⟩=some v4/\W.cell? ⟨w.heap.size+1,3,none⟩=some v5/\W.cell? ⟨w.heap.size+1,4,none⟩=some v6/\W.cell? ⟨w.heap.size+1,5,none⟩=some v7/\W.cell? ⟨w.heap.size+1,6,none⟩=some v8/\W.cell? ⟨w.heap.size+1,7,none⟩=some v9):=by obtain⟨W0,hW0⟩:=zB ((w.alloc (.cells #[v0,v1] t0)).alloc (.cells #[v2,v3,v4,v5,v6,v7,v8,v9] t1));refine⟨W0,hW0,by rw[hW0];exact(zr.alloc _).alloc _,by rw[hW0];simp[Hid],fun W ho=>?_⟩;have b0:W0.heap[w.heap.size]? =some (.cells #[v0,v1] t0):=zA4;have d0:=aF b0 ho (fun f=>f);have b1:W0.heap[w.heap.size+1]? =some (.cells #[v2,v3,v4,v5,v6,v7,v8,v9] t1):=zBr;have d1:=aF b1 ho (fun f=>f);exact⟨by rw[ah d0];rfl,by rw[ah d0];rfl,by rw[ah d1];rfl,by rw[ah d1];rfl,by rw[ah d1];rfl,by rw[ah d1];rfl,by rw[ah d1];rfl,by rw[ah d1];rfl,by rw[ah d1];rfl,by rw[ah d1];rfl⟩
theorem N8(w:World)(v0 v1 v2 v3 v4:Value)(t0:TypeId):∃W0,W0=(w.alloc (.cells #[v0,v1,v2,v3,v4] t0))/\Hid (O0 w W0)/\Hid (W0.heap.size=w.heap.size+1)/\Hid (∀W,O0 W0 W->W.cell? ⟨w.heap.size,0,none⟩=some v0/\W.cell? ⟨w.heap.size,1,none⟩=some v1/\W.cell? ⟨w.heap.size,2,none⟩=some v2/\W.cell? ⟨w.heap.size,3,none⟩=some v3/\W.cell? ⟨w.heap.size,4,none⟩=some v4):=by
 obtain⟨W0,hW0⟩:=zB (w.alloc (.cells #[v0,v1,v2,v3,v4] t0));refine⟨W0,hW0,by rw[hW0];exact zr.alloc _,by rw[hW0];simp[Hid],fun W ho=>?_⟩;have b0:W0.heap[w.heap.size]? =some (.cells #[v0,v1,v2,v3,v4] t0):=by rw[hW0];exact alloc_at rfl
 have d0:=aF b0 ho (fun f=>f);exact⟨by rw[ah d0];rfl,by rw[ah d0];rfl,by rw[ah d0];rfl,by rw[ah d0];rfl,by rw[ah d0];rfl⟩
theorem ag7(w:World)(v0 v1 v2 v3 v4 v5 v6 v7:Value)(t0 t1:TypeId):∃W0,W0=((w.alloc (.cells #[v0,v1,v2,v3,v4] t0)).alloc (.cells #[v5,v6,v7] t1))/\Hid (O0 w W0)/\Hid (W0.heap.size=w.heap.size+2)/\Hid (∀W,O0 W0 W->W.cell? ⟨w.heap.size,0,none⟩=some v0/\W.cell? ⟨w.heap.size,1,none⟩=some v1/\W.cell? ⟨w.heap.size,2,none⟩=some v2/\W.cell? ⟨w.heap.size,3,none⟩=some v3/\W.cell? ⟨w.heap.size,4,none⟩=some v4/\W.cell? ⟨w.heap.size+1,0,none⟩=some v5/\W.cell? ⟨w.heap.size+1,1,none⟩=some v6/\W.cell? ⟨w.heap.size+1,2,none⟩=some v7):=by obtain⟨W0,hW0⟩:=zB ((w.alloc (.cells #[v0,v1,v2,v3,v4] t0)).alloc (.cells #[v5,v6,v7] t1));refine⟨W0,hW0,by rw[hW0];exact(zr.alloc _).alloc _,by rw[hW0];simp[Hid],fun W ho=>?_⟩;have b0:W0.heap[w.heap.size]? =some (.cells #[v0,v1,v2,v3,v4] t0):=zA4;have d0:=aF b0 ho (fun f=>f);have b1:W0.heap[w.heap.size+1]? =some (.cells #[v5,v6,v7] t1):=zBr;have d1:=aF b1 ho (fun f=>f);exact⟨by rw[ah d0];rfl,by rw[ah d0];rfl,by rw[ah d0];rfl,by rw[ah d0];rfl,by rw[ah d0];rfl,by rw[ah d1];rfl,by rw[ah d1];rfl,by rw[ah d1];rfl⟩
theorem vg(w:World)(v0 v1 v2 v3 v4 v5 v6 v7 v8:Value)(t0 t1:TypeId):∃W0,W0=((w.alloc (.cells #[v0,v1,v2,v3,v4] t0)).alloc (.cells #[v5,v6,v7,v8] t1))/\Hid (O0 w W0)/\Hid (W0.heap.size=w.heap.size+2)/\Hid (∀W,O0 W0 W->W.cell? ⟨w.heap.size,0,none⟩=some v0/\W.cell? ⟨w.heap.size,1,none⟩=some v1/\W.cell? ⟨w.heap.size,2,none⟩=some v2/\W.cell? ⟨w.heap.size,3,none⟩=some v3/\W.cell? ⟨w.heap.size,4,none⟩=some v4/\W.cell? ⟨w.heap.size+1,0,none⟩=some v5/\W.cell? ⟨w.heap.size+1,1,none⟩=some v6/\W.cell? ⟨w.heap.size+1,2,none⟩=some v7/\W.cell? ⟨w.heap.size+1,3,none⟩=some v8):=by obtain⟨W0,hW0⟩:=zB ((w.alloc (.cells #[v0,v1,v2,v3,v4] t0)).alloc (.cells #[v5,v6,v7,v8] t1));refine⟨W0,hW0,by rw[hW0];exact(zr.alloc _).alloc _,by rw[hW0];simp[Hid],fun W ho=>?_⟩;have b0:W0.heap[w.heap.size]? =some (.cells #[v0,v1,v2,v3,v4] t0):=zA4;have d0:=aF b0 ho (fun f=>f);have b1:W0.heap[w.heap.size+1]? =some (.cells #[v5,v6,v7,v8] t1):=zBr;have d1:=aF b1 ho (fun f=>f);exact⟨by rw[ah d0];rfl,by rw[ah d0];rfl,by rw[ah d0];rfl,by rw[ah d0];rfl,by rw[ah d0];rfl,by rw[ah d1];rfl,by rw[ah d1];rfl,by rw[ah d1];rfl,by rw[ah d1];rfl⟩
theorem aoq(w:World)(v0 v1 v2 v3 v4 v5 v6 v7:Value)(t0:TypeId):∃W0,W0=(w.alloc (.cells #[v0,v1,v2,v3,v4,v5,v6,v7] t0))/\Hid (O0 w W0)/\Hid (W0.heap.size=w.heap.size+1)/\Hid (∀W,O0 W0 W->W.cell? ⟨w.heap.size,0,none⟩=some v0/\W.cell? ⟨w.heap.size,1,none⟩=some v1/\W.cell? ⟨w.heap.size,2,none⟩=some v2/\W.cell? ⟨w.heap.size,3,none⟩=some v3/\W.cell? ⟨w.heap.size,4,none⟩=some v4/\W.cell? ⟨w.heap.size,5,none⟩=some v5/\W.cell? ⟨w.heap.size,6,none⟩=some v6/\W.cell? ⟨w.heap.size,7,none⟩=some v7):=by
 obtain⟨W0,hW0⟩:=zB (w.alloc (.cells #[v0,v1,v2,v3,v4,v5,v6,v7] t0));refine⟨W0,hW0,by rw[hW0];exact zr.alloc _,by rw[hW0];simp[Hid],fun W ho=>?_⟩;have b0:W0.heap[w.heap.size]? =some (.cells #[v0,v1,v2,v3,v4,v5,v6,v7] t0):=by rw[hW0];exact alloc_at rfl
 have d0:=aF b0 ho (fun f=>f);exact⟨by rw[ah d0];rfl,by rw[ah d0];rfl,by rw[ah d0];rfl,by rw[ah d0];rfl,by rw[ah d0];rfl,by rw[ah d0];rfl,by rw[ah d0];rfl,by rw[ah d0];rfl⟩
end
end Go.Proofs.YtdmmebjjojimiaaGreatDoor
