/- Find, Providers, Targets: walks.; Nd3 Nd4, in one text. -/
import Derived.Test.YtdmmebjjojimiaaGreatDoorG01
set_option maxRecDepth 100000
set_option maxHeartbeats 8000000
set_option linter.all false
namespace Go.Proofs
theorem zAe{p:Prop}(h:p:=by rw[HN.out];exact ci):p:=h
theorem zAi{p:Prop}(h:p:=by rw[HL.out];kernel_rfl):p:=h
theorem zA0{p:Prop}(h:p:=by rw[HN.out];omega):p:=h
theorem zC6{p:Prop}(h:p:=by decide):p:=h
theorem zDO{p:Prop}(h:p:=by
 refine HC.out.mono ?_
 rintro e w1 ⟨rfl,O1⟩
 have aI:=zh (HO.out.same O1)
 clear O1
 go_wp2_with fail
 go_roundw
 case rel=>exact⟨aI,i+1,by first|rfl|go_num,by omega,show Hid _ from fun z hz=>by
  rcases bH HX.out hz with h|rfl
  ·exact HZ.out z h
  ·exact HY.out⟩
 case measure=>simp[intOf]<;>omega):p:=h
theorem zDY{p:Prop}(h:p:=by
 have:i=n:=by omega
 subst this
 go_wp2_with fail
 go_ret
 have:=HZ.out
 rw[qI (yG HN.out)]at this
 exact⟨by rw[jR this];rfl,HO.out⟩):p:=h
theorem zDa{p:Prop}(h:p:=by
 refine HC.out.mono ?_
 rintro e w1 ⟨rfl,O1⟩
 go_wp2_with fail
 go_ret
 exact⟨by rw[kW HX.out HY.out HZ.out];rfl,HO.out.same O1⟩):p:=h
theorem zEB{p:Prop}(h:p:=by rw[World.cell?_of_block (w:=w.alloc (.cells #[.slice ao x.packs.length cap,.slice Rl x.fV.length cap2] 25)) (O1.block _ zAP (fun f=>f))];simp):p:=h
theorem zEF{p:Prop}(h:p:=by rw[World.cell?_of_block (w:=w) (hO.block gs hlt (fun f=>f))];exact hg):p:=h
theorem zFM{p:Prop}(h:p:=by
 simp[Value.ownBlock]at hk;subst hk
 have:=aI.out.size
 simp at h;omega):p:=h
theorem zFZ{p:Prop}(h:p:=by
 go_wp2_with fail
 go_ret
 exact⟨rfl,zr.alloc _⟩):p:=h
theorem zFy{p:Prop}(h:p:=by simp[Value.ownBlock]at hk;subst hk;exact HB.out _ h):p:=h
theorem zF4{p:Prop}(h:p:=by
 have:=World.ownsRow_lit (base:=0) (e:=3) (size:=1) w1 #[.int .i64 f] 1 (qE _) zCn zAP
 simpa[eP,Int.toNat_of_nonneg hf0]using this):p:=h
theorem zGI{p:Prop}(h:p:=by
 rintro e w1 ⟨rfl,O1⟩
 go_wp2_with fail
 go_ret
 exact⟨rfl,(((Only.refl (fun _=>False) w).alloc _).alloc _).same O1⟩):p:=h
theorem zGr{p:Prop}(h:p:=by
 unfold aQ.kE
 have:=yO (fun i=>iC (x.pack i).provides s) (List.range i)
 simpa using this):p:=h
end Go.Proofs
namespace Go.Proofs.YtdmmebjjojimiaaGreatDoor
open Go.RowKit Go.Shelf
def lF{α:Type}(C:Nat->World->List Value->α->Prop)(B:Nat)(g:Nat)(cb:Array Value)(p:α->Bool)(w:World):Prop:=
 ∀(W:World) (cs:List Value) (x:α),O0 w W->C B W cs x->Calls Tryz.prog g (#[.agg cs.toArray]++cb) W fun e w'=>e= .returned (.bool (p x))/\O0 W w'
theorem bH{α:Type}{xs:List α}{i:Nat}{x y:α}(hx:xs[i]? =some x)(h:y∈xs.take (i+1)):y∈xs.take i\/y=x:=by
 obtain⟨hlt,rfl⟩:=qJ.1 hx;rw[yL hlt]at h;rcases qW.1 h with h|h;·exact .inl h
 exact .inr (yJ.1 h)
section
variable {w w':World} {B:Nat}
theorem Yf{v:Value}{xs:List iI}(h:aS 8 gY B w v xs){g:Nat}{cb:Array Value}{p:iI->Bool}(eg:∀args w,(callFunc g args).run Tryz.prog w= .ok (.enter g args) w)(hp:lF gY B g cb p w):Calls Tryz.prog 262 #[v,.func (.func g) #[] cb] w fun e w'=>e= .returned (.int .i64 (iK p xs))/\O0 w w':=by
 obtain⟨ao,cap,rfl,hc1,hc2⟩:=h.shape;have HH:=zh h;have LV:=zh hp;obtain⟨n,hn⟩:=ze xs.length;have HN:=zh hn;rw[hn]at hc1⊢;clear h hp hn;go_enter Tryz.func262,Tryz.ntmps262;go_wp2_with fail;go_loopw [5,8] (fun _ vi wr=>Hid (O0 w wr)/\∃i:Nat,vi= .int .i64 i/\i<=n/\Hid (∀x∈xs.take i,p x=false)) (fun _ v _=>n-(intOf v).toNat);case atStart=>exact⟨show Hid _ from Only.refl _ _,0,rfl,qE _,show Hid _ from fun x hx=>by simp at hx⟩
 case round=>
  obtain⟨HO,i,rfl,hi,HZ⟩:=hrel;by_cases ci:i<n
  ·have h2:=HH.out;rw[HN.out]at h2;obtain⟨b,off,he,-,-⟩:=h2.at zA0;subst he;obtain⟨x,hx⟩:=zG xs i zAe;obtain⟨cs,hl,hr,hC⟩:=(h2.keep gY.keep (Kp.dV HO.out)).get hx;have iE:=zw (i+1);have HR:=zh hr;have HL:=zh hl;have HX:=zh hx;have HC:=zh (LV.out wr cs x HO.out hC);obtain⟨y,hy⟩:=ze (p x);rw[hy]at HC;have HY:=zh hy;clear hr hx hy h2 hl hC;cases y with
   |true=>go_wp2_with (refine wpList_load_mid rfl 101 (.tmp 14) rfl b (off+i*8) rfl cs _ HR.out Tryz.underlying101 rfl zAi ?_);exact zDa
   |false=>go_wp2_with (refine wpList_load_mid rfl 101 (.tmp 14) rfl b (off+i*8) rfl cs _ HR.out Tryz.underlying101 rfl zAi ?_);exact zDO
  exact zDY
theorem fP(x y:ByteArray):(x.toList==y.toList)=decide (x=y):=by
 by_cases h:x=y;·rw[qX h,(Lib.bytes_beq_iff x y).2 h]
 rw[qP h,(Lib.bytes_beq_false_iff x y).2 h]
theorem aaW(s:Str)(gs:Nat)(hg:w.cell? ⟨gs,0,none⟩=some (.string s)):lF gY B 263 #[.pointer (some ⟨gs,0,none⟩)] (fun p=>decide (p.name=s)) w:=by
 intro W cs x hO hC;obtain⟨v1,v2,v3,v4,v5,v6,rfl,-⟩:=hC;have hlt:gs<w.heap.size:=World.block_lt_of_cell? _ _ hg;have hg2:W.cell? ⟨gs,0,none⟩=some (.string s):=by exact zEF
 have hgW:gs<W.heap.size:=World.block_lt_of_cell? _ _ hg2;have hd:=fP x.name s;have hne:gs≠W.heap.size:=zAA;clear hg hlt;go_enter Tryz.func263,Tryz.ntmps263;exact zFZ
theorem VK:∀args w,(callFunc 263 args).run Tryz.prog w= .ok (.enter 263 args) w:=enters_of Tryz.func263 zk rfl
theorem rX{cs:List Value}{x:aQ}(h:fO B w cs x)(s:Str):Calls Tryz.prog 182 #[.agg cs.toArray,.string s] w fun e w'=>e= .returned (.int .i64 (x.find s))/\O0 w w':=by obtain⟨v1,v2,rfl,h1,-⟩:=h;obtain⟨ao,cap,rfl,hc1,hc2⟩:=h1.shape;have HH:=zh h1;clear h1;go_enter Tryz.func182,Tryz.ntmps182;go_wp2_with fail;refine(Yf ((HH.out.keep gY.keep (Kp.dV (((Only.refl (fun _=>False) w).alloc _).alloc _)))) VK (aaW s (w.heap.size+1) zAP)).mono ?_;exact zGI
theorem aS.strs{b off len cap:Nat}{zs:List Str}(h:aS 1 bU B w (.slice (some ⟨b,off,none⟩) len cap) zs):∀j,j<zs.length->w.cell? ⟨b,off+j,none⟩=some (.string (zs.getD j ByteArray.empty)):=by intro j hj;obtain⟨cs,_,hr,rfl,_⟩:=h.get (qA hj);have:=hr 0 _ rfl;simpa[List.getD,qA hj]using this
theorem oN{v:Value}{zs:List Str}(h:aS 1 bU B w v zs)(s:Str):Calls Tryz.prog 191 #[v,.string s] w fun e w'=>e= .returned (.bool (iC zs s))/\w'=w:=by
 obtain⟨ao,cap,rfl,hc1,hc2⟩:=h.shape;have e1:Lib.containsS zs s=iC zs s:=by rw[Bool.eq_iff_iff,Lib.containsS_iff,EH]
 by_cases h0:0<zs.length;·obtain⟨b,off,rfl,-,-⟩:=h.at h0;have:=Tryz.slices_Contains_string b off zs.length cap zs s w (qH _) zAA h.strs;rw[qI (qH _),e1]at this;exact this
 obtain rfl:zs=[]:=yF zAA;exact Tryz.slices_Contains_string_empty ao cap s w
def eP(l:List Nat):List Value:=l.map fun i:Nat=>Value.int .i64 (i:Int)
theorem AU{cs:List Value}{x:aQ}(h:fO B w cs x)(hlen:x.packs.length<=1000000)(s:Str):Calls Tryz.prog 165 #[.agg cs.toArray,.string s] w fun e w'=> ∃v,e= .returned v/\w'.ownsRow 0 3 1 v (x.oH s).length (eP (x.oH s))/\(∀k,v.ownBlock=some k->w.heap.size<=k)/\O0 w w':=by
 obtain⟨v1,v2,rfl,h1,-⟩:=h;obtain⟨ao,cap,rfl,hc1,hc2⟩:=h1.shape;have HH:=zh h1;obtain⟨n,hn⟩:=ze x.packs.length;have HN:=zh hn;rw[hn]at hc1 hlen⊢;clear h1 hn;go_enter Tryz.func165,Tryz.ntmps165;go_wp2_with fail;go_loopw [5,11] (fun vo vi wr=>Hid (O0 w wr)/\∃i:Nat,vi= .int .i64 i/\i<=n/\Hid (wr.ownsRow 0 3 1 vo (x.kE s i).length (eP (x.kE s i)))/\Hid (∀k,vo.ownBlock=some k->w.heap.size<=k)) (fun _ v _=>n-(intOf v).toNat);case atStart=>exact⟨show Hid _ from zr.alloc _,0,rfl,qE _,show Hid _ from World.ownsRow_nil _ _ _ _,show Hid _ from fun k hk=>by simp[Value.ownBlock]at hk⟩
 case round=>
  obtain⟨HO,i,rfl,hi,HZ⟩:=hrel;by_cases ci:i<n
  ·obtain⟨HV,HB⟩:=HZ;have h2:=HH.out;rw[HN.out]at h2;obtain⟨b,off,he,-,-⟩:=h2.at zA0;subst he;obtain⟨p,hx⟩:=zG x.packs i zAe;obtain⟨cs,hl,hr,hC⟩:=(h2.keep gY.keep (Kp.dV HO.out)).get hx;obtain⟨o1,o2,o3,o4,o5,o6,c1,c2,c3,c4,c5,c6,rfl,-,-,-,-,b5,-,-,-⟩:=hC.cells;have iE:=zw (i+1);have HR:=zh hr;have HX:=zh hx;have HP:=zh b5;clear hr hx h2 hl b5 hC;go_wp2_with (refine wpList_load_mid rfl 101 (.tmp 14) rfl b (off+i*8) rfl _ _ HR.out Tryz.underlying101 rfl zk ?_);refine(oN (HP.out.keep bU.keep (Kp.dV ((Only.refl (fun _=>False) wr).alloc _))) s).mono ?_;rintro e w1 ⟨rfl,rfl⟩;have GU:=zh (aW HV.out ((Only.refl (fun _=>False) wr).alloc (.cells #[.string p.name,.int .i64 p.line,.slice o1 p.jc.length c1,.slice o2 p.vars.length c2,.slice o3 p.provides.length c3,.slice o4 p.deps.length c4,.slice o5 p.cons.length c5,.slice o6 p.files.length c6] 101)) (fun _ _ f=>f));have aI:=zh (HO.out.alloc (.cells #[.string p.name,.int .i64 p.line,.slice o1 p.jc.length c1,.slice o2 p.vars.length c2,.slice o3 p.provides.length c3,.slice o4 p.deps.length c4,.slice o5 p.cons.length c5,.slice o6 p.files.length c6] 101));have hpk:x.pack i=p:=by unfold aQ.pack;rw[qC,HX.out];rfl
   have hsu:=x.KR s i;rw[hpk]at hsu;have HSu:=zh hsu;have hpl:(x.kE s i).length<=i:=by exact zGr
   generalize wr.alloc _=w1 at*;obtain⟨y,hy⟩:=ze (iC p.provides s);rw[hy]at HSu;rw[hy];clear hsu hpk hy;cases y with
   |false=>
    go_wp2_with fail;go_roundw;case rel=>exact⟨aI,i+1,by first|rfl|go_num,by omega,by rw[HSu.out,if_neg zAH];exact GU,HB⟩
    case measure=>simp[intOf]<;>omega
   |true=>
    obtain⟨au,cu,rfl,-,-⟩:=bg GU.out;go_wp2_with (at_builtin;go_must (refine Ai (u:=.int .i64 (i:Int)) ac7 rfl (.tmp 20) (.tmp 22) rfl rfl rfl (cell_new0 _ _ _) rfl (aW GU.out ((Only.refl (fun _=>False) _).alloc _) (fun _ _ f=>f)) zAA zC6 ?_));intro v' w2 r1 r2 r3;have uN:=zh r1;have eF:=zh (((aI.out.alloc _).trans r2 fun k hk=>.inr (HB.out k hk)));have HB2:Hid (∀k,v'.ownBlock=some k->w.heap.size<=k):=by
     intro k hk;obtain⟨g,cap',rfl,-,-,h|h⟩:=r3;·exact zFy
     exact zFM
    obtain⟨g,cap',rfl,-,-,-⟩:=r3;clear r1 r2;go_wp2_with fail;go_roundw;case rel=>exact⟨eF,i+1,by first|rfl|go_num,by omega,by rw[HSu.out];have:=uN.out;show World.ownsRow _ _ _ _ _ _ _;simpa[eP]using this,HB2⟩
    case measure=>simp[intOf]<;>omega
  have:i=n:=by omega
  subst this;go_wp2_with fail;go_ret;refine⟨_,rfl,?_,HZ.2.out,HO.out⟩;have:=HZ.1.out;unfold aQ.oH;rw[HN.out];exact this
theorem EI{cs:List Value}{x:aQ}(h:fO B w cs x)(hlen:x.packs.length<=1000000)(s:Str):Calls Tryz.prog 148 #[.agg cs.toArray,.string s] w fun e w'=> ∃v,e= .returned v/\w'.ownsRow 0 3 1 v (x.targets s).length (eP (x.targets s))/\(∀k,v.ownBlock=some k->w.heap.size<=k)/\O0 w w':=by
 have HH:=zh h;obtain⟨v1,v2,rfl,h1,h2⟩:=h;obtain⟨ao,cap,rfl,-,-⟩:=h1.shape;obtain⟨Rl,cap2,rfl,-,-⟩:=h2.shape;obtain⟨f,hf⟩:=ze (x.find s);have hlt:=x.uM s;have hge: -1<=x.find s:=by
  rcases Nj (fun p=>decide (p.name=s)) x.packs with h| ⟨k,h,_⟩;·unfold aQ.find;rw[h];omega
  unfold aQ.find;rw[h];omega
 have HT:Hid (x.targets s=if 0<=f then [f.toNat]else x.oH s):=by unfold aQ.targets;rw[hf];exact rfl
 have HF:=zh (rX (fO.keep HH.out (Kp.dV ((Only.refl (fun _=>False) w).alloc (.cells #[.slice ao x.packs.length cap,.slice Rl x.fV.length cap2] 25)))) s);have ZX:=fun W hO=>zh (AU (w:=W) (fO.keep HH.out (Kp.dV hO)) hlen s);rw[hf]at hlt hge HF;clear hf h1 h2;go_enter Tryz.func148,Tryz.ntmps148;go_wp2_with fail;refine HF.out.mono ?_;rintro e w1 ⟨rfl,O1⟩;have aI:=zh (((Only.refl (fun _=>False) w).alloc _).same O1);have hw1:=O1.size;simp only[World.size_alloc]at hw1;have hcell:w1.cell? ⟨w.heap.size,0,none⟩=some (.slice ao x.packs.length cap)/\w1.cell? ⟨w.heap.size,1,none⟩=some (.slice Rl x.fV.length cap2):=by
  constructor;·exact zEB
  exact zEB
 obtain⟨hc1,hc2⟩:=hcell;have ac8:=ZX w1 aI.out;clear O1 ZX HF;by_cases hf0:0<=f
 ·go_wp2_with fail;go_ret;refine⟨_,rfl,?_,fun k hk=>?_,aI.out.alloc _⟩;·rw[HT.out,if_pos hf0];exact zF4
  simp[Value.ownBlock]at hk;omega
 have hT2:x.targets s=x.oH s:=by rw[HT.out,if_neg hf0]
 rw[<-hT2]at ac8;clear hT2;go_wp2_with fail;refine ac8.out.mono ?_;rintro e w2 ⟨v,rfl,r1,r2,r3⟩;have HR:=zh (And.intro r1 (And.intro r2 r3));obtain⟨av,cv,rfl,-,-⟩:=bg r1;clear r1 r2 r3;go_wp2_with fail;go_ret;obtain⟨r1,r2,r3⟩:=HR.out;exact⟨_,rfl,r1,fun k hk=>by have:=r2 k hk;omega,aI.out.same r3⟩
end
end Go.Proofs.YtdmmebjjojimiaaGreatDoor
namespace Go.Proofs
theorem zB9{p:Prop}(h:p:=by have:=N1.out;omega):p:=h
theorem zDg{p:Prop}(h:p:=by
 refine(rY Z4.out).mono ?_
 rintro e w1 ⟨bb,rfl,hb,O1⟩
 have aI:=zh (HO.out.same O1)
 have HOx:=zh O1
 have HB1:=zh hb
 clear O1 hb
 cases bb with
 |false=>
  obtain⟨k0,k1,k2,k3,k4,k5,k6,k7⟩:=aF.out w1 aI.out
  have HR3:=zh (wK HR2.out HOx.out)
  have e0:=HR3.out 0 _ rfl
  have e1:=HR3.out 1 _ rfl
  have e2:=HR3.out 2 _ rfl
  simp only[qF]at e0
  go_wp2_with fail
  refine(rY (dJ.keep HS2.out (Kp.dV HOx.out))).mono ?_
  rintro e w2 ⟨bb,rfl,hb,O1⟩
  have eF:=zh (aI.out.same O1)
  have HB2:=zh hb
  clear O1 hb
  cases bb with
  |false=>
   go_wp2_with fail
   go_roundw
   case rel=>exact⟨eF,i+1,by first|rfl|go_num,by omega,show Hid _ from fun z hz=>by
     rcases bH HX.out hz with h|rfl
     ·exact HI.out z h
     ·exact⟨by first|exact HB1.out trivial|exact HB1.out rfl|exact HB1.out,by first|exact HB2.out trivial|exact HB2.out rfl|exact HB2.out⟩⟩
   case measure=>simp[intOf]<;>omega
  |true=>
   go_wp2_with fail
   go_ret
   exact dG.mk true rfl nofun (aV.same eF.out)
 |true=>
  go_wp2_with fail
  go_ret
  exact dG.mk true rfl nofun (aV.same aI.out)):p:=h
theorem zEA{p:Prop}(h:p:=by
 go_wp2_with fail
 go_ret
 exact dG.mk true rfl nofun (aV)):p:=h
theorem zEC{p:Prop}(h:p:=by
 go_wp2_with fail
 go_ret
 exact dG.mk true rfl nofun (aV.same aI.out)):p:=h
theorem zEK{p:Prop}(h:p:=by
 go_wp2_with fail
 go_roundw
 case rel=>exact⟨HO,i+1,by first|rfl|go_num,by omega⟩
 case measure=>simp[intOf]<;>omega):p:=h
theorem zEv{p:Prop}(h:p:=by
 go_wp2_with fail
 go_ret
 exact dG.mk true rfl nofun ((aV.trans HO.out fun _ f=>.inl f))):p:=h
theorem zE6{p:Prop}(h:p:=by
 go_wp2_with fail
 refine(uP HV.out).mono ?_
 rintro e w1 ⟨bb,rfl,hb,O1⟩
 have aI:=zh (HO.out.same O1)
 clear O1
 cases bb with
 |false=>
  go_wp2_with fail
  go_roundw
  case rel=>exact⟨aI,i+1,by first|rfl|go_num,by omega⟩
  case measure=>simp[intOf]<;>omega
 |true=>
  exact zEC):p:=h
theorem zGH{p:Prop}(h:p:=by
 go_wp2_with fail
 go_ret
 exact dG.mk true rfl nofun (aV.same HO.out)):p:=h
end Go.Proofs
namespace Go.Proofs.YtdmmebjjojimiaaGreatDoor
open Go.RowKit Go.Shelf
theorem Iw{w:World}{b o:Nat}{c1 c2 c3:List Value}(h:w.rangeAt b o (c1++c2++c3)):w.rangeAt b o c1:=fun j u hu=>h j u (by
 have hj:=(qJ.1 hu).1
 rw[yW,yM hj];exact hu)
theorem GV{w:World}{b o:Nat}{c1 c2 c3:List Value}(h:w.rangeAt b o (c1++c2++c3)):w.rangeAt b o (c1++c2):=fun j u hu=>h j u (by
 have hj:=(qJ.1 hu).1
 rw[yM hj];exact hu)
theorem GX{w:World}{b o:Nat}{c1 c2:List Value}(h:w.rangeAt b o (c1++c2)):w.rangeAt b (o+c1.length) c2:=fun j u hu=>by
 have:=h (c1.length+j) u (by rw[yN zAA];simpa using hu)
 rwa[<-Nat.add_assoc]at this
theorem wK{w w':World}{b o:Nat}{cs:List Value}(h:w.rangeAt b o cs)(k:O0 w w'):w'.rangeAt b o cs:=by intro j u hu;have hb:=World.block_lt_of_cell? _ _ (h j u hu);rw[World.cell?_of_block (w:=w) (k.block b hb (fun f=>f))];exact h j u hu
abbrev jS(s:iW):Prop:=s.sets.length<=20/\s.spans.length<=30
structure FZ (x:iI):Prop where
 jc:x.jc.length<=30
 vars:x.vars.length<=20
 deps:x.deps.length<=40
 cons:x.cons.length<=40
 oH:x.provides.length<=50
 ap6:∀z∈x.deps,jS z.on/\jS z.cond
 ap7:∀z∈x.cons,jS z.cond/\jS z.with'
section
variable {w w':World} {B:Nat}
def dG(w w':World)(e:Ending)(p:Prop):Prop:= ∃b,e= .returned (.bool b)/\(b=false->p)/\O0 w w'
theorem dG.mk{w w':World}{e:Ending}{p:Prop}(b:Bool)(he:e= .returned (.bool b))(h:b=false->p)(o:O0 w w'):dG w w' e p:=⟨b,he,h,o⟩
theorem uP{v:Value}{zs:List Str}(h:aS 1 bU B w v zs):Calls Tryz.prog 46 #[v] w fun e w'=>dG w w' e (zs.length<=50):=by
 obtain⟨ao,cap,rfl,hc1,hc2⟩:=h.shape;have HH:=zh h;obtain⟨n,hn⟩:=ze zs.length;have HN:=zh hn;rw[hn]at hc1⊢;clear h hn;go_enter Tryz.func46,Tryz.ntmps46;by_cases h50:50<n;·go_wp2_with fail;go_ret;exact dG.mk true rfl nofun zr
 go_wp2_with fail;go_loopw [9] (fun vi wr=>Hid (O0 w wr)/\∃i:Nat,vi= .int .i64 i/\i<=n) (fun v _=>n-(intOf v).toNat);case atStart=>exact⟨show Hid _ from Only.refl _ _,0,rfl,qE _⟩
 case round=>
  obtain⟨HO,i,rfl,hi⟩:=hrel;by_cases ci:i<n
  ·have h2:=HH.out;rw[HN.out]at h2;obtain⟨b,off,he,-,-⟩:=h2.at zA0;subst he;obtain⟨s,hx⟩:=zG zs i zAe;obtain⟨cs,hl,hr,rfl,hs⟩:=(h2.keep bU.keep (Kp.dV HO.out)).get hx;have hcell:=hr 0 _ rfl;simp only[yH,qF]at hcell;have iE:=zw (i+1);clear hx h2 hl hr;by_cases hs:100<s.size;·go_wp2_with fail;go_ret;exact dG.mk true rfl nofun HO.out
   exact zEK
  have:i=n:=by omega
  subst this;go_wp2_with fail;go_ret;exact dG.mk false rfl (fun _=>by omega) HO.out
--GEN: printed by amN.py
theorem Yi{v:Value}{zs:List rE}(h:aS 2 fE B w v zs):Calls Tryz.prog 177 #[v] w fun e w'=>dG w w' e (zs.length<=30):=by
 obtain⟨ao,cap,rfl,hc1,hc2⟩:=h.shape;have HH:=zh h;obtain⟨n,hn⟩:=ze zs.length;have HN:=zh hn;rw[hn]at hc1⊢;clear h hn;go_enter Tryz.func177,Tryz.ntmps177;by_cases q0:30<n;·go_wp2_with fail;go_ret;exact dG.mk true rfl nofun zr
 have jW:Hid (O0 w w):=Only.refl _ _;have aV:O0 w w:=Only.refl _ _;go_wp2_with fail;go_loopw [9] (fun vi wr=>Hid (O0 w wr)/\∃i:Nat,vi= .int .i64 i/\i<=n) (fun v _=>n-(intOf v).toNat);case atStart=>exact⟨show Hid _ from jW.out,0,rfl,qE _⟩
 case round=>
  obtain⟨HO,i,rfl,hi⟩:=hrel;by_cases ci:i<n
  ·have h2:=HH.out;try rw[HN.out]at h2
   obtain⟨b,off,he,-,-⟩:=h2.at (by have:=HN.out;omega);subst he;obtain⟨y,hx⟩:=zG zs i zAe;obtain⟨cs,hl,hr,hC⟩:=(h2.keep fE.keep (Kp.dV (aV.trans HO.out fun _ f=>.inl f))).get hx;have iE:=zw (i+1);obtain⟨rfl,-,-⟩:=hC;have hc0:=hr 0 _ rfl;try simp only[qF]at hc0
   have hc1:=hr 1 _ rfl;try simp only[qF]at hc1
   clear hx h2 hl hr;by_cases q0:100<y.lo.size;·exact zEv
   by_cases q1:100<y.hi.size;·exact zEv
   exact zEK
  obtain rfl:n=i:=by omega
  clear hi ci;go_wp2_with fail;go_ret;exact dG.mk false rfl (fun _=>by have:=HN.out;omega) HO.out
theorem rY{cs:List Value}{x:iW}(h:dJ B w cs x):Calls Tryz.prog 100 #[.agg cs.toArray] w fun e w'=>dG w w' e (jS x):=by
 obtain⟨o1,o2,c1,c2,rfl,hsz,h1,h2⟩:=h.cells;obtain⟨m1,hm1⟩:=ze x.spans.length;obtain⟨n,hn⟩:=ze x.sets.length;obtain⟨_,_,-,g1,g2⟩:=h1.shape;obtain⟨_,_,e2,g3,g4⟩:=h2.shape;simp only[qU]at e2;obtain⟨-,-,rfl⟩:=e2;rw[hm1]at h1;rw[hn]at h2 g3;have H1:=zh h1;have H2:=zh h2;have HN:=zh hn;rw[hm1,hn];have aF:Hid (∀W,O0 (w.alloc (.cells #[.string x.name,.slice o1 m1 c1,.slice o2 n c2] 108)) W->W.cell? ⟨w.heap.size,0,none⟩=some (.string x.name)/\W.cell? ⟨w.heap.size,1,none⟩=some (.slice o1 m1 c1)/\W.cell? ⟨w.heap.size,2,none⟩=some (.slice o2 n c2)):=fun W ho=>by have hb:=ho.block w.heap.size zAP (fun f=>f);refine⟨?_,?_,?_⟩;all_goals (rw[World.cell?_of_block (w:=(w.alloc (.cells #[.string x.name,.slice o1 m1 c1,.slice o2 n c2] 108))) hb];simp)
 clear h h1 h2 hn hm1 g1 g2;go_enter Tryz.func100,Tryz.ntmps100;have aV:O0 w (w.alloc (.cells #[.string x.name,.slice o1 m1 c1,.slice o2 n c2] 108)):=zr.alloc _;by_cases q0:100<x.name.size;·exact zEA
 by_cases q1:20<n;·exact zEA
 go_wp2_with fail;refine(Yi (H1.out.keep fE.keep (Kp.dV aV))).mono ?_;rintro e w1 ⟨bb,rfl,hb,O1⟩;have aI:=zh ((Only.refl (fun _=>False) (w.alloc (.cells #[.string x.name,.slice o1 m1 c1,.slice o2 n c2] 108))).same O1);clear O1;cases bb with
 |false=>
  have VN:=zh hb;clear hb;obtain⟨k0,k1,k2⟩:=aF.out w1 aI.out;have jW:=aI;go_wp2_with fail;go_loopw [22] (fun vi wr=>Hid (O0 (w.alloc (.cells #[.string x.name,.slice o1 m1 c1,.slice o2 n c2] 108)) wr)/\∃i:Nat,vi= .int .i64 i/\i<=n) (fun v _=>n-(intOf v).toNat);case atStart=>exact⟨show Hid _ from jW.out,0,rfl,qE _⟩
  case round=>
   obtain⟨HO,i,rfl,hi⟩:=hrel;obtain⟨k0,k1,k2⟩:=aF.out wr HO.out;by_cases ci:i<n
   ·have h2:=H2.out;try rw[HN.out]at h2
    obtain⟨b,off,he,-,-⟩:=h2.at (by have:=HN.out;omega);subst he;obtain⟨y,hx⟩:=zG x.sets i zAe;obtain⟨cs,hl,hr,hC⟩:=(h2.keep dO.keep (Kp.dV (aV.trans HO.out fun _ f=>.inl f))).get hx;have iE:=zw (i+1);obtain⟨rfl,-,-⟩:=hC;have hc0:=hr 0 _ rfl;try simp only[qF]at hc0
    have hc1:=hr 1 _ rfl;try simp only[qF]at hc1
    clear hx h2 hl hr;by_cases q0:100<y.name.size;·exact zEv
    by_cases q1:100<y.value.size;·exact zEv
    exact zEK
   obtain rfl:n=i:=by omega
   clear hi ci;go_wp2_with fail;go_ret;exact dG.mk false rfl (fun _=>⟨by have:=HN.out;omega,by first|exact VN.out trivial|exact VN.out rfl|exact VN.out⟩) (aV.same HO.out)
 |true=>exact zEC
theorem Qp{cs:List Value}{x:iW}(h:dJ B w cs x):Calls Tryz.prog 47 #[.agg cs.toArray] w fun e w'=>dG w w' e (jS x):=by have HH:=zh h;obtain⟨o1,o2,c1,c2,rfl,-,-,-⟩:=h.cells;clear h;go_enter Tryz.func47,Tryz.ntmps47;go_wp2_with fail;refine(rY (dJ.keep HH.out (Kp.dV ((Only.refl (fun _=>False) w).alloc _)))).mono ?_;rintro e w1 ⟨b,rfl,hb,O1⟩;have HB:=zh hb;clear hb;go_wp2_with fail;go_ret;exact dG.mk b rfl HB.out (((Only.refl (fun _=>False) w).alloc _).same O1)
theorem JJ{cs:List Value}{x:iI}(h:gY B w cs x):Calls Tryz.prog 45 #[.agg cs.toArray] w fun e w'=>dG w w' e (FZ x):=by
 obtain⟨o1,o2,o3,o4,o5,o6,c1,c2,c3,c4,c5,c6,rfl,-,-,h1,h2,h3,h4,h5,h6⟩:=h.cells;obtain⟨n1,hn1⟩:=ze x.jc.length;obtain⟨n2,hn2⟩:=ze x.vars.length;obtain⟨n3,hn3⟩:=ze x.provides.length;obtain⟨n4,hn4⟩:=ze x.deps.length;obtain⟨n5,hn5⟩:=ze x.cons.length;obtain⟨n6,hn6⟩:=ze x.files.length;obtain⟨_,_,e1,g1,g1'⟩:=h1.shape;simp only[qU]at e1;obtain⟨-,-,rfl⟩:=e1;obtain⟨_,_,e2,g2,g2'⟩:=h2.shape;simp only[qU]at e2;obtain⟨-,-,rfl⟩:=e2;obtain⟨_,_,e3,g3,g3'⟩:=h3.shape;simp only[qU]at e3;obtain⟨-,-,rfl⟩:=e3;obtain⟨_,_,e4,g4,g4'⟩:=h4.shape;simp only[qU]at e4;obtain⟨-,-,rfl⟩:=e4;obtain⟨_,_,e5,g5,g5'⟩:=h5.shape;simp only[qU]at e5;obtain⟨-,-,rfl⟩:=e5;obtain⟨_,_,e6,g6,g6'⟩:=h6.shape;simp only[qU]at e6;obtain⟨-,-,rfl⟩:=e6;rw[hn1]at h1 g1;have R1:=zh h1;have N1:=zh hn1;rw[hn2]at h2 g2;have R2:=zh h2;have N2:=zh hn2;rw[hn3]at h3 g3;have R3:=zh h3;have N3:=zh hn3;rw[hn4]at h4 g4;have R4:=zh h4;have N4:=zh hn4;rw[hn5]at h5 g5;have R5:=zh h5;have N5:=zh hn5;rw[hn6]at h6 g6;have R6:=zh h6;rw[hn1,hn2,hn3,hn4,hn5,hn6];have aF:Hid (∀W,O0 (w.alloc (.cells #[.string x.name,.int .i64 x.line,.slice o1 n1 c1,.slice o2 n2 c2,.slice o3 n3 c3,.slice o4 n4 c4,.slice o5 n5 c5,.slice o6 n6 c6] 101)) W->W.cell? ⟨w.heap.size,0,none⟩=some (.string x.name)/\W.cell? ⟨w.heap.size,1,none⟩=some (.int .i64 x.line)/\W.cell? ⟨w.heap.size,2,none⟩=some (.slice o1 n1 c1)/\W.cell? ⟨w.heap.size,3,none⟩=some (.slice o2 n2 c2)/\W.cell? ⟨w.heap.size,4,none⟩=some (.slice o3 n3 c3)/\W.cell? ⟨w.heap.size,5,none⟩=some (.slice o4 n4 c4)/\W.cell? ⟨w.heap.size,6,none⟩=some (.slice o5 n5 c5)/\W.cell? ⟨w.heap.size,7,none⟩=some (.slice o6 n6 c6)):=fun W ho=>by have hb:=ho.block w.heap.size zAP (fun f=>f);refine⟨?_,?_,?_,?_,?_,?_,?_,?_⟩;all_goals (rw[World.cell?_of_block (w:=(w.alloc (.cells #[.string x.name,.int .i64 x.line,.slice o1 n1 c1,.slice o2 n2 c2,.slice o3 n3 c3,.slice o4 n4 c4,.slice o5 n5 c5,.slice o6 n6 c6] 101))) hb];simp)
 clear h h1 h2 h3 h4 h5 h6 hn1 hn2 hn3 hn4 hn5 hn6;go_enter Tryz.func45,Tryz.ntmps45;have aV:O0 w (w.alloc (.cells #[.string x.name,.int .i64 x.line,.slice o1 n1 c1,.slice o2 n2 c2,.slice o3 n3 c3,.slice o4 n4 c4,.slice o5 n5 c5,.slice o6 n6 c6] 101)):=zr.alloc _;by_cases q0:100<x.name.size;·exact zEA
 by_cases q1:30<n1;·exact zEA
 by_cases q2:20<n2;·exact zEA
 by_cases q3:40<n4;·exact zEA
 by_cases q4:40<n5;·exact zEA
 go_wp2_with fail;refine(uP (R3.out.keep bU.keep (Kp.dV aV))).mono ?_;rintro e w1 ⟨bb,rfl,hb,O1⟩;have aI:=zh O1;have HT:=zh hb;clear O1 hb;obtain⟨k0,k1,k2,k3,k4,k5,k6,k7⟩:=aF.out w1 aI.out;cases bb with
 |true=>exact zEC
 |false=>
  replace HT:=zh (HT.out rfl);go_wp2_with fail;refine(uP (R6.out.keep bU.keep (Kp.dV (aV.same aI.out)))).mono ?_;rintro e w2 ⟨bb,rfl,hb,O1⟩;have jW:=zh (aI.out.same O1);clear O1 hb;cases bb with
  |false=>
   obtain⟨k0,k1,k2,k3,k4,k5,k6,k7⟩:=aF.out w2 jW.out;clear aI;go_wp2_with fail;go_loopw [48] (fun vi wr=>Hid (O0 (w.alloc (.cells #[.string x.name,.int .i64 x.line,.slice o1 n1 c1,.slice o2 n2 c2,.slice o3 n3 c3,.slice o4 n4 c4,.slice o5 n5 c5,.slice o6 n6 c6] 101)) wr)/\∃i:Nat,vi= .int .i64 i/\i<=n1) (fun v _=>n1-(intOf v).toNat);case atStart=>exact⟨show Hid _ from jW.out,0,rfl,qE _⟩
   case round=>
    obtain⟨HO,i,rfl,hi⟩:=hrel;obtain⟨k0,k1,k2,k3,k4,k5,k6,k7⟩:=aF.out wr HO.out;by_cases ci:i<n1
    ·have h2:=R1.out;try rw[N1.out]at h2
     obtain⟨b,off,he,-,-⟩:=h2.at zB9;subst he;obtain⟨y,hx⟩:=zG x.jc i (by rw[N1.out];exact ci);obtain⟨cs,hl,hr,hC⟩:=(h2.keep pR.keep (Kp.dV (aV.trans HO.out fun _ f=>.inl f))).get hx;have iE:=zw (i+1);obtain⟨rfl,-⟩:=hC;have hc0:=hr 0 _ rfl;try simp only[qF]at hc0
     clear hx h2 hl hr;by_cases q:100<y.version.size;·exact zGH
     exact zEK
    obtain rfl:n1=i:=by omega
    clear hi ci;have jW:=HO;go_wp2_with fail;go_loopw [63] (fun vi wr=>Hid (O0 (w.alloc (.cells #[.string x.name,.int .i64 x.line,.slice o1 n1 c1,.slice o2 n2 c2,.slice o3 n3 c3,.slice o4 n4 c4,.slice o5 n5 c5,.slice o6 n6 c6] 101)) wr)/\∃i:Nat,vi= .int .i64 i/\i<=n2) (fun v _=>n2-(intOf v).toNat);case atStart=>exact⟨show Hid _ from jW.out,0,rfl,qE _⟩
    case round=>
     obtain⟨HO,i,rfl,hi⟩:=hrel;obtain⟨k0,k1,k2,k3,k4,k5,k6,k7⟩:=aF.out wr HO.out;by_cases ci:i<n2
     ·have h2:=R2.out;try rw[N2.out]at h2
      obtain⟨b,off,he,-,-⟩:=h2.at (by have:=N2.out;omega);subst he;obtain⟨y,hx⟩:=zG x.vars i (by rw[N2.out];exact ci);obtain⟨cs,hl,hr,hC⟩:=(h2.keep l9.keep (Kp.dV (aV.trans HO.out fun _ f=>.inl f))).get hx;have iE:=zw (i+1);obtain⟨v1,rfl,-,hv⟩:=hC;obtain⟨p1,d1,rfl,-,-⟩:=hv.shape;have hc0:=hr 0 _ rfl;try simp only[qF]at hc0
      have hc1:=hr 1 _ rfl;try simp only[qF]at hc1
      have HV:=zh hv;clear hx h2 hl hr hv;by_cases q:100<y.name.size;·exact zGH
      exact zE6
     obtain rfl:n2=i:=by omega
     clear hi ci;have jW:=HO;go_wp2_with fail;go_loopw [87] (fun vi wr=>Hid (O0 (w.alloc (.cells #[.string x.name,.int .i64 x.line,.slice o1 n1 c1,.slice o2 n2 c2,.slice o3 n3 c3,.slice o4 n4 c4,.slice o5 n5 c5,.slice o6 n6 c6] 101)) wr)/\∃i:Nat,vi= .int .i64 i/\i<=n4/\Hid (∀z∈x.deps.take i,jS z.on/\jS z.cond)) (fun v _=>n4-(intOf v).toNat);case atStart=>exact⟨show Hid _ from jW.out,0,rfl,qE _,show Hid _ from fun z hz=>by simp at hz⟩
     case round=>
      obtain⟨HO,i,rfl,hi,HI⟩:=hrel;obtain⟨k0,k1,k2,k3,k4,k5,k6,k7⟩:=aF.out wr HO.out;by_cases ci:i<n4
      ·have h2:=R4.out;try rw[N4.out]at h2
       obtain⟨b,off,he,-,-⟩:=h2.at (by have:=N4.out;omega);subst he;obtain⟨y,hx⟩:=zG x.deps i (by rw[N4.out];exact ci);obtain⟨cs,hl,hr,hC⟩:=(h2.keep wz.keep (Kp.dV (aV.trans HO.out fun _ f=>.inl f))).get hx;have iE:=zw (i+1);obtain⟨s1,s2,rfl,hS1,hS2,-⟩:=hC;have Z4:=zh hS1;have HS2:=zh hS2;obtain⟨p1,p2,d1,d2,rfl,-,-,-⟩:=hS1.cells;obtain⟨p3,p4,d3,d4,rfl,-,-,-⟩:=hS2.cells;have HR1:=zh (show wr.rangeAt b (off+i*7) _ from Iw hr);have HR2:=zh (show wr.rangeAt b (off+i*7+3) _ from GX (GV hr));have HX:=zh hx;clear hx h2 hl hr hS1 hS2;go_wp2_with (refine wpList_load_mid rfl 108 (.tmp 94) rfl b (off+i*7) rfl _ _ HR1.out Tryz.underlying108 rfl zk ?_);exact zDg
      obtain rfl:n4=i:=by omega
      clear hi ci;have jW:=HO;have HSd:Hid (∀z∈x.deps,jS z.on/\jS z.cond):=by have:=HI.out;rw[qI (yG N4.out)]at this;exact this
      clear HI;go_wp2_with fail;go_loopw [110] (fun vi wr=>Hid (O0 (w.alloc (.cells #[.string x.name,.int .i64 x.line,.slice o1 n1 c1,.slice o2 n2 c2,.slice o3 n3 c3,.slice o4 n4 c4,.slice o5 n5 c5,.slice o6 n6 c6] 101)) wr)/\∃i:Nat,vi= .int .i64 i/\i<=n5/\Hid (∀z∈x.cons.take i,jS z.cond/\jS z.with')) (fun v _=>n5-(intOf v).toNat);case atStart=>exact⟨show Hid _ from jW.out,0,rfl,qE _,show Hid _ from fun z hz=>by simp at hz⟩
      case round=>
       obtain⟨HO,i,rfl,hi,HI⟩:=hrel;obtain⟨k0,k1,k2,k3,k4,k5,k6,k7⟩:=aF.out wr HO.out;by_cases ci:i<n5
       ·have h2:=R5.out;try rw[N5.out]at h2
        obtain⟨b,off,he,-,-⟩:=h2.at (by have:=N5.out;omega);subst he;obtain⟨y,hx⟩:=zG x.cons i (by rw[N5.out];exact ci);obtain⟨cs,hl,hr,hC⟩:=(h2.keep vO.keep (Kp.dV (aV.trans HO.out fun _ f=>.inl f))).get hx;have iE:=zw (i+1);obtain⟨s1,s2,rfl,hS1,hS2,-⟩:=hC;have Z4:=zh hS1;have HS2:=zh hS2;obtain⟨p1,p2,d1,d2,rfl,-,-,-⟩:=hS1.cells;obtain⟨p3,p4,d3,d4,rfl,-,-,-⟩:=hS2.cells;have HR1:=zh (show wr.rangeAt b (off+i*7) _ from Iw hr);have HR2:=zh (show wr.rangeAt b (off+i*7+3) _ from GX (GV hr));have HX:=zh hx;clear hx h2 hl hr hS1 hS2;go_wp2_with (refine wpList_load_mid rfl 108 (.tmp 117) rfl b (off+i*7) rfl _ _ HR1.out Tryz.underlying108 rfl zk ?_);exact zDg
       obtain rfl:n5=i:=by omega
       clear hi ci;go_wp2_with fail;go_ret;exact dG.mk false rfl (fun _=>⟨by have:=N1.out;omega,by have:=N2.out;omega,by have:=N4.out;omega,by have:=N5.out;omega,by have:=N3.out;have:=HT.out;omega,HSd.out,by
        have:=HI.out
        rw[qI (yG N5.out)]at this
        exact this⟩) (aV.same HO.out)
  |true=>go_wp2_with fail;go_ret;exact dG.mk true rfl nofun (aV.same jW.out)
end
theorem Qq{w:World}{b o:Nat}{c1 c2:List Value}(h:w.rangeAt b o (c1++c2)):w.rangeAt b o c1:=fun j u hu=>h j u (by
 have hj:=(qJ.1 hu).1
 rw[yM hj];exact hu)
structure wR (x:aQ):Prop where
 packs:x.packs.length<=30
 fV:x.fV.length<=20
 all:∀p∈x.packs,FZ p
section
variable {w w':World} {B:Nat}
theorem Yj{cs:List Value}{x:aQ}(h:fO B w cs x):Calls Tryz.prog 7 #[.agg cs.toArray] w fun e w'=>dG w w' e (wR x):=by
 obtain⟨v1,v2,rfl,h1,h2⟩:=h;obtain⟨o1,c1,rfl,g1,g1'⟩:=h1.shape;obtain⟨o2,c2,rfl,g2,g2'⟩:=h2.shape;obtain⟨n1,hn1⟩:=ze x.packs.length;obtain⟨n2,hn2⟩:=ze x.fV.length;rw[hn1]at h1 g1;rw[hn2]at h2 g2;have R1:=zh h1;have R2:=zh h2;have N1:=zh hn1;have N2:=zh hn2;rw[hn1,hn2];have aF:Hid (∀W,O0 (w.alloc (.cells #[.slice o1 n1 c1,.slice o2 n2 c2] 25)) W->W.cell? ⟨w.heap.size,0,none⟩=some (.slice o1 n1 c1)/\W.cell? ⟨w.heap.size,1,none⟩=some (.slice o2 n2 c2)):=fun W ho=>by have hb:=ho.block w.heap.size zAP (fun f=>f);refine⟨?_,?_⟩;all_goals (rw[World.cell?_of_block (w:=(w.alloc (.cells #[.slice o1 n1 c1,.slice o2 n2 c2] 25))) hb];simp)
 clear h1 h2 hn1 hn2;go_enter Tryz.func7,Tryz.ntmps7;have aV:O0 w (w.alloc (.cells #[.slice o1 n1 c1,.slice o2 n2 c2] 25)):=zr.alloc _;have jW:Hid (O0 (w.alloc (.cells #[.slice o1 n1 c1,.slice o2 n2 c2] 25)) (w.alloc (.cells #[.slice o1 n1 c1,.slice o2 n2 c2] 25))):=Only.refl _ _;by_cases q0:30<n1;·exact zEA
 by_cases q1:20<n2;·exact zEA
 go_wp2_with fail;go_loopw [18] (fun vi wr=>Hid (O0 (w.alloc (.cells #[.slice o1 n1 c1,.slice o2 n2 c2] 25)) wr)/\∃i:Nat,vi= .int .i64 i/\i<=n1/\Hid (∀p∈x.packs.take i,FZ p)) (fun v _=>n1-(intOf v).toNat);case atStart=>exact⟨show Hid _ from jW.out,0,rfl,qE _,show Hid _ from fun z hz=>by simp at hz⟩
 case round=>
  obtain⟨HO,i,rfl,hi,HI⟩:=hrel;obtain⟨k0,k1⟩:=aF.out wr HO.out;by_cases ci:i<n1
  ·have h2:=R1.out;try rw[N1.out]at h2
   obtain⟨b,off,he,-,-⟩:=h2.at zB9;subst he;obtain⟨y,hx⟩:=zG x.packs i (by rw[N1.out];exact ci);obtain⟨cs,hl,hr,hC⟩:=(h2.keep gY.keep (Kp.dV (aV.trans HO.out fun _ f=>.inl f))).get hx;have iE:=zw (i+1);have HX:=zh hx;have HC:=zh hC;obtain⟨p1,p2,p3,p4,p5,p6,d1,d2,d3,d4,d5,d6,rfl,-⟩:=hC.cells;have HR:=zh hr;clear hx h2 hl hr hC;go_wp2_with (refine wpList_load_mid rfl 101 (.tmp 24) rfl b (off+i*8) rfl _ _ HR.out Tryz.underlying101 rfl zk ?_);refine(JJ HC.out).mono ?_;rintro e w1 ⟨bb,rfl,hb,O1⟩;have aI:=zh (HO.out.same O1);have HB:=zh hb;clear O1 hb;cases bb with
   |false=>
    go_wp2_with fail;go_roundw;case rel=>exact⟨aI,i+1,by first|rfl|go_num,by omega,show Hid _ from fun z hz=>by
      rcases bH HX.out hz with h|rfl
      ·exact HI.out z h
      ·first|exact HB.out|exact HB.out trivial|exact HB.out rfl⟩
    case measure=>simp[intOf]<;>omega
   |true=>exact zEC
  obtain rfl:n1=i:=by omega
  clear hi ci;have jW:=HO;have HS:Hid (∀p∈x.packs,FZ p):=by have:=HI.out;rw[qI (yG N1.out)]at this;exact this
  clear HI;go_wp2_with fail;go_loopw [31] (fun vi wr=>Hid (O0 (w.alloc (.cells #[.slice o1 n1 c1,.slice o2 n2 c2] 25)) wr)/\∃i:Nat,vi= .int .i64 i/\i<=n2) (fun v _=>n2-(intOf v).toNat);case atStart=>exact⟨show Hid _ from jW.out,0,rfl,qE _⟩
  case round=>
   obtain⟨HO,i,rfl,hi⟩:=hrel;obtain⟨k0,k1⟩:=aF.out wr HO.out;by_cases ci:i<n2
   ·have h2:=R2.out;try rw[N2.out]at h2
    obtain⟨b,off,he,-,-⟩:=h2.at (by have:=N2.out;omega);subst he;obtain⟨y,hx⟩:=zG x.fV i (by rw[N2.out];exact ci);obtain⟨cs,hl,hr,hC⟩:=(h2.keep tV.keep (Kp.dV (aV.trans HO.out fun _ f=>.inl f))).get hx;have iE:=zw (i+1);obtain⟨v1,rfl,-,-,hv⟩:=hC;obtain⟨p1,d1,rfl,-,-⟩:=hv.shape;have hc0:=hr 0 _ rfl;try simp only[qF]at hc0
    have hc1:=hr 1 _ rfl;try simp only[qF]at hc1
    have HV:=zh hv;clear hx h2 hl hr hv;by_cases q:100<y.virtual.size;·exact zGH
    exact zE6
   obtain rfl:n2=i:=by omega
   clear hi ci;go_wp2_with fail;go_ret;exact dG.mk false rfl (fun _=>⟨by have:=N1.out;omega,by have:=N2.out;omega,HS.out⟩) (aV.same HO.out)
theorem Yk{cs:List Value}{x:dD}(h:mg B w cs x):Calls Tryz.prog 8 #[.agg cs.toArray] w fun e w'=>dG w w' e (x.roots.length<=40/\∀z∈x.roots,jS z.spec):=by
 obtain⟨v1,rfl,h1⟩:=h;obtain⟨o1,c1,rfl,g1,g1'⟩:=h1.shape;obtain⟨n1,hn1⟩:=ze x.roots.length;rw[hn1]at h1 g1;have R1:=zh h1;have N1:=zh hn1;rw[hn1];have aF:Hid (∀W,O0 (w.alloc (.cells #[.slice o1 n1 c1] 28)) W->W.cell? ⟨w.heap.size,0,none⟩=some (.slice o1 n1 c1)):=fun W ho=>by have hb:=ho.block w.heap.size zAP (fun f=>f);refine ?_;all_goals (rw[World.cell?_of_block (w:=(w.alloc (.cells #[.slice o1 n1 c1] 28))) hb];simp)
 clear h1 hn1;go_enter Tryz.func8,Tryz.ntmps8;have aV:O0 w (w.alloc (.cells #[.slice o1 n1 c1] 28)):=zr.alloc _;have jW:Hid (O0 (w.alloc (.cells #[.slice o1 n1 c1] 28)) (w.alloc (.cells #[.slice o1 n1 c1] 28))):=Only.refl _ _;by_cases q0:40<n1;·exact zEA
 go_wp2_with fail;go_loopw [11] (fun vi wr=>Hid (O0 (w.alloc (.cells #[.slice o1 n1 c1] 28)) wr)/\∃i:Nat,vi= .int .i64 i/\i<=n1/\Hid (∀z∈x.roots.take i,jS z.spec)) (fun v _=>n1-(intOf v).toNat);case atStart=>exact⟨show Hid _ from jW.out,0,rfl,qE _,show Hid _ from fun z hz=>by simp at hz⟩
 case round=>
  obtain⟨HO,i,rfl,hi,HI⟩:=hrel;have k0:=aF.out wr HO.out;by_cases ci:i<n1
  ·have h2:=R1.out;try rw[N1.out]at h2
   obtain⟨b,off,he,-,-⟩:=h2.at zB9;subst he;obtain⟨y,hx⟩:=zG x.roots i (by rw[N1.out];exact ci);obtain⟨cs,hl,hr,hC⟩:=(h2.keep mM.keep (Kp.dV (aV.trans HO.out fun _ f=>.inl f))).get hx;have iE:=zw (i+1);have hx0:=hx;obtain⟨s1,rfl,hS1,-⟩:=hC;have Z4:=zh hS1;have HR1:=zh (Qq hr);obtain⟨p1,p2,d1,d2,rfl,-,-,-⟩:=hS1.cells;clear hx h2 hl hr hS1;have HX:=zh hx0;clear hx0;have e0:=HR1.out 0 _ rfl;have e1:=HR1.out 1 _ rfl;have e2:=HR1.out 2 _ rfl;simp only[qF]at e0;go_wp2_with fail;refine(Qp Z4.out).mono ?_;rintro e w1 ⟨bb,rfl,hb,O1⟩;have aI:=zh (HO.out.same O1);have HB:=zh hb;clear O1 hb;cases bb with
   |false=>
    go_wp2_with fail;go_roundw;case rel=>exact⟨aI,i+1,by first|rfl|go_num,by omega,show Hid _ from fun z hz=>by
      rcases bH HX.out hz with h|rfl
      ·exact HI.out z h
      ·first|exact HB.out trivial|exact HB.out rfl|exact HB.out⟩
    case measure=>simp[intOf]<;>omega
   |true=>exact zEC
  obtain rfl:n1=i:=by omega
  clear hi ci;go_wp2_with fail;go_ret;exact dG.mk false rfl (fun _=>⟨by have:=N1.out;omega,by
   have:=HI.out
   rw[qI (yG N1.out)]at this
   exact this⟩) (aV.same HO.out)
theorem Yl{cs:List Value}{x:dD}(h:mg B w cs x):Calls Tryz.prog 8 #[.agg cs.toArray] w fun e w'=>dG w w' e (x.roots.length<=40):=(Yk h).mono fun e w' ⟨b,he,hb,o⟩=>⟨b,he,fun h=>(hb h).1,o⟩
end
section
variable {w w':World} {B:Nat}
theorem Ws{v:Value}{xs:List rE}(h:aS 2 fE B w v xs){g:Nat}{cb:Array Value}{p:rE->Bool}(eg:∀args w,(callFunc g args).run Tryz.prog w= .ok (.enter g args) w)(hp:lF fE B g cb p w):Calls Tryz.prog 374 #[v,.func (.func g) #[] cb] w fun e w'=>e= .returned (.int .i64 (iK p xs))/\O0 w w':=by
 obtain⟨ao,cap,rfl,hc1,hc2⟩:=h.shape;have HH:=zh h;have LV:=zh hp;obtain⟨n,hn⟩:=ze xs.length;have HN:=zh hn;rw[hn]at hc1⊢;clear h hp hn;go_enter Tryz.func374,Tryz.ntmps374;go_wp2_with fail;go_loopw [5,8] (fun _ vi wr=>Hid (O0 w wr)/\∃i:Nat,vi= .int .i64 i/\i<=n/\Hid (∀x∈xs.take i,p x=false)) (fun _ v _=>n-(intOf v).toNat);case atStart=>exact⟨show Hid _ from Only.refl _ _,0,rfl,qE _,show Hid _ from fun x hx=>by simp at hx⟩
 case round=>
  obtain⟨HO,i,rfl,hi,HZ⟩:=hrel;by_cases ci:i<n
  ·have h2:=HH.out;rw[HN.out]at h2;obtain⟨b,off,he,-,-⟩:=h2.at zA0;subst he;obtain⟨x,hx⟩:=zG xs i zAe;obtain⟨cs,hl,hr,hC⟩:=(h2.keep fE.keep (Kp.dV HO.out)).get hx;have iE:=zw (i+1);have HR:=zh hr;have HL:=zh hl;have HX:=zh hx;have HC:=zh (LV.out wr cs x HO.out hC);obtain⟨y,hy⟩:=ze (p x);rw[hy]at HC;have HY:=zh hy;clear hr hx hy h2 hl hC;cases y with
   |true=>go_wp2_with (refine wpList_load_mid rfl 128 (.tmp 14) rfl b (off+i*2) rfl cs _ HR.out Tryz.underlying128 rfl zAi ?_);exact zDa
   |false=>go_wp2_with (refine wpList_load_mid rfl 128 (.tmp 14) rfl b (off+i*2) rfl cs _ HR.out Tryz.underlying128 rfl zAi ?_);exact zDO
  exact zDY
theorem N7{v:Value}{xs:List rE}(h:aS 2 fE B w v xs){g:Nat}{cb:Array Value}{p:rE->Bool}(eg:∀args w,(callFunc g args).run Tryz.prog w= .ok (.enter g args) w)(hp:lF fE B g cb p w)(r:Bool)(hr:decide (0<=iK p xs)=r):Calls Tryz.prog 340 #[v,.func (.func g) #[] cb] w fun e w'=>e= .returned (.bool r)/\O0 w w':=by have H:=zh (Ws h eg hp);obtain⟨i,hi⟩:=ze (iK p xs);rw[hi]at H hr;clear h hp hi;go_enter Tryz.func340,Tryz.ntmps340;go_wp2_with fail;refine H.out.mono ?_;rintro e w1 ⟨rfl,O1⟩;go_wp2_with fail;go_ret;refine⟨?_,O1⟩;first|rfl| (rw[<-hr];rfl)| (rw[<-hr];simp)|simp
end
end Go.Proofs.YtdmmebjjojimiaaGreatDoor
namespace Go.Proofs.YtdmmebjjojimiaaGreatDoor
open Go.RowKit
theorem alloc_at{w:World}{o:Obj}{n:Nat}(h:w.heap.size=n):(w.alloc o).heap[n]? =some o:=by subst h;exact qL w o
end Go.Proofs.YtdmmebjjojimiaaGreatDoor
