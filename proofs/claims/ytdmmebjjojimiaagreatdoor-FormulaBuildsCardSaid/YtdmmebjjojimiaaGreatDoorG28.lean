/- Package formula: the object, Ground, Atoms, Rules, Number, so; nil receivers. Printed by g; Package edge: conflict. Printed by gen_edw8.py. -/
import Derived.Test.YtdmmebjjojimiaaGreatDoorG27
set_option maxRecDepth 100000
set_option maxHeartbeats 8000000
set_option linter.all false
namespace Go.Proofs
theorem zDA{p:Prop}(h:p:=by
 go_wp2_with fail
 go_ret
 exact⟨rfl,aW.out⟩):p:=h
end Go.Proofs
namespace Go.Proofs.YtdmmebjjojimiaaGreatDoor
open Go.RowKit
structure Y8 (w:World) (gt gb:Tag) (f c bt bb:Nat) (G:GL) (Bs:Nat) (D:xC) (S:TB) (cv:Value) (cls:List (List Int)):Prop where
 gr:xP w gt gb c bt bb G Bs D S
 blk:w.heap[f]? =some (.cells #[.pointer (some ⟨c,0,none⟩),cv] 168)
 cls:tH w cv cls
section
variable {w w':World} {gt gb:Tag} {f c bt bb:Nat} {G:GL} {Bs:Nat} {D:xC} {S:TB} {cv:Value} {cls:List (List Int)}
theorem Y8.aH(H:Y8 w gt gb f c bt bb G Bs D S cv cls)(ho:O0 w w'):Y8 w' gt gb f c bt bb G Bs D S cv cls:=⟨H.gr.aH ho,aC H.blk ho (fun f=>f),H.cls.aH ho⟩
theorem Ie(H:Y8 w gt gb f c bt bb G Bs D S cv cls):Calls Tryz.prog 44 #[.pointer (some ⟨f,0,none⟩)] w fun e w'=>e= .returned (.pointer (some ⟨c,0,none⟩))/\w'=w:=by have q0:w.cell? ⟨f,0,none⟩=some (.pointer (some ⟨c,0,none⟩)):=zAf;clear H;go_enter Tryz.func44,Tryz.ntmps44;exact zCG
theorem Gi(H:Y8 w gt gb f c bt bb G Bs D S cv cls)(n:Nat)(hn:S.1.l.length=n):Calls Tryz.prog 33 #[.pointer (some ⟨f,0,none⟩)] w fun e w'=>e= .returned (.int .i64 (n:Int))/\w'=w:=by
 have HG:=zh (Ie H);have HT:=zh (vX H.gr.gr);have HL:Hid (Calls Tryz.prog 90 #[.pointer (some ⟨bt,0,none⟩)] w fun e w'=>e= .returned (.int .i64 (n:Int))/\w'=w):=by obtain⟨V,hV⟩:=H.gr.gr.tab;rw[<-hn];exact Wy hV
 clear H hn;go_enter Tryz.func33,Tryz.ntmps33;go_wp2_with fail;refine HG.out.mono ?_;rintro e w1 ⟨rfl,rfl⟩;go_wp2_with fail;refine HT.out.mono ?_;rintro e w2 ⟨rfl,rfl⟩;go_wp2_with fail;refine HL.out.mono ?_;rintro e w3 ⟨rfl,rfl⟩;exact zCG
theorem XJ{p q r:Option Addr}(x:At)(n:Int)(hG:∀W,O0 w W->Calls Tryz.prog 44 #[.pointer p] W fun e w'=>e= .returned (.pointer q)/\w'=W)(hT:∀W,O0 w W->Calls Tryz.prog 66 #[.pointer q] W fun e w'=>e= .returned (.pointer r)/\w'=W)(hL:∀W,O0 w W->Calls Tryz.prog 67 #[.pointer r,iY x] W fun e w'=>e= .returned (.int .i64 n)/\O0 W w'):Calls Tryz.prog 41 #[.pointer p,iY x] w fun e w'=>e= .returned (.int .i64 n)/\O0 w w':=by
 obtain⟨W0,hW0⟩:=zB (w.alloc (.cells #[.int .u8 x.1,.int .i64 x.2.1,.int .i64 x.2.2.1,.int .i64 x.2.2.2] 89));have o0:O0 w W0:=by rw[hW0];exact zr.alloc _
 have HK:Hid (∀W,O0 W0 W->W.cell? ⟨w.heap.size,0,none⟩=some (.int .u8 x.1)/\W.cell? ⟨w.heap.size,1,none⟩=some (.int .i64 x.2.1)/\W.cell? ⟨w.heap.size,2,none⟩=some (.int .i64 x.2.2.1)/\W.cell? ⟨w.heap.size,3,none⟩=some (.int .i64 x.2.2.2)):=fun W ho=>by exact zCi
 have HG:Hid (∀W,O0 W0 W->Calls Tryz.prog 44 #[.pointer p] W fun e w'=>e= .returned (.pointer q)/\w'=W):=fun W hW=>hG W (o0.same hW);have HT:Hid (∀W,O0 W0 W->Calls Tryz.prog 66 #[.pointer q] W fun e w'=>e= .returned (.pointer r)/\w'=W):=fun W hW=>hT W (o0.same hW);have HL:Hid (∀W,O0 W0 W->Calls Tryz.prog 67 #[.pointer r,iY x] W fun e w'=>e= .returned (.int .i64 n)/\O0 w w'):=fun W hW=>(hL W (o0.same hW)).mono fun e w' ⟨he,ho⟩=>⟨he,(o0.same hW).same ho⟩;have hS0:=HK.out W0.drew (zr.drew);clear hG hT hL;unfold iY at*;clear o0;go_enter Tryz.func41,Tryz.ntmps41;go_wp2_with fail;rw[<-hW0];clear hW0;refine bC (n:=6) (E:=fun j=>j==4) (S:=(fun W:World=>W.cell? ⟨w.heap.size,0,none⟩=some (.int .u8 x.1)/\W.cell? ⟨w.heap.size,1,none⟩=some (.int .i64 x.2.1)/\W.cell? ⟨w.heap.size,2,none⟩=some (.int .i64 x.2.2.1)/\W.cell? ⟨w.heap.size,3,none⟩=some (.int .i64 x.2.2.2))) zk rfl hS0 (fun hHeld=>?_);refine tW 0 ?_;refine tK 3 ?_;refine tO 1 fun K hK=>?_;(go_simp;refine(HG.out _ zAA).mono ?_;rintro e w4 ⟨rfl,h4⟩;have o4:=h4;subst o4;try go_wp2_with fail);refine hK.out _ _ ?_ (fun hHeld=>?_);·exact zEL
 clear hK K;try simp only[Act.put,eF,fA,eG,dW,dX,dY]
 refine tO 2 fun K hK=>?_;(go_simp;refine(HT.out _ zAA).mono ?_;rintro e w5 ⟨rfl,h5⟩;have o5:=h5;subst o5;try go_wp2_with fail);refine hK.out _ _ ?_ (fun hHeld=>?_);·exact zEL
 clear hK K;try simp only[Act.put,eF,fA,eG,dW,dX,dY]
 refine fF (rs:=[4]) zk zAF ?_;refine bQ.late (i:=4) rfl zk (fun K hK=>?_) ?_
 ·(go_simp;refine(HL.out _ zAA).mono ?_;rintro e w6 ⟨rfl,o6⟩;try go_wp2_with fail);refine hK.out _ _ ?_;clear hK K;try simp only[Act.put,eF,fA,eG,dW,dX,dY]
  refine tW 5 ?_ (hS:=.inl zk);refine bf zk ?_ _;go_wp2_with fail;go_ret;exact⟨rfl,o6⟩
 exact bQ.nil
theorem Py(H:Y8 w gt gb f c bt bb G Bs D S cv cls){x:At}(hx:nK x)(n:Int)(hn:(numOf S.1.l x:Int)=n):Calls Tryz.prog 41 #[.pointer (some ⟨f,0,none⟩),iY x] w fun e w'=>e= .returned (.int .i64 n)/\O0 w w':=
 XJ x n (fun W hW=>Ie (H.aH hW)) (fun W hW=>vX (H.gr.gr.aH hW)) (fun W hW=>by
  obtain⟨V,hV⟩:=(H.gr.gr.aH hW).tab
  exact uf hV hx n hn)
def Gj(n:Nat)(m:List Bool):Bool:=decide (0<n/\n<=m.length)&&m.getD (n-1) false
theorem alU{p:Option Addr}{v:Value}{m:List Bool}(hm:Bools w v m)(x:At)(n:Nat)(hn:n<=1000000)(hN:∀W,O0 w W->Calls Tryz.prog 41 #[.pointer p,iY x] W fun e w'=>e= .returned (.int .i64 (n:Int))/\O0 W w')(b:Bool)(hb:Gj n m=b):Calls Tryz.prog 91 #[.pointer p,v,iY x] w fun e w'=>e= .returned (.bool b)/\O0 w w':=by
 obtain⟨W0,hW0⟩:=ze (w.alloc (.cells #[.int .u8 x.1,.int .i64 x.2.1,.int .i64 x.2.2.1,.int .i64 x.2.2.2] 89));have o0:O0 w W0:=zAc;have b0:W0.heap[w.heap.size]? =some (.cells #[.int .u8 x.1,.int .i64 x.2.1,.int .i64 x.2.2.1,.int .i64 x.2.2.2] 89):=by rw[<-hW0];exact qL w _
 have k0:W0.cell? ⟨w.heap.size,0,none⟩=some (.int .u8 x.1):=zAy;have k1:W0.cell? ⟨w.heap.size,1,none⟩=some (.int .i64 x.2.1):=zAy;have k2:W0.cell? ⟨w.heap.size,2,none⟩=some (.int .i64 x.2.2.1):=zAy;have k3:W0.cell? ⟨w.heap.size,3,none⟩=some (.int .i64 x.2.2.2):=zAy;have iZ:=zh o0;have HN:=zh (hN W0 o0);have HM:=zh (hm.aH o0);obtain⟨ao,cap,rfl,g1,g2⟩:=hm.shape;obtain⟨M,hM⟩:=ze m.length;have HMl:=zh hM;rw[hM]at HM g1⊢;clear hN hm o0 hM b0;unfold iY at*;go_enter Tryz.func91,Tryz.ntmps91;go_wp2_with fail;refine HN.out.mono ?_;rintro e w1 ⟨rfl,O1⟩;have aW:=zh (iZ.out.same O1);have HM1:=zh (HM.out.aH O1);clear O1 k0 k1 k2 k3 HN HM iZ;by_cases h1:0<n
 ·have d1:decide ((0:Int)<(n:Int))=true:=qX zAB;by_cases h2:n<=M
  ·have d2:decide ((n:Int)<=(M:Int))=true:=qX zAB;have d2':decide (n<=M)=true:=qX h2;obtain⟨bm,off,rfl,-,hcs⟩:=HM1.out.cells _ _ _ rfl (by rw[HMl.out];omega);have q:=hcs (n-1) (by rw[HMl.out];omega);have hbb:m.getD (n-1) false=b:=by rw[<-hb];unfold Gj;rw[qX ⟨h1,by rw[HMl.out];exact h2⟩];simp
   rw[hbb]at q;clear hcs hbb hb HM1;have ew:IntKind.i64.wrap ((n:Int)-1)=((n-1:Nat):Int):=by rw[qD];omega
   have e2:off+(n-1)<9223372036854775807->True:=fun _=>trivial;clear e2;cases b with
   |true=>exact zDA
   |false=>exact zDA
  have d2:decide ((n:Int)<=(M:Int))=false:=qP zAB;have d2':decide (n<=M)=false:=qP h2;obtain rfl:b=false:=by rw[<-hb];unfold Gj;rw[qP (by rw[HMl.out];omega)];rfl
  exact zDA
 have d1:decide ((0:Int)<(n:Int))=false:=qP zAB;obtain rfl:b=false:=by rw[<-hb];unfold Gj;rw[qP zAB];rfl
 exact zDA
theorem alV(H:Y8 w gt gb f c bt bb G Bs D S cv cls){v:Value}{m:List Bool}(hm:Bools w v m){x:At}(hx:nK x)(b:Bool)(hb:Gj (numOf S.1.l x) m=b):Calls Tryz.prog 91 #[.pointer (some ⟨f,0,none⟩),v,iY x] w fun e w'=>e= .returned (.bool b)/\O0 w w':=by refine alU hm x (numOf S.1.l x) ?_ (fun W hW=>Py (H.aH hW) hx _ rfl) b hb;have h1:=LH S.1.l x;have h2:S.1.Ok:=H.gr.ok;have h3:=h2.len;have h4:=h2.lim;omega
end
end Go.Proofs.YtdmmebjjojimiaaGreatDoor
namespace Go.Proofs
theorem zAa{p:Prop}(h:p:=by(intro w hSw;(try dsimp only at hSw);obtain⟨p0,p1,-⟩:=HS.out w (H3.out.only.same (hSw.mono fun _ f=>f.elim));go_simp<;>(try with_reducible rfl))):p:=h
end Go.Proofs
namespace Go.Proofs.YtdmmebjjojimiaaGreatDoor
open Go.RowKit
theorem rF.cells2{B:Nat}{w:World}{cs:List Value}{x:xX}(h:rF B w cs x):∃c1 c2,cs=c1++c2++[.int .i64 x.line]/\dB B w c1 x.cond/\dB B w c2 x.with':=by obtain⟨c1,c2,e,h1,h2,-⟩:=h;exact⟨c1,c2,e,h1,h2⟩
theorem ES.I9(E:ES)(x:aF)(l:List Nat)(r p:Nat)(c:xX){S1 S2:TB}{z wh:Int}(e1:E.1.num (fG r)=(S1,z))(e2:S1.meet x l p r 0 c.cond=(S2,wh)):E.conflict x l r p c=(if c.with'.name=ByteArray.empty then (S2.bG [-z,-wh],E.2)else if 0<=x.find c.with'.name/\(x.find c.with'.name).toNat∈l then ((S2.meet x l (x.find c.with'.name).toNat r 1 c.with').1.bG [-z,-wh,-(S2.meet x l (x.find c.with'.name).toNat r 1 c.with').2],E.2)else (S2,E.2)):=by unfold ES.conflict;dsimp only;rw[e1];dsimp only;rw[e2]
section
variable {w w':World} {gt gb gp:Tag} {X:MW} {Bs:Nat} {D:xC} {E:ES}
theorem aiE(H:jl w gt gb gp X Bs D E)(f:Int)(hf:f= -1\/ ∃k:Nat,f=k)(r:Bool)(hr:decide (0<=f/\f.toNat∈D.l)=r):Calls Tryz.prog 230 #[.pointer (some ⟨X.c,0,none⟩),.int .i64 f] w fun e w'=>e= .returned (.bool r)/\bF w gt gb gp X Bs D E w':=by
 have h:=acZ H.gx.gr H.gx.l f;have e:(intsOf D.l).contains f=r:=by
  rw[<-hr];rcases hf with rfl| ⟨k,rfl⟩
  ·rw[Bool.eq_iff_iff,List.contains_iff_mem,yP];unfold intsOf;rw[yD];constructor;·rintro⟨j,hj,e⟩;omega
   rintro⟨h1,-⟩;omega
  rw[DR];exact decide_eq_decide.2 ⟨fun h=>⟨by omega,by rw[yT];exact h⟩,fun h=>by have:=h.2;rwa[yT]at this⟩
 rw[e]at h;exact h.mono fun e w' ⟨he,h⟩=>⟨he,(bF.refl H).Lm h⟩
attribute [local irreducible] wpQuiet in
theorem XK(H:jl w gt gb gp X Bs D E)(hG:EdG D){r p:Nat}(hr6:r<=1000000)(Y5:p<=1000000){css:List Value}{d:xX}(hd:rF Bs w css d)(hss:d.cond.sets.length<=900000/\d.with'.sets.length<=900000):Calls Tryz.prog 161 #[.pointer (some ⟨X.px,0,none⟩),.int .i64 r,.int .i64 p,.agg css.toArray] w fun e w'=>e= .returned (.tuple #[])/\bF w gt gb gp X Bs D (E.conflict D.x D.l r p d) w':=by
 have HG:=zh hG;have hpk:=hG.mid.packs;obtain⟨cw,co,rfl,hwh,hon⟩:=hd.cells2;obtain⟨CZ,Dc,Df,Dh,rfl,-,-,-⟩:=hwh.cells;obtain⟨CW,nJ,CX,CY,rfl,-,-,-⟩:=hon.cells;obtain⟨F9,e1⟩:=ze d.with'.spans.length;obtain⟨Gf,e2⟩:=ze d.with'.sets.length;obtain⟨Gg,e3⟩:=ze d.cond.spans.length;obtain⟨Gh,e4⟩:=ze d.cond.sets.length;rw[e1,e2]at hon;rw[e3,e4]at hwh;rw[e1,e2,e3,e4];clear e1 e2 e3 e4;obtain⟨W0,hW0⟩:=ze (w.alloc (.cells #[.string d.cond.name,.slice CZ Gg Df,.slice Dc Gh Dh,.string d.with'.name,.slice CW F9 CX,.slice nJ Gf CY,.int .i64 d.line] 160));have hb0:W0.heap[w.heap.size]? =some (.cells #[.string d.cond.name,.slice CZ Gg Df,.slice Dc Gh Dh,.string d.with'.name,.slice CW F9 CX,.slice nJ Gf CY,.int .i64 d.line] 160 (0,0)):=zAj;have iZ:Hid (O0 w W0):=zAc;have hnm:=H.lT (qH w.heap.size);have H0:=zh (H.aH iZ.out);have HS:Hid (∀W,Only (bP gt gb gp) W0 W->W.cell? ⟨X.px,0,none⟩=some (.pointer (some ⟨X.c,0,none⟩))/\W.cell? ⟨w.heap.size,3,none⟩=some (.string d.with'.name)/\W.rangeAt w.heap.size 3 [.string d.with'.name,.slice CW F9 CX,.slice nJ Gf CY]/\W.rangeAt w.heap.size 0 [.string d.cond.name,.slice CZ Gg Df,.slice Dc Gh Dh]):=fun W o=>by exact zCU
 have QW:Hid (∀W,Only (bP gt gb gp) W0 W->dB Bs W [.string d.with'.name,.slice CW F9 CX,.slice nJ Gf CY] d.with'):=fun W o=>dB.QU (dB.keep hon (Kp.gV iZ.out)) H0.out o;have HWh:Hid (∀W,Only (bP gt gb gp) W0 W->dB Bs W [.string d.cond.name,.slice CZ Gg Df,.slice Dc Gh Dh] d.cond):=fun W o=>dB.QU (dB.keep hwh (Kp.gV iZ.out)) H0.out o;obtain⟨a1,c1,a2,c2,En,F6⟩:=H0.out.NT;have Am:=zh (And.intro En F6);obtain⟨n1,hn1⟩:=ze D.x.packs.length;obtain⟨n2,hn2⟩:=ze D.x.cO.length;rw[hn1]at hpk;rw[hn1,hn2]at Am;have MX:=zh hn1;obtain⟨S2,hS2⟩:=ze ((E.1.num (fG r)).1);obtain⟨z,hz⟩:=ze ((E.1.num (fG r)).2);have hzb:0<=z/\z<=65536:=by rw[<-hz];exact TB.nY H.ok _
 obtain⟨S3,hS3⟩:=ze ((S2.meet D.x D.l p r 0 d.cond).1);obtain⟨wh,XF⟩:=ze ((S2.meet D.x D.l p r 0 d.cond).2);have aiF:=(ES.I9 E D.x D.l r p d (show _=(S2,z) from by rw[<-hS2,<-hz]) (show _=(S3,wh) from by rw[<-hS3,<-XF]));have HZ:=zh (And.intro hS2 (And.intro hz (And.intro hS3 XF)));have hS0:=HS.out W0.drew (zr.drew);obtain⟨E9,F7⟩:=ze (E.conflict D.x D.l r p d);rw[F7];rw[F7]at aiF;have HCo:=zh aiF;clear hd hon hwh hb0 hnm En F6 hn1 hn2 hS2 hz hS3 XF H hG F7 aiF;go_enter Tryz.func161,Tryz.ntmps161;go_wp2_with fail;try rw[hW0]
 clear hW0;have UJ:Hid (∀W,O0 W0 W->Calls Tryz.prog 224 #[.pointer (some ⟨X.px,0,none⟩),.int .i64 r] W fun e w'=>e= .returned (.int .i64 z)/\bF W0 gt gb gp X Bs D (S2,E.2) w'):=fun W o=>by rw[<-HZ.out.1];exact bF.call (bF.refl H0.out) o fun gt' gb' lS Hx _=>Xz Hx (r:=r) ⟨by omega,by omega⟩ z HZ.out.2.1
 have HMt:Hid (∀w2,bF W0 gt gb gp X Bs D (S2,E.2) w2->∀W,O0 w2 W->Calls Tryz.prog 225 #[.pointer (some ⟨X.c,0,none⟩),.int .i64 p,.int .i64 r,.int .i64 0,.agg #[.string d.cond.name,.slice CZ Gg Df,.slice Dc Gh Dh]] W fun e w'=>e= .returned (.int .i64 wh)/\bF W0 gt gb gp X Bs D (S3,E.2) w'):=fun w2 h2 W o=>by rw[<-HZ.out.2.2.1];exact bF.call h2 o fun gt' gb' lS Hx Ox=>LG Hx HG.out (p:=p) (rule:=r) (cc:=0) Y5 hr6 zAB (HWh.out W Ox) hss.1 wh HZ.out.2.2.2
 refine bC (n:=14) (E:=fun _=>false) (S:=fun W=>W.cell? ⟨X.px,0,none⟩=some (.pointer (some ⟨X.c,0,none⟩))/\W.cell? ⟨w.heap.size,3,none⟩=some (.string d.with'.name)/\W.rangeAt w.heap.size 3 [.string d.with'.name,.slice CW F9 CX,.slice nJ Gf CY]/\W.rangeAt w.heap.size 0 [.string d.cond.name,.slice CZ Gg Df,.slice Dc Gh Dh]) zk rfl hS0 (fun hHeld=>?_);refine tW 0 ?_;refine tW 1 ?_;refine tW 3 ?_;refine tW 4 ?_;refine tW 5 ?_;refine tK 6 ?_;refine tW 7 ?_;refine tW 8 ?_;refine tW 9 ?_;refine tK 10 ?_ (hy:=by(intro w hSw;(try dsimp only at hSw);refine Eq.trans (dJ (ty:=108) (x:=.tmp 20) (cs:=[.string d.cond.name,.slice CZ Gg Df,.slice Dc Gh Dh]) rfl rfl hSw.2.2.2 Tryz.underlying108 rfl zk) ?_;with_reducible rfl));refine tO 2 fun K hK=>?_;(go_simp;refine(UJ.out _ zAA).mono ?_;rintro e w2 ⟨rfl,h2⟩;have oR:Only (bP gt gb gp) W0 w2:=h2.only;try go_wp2_with fail);refine hK.out _ _ ?_ (fun hHeld=>?_);·(try dsimp only)<;>(exact HS.out _ oR)
 clear hK K;try simp only[Act.put,eF,fA,eG,dW,dX,dY]
 refine tO 11 fun K hK=>?_;(go_simp;refine(HMt.out w2 h2 _ zAA).mono ?_;rintro e w3 ⟨rfl,h3⟩;try go_wp2_with fail);refine hK.out _ _ ?_ (fun hHeld=>?_);·(try dsimp only)<;>(exact HS.out _ h3.only)
 clear hK K;try simp only[Act.put,eF,fA,eG,dW,dX,dY]
 refine tW 12 ?_;refine tW 13 ?_;refine bf zk ?_ _;have H3:=zh h3;have hwb:0<=wh/\wh<=65536:=by have b2:=TB.LJ h2.MZ D.x D.l p r 0 d.cond;rw[HZ.out.2.2.2]at b2;exact b2
 clear h3 h2 oR UJ HMt hS0 HZ;obtain⟨q0,q1,-⟩:=HS.out w3 H3.out.only;have ewz:=zw (-z);have eww:=zw (-wh);by_cases hnil:d.with'.name=ByteArray.empty
 ·rw[if_pos hnil]at HCo;have h9:=HCo.out;subst h9;have hd0:d.with'.name.toList=[]:=nD.2 hnil;have hd1:d.with'.name.toList.isEmpty=true:=by rw[hd0];rfl
  have qj:Hid (Calls Tryz.prog 163 #[.pointer (some ⟨X.c,0,none⟩),.slice (some ⟨w3.heap.size,0,none⟩) 2 2] (w3.alloc (.cells #[.int .i64 (-z),.int .i64 (-wh)] 3)) fun e w'=>e= .returned (.tuple #[])/\bF W0 gt gb gp X Bs D (S3.bG [-z,-wh],E.2) w'):=
   bF.call H3.out (zr.alloc _) fun gt' gb' lS Hx _=>DT Hx (wR w3 (-z) (-wh) (dL hzb) (dL hwb)) zAF
  clear H3 hnil;go_wp2_with fail;refine qj.out.mono ?_;rintro e w4 ⟨rfl,h4⟩;have H4:=zh (bF.after iZ.out h4);clear h4 qj;go_wp2_with fail;((try simp only[Exit.inBlock,Exit.then]);refine bodyPost_ret (results_none rfl _ _ _) rfl ?_);exact⟨rfl,H4.out⟩
 rw[if_neg hnil]at HCo;have hd0:¬d.with'.name.toList=[]:=fun h=>hnil (nD.1 h);have hd1:d.with'.name.toList.isEmpty=false:=by cases hh:d.with'.name.toList with
  |nil=>exact absurd hh hd0
  |cons a b=>rfl
 obtain⟨f,hf⟩:=ze (D.x.find d.with'.name);have hfr:=F8 D.x d.with'.name;have Eo:Hid (∀W,O0 w3 W->Calls Tryz.prog 78 #[.pointer (some ⟨X.c,0,none⟩)] W fun e w'=>e= .returned (.agg #[.slice a1 n1 c1,.slice a2 n2 c2])/\O0 W w'):=fun W o=>by obtain⟨_,_,_,Hy,_⟩:=H3.out;exact jQ (Hy.aH o).gx.gr Am.out.1 Am.out.2
 have HFd:Hid (∀W,O0 w3 W->Calls Tryz.prog 182 #[.agg #[.slice a1 n1 c1,.slice a2 n2 c2],.string d.with'.name] W fun e w'=>e= .returned (.int .i64 f)/\O0 W w'):=fun W o=>by obtain⟨_,_,_,Hy,_⟩:=H3.out;have h:=(Hy.aH o).gx.Ef;rw[Am.out.1,Am.out.2]at h;have h2:=qc h d.with'.name;rw[hf]at h2;exact h2
 rw[hf]at hfr HCo;rw[MX.out]at hfr;clear hf hnil;go_wp2_with fail;refine fO (fun W=>O0 w3 W) zk zk (by exact zr.drew) ?_;iterate 4 refine qV ?_ (hy:=zAa)
 refine gY (v:=.agg #[.slice a1 n1 c1,.slice a2 n2 c2]) (f:=78) (args:= #[.pointer (some ⟨X.c,0,none⟩)]) (by rfl) ?_ ?_ ?_;·exact zB9
 ·exact zEi
 try simp only[Act.put,eF,fA,eG,dW,dX,dY]
 iterate 3 refine qV ?_ (hy:=zAa)
 refine gY (v:=.int .i64 f) (f:=182) (args:= #[.agg #[.slice a1 n1 c1,.slice a2 n2 c2],.string d.with'.name]) (by rfl) ?_ ?_ ?_;·exact zB9
 ·exact zEf
 try simp only[Act.put,eF,fA,eG,dW,dX,dY]
 refine qV ?_ (hy:=zAa);refine wpQuiet_nil ?_;intro w6 O6;have H6:=zh (H3.out.Lm O6);clear O6 H3 Eo HFd q0 q1;obtain⟨rh,hrh⟩:∃r,decide (0<=f/\f.toNat∈D.l)=r:=⟨_,rfl⟩;have Bc:Hid (Calls Tryz.prog 230 #[.pointer (some ⟨X.c,0,none⟩),.int .i64 f] w6 fun e w'=>e= .returned (.bool rh)/\bF W0 gt gb gp X Bs D (S3,E.2) w'):=
  bF.call H6.out zr fun gt' gb' lS Hx _=>aiE Hx f (hfr.imp id fun⟨k,h,_⟩=>⟨k,h⟩) rh hrh
 have HRh:=zh hrh;obtain⟨q0,-⟩:=HS.out w6 H6.out.only;clear hrh H6;go_wp2_with fail;refine Bc.out.mono ?_;rintro e w7 ⟨rfl,h7⟩;have H7:=zh h7;clear h7 Bc q0;cases rh with
 |false=>rw[if_neg (of_decide_eq_false HRh.out)]at HCo;have h9:=HCo.out;subst h9;have H8:=zh (bF.after iZ.out H7.out);clear H7;go_wp2_with fail;go_end0;exact⟨rfl,H8.out⟩
 |true=>
  have hfl:=of_decide_eq_true HRh.out;rw[if_pos hfl]at HCo;obtain⟨f',rfl,hf'⟩:∃k:Nat,f=k/\k<n1:=by
   rcases hfr with rfl|h;·exact absurd hfl.1 zAD
   exact h
  rw[yT]at HCo;obtain⟨zm,hzm⟩:=ze ((S3.meet D.x D.l f' r 1 d.with').2);obtain⟨S5,hS5⟩:=ze ((S3.meet D.x D.l f' r 1 d.with').1);have UK:0<=zm/\zm<=65536:=by rw[<-hzm];exact TB.LJ H7.out.MZ _ _ _ _ _ _
  have HMt:Hid (∀W,O0 w7 W->Calls Tryz.prog 225 #[.pointer (some ⟨X.c,0,none⟩),.int .i64 f',.int .i64 r,.int .i64 1,.agg #[.string d.with'.name,.slice CW F9 CX,.slice nJ Gf CY]] W fun e w'=>e= .returned (.int .i64 zm)/\bF W0 gt gb gp X Bs D (S5,E.2) w'):=fun W o=>by rw[<-hS5];exact bF.call H7.out o fun gt' gb' lS Hx Ox=>LG Hx HG.out (p:=f') (rule:=r) (cc:=1) zBU hr6 zAB (QW.out W Ox) hss.2 zm hzm
  have qj:Hid (∀w8 W,bF W0 gt gb gp X Bs D (S5,E.2) w8->O0 w8 W->Ints W (.slice (some ⟨w8.heap.size,0,none⟩) 3 3) [-z,-wh,-zm]->Calls Tryz.prog 163 #[.pointer (some ⟨X.c,0,none⟩),.slice (some ⟨w8.heap.size,0,none⟩) 3 3] W fun e w'=>e= .returned (.tuple #[])/\bF W0 gt gb gp X Bs D (S5.bG [-z,-wh,-zm],E.2) w'):=fun w8 W h8 o hI=>
   bF.call h8 o fun gt' gb' lS Hx _=>DT Hx hI zAF
  rw[hzm,hS5]at HCo;have h9:=HCo.out;subst h9;have ewm:=zw (-zm);have hS0:=HS.out w7.drew (H7.out.only.drew);clear hzm hS5 hfl H7;go_wp2_with fail;refine bC (n:=20) (E:=fun _=>false) (S:=fun W=>W.cell? ⟨X.px,0,none⟩=some (.pointer (some ⟨X.c,0,none⟩))/\W.cell? ⟨w.heap.size,3,none⟩=some (.string d.with'.name)/\W.rangeAt w.heap.size 3 [.string d.with'.name,.slice CW F9 CX,.slice nJ Gf CY]/\W.rangeAt w.heap.size 0 [.string d.cond.name,.slice CZ Gg Df,.slice Dc Gh Dh]) zk rfl hS0 (fun hHeld=>?_);refine tW 0 ?_;refine tW 1 ?_;refine tW 2 ?_;refine tK 3 ?_;refine tW 4 ?_;refine tW 5 ?_;refine tW 6 ?_;refine tW 7 ?_;refine tW 8 ?_;refine tW 9 ?_;refine tW 10 ?_;refine tK 11 ?_;refine tW 12 ?_;refine tW 13 ?_;refine tW 14 ?_;refine tK 15 ?_ (hy:=by(intro w hSw;(try dsimp only at hSw);refine Eq.trans (dJ (ty:=108) (x:=.tmp 66) (cs:=[.string d.with'.name,.slice CW F9 CX,.slice nJ Gf CY]) rfl rfl hSw.2.2.1 Tryz.underlying108 rfl zk) ?_;with_reducible rfl));refine tO 16 fun K hK=>?_;(go_simp;refine(HMt.out _ zAA).mono ?_;rintro e w8 ⟨rfl,h8⟩;have oM:Only (bP gt gb gp) W0 w8:=h8.only;try go_wp2_with fail);refine hK.out _ _ ?_ (fun hHeld=>?_);·exact zDR
  clear hK K;try simp only[Act.put,eF,fA,eG,dW,dX,dY]
  refine tW 17 ?_;refine tO 18 fun K hK=>?_;go_simp;refine hK.out _ _ ?_ (fun hHeld=>?_);·exact zDP
  clear hK K;try simp only[Act.put,eF,fA,eG,dW,dX,dY]
  refine tO 19 fun K hK=>?_;(go_simp;refine(qj.out w8 _ h8 zBT (by first|exact UL _ _ _ _ (dL hzb) (dL hwb) (dL UK)|exact(UL w8 _ _ _ (dL hzb) (dL hwb) (dL UK)).aH zAA)).mono ?_;rintro e w9 ⟨rfl,h9⟩;try go_wp2_with fail);refine hK.out _ _ ?_ (fun hHeld=>?_);·exact zDB
  clear hK K;try simp only[Act.put,eF,fA,eG,dW,dX,dY]
  refine bf zk ?_ _;have H9:=zh (bF.after iZ.out h9);clear h9 h8 oM HMt qj hS0;go_wp2_with fail;go_end0;exact⟨rfl,H9.out⟩
end
end Go.Proofs.YtdmmebjjojimiaaGreatDoor
