/- Package formula: the object, Ground, Atoms, Rules, Number, so; nil receivers. Printed by g; Package edge: conflict. Printed by gen_edw8.py. -/
import Derived.Test.YtdmmebjjojimiaaGreatDoorG27
set_option maxRecDepth 100000
set_option maxHeartbeats 8000000
set_option linter.all false
namespace Go.Proofs
theorem zCa{p:Prop}(h:p:=by
 go_wp2_with fail
 go_ret
 exact⟨rfl,bg.out⟩):p:=h
end Go.Proofs
namespace Go.Proofs.YtdmmebjjojimiaaGreatDoor
open Go.RowKit
structure Xk (w:World) (gt gb:Tag) (f c bt bb:Nat) (G:BJ) (Bs:Nat) (D:rU) (S:TB) (cv:Value) (cls:List (List Int)):Prop where
 gr:sD w gt gb c bt bb G Bs D S
 blk:w.heap[f]? =some (.cells #[.pointer (some ⟨c,0,none⟩),cv] 168)
 cls:sH w cv cls
section
variable {w w':World} {gt gb:Tag} {f c bt bb:Nat} {G:BJ} {Bs:Nat} {D:rU} {S:TB} {cv:Value} {cls:List (List Int)}
theorem Xk.aF(H:Xk w gt gb f c bt bb G Bs D S cv cls)(ho:O0 w w'):Xk w' gt gb f c bt bb G Bs D S cv cls:=⟨H.gr.aF ho,ak H.blk ho (fun f=>f),H.cls.aF ho⟩
theorem CW(H:Xk w gt gb f c bt bb G Bs D S cv cls):Calls Tryz.prog 44 #[.pointer (some ⟨f,0,none⟩)] w fun e w'=>e= .returned (.pointer (some ⟨c,0,none⟩))/\w'=w:=by have q0:w.cell? ⟨f,0,none⟩=some (.pointer (some ⟨c,0,none⟩)):=zAT;clear H;go_enter Tryz.func44,Tryz.ntmps44;exact zBd
theorem og:Calls Tryz.prog 44 #[.pointer none] w fun e w'=>e= .returned (.pointer none)/\w'=w:=by go_enter Tryz.func44,Tryz.ntmps44;exact zBd
theorem Y5:Calls Tryz.prog 90 #[.pointer none] w fun e w'=>e= .returned (.int .i64 0)/\w'=w:=by go_enter Tryz.func90,Tryz.ntmps90;exact zBd
theorem Y6(H:Xk w gt gb f c bt bb G Bs D S cv cls)(n:Nat)(hn:S.1.l.length=n):Calls Tryz.prog 33 #[.pointer (some ⟨f,0,none⟩)] w fun e w'=>e= .returned (.int .i64 (n:Int))/\w'=w:=by
 have HG:=zh (CW H);have HT:=zh (qc H.gr.gr);have HL:Hid (Calls Tryz.prog 90 #[.pointer (some ⟨bt,0,none⟩)] w fun e w'=>e= .returned (.int .i64 (n:Int))/\w'=w):=by obtain⟨V,hV⟩:=H.gr.gr.tab;rw[<-hn];exact QL hV
 clear H hn;go_enter Tryz.func33,Tryz.ntmps33;go_wp2_with fail;refine HG.out.mono ?_;rintro e w1 ⟨rfl,rfl⟩;go_wp2_with fail;refine HT.out.mono ?_;rintro e w2 ⟨rfl,rfl⟩;go_wp2_with fail;refine HL.out.mono ?_;rintro e w3 ⟨rfl,rfl⟩;exact zBd
theorem RY:Calls Tryz.prog 33 #[.pointer none] w fun e w'=>e= .returned (.int .i64 0)/\w'=w:=by go_enter Tryz.func33,Tryz.ntmps33;go_wp2_with fail;refine og.mono ?_;rintro e w1 ⟨rfl,rfl⟩;go_wp2_with fail;refine Jv.mono ?_;rintro e w2 ⟨rfl,rfl⟩;go_wp2_with fail;refine Y5.mono ?_;rintro e w3 ⟨rfl,rfl⟩;exact zBd
theorem Gm:Calls Tryz.prog 42 #[.pointer none] w fun e w'=>e= .returned bK/\w'=w:=by go_enter Tryz.func42,Tryz.ntmps42;go_wp2_with fail;refine og.mono ?_;rintro e w1 ⟨rfl,rfl⟩;go_wp2_with fail;refine VX.mono ?_;rintro e w2 ⟨rfl,rfl⟩;exact zBd
theorem Lm:Calls Tryz.prog 35 #[.pointer none] w fun e w'=>e= .returned bK/\w'=w:=by go_enter Tryz.func35,Tryz.ntmps35;exact zBd
theorem RZ{ao:Option Addr}{n cap:Nat}:Calls Tryz.prog 43 #[.pointer none,.slice ao n cap] w fun e w'=>e= .returned bK/\w'=w:=by
 go_enter Tryz.func43,Tryz.ntmps43;go_wp2_with fail;refine Gm.mono ?_;rintro e w1 ⟨rfl,rfl⟩;go_wp2_with fail;go_loopw [5,11] (fun v5 vi wr=>v5=bK/\vi= .int .i64 0/\wr=w1) (fun _ _ _=>0);case atStart=>exact⟨rfl,rfl,rfl⟩
 case round=>obtain⟨rfl,rfl,rfl⟩:=hrel;exact zBd
theorem Gn{p q r:Option Addr}(x:At)(n:Int)(hG:∀W,O0 w W->Calls Tryz.prog 44 #[.pointer p] W fun e w'=>e= .returned (.pointer q)/\w'=W)(hT:∀W,O0 w W->Calls Tryz.prog 66 #[.pointer q] W fun e w'=>e= .returned (.pointer r)/\w'=W)(hL:∀W,O0 w W->Calls Tryz.prog 67 #[.pointer r,fH x] W fun e w'=>e= .returned (.int .i64 n)/\O0 W w'):Calls Tryz.prog 41 #[.pointer p,fH x] w fun e w'=>e= .returned (.int .i64 n)/\O0 w w':=by
 obtain⟨W0,hW0⟩:=zB (w.alloc (.cells #[.int .u8 x.1,.int .i64 x.2.1,.int .i64 x.2.2.1,.int .i64 x.2.2.2] 89));have o0:O0 w W0:=by rw[hW0];exact zr.alloc _
 have HK:Hid (∀W,O0 W0 W->W.cell? ⟨w.heap.size,0,none⟩=some (.int .u8 x.1)/\W.cell? ⟨w.heap.size,1,none⟩=some (.int .i64 x.2.1)/\W.cell? ⟨w.heap.size,2,none⟩=some (.int .i64 x.2.2.1)/\W.cell? ⟨w.heap.size,3,none⟩=some (.int .i64 x.2.2.2)):=fun W ho=>by exact zB0
 have HG:Hid (∀W,O0 W0 W->Calls Tryz.prog 44 #[.pointer p] W fun e w'=>e= .returned (.pointer q)/\w'=W):=fun W hW=>hG W (o0.same hW);have HT:Hid (∀W,O0 W0 W->Calls Tryz.prog 66 #[.pointer q] W fun e w'=>e= .returned (.pointer r)/\w'=W):=fun W hW=>hT W (o0.same hW);have HL:Hid (∀W,O0 W0 W->Calls Tryz.prog 67 #[.pointer r,fH x] W fun e w'=>e= .returned (.int .i64 n)/\O0 w w'):=fun W hW=>(hL W (o0.same hW)).mono fun e w' ⟨he,ho⟩=>⟨he,(o0.same hW).same ho⟩;have hS0:=HK.out W0.drew (zr.drew);clear hG hT hL;unfold fH at*;clear o0;go_enter Tryz.func41,Tryz.ntmps41;go_wp2_with fail;rw[<-hW0];clear hW0;refine aT (n:=6) (E:=fun j=>j==4) (S:=(fun W:World=>W.cell? ⟨w.heap.size,0,none⟩=some (.int .u8 x.1)/\W.cell? ⟨w.heap.size,1,none⟩=some (.int .i64 x.2.1)/\W.cell? ⟨w.heap.size,2,none⟩=some (.int .i64 x.2.2.1)/\W.cell? ⟨w.heap.size,3,none⟩=some (.int .i64 x.2.2.2))) zk rfl hS0 (fun hHeld=>?_);refine tW 0 ?_;refine tK 3 ?_;refine tO 1 fun K hK=>?_;(go_simp;refine(HG.out _ zBA).mono ?_;rintro e w4 ⟨rfl,h4⟩;have o4:=h4;subst o4;try go_wp2_with fail);refine hK.out _ _ ?_ (fun hHeld=>?_);·exact zD7
 clear hK K;try simp only[Act.put,dL,dQ,dM,dN,dO,dP]
 refine tO 2 fun K hK=>?_;(go_simp;refine(HT.out _ zBA).mono ?_;rintro e w5 ⟨rfl,h5⟩;have o5:=h5;subst o5;try go_wp2_with fail);refine hK.out _ _ ?_ (fun hHeld=>?_);·exact zD7
 clear hK K;try simp only[Act.put,dL,dQ,dM,dN,dO,dP]
 refine eY (rs:=[4]) zk zAE ?_;refine bD.late (i:=4) rfl zk (fun K hK=>?_) ?_
 ·(go_simp;refine(HL.out _ zBA).mono ?_;rintro e w6 ⟨rfl,o6⟩;try go_wp2_with fail);refine hK.out _ _ ?_;clear hK K;try simp only[Act.put,dL,dQ,dM,dN,dO,dP]
  refine tW 5 ?_ (hS:=.inl zk);refine aS zk ?_ _;go_wp2_with fail;go_ret;exact⟨rfl,o6⟩
 exact bD.nil
theorem Pn(x:At):Calls Tryz.prog 41 #[.pointer none,fH x] w fun e w'=>e= .returned (.int .i64 0)/\O0 w w':=Gn x 0 (fun _ _=>og) (fun _ _=>Jv) (fun _ _=>Yv x)
theorem V8(H:Xk w gt gb f c bt bb G Bs D S cv cls){x:At}(hx:kC x)(n:Int)(hn:(numOf S.1.l x:Int)=n):Calls Tryz.prog 41 #[.pointer (some ⟨f,0,none⟩),fH x] w fun e w'=>e= .returned (.int .i64 n)/\O0 w w':=
 Gn x n (fun W hW=>CW (H.aF hW)) (fun W hW=>qc (H.gr.gr.aF hW)) (fun W hW=>by
  obtain⟨V,hV⟩:=(H.gr.gr.aF hW).tab
  exact nS hV hx n hn)
def Gp(n:Nat)(m:List Bool):Bool:=decide (0<n/\n<=m.length)&&m.getD (n-1) false
theorem aht{p:Option Addr}{v:Value}{m:List Bool}(hm:Bools w v m)(x:At)(n:Nat)(hn:n<=1000000)(hN:∀W,O0 w W->Calls Tryz.prog 41 #[.pointer p,fH x] W fun e w'=>e= .returned (.int .i64 (n:Int))/\O0 W w')(b:Bool)(hb:Gp n m=b):Calls Tryz.prog 91 #[.pointer p,v,fH x] w fun e w'=>e= .returned (.bool b)/\O0 w w':=by
 obtain⟨W0,hW0⟩:=ze (w.alloc (.cells #[.int .u8 x.1,.int .i64 x.2.1,.int .i64 x.2.2.1,.int .i64 x.2.2.2] 89));have o0:O0 w W0:=zAM;have b0:W0.heap[w.heap.size]? =some (.cells #[.int .u8 x.1,.int .i64 x.2.1,.int .i64 x.2.2.1,.int .i64 x.2.2.2] 89):=by rw[<-hW0];exact qL w _
 have k0:W0.cell? ⟨w.heap.size,0,none⟩=some (.int .u8 x.1):=zAf;have k1:W0.cell? ⟨w.heap.size,1,none⟩=some (.int .i64 x.2.1):=zAf;have k2:W0.cell? ⟨w.heap.size,2,none⟩=some (.int .i64 x.2.2.1):=zAf;have k3:W0.cell? ⟨w.heap.size,3,none⟩=some (.int .i64 x.2.2.2):=zAf;have iM:=zh o0;have HN:=zh (hN W0 o0);have HM:=zh (hm.aF o0);obtain⟨ao,cap,rfl,g1,g2⟩:=hm.shape;obtain⟨M,hM⟩:=ze m.length;have HMl:=zh hM;rw[hM]at HM g1⊢;clear hN hm o0 hM b0;unfold fH at*;go_enter Tryz.func91,Tryz.ntmps91;go_wp2_with fail;refine HN.out.mono ?_;rintro e w1 ⟨rfl,O1⟩;have bg:=zh (iM.out.same O1);have HM1:=zh (HM.out.aF O1);clear O1 k0 k1 k2 k3 HN HM iM;by_cases h1:0<n
 ·have d1:decide ((0:Int)<(n:Int))=true:=qX zBB;by_cases h2:n<=M
  ·have d2:decide ((n:Int)<=(M:Int))=true:=qX zBB;have d2':decide (n<=M)=true:=qX h2;obtain⟨bm,off,rfl,-,hcs⟩:=HM1.out.cells _ _ _ rfl (by rw[HMl.out];omega);have q:=hcs (n-1) (by rw[HMl.out];omega);have hbb:m.getD (n-1) false=b:=by rw[<-hb];unfold Gp;rw[qX ⟨h1,by rw[HMl.out];exact h2⟩];simp
   rw[hbb]at q;clear hcs hbb hb HM1;have ew:IntKind.i64.wrap ((n:Int)-1)=((n-1:Nat):Int):=by rw[qD];omega
   have e2:off+(n-1)<9223372036854775807->True:=fun _=>trivial;clear e2;cases b with
   |true=>exact zCa
   |false=>exact zCa
  have d2:decide ((n:Int)<=(M:Int))=false:=qP zBB;have d2':decide (n<=M)=false:=qP h2;obtain rfl:b=false:=by rw[<-hb];unfold Gp;rw[qP (by rw[HMl.out];omega)];rfl
  exact zCa
 have d1:decide ((0:Int)<(n:Int))=false:=qP zBB;obtain rfl:b=false:=by rw[<-hb];unfold Gp;rw[qP zBB];rfl
 exact zCa
theorem ahu(H:Xk w gt gb f c bt bb G Bs D S cv cls){v:Value}{m:List Bool}(hm:Bools w v m){x:At}(hx:kC x)(b:Bool)(hb:Gp (numOf S.1.l x) m=b):Calls Tryz.prog 91 #[.pointer (some ⟨f,0,none⟩),v,fH x] w fun e w'=>e= .returned (.bool b)/\O0 w w':=by refine aht hm x (numOf S.1.l x) ?_ (fun W hW=>V8 (H.aF hW) hx _ rfl) b hb;have h1:=Gh S.1.l x;have h2:S.1.Ok:=H.gr.ok;have h3:=h2.len;have h4:=h2.lim;omega
end
end Go.Proofs.YtdmmebjjojimiaaGreatDoor
namespace Go.Proofs
theorem zAP{p:Prop}(h:p:=by(intro w hSw;(try dsimp only at hSw);obtain⟨p0,p1,-⟩:=HS.out w (H3.out.only.same (hSw.mono fun _ f=>f.elim));go_simp<;>(try with_reducible rfl))):p:=h
end Go.Proofs
namespace Go.Proofs.YtdmmebjjojimiaaGreatDoor
open Go.RowKit
theorem oQ.cells2{B:Nat}{w:World}{cs:List Value}{x:uh}(h:oQ B w cs x):∃c1 c2,cs=c1++c2++[.int .i64 x.line]/\dh B w c1 x.cond/\dh B w c2 x.with':=by obtain⟨c1,c2,e,h1,h2,-⟩:=h;exact⟨c1,c2,e,h1,h2⟩
theorem ES.DL(E:ES)(x:aC)(l:List Nat)(r p:Nat)(c:uh){S1 S2:TB}{z wh:Int}(e1:E.1.num (eH r)=(S1,z))(e2:S1.meet x l p r 0 c.cond=(S2,wh)):E.conflict x l r p c=(if c.with'.name=ByteArray.empty then (S2.aV [-z,-wh],E.2)else if 0<=x.find c.with'.name/\(x.find c.with'.name).toNat∈l then ((S2.meet x l (x.find c.with'.name).toNat r 1 c.with').1.aV [-z,-wh,-(S2.meet x l (x.find c.with'.name).toNat r 1 c.with').2],E.2)else (S2,E.2)):=by unfold ES.conflict;dsimp only;rw[e1];dsimp only;rw[e2]
section
variable {w w':World} {gt gb gp:Tag} {X:G9} {Bs:Nat} {D:rU} {E:ES}
theorem aea(H:gI w gt gb gp X Bs D E)(f:Int)(hf:f= -1\/ ∃k:Nat,f=k)(r:Bool)(hr:decide (0<=f/\f.toNat∈D.l)=r):Calls Tryz.prog 230 #[.pointer (some ⟨X.c,0,none⟩),.int .i64 f] w fun e w'=>e= .returned (.bool r)/\aQ w gt gb gp X Bs D E w':=by
 have h:=Yx H.gx.gr H.gx.l f;have e:(intsOf D.l).contains f=r:=by
  rw[<-hr];rcases hf with rfl| ⟨k,rfl⟩
  ·rw[Bool.eq_iff_iff,List.contains_iff_mem,yP];unfold intsOf;rw[yD];constructor;·rintro⟨j,hj,e⟩;omega
   rintro⟨h1,-⟩;omega
  rw[xQ];exact decide_eq_decide.2 ⟨fun h=>⟨by omega,by rw[yT];exact h⟩,fun h=>by have:=h.2;rwa[yT]at this⟩
 rw[e]at h;exact h.mono fun e w' ⟨he,h⟩=>⟨he,(aQ.refl H).F5 h⟩
attribute [local irreducible] wpQuiet in
theorem Sl(H:gI w gt gb gp X Bs D E)(hG:EdG D){r p:Nat}(hr6:r<=1000000)(UE:p<=1000000){css:List Value}{d:uh}(hd:oQ Bs w css d)(hss:d.cond.sets.length<=900000/\d.with'.sets.length<=900000):Calls Tryz.prog 161 #[.pointer (some ⟨X.px,0,none⟩),.int .i64 r,.int .i64 p,.agg css.toArray] w fun e w'=>e= .returned (.tuple #[])/\aQ w gt gb gp X Bs D (E.conflict D.x D.l r p d) w':=by
 have HG:=zh hG;have hpk:=hG.mid.packs;obtain⟨cw,co,rfl,hwh,hon⟩:=hd.cells2;obtain⟨wZ,xg,xq,xu,rfl,-,-,-⟩:=hwh.cells;obtain⟨wW,ku,wX,wY,rfl,-,-,-⟩:=hon.cells;obtain⟨AO,e1⟩:=ze d.with'.spans.length;obtain⟨AQ,e2⟩:=ze d.with'.sets.length;obtain⟨AU,e3⟩:=ze d.cond.spans.length;obtain⟨AV,e4⟩:=ze d.cond.sets.length;rw[e1,e2]at hon;rw[e3,e4]at hwh;rw[e1,e2,e3,e4];clear e1 e2 e3 e4;obtain⟨W0,hW0⟩:=ze (w.alloc (.cells #[.string d.cond.name,.slice wZ AU xq,.slice xg AV xu,.string d.with'.name,.slice wW AO wX,.slice ku AQ wY,.int .i64 d.line] 160));have hb0:W0.heap[w.heap.size]? =some (.cells #[.string d.cond.name,.slice wZ AU xq,.slice xg AV xu,.string d.with'.name,.slice wW AO wX,.slice ku AQ wY,.int .i64 d.line] 160 (0,0)):=zAW;have iM:Hid (O0 w W0):=zAM;have hnm:=H.jD (qH w.heap.size);have H0:=zh (H.aF iM.out);have HS:Hid (∀W,Only (aX gt gb gp) W0 W->W.cell? ⟨X.px,0,none⟩=some (.pointer (some ⟨X.c,0,none⟩))/\W.cell? ⟨w.heap.size,3,none⟩=some (.string d.with'.name)/\W.rangeAt w.heap.size 3 [.string d.with'.name,.slice wW AO wX,.slice ku AQ wY]/\W.rangeAt w.heap.size 0 [.string d.cond.name,.slice wZ AU xq,.slice xg AV xu]):=fun W o=>by exact zBq
 have HOn:Hid (∀W,Only (aX gt gb gp) W0 W->dh Bs W [.string d.with'.name,.slice wW AO wX,.slice ku AQ wY] d.with'):=fun W o=>dh.Le (dh.keep hon (Kp.fU iM.out)) H0.out o;have HWh:Hid (∀W,Only (aX gt gb gp) W0 W->dh Bs W [.string d.cond.name,.slice wZ AU xq,.slice xg AV xu] d.cond):=fun W o=>dh.Le (dh.keep hwh (Kp.fU iM.out)) H0.out o;obtain⟨a1,c1,a2,c2,zi,Az⟩:=H0.out.IE;have uV:=zh (And.intro zi Az);obtain⟨n1,hn1⟩:=ze D.x.packs.length;obtain⟨n2,hn2⟩:=ze D.x.cO.length;rw[hn1]at hpk;rw[hn1,hn2]at uV;have He:=zh hn1;obtain⟨S2,hS2⟩:=ze ((E.1.num (eH r)).1);obtain⟨z,hz⟩:=ze ((E.1.num (eH r)).2);have hzb:0<=z/\z<=65536:=by rw[<-hz];exact TB.kN H.ok _
 obtain⟨S3,hS3⟩:=ze ((S2.meet D.x D.l p r 0 d.cond).1);obtain⟨wh,RS⟩:=ze ((S2.meet D.x D.l p r 0 d.cond).2);have aeb:=(ES.DL E D.x D.l r p d (show _=(S2,z) from by rw[<-hS2,<-hz]) (show _=(S3,wh) from by rw[<-hS3,<-RS]));have HZ:=zh (And.intro hS2 (And.intro hz (And.intro hS3 RS)));have hS0:=HS.out W0.drew (zr.drew);obtain⟨E9,AB⟩:=ze (E.conflict D.x D.l r p d);rw[AB];rw[AB]at aeb;have HCo:=zh aeb;clear hd hon hwh hb0 hnm zi Az hn1 hn2 hS2 hz hS3 RS H hG AB aeb;go_enter Tryz.func161,Tryz.ntmps161;go_wp2_with fail;try rw[hW0]
 clear hW0;have OX:Hid (∀W,O0 W0 W->Calls Tryz.prog 224 #[.pointer (some ⟨X.px,0,none⟩),.int .i64 r] W fun e w'=>e= .returned (.int .i64 z)/\aQ W0 gt gb gp X Bs D (S2,E.2) w'):=fun W o=>by rw[<-HZ.out.1];exact aQ.call (aQ.refl H0.out) o fun gt' gb' jC Hx _=>RG Hx (r:=r) ⟨by omega,by omega⟩ z HZ.out.2.1
 have V5:Hid (∀w2,aQ W0 gt gb gp X Bs D (S2,E.2) w2->∀W,O0 w2 W->Calls Tryz.prog 225 #[.pointer (some ⟨X.c,0,none⟩),.int .i64 p,.int .i64 r,.int .i64 0,.agg #[.string d.cond.name,.slice wZ AU xq,.slice xg AV xu]] W fun e w'=>e= .returned (.int .i64 wh)/\aQ W0 gt gb gp X Bs D (S3,E.2) w'):=fun w2 h2 W o=>by rw[<-HZ.out.2.2.1];exact aQ.call h2 o fun gt' gb' jC Hx Ox=>Gg Hx HG.out (p:=p) (rule:=r) (cc:=0) UE hr6 zBB (HWh.out W Ox) hss.1 wh HZ.out.2.2.2
 refine aT (n:=14) (E:=fun _=>false) (S:=fun W=>W.cell? ⟨X.px,0,none⟩=some (.pointer (some ⟨X.c,0,none⟩))/\W.cell? ⟨w.heap.size,3,none⟩=some (.string d.with'.name)/\W.rangeAt w.heap.size 3 [.string d.with'.name,.slice wW AO wX,.slice ku AQ wY]/\W.rangeAt w.heap.size 0 [.string d.cond.name,.slice wZ AU xq,.slice xg AV xu]) zk rfl hS0 (fun hHeld=>?_);refine tW 0 ?_;refine tW 1 ?_;refine tW 3 ?_;refine tW 4 ?_;refine tW 5 ?_;refine tK 6 ?_;refine tW 7 ?_;refine tW 8 ?_;refine tW 9 ?_;refine tK 10 ?_ (hy:=by(intro w hSw;(try dsimp only at hSw);refine Eq.trans (bV (ty:=108) (x:=.tmp 20) (cs:=[.string d.cond.name,.slice wZ AU xq,.slice xg AV xu]) rfl rfl hSw.2.2.2 Tryz.underlying108 rfl zk) ?_;with_reducible rfl));refine tO 2 fun K hK=>?_;(go_simp;refine(OX.out _ zBA).mono ?_;rintro e w2 ⟨rfl,h2⟩;have oR:Only (aX gt gb gp) W0 w2:=h2.only;try go_wp2_with fail);refine hK.out _ _ ?_ (fun hHeld=>?_);·(try dsimp only)<;>(exact HS.out _ oR)
 clear hK K;try simp only[Act.put,dL,dQ,dM,dN,dO,dP]
 refine tO 11 fun K hK=>?_;(go_simp;refine(V5.out w2 h2 _ zBA).mono ?_;rintro e w3 ⟨rfl,h3⟩;try go_wp2_with fail);refine hK.out _ _ ?_ (fun hHeld=>?_);·(try dsimp only)<;>(exact HS.out _ h3.only)
 clear hK K;try simp only[Act.put,dL,dQ,dM,dN,dO,dP]
 refine tW 12 ?_;refine tW 13 ?_;refine aS zk ?_ _;have H3:=zh h3;have hwb:0<=wh/\wh<=65536:=by have b2:=TB.Gi h2.Hf D.x D.l p r 0 d.cond;rw[HZ.out.2.2.2]at b2;exact b2
 clear h3 h2 oR OX V5 hS0 HZ;obtain⟨q0,q1,-⟩:=HS.out w3 H3.out.only;have ewz:=zw (-z);have eww:=zw (-wh);by_cases hnil:d.with'.name=ByteArray.empty
 ·rw[if_pos hnil]at HCo;have h9:=HCo.out;subst h9;have hd0:d.with'.name.toList=[]:=jT.2 hnil;have hd1:d.with'.name.toList.isEmpty=true:=by rw[hd0];rfl
  have lQ:Hid (Calls Tryz.prog 163 #[.pointer (some ⟨X.c,0,none⟩),.slice (some ⟨w3.heap.size,0,none⟩) 2 2] (w3.alloc (.cells #[.int .i64 (-z),.int .i64 (-wh)] 3)) fun e w'=>e= .returned (.tuple #[])/\aQ W0 gt gb gp X Bs D (S3.aV [-z,-wh],E.2) w'):=
   aQ.call H3.out (zr.alloc _) fun gt' gb' jC Hx _=>xR Hx (rC w3 (-z) (-wh) (bW hzb) (bW hwb)) zAE
  clear H3 hnil;go_wp2_with fail;refine lQ.out.mono ?_;rintro e w4 ⟨rfl,h4⟩;have H4:=zh (aQ.after iM.out h4);clear h4 lQ;go_wp2_with fail;((try simp only[Exit.inBlock,Exit.then]);refine bodyPost_ret (results_none rfl _ _ _) rfl ?_);exact⟨rfl,H4.out⟩
 rw[if_neg hnil]at HCo;have hd0:¬d.with'.name.toList=[]:=fun h=>hnil (jT.1 h);have hd1:d.with'.name.toList.isEmpty=false:=by cases hh:d.with'.name.toList with
  |nil=>exact absurd hh hd0
  |cons a b=>rfl
 obtain⟨f,hf⟩:=ze (D.x.find d.with'.name);have hfr:=AL D.x d.with'.name;have zo:Hid (∀W,O0 w3 W->Calls Tryz.prog 78 #[.pointer (some ⟨X.c,0,none⟩)] W fun e w'=>e= .returned (.agg #[.slice a1 n1 c1,.slice a2 n2 c2])/\O0 W w'):=fun W o=>by obtain⟨_,_,_,Hy,_⟩:=H3.out;exact iH (Hy.aF o).gx.gr uV.out.1 uV.out.2
 have HFd:Hid (∀W,O0 w3 W->Calls Tryz.prog 182 #[.agg #[.slice a1 n1 c1,.slice a2 n2 c2],.string d.with'.name] W fun e w'=>e= .returned (.int .i64 f)/\O0 W w'):=fun W o=>by obtain⟨_,_,_,Hy,_⟩:=H3.out;have h:=(Hy.aF o).gx.yZ;rw[uV.out.1,uV.out.2]at h;have h2:=lK h d.with'.name;rw[hf]at h2;exact h2
 rw[hf]at hfr HCo;rw[He.out]at hfr;clear hf hnil;go_wp2_with fail;refine rJ (fun W=>O0 w3 W) zk zk (by exact zr.drew) ?_;iterate 4 refine qV ?_ (hy:=zAP)
 refine nN (v:=.agg #[.slice a1 n1 c1,.slice a2 n2 c2]) (f:=78) (args:= #[.pointer (some ⟨X.c,0,none⟩)]) (by rfl) ?_ ?_ ?_;·exact zBj
 ·exact zDW
 try simp only[Act.put,dL,dQ,dM,dN,dO,dP]
 iterate 3 refine qV ?_ (hy:=zAP)
 refine nN (v:=.int .i64 f) (f:=182) (args:= #[.agg #[.slice a1 n1 c1,.slice a2 n2 c2],.string d.with'.name]) (by rfl) ?_ ?_ ?_;·exact zBj
 ·exact zDT
 try simp only[Act.put,dL,dQ,dM,dN,dO,dP]
 refine qV ?_ (hy:=zAP);refine wpQuiet_nil ?_;intro w6 O6;have H6:=zh (H3.out.F5 O6);clear O6 H3 zo HFd q0 q1;obtain⟨rh,hrh⟩:∃r,decide (0<=f/\f.toNat∈D.l)=r:=⟨_,rfl⟩;have OO:Hid (Calls Tryz.prog 230 #[.pointer (some ⟨X.c,0,none⟩),.int .i64 f] w6 fun e w'=>e= .returned (.bool rh)/\aQ W0 gt gb gp X Bs D (S3,E.2) w'):=
  aQ.call H6.out zr fun gt' gb' jC Hx _=>aea Hx f (hfr.imp id fun⟨k,h,_⟩=>⟨k,h⟩) rh hrh
 have HRh:=zh hrh;obtain⟨q0,-⟩:=HS.out w6 H6.out.only;clear hrh H6;go_wp2_with fail;refine OO.out.mono ?_;rintro e w7 ⟨rfl,h7⟩;have H7:=zh h7;clear h7 OO q0;cases rh with
 |false=>rw[if_neg (of_decide_eq_false HRh.out)]at HCo;have h9:=HCo.out;subst h9;have H8:=zh (aQ.after iM.out H7.out);clear H7;go_wp2_with fail;go_end0;exact⟨rfl,H8.out⟩
 |true=>
  have hfl:=of_decide_eq_true HRh.out;rw[if_pos hfl]at HCo;obtain⟨f',rfl,hf'⟩:∃k:Nat,f=k/\k<n1:=by
   rcases hfr with rfl|h;·exact absurd hfl.1 zAC
   exact h
  rw[yT]at HCo;obtain⟨zm,hzm⟩:=ze ((S3.meet D.x D.l f' r 1 d.with').2);obtain⟨S5,hS5⟩:=ze ((S3.meet D.x D.l f' r 1 d.with').1);have OY:0<=zm/\zm<=65536:=by rw[<-hzm];exact TB.Gi H7.out.Hf _ _ _ _ _ _
  have V5:Hid (∀W,O0 w7 W->Calls Tryz.prog 225 #[.pointer (some ⟨X.c,0,none⟩),.int .i64 f',.int .i64 r,.int .i64 1,.agg #[.string d.with'.name,.slice wW AO wX,.slice ku AQ wY]] W fun e w'=>e= .returned (.int .i64 zm)/\aQ W0 gt gb gp X Bs D (S5,E.2) w'):=fun W o=>by rw[<-hS5];exact aQ.call H7.out o fun gt' gb' jC Hx Ox=>Gg Hx HG.out (p:=f') (rule:=r) (cc:=1) zAB hr6 zBB (HOn.out W Ox) hss.2 zm hzm
  have lQ:Hid (∀w8 W,aQ W0 gt gb gp X Bs D (S5,E.2) w8->O0 w8 W->Ints W (.slice (some ⟨w8.heap.size,0,none⟩) 3 3) [-z,-wh,-zm]->Calls Tryz.prog 163 #[.pointer (some ⟨X.c,0,none⟩),.slice (some ⟨w8.heap.size,0,none⟩) 3 3] W fun e w'=>e= .returned (.tuple #[])/\aQ W0 gt gb gp X Bs D (S5.aV [-z,-wh,-zm],E.2) w'):=fun w8 W h8 o hI=>
   aQ.call h8 o fun gt' gb' jC Hx _=>xR Hx hI zAE
  rw[hzm,hS5]at HCo;have h9:=HCo.out;subst h9;have ewm:=zw (-zm);have hS0:=HS.out w7.drew (H7.out.only.drew);clear hzm hS5 hfl H7;go_wp2_with fail;refine aT (n:=20) (E:=fun _=>false) (S:=fun W=>W.cell? ⟨X.px,0,none⟩=some (.pointer (some ⟨X.c,0,none⟩))/\W.cell? ⟨w.heap.size,3,none⟩=some (.string d.with'.name)/\W.rangeAt w.heap.size 3 [.string d.with'.name,.slice wW AO wX,.slice ku AQ wY]/\W.rangeAt w.heap.size 0 [.string d.cond.name,.slice wZ AU xq,.slice xg AV xu]) zk rfl hS0 (fun hHeld=>?_);refine tW 0 ?_;refine tW 1 ?_;refine tW 2 ?_;refine tK 3 ?_;refine tW 4 ?_;refine tW 5 ?_;refine tW 6 ?_;refine tW 7 ?_;refine tW 8 ?_;refine tW 9 ?_;refine tW 10 ?_;refine tK 11 ?_;refine tW 12 ?_;refine tW 13 ?_;refine tW 14 ?_;refine tK 15 ?_ (hy:=by(intro w hSw;(try dsimp only at hSw);refine Eq.trans (bV (ty:=108) (x:=.tmp 66) (cs:=[.string d.with'.name,.slice wW AO wX,.slice ku AQ wY]) rfl rfl hSw.2.2.1 Tryz.underlying108 rfl zk) ?_;with_reducible rfl));refine tO 16 fun K hK=>?_;(go_simp;refine(V5.out _ zBA).mono ?_;rintro e w8 ⟨rfl,h8⟩;have oM:Only (aX gt gb gp) W0 w8:=h8.only;try go_wp2_with fail);refine hK.out _ _ ?_ (fun hHeld=>?_);·exact zCX
  clear hK K;try simp only[Act.put,dL,dQ,dM,dN,dO,dP]
  refine tW 17 ?_;refine tO 18 fun K hK=>?_;go_simp;refine hK.out _ _ ?_ (fun hHeld=>?_);·exact zCV
  clear hK K;try simp only[Act.put,dL,dQ,dM,dN,dO,dP]
  refine tO 19 fun K hK=>?_;(go_simp;refine(lQ.out w8 _ h8 zAA (by first|exact OZ _ _ _ _ (bW hzb) (bW hwb) (bW OY)|exact(OZ w8 _ _ _ (bW hzb) (bW hwb) (bW OY)).aF zBA)).mono ?_;rintro e w9 ⟨rfl,h9⟩;try go_wp2_with fail);refine hK.out _ _ ?_ (fun hHeld=>?_);·exact zCN
  clear hK K;try simp only[Act.put,dL,dQ,dM,dN,dO,dP]
  refine aS zk ?_ _;have H9:=zh (aQ.after iM.out h9);clear h9 h8 oM V5 lQ hS0;go_wp2_with fail;go_end0;exact⟨rfl,H9.out⟩
end
end Go.Proofs.YtdmmebjjojimiaaGreatDoor
