/- Package edge: depend. Printed by gen_edw7.py. -/
import Derived.Test.YtdmmebjjojimiaaGreatDoorG25
set_option maxRecDepth 100000
set_option maxHeartbeats 8000000
set_option linter.all false
namespace Go.Proofs
theorem zAZ{p:Prop}(h:p:=by(intro w hSw;(try dsimp only at hSw);obtain⟨p0,p1,-⟩:=HS.out w (H5.out.only.same (hSw.mono fun _ f=>f.elim));go_simp<;>(try with_reducible rfl))):p:=h
theorem zCU{p:Prop}(h:p:=by
 have hb:=aC hb0 o hnm
 refine⟨aY H0.out.cells.1 o H0.out.tp,by rw[aj hb];rfl,fun j u hu=>?_,fun j u hu=>?_⟩
 ·rw[aj hb]
  match j,hu with
  |0,hu=>exact hu
  |1,hu=>exact hu
  |2,hu=>exact hu
  |n+3,hu=>simp at hu
 ·rw[aj hb]
  match j,hu with
  |0,hu=>exact hu
  |1,hu=>exact hu
  |2,hu=>exact hu
  |n+3,hu=>simp at hu):p:=h
theorem zDB{p:Prop}(h:p:=by(try dsimp only)<;>(exact HS.out _ h9.only)):p:=h
theorem zDP{p:Prop}(h:p:=by(try dsimp only)<;>(exact HS.out _ zAG)):p:=h
theorem zDR{p:Prop}(h:p:=by(try dsimp only)<;>(exact HS.out _ oM)):p:=h
theorem zEf{p:Prop}(h:p:=by(intro w hSw;exact(HFd.out w hSw).mono fun _ _ ⟨he,hw⟩=>⟨he,hSw.same hw⟩)):p:=h
theorem zEi{p:Prop}(h:p:=by(intro w hSw;exact(Eo.out w hSw).mono fun _ _ ⟨he,hw⟩=>⟨he,hSw.same hw⟩)):p:=h
end Go.Proofs
namespace Go.Proofs.YtdmmebjjojimiaaGreatDoor
open Go.RowKit
def ES.Hz(E:ES)(p:Nat)(a:Int)(t:Nat):ES:=
 (((ES.goes ((E.1.num (aI t)).1,E.2) p t a).1.1.bG [-a,-(E.1.num (aI t)).2,(ES.goes ((E.1.num (aI t)).1,E.2) p t a).2]),(ES.goes ((E.1.num (aI t)).1,E.2) p t a).1.2)
def ES.dh(E:ES)(p:Nat)(a:Int)(l:List Nat):ES:=l.foldl (fun E t=>E.Hz p a t) E
theorem ES.XE(E:ES)(p:Nat)(a:Int)(l:List Nat)(t:Nat):E.dh p a (l++[t])=(E.dh p a l).Hz p a t:=by simp[ES.dh]
theorem ES.zi{E:ES}{N:Nat}(h:uS E.2 N)(p:Nat)(a:Int):∀(l:List Nat),uS (E.dh p a l).2 (N+l.length):=by
 intro l;induction l generalizing E N with
 |nil=>exact h
 |cons b r ih=>have:=ih (E:=E.Hz p a b) (h.QT (p,b) a);rw[qN,show N+(r.length+1)=N+1+r.length by omega];exact this
theorem ES.Pv(E:ES)(x:aF)(l:List Nat)(names:List Str)(r p k:Nat)(d:tJ){S1 S2 S3 S4:TB}{a z wh:Int}(e1:E.1.num (lX p k)=(S1,a))(e2:S1.num (fG r)=(S2,z))(e3:S2.meet x l p r 0 d.cond=(S3,wh))(e4:(if [a,z,wh].contains 0=true then S3 else (S3.1,S3.2.adds (nC a [z,wh])))=S4):E.depend x l names r p k d=(if 0<=x.find d.on.name then (((ES.goes ((S4.meet x l (x.find d.on.name).toNat r 1 d.on).1.bG [-a,(S4.meet x l (x.find d.on.name).toNat r 1 d.on).2],E.2) p (x.find d.on.name).toNat a).1.1.bG [-a,(ES.goes ((S4.meet x l (x.find d.on.name).toNat r 1 d.on).1.bG [-a,(S4.meet x l (x.find d.on.name).toNat r 1 d.on).2],E.2) p (x.find d.on.name).toNat a).2]),(ES.goes ((S4.meet x l (x.find d.on.name).toNat r 1 d.on).1.bG [-a,(S4.meet x l (x.find d.on.name).toNat r 1 d.on).2],E.2) p (x.find d.on.name).toNat a).1.2)else if bY names d.on.name<0 then (S4.bG [-a],E.2)else ES.dh ((S4.num (fU (bY names d.on.name).toNat)).1.bG [-a,(S4.num (fU (bY names d.on.name).toNat)).2],{E.2 with needs:=kZ E.2.needs (bY names d.on.name).toNat a}) p a (x.dh d.on.name)):=by unfold ES.depend;dsimp only;rw[e1];dsimp only;rw[e2];dsimp only;rw[e3];dsimp only;rw[e4];rfl
theorem zi(x:aF)(s:Str):(x.dh s).length<=x.packs.length/\∀t∈x.dh s,t<x.packs.length:=by exact zD8
section
variable {w w':World} {gt gb gp:Tag} {X:MW} {Bs:Nat} {D:xC} {E:ES}
theorem aiA(H:jl w gt gb gp X Bs D E){p:Nat}(hp:p<=1000000)(z:Int)(hz:(E.1.num (aI p)).2=z):
  Calls Tryz.prog 164 #[.pointer (some ⟨X.c,0,none⟩),.int .i64 p] w fun e w'=>e= .returned (.int .i64 z)/\bF w gt gb gp X Bs D ((E.1.num (aI p)).1,E.2) w':=
 (QH H.gx (p:=p) ⟨by omega,by omega⟩ z hz).mono fun e w' ⟨he,h⟩=>⟨he,H.step h⟩
theorem alJ(H:jl w gt gb gp X Bs D E){x:At}(hx:nK x)(z:Int)(hz:(E.1.num x).2=z):Calls Tryz.prog 75 #[.pointer (some ⟨X.c,0,none⟩),iY x] w fun e w'=>e= .returned (.int .i64 z)/\bF w gt gb gp X Bs D ((E.1.num x).1,E.2) w':=(DN H.gx hx z hz).mono fun e w' ⟨he,h⟩=>⟨he,H.step h⟩
theorem bF.call(h:bF w gt gb gp X Bs D E w'){w2:World}(o:O0 w' w2){E2:ES}{f:FuncId}{args:Array Value}{u:Value}(hc:∀gt' gb' lS,jl w2 gt' gb' lS X Bs D E->Only (bP gt gb gp) w w2->Calls Tryz.prog f args w2 fun e w3=>e= .returned u/\bF w2 gt' gb' lS X Bs D E2 w3):Calls Tryz.prog f args w2 fun e w3=>e= .returned u/\bF w gt gb gp X Bs D E2 w3:=by obtain⟨gt',gb',lS,H2,A1,A2,A3,O⟩:=h;exact(hc gt' gb' lS (H2.aH o) (O.same (o.mono fun _ f=>f.elim))).mono fun e w3 ⟨he,h⟩=>⟨he,bF.trans A1 A2 A3 O (bF.after o h)⟩
theorem bF.MZ(h:bF w gt gb gp X Bs D E w'):E.1.1.Ok:=by obtain⟨_,_,_,H,_⟩:=h;exact H.ok
theorem aat(H:jl w gt gb gp X Bs D E):Calls Tryz.prog 28 #[.pointer (some ⟨X.c,0,none⟩)] w fun e w'=>e= .returned (.pointer (some ⟨X.bb,0,none⟩))/\bF w gt gb gp X Bs D E w':=
 (sD H.gx.gr).mono fun e w' ⟨he,h⟩=>⟨he,by rw[h];exact bF.refl H⟩
theorem CO.new(H:jl w gt gb gp X Bs D E){o:Obj}{n cap:Nat}{xs:List Int}:CO gt gb (.slice (some ⟨w.heap.size,0,none⟩) n cap) xs:=fun _ k hk=>by
 simp[Value.blk]at hk
 subst hk
 have:=H.lT (qH w.heap.size)
 exact⟨fun h=>this (.inl (.inl h)),fun h=>this (.inl (.inr h))⟩
theorem alK(H:jl w gt gb gp X Bs D E){v:Value}{xs:List Int}(hI:Ints w v xs)(hN:CO gt gb v xs)(x:Int)(hx: -1000000<=x/\x<=1000000)(hs:∀z∈xs,-1000000<=z/\z<=1000000)(hl:xs.length<=1000000):Calls Tryz.prog 228 #[.pointer (some ⟨X.bb,0,none⟩),.int .i64 x,v] w fun e w'=>e= .returned (.tuple #[])/\bF w gt gb gp X Bs D ((E.1.1,E.1.2.adds (nC x xs)),E.2) w':=(agU H.gx hI hN x hx hs hl).mono fun e w' ⟨he,h⟩=>⟨he,H.step h⟩
theorem UL(w:World)(a b c:Int)(ha:bg a)(hb:bg b)(hc:bg c):Ints (w.alloc (.cells #[.int .i64 a,.int .i64 b,.int .i64 c] 3)) (.slice (some ⟨w.heap.size,0,none⟩) 3 3) [a,b,c]:=
 Ints.dV (by
  have:=World.ownsRow_lit (base:=0) (e:=3) (size:=1) w #[.int .i64 a,.int .i64 b,.int .i64 c] 3 (qE _) zBY zAF
  simpa using this) (fun z hz=>by
   simp only[qY,List.not_mem_nil,or_false]at hz
   rcases hz with rfl|rfl|rfl<;>assumption)
theorem nH.cells{B:Nat}{w:World}{cs:List Value}{x:tJ}(h:nH B w cs x):∃c1 c2,cs=c1++c2++[.int .i64 x.line]/\dB B w c1 x.on/\dB B w c2 x.cond:=by obtain⟨c1,c2,e,h1,h2,-⟩:=h;exact⟨c1,c2,e,h1,h2⟩
attribute [local irreducible] wpQuiet in
theorem adr(H:jl w gt gb gp X Bs D E)(hG:EdG D){r p k:Nat}(hr6:r<=1000000)(Y5:p<=1000000)(hk6:k<=1000000){css:List Value}{d:tJ}(hd:nH Bs w css d)(hss:d.on.sets.length<=900000/\d.cond.sets.length<=900000){N:Nat}(hP:uS E.2 N)(hN:N<=900000):Calls Tryz.prog 160 #[.pointer (some ⟨X.px,0,none⟩),.int .i64 r,.int .i64 p,.int .i64 k,.agg css.toArray] w fun e w'=>e= .returned (.tuple #[])/\bF w gt gb gp X Bs D (E.depend D.x D.l D.names r p k d) w':=by
 have HG:=zh hG;have hpk:=hG.mid.packs;obtain⟨co,cw,rfl,hon,hwh⟩:=hd.cells;obtain⟨CW,nJ,CX,CY,rfl,-,-,-⟩:=hon.cells;obtain⟨CZ,Dc,Df,Dh,rfl,-,-,-⟩:=hwh.cells;obtain⟨F9,e1⟩:=ze d.on.spans.length;obtain⟨Gf,e2⟩:=ze d.on.sets.length;obtain⟨Gg,e3⟩:=ze d.cond.spans.length;obtain⟨Gh,e4⟩:=ze d.cond.sets.length;rw[e1,e2]at hon;rw[e3,e4]at hwh;rw[e1,e2,e3,e4];clear e1 e2 e3 e4;obtain⟨W0,hW0⟩:=ze (w.alloc (.cells #[.string d.on.name,.slice CW F9 CX,.slice nJ Gf CY,.string d.cond.name,.slice CZ Gg Df,.slice Dc Gh Dh,.int .i64 d.line] 132));have hb0:W0.heap[w.heap.size]? =some (.cells #[.string d.on.name,.slice CW F9 CX,.slice nJ Gf CY,.string d.cond.name,.slice CZ Gg Df,.slice Dc Gh Dh,.int .i64 d.line] 132 (0,0)):=zAj;have iZ:Hid (O0 w W0):=zAc;have hnm:=H.lT (qH w.heap.size);have H0:=zh (H.aH iZ.out);have HS:Hid (∀W,Only (bP gt gb gp) W0 W->W.cell? ⟨X.px,0,none⟩=some (.pointer (some ⟨X.c,0,none⟩))/\W.cell? ⟨w.heap.size,0,none⟩=some (.string d.on.name)/\W.rangeAt w.heap.size 0 [.string d.on.name,.slice CW F9 CX,.slice nJ Gf CY]/\W.rangeAt w.heap.size 3 [.string d.cond.name,.slice CZ Gg Df,.slice Dc Gh Dh]):=fun W o=>by exact zCU
 have QW:Hid (∀W,Only (bP gt gb gp) W0 W->dB Bs W [.string d.on.name,.slice CW F9 CX,.slice nJ Gf CY] d.on):=fun W o=>dB.QU (dB.keep hon (Kp.gV iZ.out)) H0.out o;have HWh:Hid (∀W,Only (bP gt gb gp) W0 W->dB Bs W [.string d.cond.name,.slice CZ Gg Df,.slice Dc Gh Dh] d.cond):=fun W o=>dB.QU (dB.keep hwh (Kp.gV iZ.out)) H0.out o;obtain⟨a1,c1,a2,c2,En,F6⟩:=H0.out.NT;have Am:=zh (And.intro En F6);obtain⟨n1,hn1⟩:=ze D.x.packs.length;obtain⟨n2,hn2⟩:=ze D.x.cO.length;rw[hn1]at hpk;rw[hn1,hn2]at Am;have MX:=zh hn1; -- what is reckoned
 obtain⟨S1,hS1⟩:=ze ((E.1.num (lX p k)).1);obtain⟨a,ha⟩:=ze ((E.1.num (lX p k)).2);have hab:0<=a/\a<=65536:=by rw[<-ha];exact TB.nY H.ok _
 obtain⟨S2,hS2⟩:=ze ((S1.num (fG r)).1);obtain⟨z,hz⟩:=ze ((S1.num (fG r)).2);obtain⟨S3,hS3⟩:=ze ((S2.meet D.x D.l p r 0 d.cond).1);obtain⟨wh,XF⟩:=ze ((S2.meet D.x D.l p r 0 d.cond).2);obtain⟨S4,hS4⟩:∃S,(if [a,z,wh].contains 0=true then S3 else (S3.1,S3.2.adds (nC a [z,wh])))=S:=⟨_,rfl⟩;have ads:=(ES.Pv E D.x D.l D.names r p k d (show _=(S1,a) from by rw[<-hS1,<-ha]) (show _=(S2,z) from by rw[<-hS2,<-hz]) (show _=(S3,wh) from by rw[<-hS3,<-XF]) hS4);have alL:Hid (Calls Tryz.prog 75 #[.pointer (some ⟨X.c,0,none⟩),iY (lX p k)] W0 fun e w'=>e= .returned (.int .i64 a)/\bF W0 gt gb gp X Bs D (S1,E.2) w'):=by rw[<-hS1];exact alJ H0.out (alm ⟨by omega,by omega⟩ ⟨by omega,by omega⟩) a ha
 have HZ:=zh (And.intro hS2 (And.intro hz (And.intro hS3 (And.intro XF hS4))));obtain⟨q0,-⟩:=HS.out W0 zr;have Dt:=zh hP;obtain⟨E9,F7⟩:=ze (E.depend D.x D.l D.names r p k d);rw[F7];rw[F7]at ads;have zo:=zh ads;clear hd hon hwh hb0 hnm En F6 hn1 hn2 hS1 ha hS2 hz hS3 XF hS4 H hG hP F7 ads;go_enter Tryz.func160,Tryz.ntmps160;go_wp2_with fail;try rw[hW0]
 clear hW0;refine alL.out.mono ?_;rintro e w1 ⟨rfl,h1⟩;have H1:=zh h1;clear h1 alL q0;have hS0:=HS.out w1.drew (H1.out.only.drew);go_wp2_with fail;have UJ:Hid (∀W,O0 w1 W->Calls Tryz.prog 224 #[.pointer (some ⟨X.px,0,none⟩),.int .i64 r] W fun e w'=>e= .returned (.int .i64 z)/\bF W0 gt gb gp X Bs D (S2,E.2) w'):=fun W o=>by rw[<-HZ.out.1];exact bF.call H1.out o fun gt' gb' lS Hx _=>Xz Hx (r:=r) ⟨by omega,by omega⟩ z HZ.out.2.1
 have HMt:Hid (∀w2,bF W0 gt gb gp X Bs D (S2,E.2) w2->∀W,O0 w2 W->Calls Tryz.prog 225 #[.pointer (some ⟨X.c,0,none⟩),.int .i64 p,.int .i64 r,.int .i64 0,.agg #[.string d.cond.name,.slice CZ Gg Df,.slice Dc Gh Dh]] W fun e w'=>e= .returned (.int .i64 wh)/\bF W0 gt gb gp X Bs D (S3,E.2) w'):=fun w2 h2 W o=>by rw[<-HZ.out.2.2.1];exact bF.call h2 o fun gt' gb' lS Hx Ox=>LG Hx HG.out (p:=p) (rule:=r) (cc:=0) Y5 hr6 zAB (HWh.out W Ox) hss.2 wh HZ.out.2.2.2.1
 refine bC (n:=14) (E:=fun _=>false) (S:=fun W=>W.cell? ⟨X.px,0,none⟩=some (.pointer (some ⟨X.c,0,none⟩))/\W.cell? ⟨w.heap.size,0,none⟩=some (.string d.on.name)/\W.rangeAt w.heap.size 0 [.string d.on.name,.slice CW F9 CX,.slice nJ Gf CY]/\W.rangeAt w.heap.size 3 [.string d.cond.name,.slice CZ Gg Df,.slice Dc Gh Dh]) zk rfl hS0 (fun hHeld=>?_);refine tW 0 ?_;refine tW 1 ?_;refine tW 3 ?_;refine tW 4 ?_;refine tW 5 ?_;refine tK 6 ?_;refine tW 7 ?_;refine tW 8 ?_;refine tW 9 ?_;refine tK 10 ?_ (hy:=by(intro w hSw;(try dsimp only at hSw);refine Eq.trans (dJ (ty:=108) (x:=.tmp 35) (cs:=[.string d.cond.name,.slice CZ Gg Df,.slice Dc Gh Dh]) rfl rfl hSw.2.2.2 Tryz.underlying108 rfl zk) ?_;with_reducible rfl));refine tO 2 fun K hK=>?_;(go_simp;refine(UJ.out _ zAA).mono ?_;rintro e w2 ⟨rfl,h2⟩;have oR:Only (bP gt gb gp) W0 w2:=h2.only;try go_wp2_with fail);refine hK.out _ _ ?_ (fun hHeld=>?_);·(try dsimp only)<;>(exact HS.out _ oR)
 clear hK K;try simp only[Act.put,eF,fA,eG,dW,dX,dY]
 refine tO 11 fun K hK=>?_;(go_simp;refine(HMt.out w2 h2 _ zAA).mono ?_;rintro e w3 ⟨rfl,h3⟩;try go_wp2_with fail);refine hK.out _ _ ?_ (fun hHeld=>?_);·(try dsimp only)<;>(exact HS.out _ h3.only)
 clear hK K;try simp only[Act.put,eF,fA,eG,dW,dX,dY]
 refine tW 12 ?_;refine tW 13 ?_;refine bf zk ?_ _;have H3:=zh h3;have hz2:0<=z/\z<=65536/\0<=wh/\wh<=65536:=by have b1:=TB.nY H1.out.MZ (fG r);have b2:=TB.LJ h2.MZ D.x D.l p r 0 d.cond;rw[HZ.out.2.1]at b1;rw[HZ.out.2.2.2.1]at b2;exact⟨b1.1,b1.2,b2.1,b2.2⟩
 clear h3 h2 oR UJ HMt H1 hS0;obtain⟨r0,hr0⟩:=ze (![a,z,wh].contains 0);have Ci:Hid (Calls Tryz.prog 227 #[.slice (some ⟨w3.heap.size,0,none⟩) 3 3] (w3.alloc (.cells #[.int .i64 a,.int .i64 z,.int .i64 wh] 3)) fun e w'=>e= .returned (.bool r0)/\w'=(w3.alloc (.cells #[.int .i64 a,.int .i64 z,.int .i64 wh] 3))):=
  JG (UL w3 a z wh (gK hab) (gK ⟨hz2.1,hz2.2.1⟩) (gK ⟨hz2.2.2.1,hz2.2.2.2⟩)) r0 hr0
 have hS4:(if r0=true then (S3.1,S3.2.adds (nC a [z,wh]))else S3)=S4:=by rw[<-HZ.out.2.2.2.2,<-hr0];cases[a,z,wh].contains 0<;>simp
 have HS4:=zh hS4;obtain⟨w4,hw4⟩:=ze (w3.alloc (.cells #[.int .i64 a,.int .i64 z,.int .i64 wh] 3));have H4:Hid (bF W0 gt gb gp X Bs D (S3,E.2) w4):=by rw[<-hw4];exact H3.out.Lm (zr.alloc _)
 rw[hw4]at Ci;clear hr0 hS4 HZ;go_wp2_with fail;try rw[hw4]
 clear hw4 H3;refine Ci.out.mono ?_;rintro e w5 ⟨rfl,rfl⟩;clear Ci;go_upto_if 42 with fail;go_cut [] (fun wx=>bF W0 gt gb gp X Bs D (S4,E.2) wx);case first=>
  cases r0 with
  |false=>
   have h4:S3=S4:=by rw[<-HS4.out];simp
   subst h4
   go_wp2_with fail
   go_meet
   exact H4.out
  |true=>
   have h4:(S3.1,S3.2.adds (nC a [z,wh]))=S4:=by rw[<-HS4.out];simp
   have uM:Hid (Calls Tryz.prog 28 #[.pointer (some ⟨X.c,0,none⟩)] w5 fun e w'=>e= .returned (.pointer (some ⟨X.bb,0,none⟩))/\bF W0 gt gb gp X Bs D (S3,E.2) w'):=
    bF.call H4.out zr fun gt' gb' lS Hx _=>aat Hx
   obtain⟨q0,-⟩:=HS.out w5 H4.out.only
   clear H4
   go_wp2_with fail
   refine uM.out.mono ?_
   rintro e w6 ⟨rfl,h6⟩
   have Ls:Hid (Calls Tryz.prog 228 #[.pointer (some ⟨X.bb,0,none⟩),.int .i64 a,.slice (some ⟨w6.heap.size,0,none⟩) 2 2] (w6.alloc (.cells #[.int .i64 z,.int .i64 wh] 3)) fun e w'=>e= .returned (.tuple #[])/\bF W0 gt gb gp X Bs D (S4,E.2) w'):=by
    rw[<-h4]
    obtain⟨gt',gb',lS,Hy,A1,A2,A3,O⟩:=h6
    refine(alK (Hy.aH (zr.alloc _)) (wR w6 z wh (gK ⟨hz2.1,hz2.2.1⟩) (gK ⟨hz2.2.2.1,hz2.2.2.2⟩)) (fun hp k hk=>?_) a ⟨by omega,by omega⟩ (fun y hy=>by simp only[qY,List.not_mem_nil,or_false]at hy;rcases hy with rfl|rfl<;>omega) zAF).mono fun e w' ⟨he,h⟩=>⟨he,bF.trans A1 A2 A3 O (bF.after (zr.alloc _) h)⟩
    simp[Value.blk]at hk
    subst hk
    have:=Hy.lT (qH w6.heap.size)
    exact⟨fun h=>this (.inl (.inl h)),fun h=>this (.inl (.inr h))⟩
   clear h6 h4 uM q0
   go_wp2_with fail
   refine Ls.out.mono ?_
   rintro e w7 ⟨rfl,h7⟩
   have H7:=zh h7
   clear h7 Ls
   go_wp2_with fail
   go_meet
   exact H7.out
 case rest=>
  have H5:=zh hcut;clear hcut H4 HS4 hz2;obtain⟨f,hf⟩:=ze (D.x.find d.on.name);have hfr:=F8 D.x d.on.name;have Eo:Hid (∀W,O0 wc W->Calls Tryz.prog 78 #[.pointer (some ⟨X.c,0,none⟩)] W fun e w'=>e= .returned (.agg #[.slice a1 n1 c1,.slice a2 n2 c2])/\O0 W w'):=fun W o=>by obtain⟨_,_,_,Hy,_⟩:=H5.out;exact jQ (Hy.aH o).gx.gr Am.out.1 Am.out.2
  have HFd:Hid (∀W,O0 wc W->Calls Tryz.prog 182 #[.agg #[.slice a1 n1 c1,.slice a2 n2 c2],.string d.on.name] W fun e w'=>e= .returned (.int .i64 f)/\O0 W w'):=fun W o=>by obtain⟨_,_,_,Hy,_⟩:=H5.out;have h:=(Hy.aH o).gx.Ef;rw[Am.out.1,Am.out.2]at h;have h2:=qc h d.on.name;rw[hf]at h2;exact h2
  rw[hf]at hfr zo;rw[MX.out]at hfr;clear hf;go_wp2_with fail;refine fO (fun W=>O0 wc W) zk zk (by exact zr.drew) ?_;iterate 4 refine qV ?_ (hy:=zAZ)
  refine gY (v:=.agg #[.slice a1 n1 c1,.slice a2 n2 c2]) (f:=78) (args:= #[.pointer (some ⟨X.c,0,none⟩)]) (by rfl) ?_ ?_ ?_;·exact zB9
  ·exact zEi
  try simp only[Act.put,eF,fA,eG,dW,dX,dY]
  iterate 3 refine qV ?_ (hy:=zAZ)
  refine gY (v:=.int .i64 f) (f:=182) (args:= #[.agg #[.slice a1 n1 c1,.slice a2 n2 c2],.string d.on.name]) (by rfl) ?_ ?_ ?_;·exact zB9
  ·exact zEf
  try simp only[Act.put,eF,fA,eG,dW,dX,dY]
  refine qV ?_ (hy:=zAZ);refine wpQuiet_nil ?_;intro w6 O6;have H6:=zh (H5.out.Lm O6);clear O6 H5 Eo HFd;rcases hfr with rfl| ⟨f',rfl,hf'⟩
  ·rw[if_neg zAB]at zo;obtain⟨zn,hzn⟩:=ze (ES.Pj (S4,E.2) D.names d.on.name);obtain⟨j,hj⟩:=ze (bY D.names d.on.name);have hjr:=Em D.names d.on.name;have HNT:Hid (ES.Lp (S4,E.2) D.names d.on.name=if j<0 then S4 else (S4.num (fU j.toNat)).1):=by unfold ES.Lp;rw[hj];exact rfl
   have HZn:Hid ((if j<0 then (0:Int)else (S4.num (fU j.toNat)).2)=zn):=by rw[<-hzn];unfold ES.Pj;rw[hj];exact rfl
   have EF:Hid (Calls Tryz.prog 226 #[.pointer (some ⟨X.px,0,none⟩),.string d.on.name] w6 fun e w'=>e= .returned (.tuple #[.int .i64 zn,.int .i64 j])/\bF W0 gt gb gp X Bs D ((if j<0 then S4 else (S4.num (fU j.toNat)).1),E.2) w'):=by rw[<-HNT.out];exact bF.call H6.out zr fun gt' gb' lS Hx _=>ac5 Hx HG.out.nl d.on.name j zn hj hzn
   rw[hj]at hjr zo;have alM:=H6.out.MZ;obtain⟨q0,q1,-⟩:=HS.out w6 H6.out.only;clear hzn hj HNT H6;go_wp2_with fail;refine EF.out.mono ?_;rintro e w8 ⟨rfl,h8⟩;have H8:=zh h8;clear h8 EF q0 q1;obtain⟨q0,-⟩:=HS.out w8 H8.out.only;have ewz:=zw (-a);rcases hjr with rfl| ⟨j',rfl,hj'⟩
   ·rw[if_pos zAB]at H8 zo;have h9:=zo.out;subst h9;have qj:Hid (Calls Tryz.prog 163 #[.pointer (some ⟨X.c,0,none⟩),.slice (some ⟨w8.heap.size,0,none⟩) 1 1] (w8.alloc (.cells #[.int .i64 (-a)] 3)) fun e w'=>e= .returned (.tuple #[])/\bF W0 gt gb gp X Bs D (S4.bG [-a],E.2) w'):=
     bF.call H8.out (zr.alloc _) fun gt' gb' lS Hx _=>DT Hx (adn w8 (-a) (dL hab)) zAF
    clear H8;go_wp2_with fail;refine qj.out.mono ?_;rintro e w9 ⟨rfl,h9⟩;have H9:=zh (bF.after iZ.out h9);clear h9 qj;exact zCo
   rw[if_neg zAB,yT]at H8 HZn zo;have aiy:0<=zn/\zn<=65536:=by rw[<-HZn.out];exact TB.nY alM _
   rw[HZn.out]at zo;obtain⟨S5,hS5⟩:=ze ((S4.num (fU j')).1);rw[hS5]at H8 zo;have qj:Hid (Calls Tryz.prog 163 #[.pointer (some ⟨X.c,0,none⟩),.slice (some ⟨w8.heap.size,0,none⟩) 2 2] (w8.alloc (.cells #[.int .i64 (-a),.int .i64 zn] 3)) fun e w'=>e= .returned (.tuple #[])/\bF W0 gt gb gp X Bs D (S5.bG [-a,zn],E.2) w'):=
    bF.call H8.out (zr.alloc _) fun gt' gb' lS Hx _=>DT Hx (wR w8 (-a) zn (dL hab) (gK aiy)) zAF
   obtain⟨S6,hS6⟩:=ze (S5.bG [-a,zn]);rw[hS6]at qj zo;clear H8 hS5 HZn hS6;go_wp2_with fail;refine qj.out.mono ?_;rintro e w9 ⟨rfl,h9⟩;have H9:=zh h9;clear h9 qj q0 ewz;obtain⟨vS,vT,uD,H4,A4,B4,C4,O4⟩:=H9.out;obtain⟨b,cap,v,hsv,hrow,hSS,hpu⟩:=H4.vP (n:=j') hj' (z:=a) (gK hab);have hrl:=Dt.out.nr j';obtain⟨xs,hxs⟩:=ze (E.2.needs.getD j' []);rw[show(S6,E.2).2.needs.getD j' []=xs from hxs]at hrow hpu;rw[hxs]at hrl;obtain⟨ao,adq,rfl,-,-⟩:=hrow.shape;obtain⟨n,hn⟩:=ze xs.length;simp only[qM]at hrow hSS;rw[hn]at hrow hrl hSS;obtain⟨nn,hnn⟩:=ze D.names.length;rw[hnn]at hsv hj';rw[hsv]at hSS;have aiz:nn<=1000000:=by rw[<-hnn];exact HG.out.nl
   have GK:Hid (∀W,Only (fun k=>uD k=(2,j'+1)) w9 W->W.cell? ⟨X.px,3,none⟩=some (.slice (some ⟨b,0,none⟩) nn cap)/\W.cell? ⟨b,j',none⟩=some (.slice ao n adq)/\W.frozen? ⟨b,j',none⟩=false):=hSS;have wM:=zh hrow;have HPu:Hid (∀wA w5 v',O0 w9 wA->Only (fun k=>uD k=(2,j'+1)) wA w5->Row w5 (Tag.put uD wA.heap.size w5.heap.size (2,j'+1)) (2,j'+1) 3 v' (xs.map cI++[cI a])->bF W0 gt gb gp X Bs D (S6,{E.2 with needs:=kZ E.2.needs j' a}) (w5.setCell ⟨b,j',none⟩ v')):=fun wA w5 v' o1 o2 hr=>bF.trans A4 B4 C4 O4 (hpu wA w5 v' o1 o2 hr);have HN:=zh hn;have hS0:=GK.out w9.drew (zr.drew);clear hrow hSS hpu hxs hn H4 A4 B4 C4 O4 hsv hnn H9;go_wp2_with fail;refine bC (n:=17) (E:=fun j=>j==16) (S:=fun W=>W.cell? ⟨X.px,3,none⟩=some (.slice (some ⟨b,0,none⟩) nn cap)/\W.cell? ⟨b,j',none⟩=some (.slice ao n adq)/\W.frozen? ⟨b,j',none⟩=false) zk rfl hS0 (fun hHeld=>?_);refine tW 0 ?_;refine tW 1 ?_;refine tW 2 ?_;refine tK 3 ?_;refine tW 4 ?_;refine tW 5 ?_;refine tW 6 ?_;refine tW 7 ?_;refine tK 8 ?_;refine tW 9 ?_;refine tW 10 ?_;refine tK 11 ?_;refine tW 12 ?_;refine tO 13 fun K hK=>?_;go_simp;refine hK.out _ _ ?_ (fun hHeld=>?_);·exact zC6
   clear hK K;try simp only[Act.put,eF,fA,eG,dW,dX,dY]
   refine tO 14 fun K hK=>?_;(refine Row.step (u:=.int .i64 a) lY (by rfl) (.tmp 132) (.tmp 134) (by rfl) zBv (by rfl) zBo rfl zBX zBz zAD ?_;intro bb5 cap5 w10 TG Jy);refine hK.out _ _ ?_ (fun hHeld=>?_);·exact zDi
   clear hK K;try simp only[Act.put,eF,fA,eG,dW,dX,dY]
   refine tW 15 ?_;refine fF (rs:=[16]) zk zAF ?_;refine bQ.late (i:=16) rfl zk (fun K hK=>?_) ?_
   ·(obtain⟨s1,s2,s3⟩:=hHeld;go_simp);refine hK.out _ _ ?_;clear hK K;try simp only[Act.put,eF,fA,eG,dW,dX,dY]
    refine bf zk ?_ _;have H10:Hid (bF W0 gt gb gp X Bs D (S6,{E.2 with needs:=kZ E.2.needs j' a}) (w10.setCell ⟨b,j',none⟩ (.slice (some ⟨bb5,0,none⟩) (List.length (xs.map cI)+1) cap5))):=HPu.out _ w10 _ zAA Jy TG;simp only[qM]at H10;obtain⟨V4,aiB⟩:=ze (w10.setCell ⟨b,j',none⟩ (.slice (some ⟨bb5,0,none⟩) (xs.length+1) cap5));rw[aiB]at H10;try simp only[qM]
    rw[aiB];clear TG Jy HPu wM GK hS0;obtain⟨P1,hP1⟩:∃P,({E.2 with needs:=kZ E.2.needs j' a}:dO)=P:=⟨_,rfl⟩;have apb:Hid (uS P1 900001):=by rw[<-hP1];exact(Dt.out.vP j' a).mono zAB
    rw[hP1]at H10 zo;obtain⟨pv,hpv⟩:=ze (D.x.dh d.on.name);have hpl:=zi D.x d.on.name;have Eo:Hid (∀W,O0 V4 W->Calls Tryz.prog 78 #[.pointer (some ⟨X.c,0,none⟩)] W fun e w'=>e= .returned (.agg #[.slice a1 n1 c1,.slice a2 n2 c2])/\O0 W w'):=fun W o=>by obtain⟨_,_,_,Hy,_⟩:=H10.out;exact jQ (Hy.aH o).gx.gr Am.out.1 Am.out.2
    have Jm:Hid (∀W,O0 V4 W->Calls Tryz.prog 165 #[.agg #[.slice a1 n1 c1,.slice a2 n2 c2],.string d.on.name] W fun e w'=> ∃v,e= .returned v/\w'.ownsRow 0 3 1 v (D.x.dh d.on.name).length (gW (D.x.dh d.on.name))/\(∀k,v.ownBlock=some k->W.heap.size<=k)/\O0 W w'):=fun W o=>by obtain⟨_,_,_,Hy,_⟩:=H10.out;have h:=(Hy.aH o).gx.Ef;rw[Am.out.1,Am.out.2]at h;exact nO h (by rw[MX.out];omega) d.on.name
    rw[hpv]at Jm hpl zo;have h9:=zo.out;subst h9;obtain⟨nt,hnt⟩:=ze pv.length;rw[hnt]at Jm hpl;rw[MX.out]at hpl;have HTl:=zh hpl.2;have alC:=hpl.1;have Xe:=zh hnt;have hS0:=HS.out V4.drew (H10.out.only.drew);clear hpv hpl hnt hP1 aiB;go_wp2_with fail;refine bC (n:=11) (E:=fun _=>false) (S:=fun W=>W.cell? ⟨X.px,0,none⟩=some (.pointer (some ⟨X.c,0,none⟩))/\W.cell? ⟨w.heap.size,0,none⟩=some (.string d.on.name)/\W.rangeAt w.heap.size 0 [.string d.on.name,.slice CW F9 CX,.slice nJ Gf CY]/\W.rangeAt w.heap.size 3 [.string d.cond.name,.slice CZ Gg Df,.slice Dc Gh Dh]) zk rfl hS0 (fun hHeld=>?_);refine tW 0 ?_;refine tW 1 ?_;refine tW 2 ?_;refine tK 3 ?_;refine tW 5 ?_;refine tW 6 ?_;refine tK 7 ?_;refine tW 10 ?_;refine tO 4 fun K hK=>?_;(go_simp;refine(Eo.out _ zBT).mono ?_;rintro e w12 ⟨rfl,o2⟩;have oA:O0 V4 w12:=Only.same zAA o2;try go_wp2_with fail);refine hK.out _ _ ?_ (fun hHeld=>?_);·(try dsimp only)<;>(exact HS.out _ (H10.out.only.same (oA.mono fun _ f=>f.elim)))
    clear hK K;try simp only[Act.put,eF,fA,eG,dW,dX,dY]
    refine tO 8 fun K hK=>?_;(go_simp;refine(Jm.out _ zBW).mono ?_;rintro e SC ⟨vt,rfl,r3,b3,o3⟩;have oB:O0 V4 SC:=Only.same zAE o3;obtain⟨at3,ct3,rfl,kt3,-⟩:=aJ r3;try go_wp2_with fail);refine hK.out _ _ ?_ (fun hHeld=>?_);·(try dsimp only)<;>(exact HS.out _ (H10.out.only.same (oB.mono fun _ f=>f.elim)))
    clear hK K;try simp only[Act.put,eF,fA,eG,dW,dX,dY]
    refine tW 9 ?_;refine bf zk ?_ _;have Yy:Hid (SC.ownsRow 0 3 1 (.slice at3 nt ct3) nt (gW pv)):=r3;obtain⟨I7,I8,LM,aiC,A5,B5,C5,O5a⟩:=H10.out;have H13:=zh (aiC.aH oB);have O5:Only (bP gt gb gp) W0 SC:=O5a.same (oB.mono fun _ f=>f.elim);have Cm:Hid (∀k,(Value.slice at3 nt ct3).ownBlock=some k->¬bP I7 I8 LM k):=fun k hk hm=>by have h1:=b3 k hk;have h2:V4.heap.size<=k:=qR (qR oA.size (by first|exact qH _| (simp[World.drew,World.drewN]))) h1;exact aiC.lT h2 hm
    have D9:Hid (∀E2 W,bF SC I7 I8 LM X Bs D E2 W->bF w gt gb gp X Bs D E2 W):=fun E2 W h=>bF.after iZ.out (bF.trans A5 B5 C5 O5 h);have adt:Hid (∀W,Only (bP I7 I8 LM) SC W->W.cell? ⟨X.px,0,none⟩=some (.pointer (some ⟨X.c,0,none⟩))/\W.cell? ⟨w.heap.size,0,none⟩=some (.string d.on.name)/\W.rangeAt w.heap.size 0 [.string d.on.name,.slice CW F9 CX,.slice nJ Gf CY]/\W.rangeAt w.heap.size 3 [.string d.cond.name,.slice CZ Gg Df,.slice Dc Gh Dh]):=fun W o=>HS.out W (O5.y9 A5 B5 C5 o);have DU:Hid (bF SC I7 I8 LM X Bs D (ES.dh (S6,P1) p a (pv.take 0)) SC):=bF.refl H13.out;clear r3 b3 o3 o2 oB oA aiC A5 B5 C5 O5 O5a Eo Jm H10 hS0;go_wp2_with fail;go_loopw [147] (fun vi wr=> ∃i:Nat,vi= .int .i64 i/\i<=nt/\Hid (bF SC I7 I8 LM X Bs D (ES.dh (S6,P1) p a (pv.take i)) wr)) (fun v _=>nt-(RowKit.intOf v).toNat);case atStart=>exact⟨0,rfl,qE _,DU⟩
    case round=>
     clear DU;obtain⟨i,rfl,hi,HR⟩:=hrel;by_cases ci:i<nt
     ·obtain⟨t,ht⟩:=zG pv i (by rw[Xe.out];exact ci);have hcell:wr.cell? ⟨(match at3 with|some a=>a.block|none=>0),i,none⟩=some (.int .i64 t)/\∃b,at3=some ⟨b,0,none⟩:=by have hrow:=aG Yy.out HR.out.only Cm.out;exact zC2
      obtain⟨hcell,bt3,rfl⟩:=hcell;have iG:=zw (i+1);have htb:t<=1000:=by have:=HTl.out t (qT ht);omega
      obtain⟨E5,hE5⟩:=ze (ES.dh (S6,P1) p a (pv.take i));have alN:uS E5.2 910000:=by rw[<-hE5];exact(ES.zi (E:=(S6,P1)) apb.out p a (pv.take i)).mono zAp
      have kN:Hid (ES.dh (S6,P1) p a (pv.take (i+1))=E5.Hz p a t):=by show _=_;rw[List.take_add_one,ht];simp only[Option.toList_some];rw[ES.XE,hE5]
      rw[hE5]at HR;obtain⟨zd,hzd⟩:=ze ((E5.1.num (aI t)).2);obtain⟨S7,hS7⟩:=ze ((E5.1.num (aI t)).1);have alO:0<=zd/\zd<=65536:=by rw[<-hzd];exact TB.nY HR.out.MZ _
      have Cj:Hid (∀W,O0 wr W->Calls Tryz.prog 164 #[.pointer (some ⟨X.c,0,none⟩),.int .i64 t] W fun e w'=>e= .returned (.int .i64 zd)/\bF SC I7 I8 LM X Bs D (S7,E5.2) w'):=fun W o=>by rw[<-hS7];exact bF.call HR.out o fun gt' gb' lS Hx _=>aiA Hx (p:=t) zAB zd hzd
      obtain⟨zg,hzg⟩:=ze ((ES.goes (S7,E5.2) p t a).2);obtain⟨E8,hE8⟩:=ze ((ES.goes (S7,E5.2) p t a).1);have HGo:Hid (∀w9,bF SC I7 I8 LM X Bs D (S7,E5.2) w9->∀W,O0 w9 W->Calls Tryz.prog 229 #[.pointer (some ⟨X.px,0,none⟩),.int .i64 p,.int .i64 t,.int .i64 a] W fun e w'=>e= .returned (.int .i64 zg)/\bF SC I7 I8 LM X Bs D E8 w'):=fun w9 h9 W o=>by rw[<-hE8];exact bF.call h9 o fun gt' gb' lS Hx _=>adk Hx Y5 zBU (gK hab) alN zAB zg hzg
      have HZg:Hid (∀w9,bF SC I7 I8 LM X Bs D (S7,E5.2) w9->0<=zg/\zg<=65536):=fun w9 h9=>by rw[<-hzg];exact TB.nY h9.MZ _
      have qj:Hid (∀w8 W,bF SC I7 I8 LM X Bs D E8 w8->O0 w8 W->Ints W (.slice (some ⟨w8.heap.size,0,none⟩) 3 3) [-a,-zd,zg]->Calls Tryz.prog 163 #[.pointer (some ⟨X.c,0,none⟩),.slice (some ⟨w8.heap.size,0,none⟩) 3 3] W fun e w'=>e= .returned (.tuple #[])/\bF SC I7 I8 LM X Bs D (ES.dh (S6,P1) p a (pv.take (i+1))) w'):=fun w8 W h8 o hI=>by
       rw[kN.out];have e:E5.Hz p a t=(E8.1.bG [-a,-zd,zg],E8.2):=by unfold ES.Hz;rw[hzd,hS7,hzg,hE8]
       rw[e];exact bF.call h8 o fun gt' gb' lS Hx _=>DT Hx hI zAF
      have ewa:=zw (-a);have ewd:=zw (-zd);have hS0:=adt.out wr.drew (HR.out.only.drew);have JH:=zh iG;clear ht hE5 alN hzd hS7 hzg hE8 iG kN;go_wp2_with fail;refine bC (n:=20) (E:=fun _=>false) (S:=fun W=>W.cell? ⟨X.px,0,none⟩=some (.pointer (some ⟨X.c,0,none⟩))/\W.cell? ⟨w.heap.size,0,none⟩=some (.string d.on.name)/\W.rangeAt w.heap.size 0 [.string d.on.name,.slice CW F9 CX,.slice nJ Gf CY]/\W.rangeAt w.heap.size 3 [.string d.cond.name,.slice CZ Gg Df,.slice Dc Gh Dh]) zk rfl hS0 (fun hHeld=>?_);refine tW 0 ?_;refine tW 1 ?_;refine tW 2 ?_;refine tK 3 ?_;refine tW 4 ?_;refine tW 5 ?_;refine tW 6 ?_;refine tW 7 ?_;refine tW 8 ?_;refine tK 9 ?_;refine tW 10 ?_;refine tW 13 ?_;refine tW 14 ?_;refine tW 15 ?_;refine tW 16 ?_;refine tO 11 fun K hK=>?_;(go_simp;refine(Cj.out _ zAA).mono ?_;rintro e w14 ⟨rfl,h14⟩;have oM:Only (bP I7 I8 LM) SC w14:=h14.only;try go_wp2_with fail);refine hK.out _ _ ?_ (fun hHeld=>?_);·(try dsimp only)<;>(exact adt.out _ oM)
      clear hK K;try simp only[Act.put,eF,fA,eG,dW,dX,dY]
      refine tW 12 ?_;refine tO 17 fun K hK=>?_;(go_simp;refine(HGo.out w14 h14 _ zAA).mono ?_;rintro e Px ⟨rfl,h15⟩;have UM:=HZg.out w14 h14;have oG:Only (bP I7 I8 LM) SC Px:=h15.only;try go_wp2_with fail);refine hK.out _ _ ?_ (fun hHeld=>?_);·(try dsimp only)<;>(exact adt.out _ oG)
      clear hK K;try simp only[Act.put,eF,fA,eG,dW,dX,dY]
      refine tO 18 fun K hK=>?_;go_simp;refine hK.out _ _ ?_ (fun hHeld=>?_);·(try dsimp only)<;>(exact adt.out _ (by repeat (first|exact Only.refl _ _|exact oG|apply Only.drew|apply Only.alloc|apply Only.drewN)))
      clear hK K;try simp only[Act.put,eF,fA,eG,dW,dX,dY]
      refine tO 19 fun K hK=>?_;(go_simp;refine(qj.out Px _ h15 zBT (by first|exact UL _ _ _ _ (dL hab) (dL alO) (gK UM)|exact(UL Px _ _ _ (dL hab) (dL alO) (gK UM)).aH zAA)).mono ?_;rintro e w16 ⟨rfl,h16⟩;try go_wp2_with fail);refine hK.out _ _ ?_ (fun hHeld=>?_);·(try dsimp only)<;>(exact adt.out _ h16.only)
      clear hK K;try simp only[Act.put,eF,fA,eG,dW,dX,dY]
      refine bf zk ?_ _;have H16:=zh h16;have iG:=JH.out;clear h16 h15 h14 oM oG Cj HGo qj HZg HR hS0 ewa ewd;go_wp2_with fail;go_roundw;case rel=>exact⟨i+1,by first|rfl|go_num,by omega,H16⟩
      case measure=>simp[RowKit.intOf]<;>omega
     obtain rfl:nt=i:=by omega
     have HF:=HR.out;rw[qI (yG Xe.out)]at HF;have HF2:=zh (D9.out _ _ HF);clear HF HR;go_wp2_with fail;go_end0;exact⟨rfl,HF2.out⟩
   exact bQ.nil
  rw[if_pos zAB,yT]at zo;obtain⟨zm,hzm⟩:=ze ((S4.meet D.x D.l f' r 1 d.on).2);obtain⟨S5,hS5⟩:=ze ((S4.meet D.x D.l f' r 1 d.on).1);have UK:0<=zm/\zm<=65536:=by rw[<-hzm];exact TB.LJ H6.out.MZ _ _ _ _ _ _
  have HMt:Hid (∀W,O0 w6 W->Calls Tryz.prog 225 #[.pointer (some ⟨X.c,0,none⟩),.int .i64 f',.int .i64 r,.int .i64 1,.agg #[.string d.on.name,.slice CW F9 CX,.slice nJ Gf CY]] W fun e w'=>e= .returned (.int .i64 zm)/\bF W0 gt gb gp X Bs D (S5,E.2) w'):=fun W o=>by rw[<-hS5];exact bF.call H6.out o fun gt' gb' lS Hx Ox=>LG Hx HG.out (p:=f') (rule:=r) (cc:=1) zBU hr6 zAB (QW.out W Ox) hss.1 zm hzm
  obtain⟨S6,hS6⟩:=ze (S5.bG [-a,zm]);have qj:Hid (∀w8 W,bF W0 gt gb gp X Bs D (S5,E.2) w8->O0 w8 W->Ints W (.slice (some ⟨w8.heap.size,0,none⟩) 2 2) [-a,zm]->Calls Tryz.prog 163 #[.pointer (some ⟨X.c,0,none⟩),.slice (some ⟨w8.heap.size,0,none⟩) 2 2] W fun e w'=>e= .returned (.tuple #[])/\bF W0 gt gb gp X Bs D (S6,E.2) w'):=fun w8 W h8 o hI=>by rw[<-hS6];exact bF.call h8 o fun gt' gb' lS Hx _=>DT Hx hI zAF
  rw[hzm,hS5,hS6]at zo;obtain⟨zg,hzg⟩:=ze ((ES.goes (S6,E.2) p f' a).2);obtain⟨E7,hE7⟩:=ze ((ES.goes (S6,E.2) p f' a).1);have HGo:Hid (∀w9,bF W0 gt gb gp X Bs D (S6,E.2) w9->∀W,O0 w9 W->Calls Tryz.prog 229 #[.pointer (some ⟨X.px,0,none⟩),.int .i64 p,.int .i64 f',.int .i64 a] W fun e w'=>e= .returned (.int .i64 zg)/\bF W0 gt gb gp X Bs D E7 w'):=fun w9 h9 W o=>by rw[<-hE7];exact bF.call h9 o fun gt' gb' lS Hx _=>adk Hx Y5 zBU (gK hab) Dt.out zAB zg hzg
  have UM:∀w9,bF W0 gt gb gp X Bs D (S6,E.2) w9->0<=zg/\zg<=65536:=fun w9 h9=>by rw[<-hzg];exact TB.nY h9.MZ _
  have HZg:=zh UM;have ape:Hid (∀w8 W,bF W0 gt gb gp X Bs D E7 w8->O0 w8 W->Ints W (.slice (some ⟨w8.heap.size,0,none⟩) 2 2) [-a,zg]->Calls Tryz.prog 163 #[.pointer (some ⟨X.c,0,none⟩),.slice (some ⟨w8.heap.size,0,none⟩) 2 2] W fun e w'=>e= .returned (.tuple #[])/\bF W0 gt gb gp X Bs D (E7.1.bG [-a,zg],E7.2) w'):=fun w8 W h8 o hI=>
   bF.call h8 o fun gt' gb' lS Hx _=>DT Hx hI zAF
  rw[hzg,hE7]at zo;have h9:=zo.out;subst h9;have ewz:=zw (-a);have hS0:=HS.out w6.drew (H6.out.only.drew);have oN:=H6.out.only;clear hzm hS5 hS6 hzg hE7 UM H6 oN;go_wp2_with fail;refine bC (n:=17) (E:=fun _=>false) (S:=fun W=>W.cell? ⟨X.px,0,none⟩=some (.pointer (some ⟨X.c,0,none⟩))/\W.cell? ⟨w.heap.size,0,none⟩=some (.string d.on.name)/\W.rangeAt w.heap.size 0 [.string d.on.name,.slice CW F9 CX,.slice nJ Gf CY]/\W.rangeAt w.heap.size 3 [.string d.cond.name,.slice CZ Gg Df,.slice Dc Gh Dh]) zk rfl hS0 (fun hHeld=>?_);refine tW 0 ?_;refine tW 1 ?_;refine tW 2 ?_;refine tK 3 ?_;refine tW 4 ?_;refine tW 5 ?_;refine tW 6 ?_;refine tW 7 ?_;refine tW 8 ?_;refine tK 9 ?_;refine tW 10 ?_;refine tW 11 ?_;refine tW 12 ?_;refine tK 13 ?_ (hy:=by(intro w hSw;(try dsimp only at hSw);refine Eq.trans (dJ (ty:=108) (x:=.tmp 76) (cs:=[.string d.on.name,.slice CW F9 CX,.slice nJ Gf CY]) rfl rfl hSw.2.2.1 Tryz.underlying108 rfl zk) ?_;with_reducible rfl));refine tO 14 fun K hK=>?_;(go_simp;refine(HMt.out _ zAA).mono ?_;rintro e w8 ⟨rfl,h8⟩;have oM:Only (bP gt gb gp) W0 w8:=h8.only;try go_wp2_with fail);refine hK.out _ _ ?_ (fun hHeld=>?_);·exact zDR
  clear hK K;try simp only[Act.put,eF,fA,eG,dW,dX,dY]
  refine tO 15 fun K hK=>?_;go_simp;refine hK.out _ _ ?_ (fun hHeld=>?_);·exact zDP
  clear hK K;try simp only[Act.put,eF,fA,eG,dW,dX,dY]
  refine tO 16 fun K hK=>?_;(go_simp;refine(qj.out w8 _ h8 zBT (by first|exact wR _ _ _ (dL hab) (gK UK)|exact(wR w8 _ _ (dL hab) (gK UK)).aH zAA)).mono ?_;rintro e w9 ⟨rfl,h9⟩;try go_wp2_with fail);refine hK.out _ _ ?_ (fun hHeld=>?_);·exact zDB
  clear hK K;try simp only[Act.put,eF,fA,eG,dW,dX,dY]
  refine bf zk ?_ _;have H9:=zh h9;clear h9 h8 oM HMt qj hS0;have hS0:=HS.out w9.drew (H9.out.only.drew);have UM:=HZg.out w9 H9.out;clear HZg;go_wp2_with fail;refine bC (n:=13) (E:=fun _=>false) (S:=fun W=>W.cell? ⟨X.px,0,none⟩=some (.pointer (some ⟨X.c,0,none⟩))/\W.cell? ⟨w.heap.size,0,none⟩=some (.string d.on.name)/\W.rangeAt w.heap.size 0 [.string d.on.name,.slice CW F9 CX,.slice nJ Gf CY]/\W.rangeAt w.heap.size 3 [.string d.cond.name,.slice CZ Gg Df,.slice Dc Gh Dh]) zk rfl hS0 (fun hHeld=>?_);refine tW 0 ?_;refine tW 1 ?_;refine tW 2 ?_;refine tK 3 ?_;refine tW 4 ?_;refine tW 5 ?_;refine tW 6 ?_;refine tW 7 ?_;refine tW 8 ?_;refine tW 9 ?_;refine tO 10 fun K hK=>?_;(go_simp;refine(HGo.out w9 H9.out _ zAA).mono ?_;rintro e w10 ⟨rfl,h10⟩;have oM:Only (bP gt gb gp) W0 w10:=h10.only;try go_wp2_with fail);refine hK.out _ _ ?_ (fun hHeld=>?_);·exact zDR
  clear hK K;try simp only[Act.put,eF,fA,eG,dW,dX,dY]
  refine tO 11 fun K hK=>?_;go_simp;refine hK.out _ _ ?_ (fun hHeld=>?_);·exact zDP
  clear hK K;try simp only[Act.put,eF,fA,eG,dW,dX,dY]
  refine tO 12 fun K hK=>?_;(go_simp;refine(ape.out w10 _ h10 zBT (by first|exact wR _ _ _ (dL hab) (gK UM)|exact(wR w10 _ _ (dL hab) (gK UM)).aH zAA)).mono ?_;rintro e V4 ⟨rfl,h11⟩;try go_wp2_with fail);refine hK.out _ _ ?_ (fun hHeld=>?_);·(try dsimp only)<;>(exact HS.out _ h11.only)
  clear hK K;try simp only[Act.put,eF,fA,eG,dW,dX,dY]
  refine bf zk ?_ _;have H11:=zh (bF.after iZ.out h11);clear h11 h10 oM;go_wp2_with fail;((try simp only[Exit.inBlock,Exit.then]);refine bodyPost_ret (results_none rfl _ _ _) rfl ?_);exact⟨rfl,H11.out⟩
end
end Go.Proofs.YtdmmebjjojimiaaGreatDoor
