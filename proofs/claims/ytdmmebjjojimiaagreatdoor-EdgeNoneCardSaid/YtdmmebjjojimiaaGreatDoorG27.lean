/- Package edge: depend. Printed by gen_edw7.py. -/
import Derived.Test.YtdmmebjjojimiaaGreatDoorG26
set_option maxRecDepth 100000
set_option maxHeartbeats 8000000
set_option linter.all false
namespace Go.Proofs
theorem zAm{p:Prop}(h:p:=by(intro w hSw;(try dsimp only at hSw);obtain⟨p0,p1,-⟩:=HS.out w (H5.out.only.same (hSw.mono fun _ f=>f.elim));go_simp<;>(try with_reducible rfl))):p:=h
theorem zCc{p:Prop}(h:p:=by
 have hb:=aF hb0 o hnm
 refine⟨dh H0.out.cells.1 o H0.out.tp,by rw[ah hb];rfl,fun j u hu=>?_,fun j u hu=>?_⟩
 ·rw[ah hb]
  match j,hu with
  |0,hu=>exact hu
  |1,hu=>exact hu
  |2,hu=>exact hu
  |n+3,hu=>simp at hu
 ·rw[ah hb]
  match j,hu with
  |0,hu=>exact hu
  |1,hu=>exact hu
  |2,hu=>exact hu
  |n+3,hu=>simp at hu):p:=h
theorem zDo{p:Prop}(h:p:=by(try dsimp only)<;>(exact HS.out _ zAP)):p:=h
theorem zDr{p:Prop}(h:p:=by(try dsimp only)<;>(exact HS.out _ oM)):p:=h
theorem zEa{p:Prop}(h:p:=by(intro w hSw;exact(HFd.out w hSw).mono fun _ _ ⟨he,hw⟩=>⟨he,hSw.same hw⟩)):p:=h
theorem zEd{p:Prop}(h:p:=by(intro w hSw;exact(FV.out w hSw).mono fun _ _ ⟨he,hw⟩=>⟨he,hSw.same hw⟩)):p:=h
theorem zEh{p:Prop}(h:p:=by(try dsimp only)<;>(exact HS.out _ h9.only)):p:=h
end Go.Proofs
namespace Go.Proofs.YtdmmebjjojimiaaGreatDoor
open Go.RowKit
def ES.Jg(E:ES)(p:Nat)(a:Int)(t:Nat):ES:=
 (((ES.goes ((E.1.num (aJ t)).1,E.2) p t a).1.1.dD [-a,-(E.1.num (aJ t)).2,(ES.goes ((E.1.num (aJ t)).1,E.2) p t a).2]),(ES.goes ((E.1.num (aJ t)).1,E.2) p t a).1.2)
def ES.eG(E:ES)(p:Nat)(a:Int)(l:List Nat):ES:=l.foldl (fun E t=>E.Jg p a t) E
theorem ES.XQ(E:ES)(p:Nat)(a:Int)(l:List Nat)(t:Nat):E.eG p a (l++[t])=(E.eG p a l).Jg p a t:=by simp[ES.eG]
theorem ES.Aa{E:ES}{N:Nat}(h:vK E.2 N)(p:Nat)(a:Int):∀(l:List Nat),vK (E.eG p a l).2 (N+l.length):=by
 intro l;induction l generalizing E N with
 |nil=>exact h
 |cons b r ih=>have:=ih (E:=E.Jg p a b) (h.Si (p,b) a);rw[qN,show N+(r.length+1)=N+1+r.length by omega];exact this
theorem ES.Qs(E:ES)(x:aH)(l:List Nat)(names:List Str)(r p k:Nat)(d:uY){S1 S2 S3 S4:TB}{a z wh:Int}(e1:E.1.num (lW p k)=(S1,a))(e2:S1.num (iK r)=(S2,z))(e3:S2.meet x l p r 0 d.cond=(S3,wh))(e4:(if [a,z,wh].contains 0=true then S3 else (S3.1,S3.2.adds (pz a [z,wh])))=S4):E.depend x l names r p k d=(if 0<=x.find d.on.name then (((ES.goes ((S4.meet x l (x.find d.on.name).toNat r 1 d.on).1.dD [-a,(S4.meet x l (x.find d.on.name).toNat r 1 d.on).2],E.2) p (x.find d.on.name).toNat a).1.1.dD [-a,(ES.goes ((S4.meet x l (x.find d.on.name).toNat r 1 d.on).1.dD [-a,(S4.meet x l (x.find d.on.name).toNat r 1 d.on).2],E.2) p (x.find d.on.name).toNat a).2]),(ES.goes ((S4.meet x l (x.find d.on.name).toNat r 1 d.on).1.dD [-a,(S4.meet x l (x.find d.on.name).toNat r 1 d.on).2],E.2) p (x.find d.on.name).toNat a).1.2)else if eH names d.on.name<0 then (S4.dD [-a],E.2)else ES.eG ((S4.num (iJ (eH names d.on.name).toNat)).1.dD [-a,(S4.num (iJ (eH names d.on.name).toNat)).2],{E.2 with needs:=nU E.2.needs (eH names d.on.name).toNat a}) p a (x.eG d.on.name)):=by unfold ES.depend;dsimp only;rw[e1];dsimp only;rw[e2];dsimp only;rw[e3];dsimp only;rw[e4];rfl
theorem Aa(x:aH)(s:Str):(x.eG s).length<=x.packs.length/\∀t∈x.eG s,t<x.packs.length:=by exact zDz
section
variable {w w':World} {gt gb gp:Tag} {X:NV} {Bs:Nat} {D:Dn} {E:ES}
theorem aiE(H:jW w gt gb gp X Bs D E){p:Nat}(hp:p<=1000000)(z:Int)(hz:(E.1.num (aJ p)).2=z):
  Calls Tryz.prog 164 #[.pointer (some ⟨X.c,0,none⟩),.int .i64 p] w fun e w'=>e= .returned (.int .i64 z)/\bV w gt gb gp X Bs D ((E.1.num (aJ p)).1,E.2) w':=
 (RV H.gx (p:=p) ⟨by omega,by omega⟩ z hz).mono fun e w' ⟨he,h⟩=>⟨he,H.step h⟩
theorem alY(H:jW w gt gb gp X Bs D E){x:At}(hx:sD x)(z:Int)(hz:(E.1.num x).2=z):Calls Tryz.prog 75 #[.pointer (some ⟨X.c,0,none⟩),jS x] w fun e w'=>e= .returned (.int .i64 z)/\bV w gt gb gp X Bs D ((E.1.num x).1,E.2) w':=(Hr H.gx hx z hz).mono fun e w' ⟨he,h⟩=>⟨he,H.step h⟩
theorem bV.call(h:bV w gt gb gp X Bs D E w'){w2:World}(o:O0 w' w2){E2:ES}{f:FuncId}{args:Array Value}{u:Value}(hc:∀gt' gb' nM,jW w2 gt' gb' nM X Bs D E->Only (dF gt gb gp) w w2->Calls Tryz.prog f args w2 fun e w3=>e= .returned u/\bV w2 gt' gb' nM X Bs D E2 w3):Calls Tryz.prog f args w2 fun e w3=>e= .returned u/\bV w gt gb gp X Bs D E2 w3:=by obtain⟨gt',gb',nM,H2,A1,A2,A3,O⟩:=h;exact(hc gt' gb' nM (H2.aN o) (O.same (o.mono fun _ f=>f.elim))).mono fun e w3 ⟨he,h⟩=>⟨he,bV.trans A1 A2 A3 O (bV.after o h)⟩
theorem bV.XR(h:bV w gt gb gp X Bs D E w'):E.1.1.Ok:=by obtain⟨_,_,_,H,_⟩:=h;exact H.ok
theorem aau(H:jW w gt gb gp X Bs D E):Calls Tryz.prog 28 #[.pointer (some ⟨X.c,0,none⟩)] w fun e w'=>e= .returned (.pointer (some ⟨X.bb,0,none⟩))/\bV w gt gb gp X Bs D E w':=
 (pW H.gx.gr).mono fun e w' ⟨he,h⟩=>⟨he,by rw[h];exact bV.refl H⟩
theorem D6.new(H:jW w gt gb gp X Bs D E){o:Obj}{n cap:Nat}{xs:List Int}:D6 gt gb (.slice (some ⟨w.heap.size,0,none⟩) n cap) xs:=fun _ k hk=>by
 simp[Value.blk]at hk
 subst hk
 have:=H.nN (qH w.heap.size)
 exact⟨fun h=>this (.inl (.inl h)),fun h=>this (.inl (.inr h))⟩
theorem alZ(H:jW w gt gb gp X Bs D E){v:Value}{xs:List Int}(hI:Ints w v xs)(hN:D6 gt gb v xs)(x:Int)(hx: -1000000<=x/\x<=1000000)(hs:∀z∈xs,-1000000<=z/\z<=1000000)(hl:xs.length<=1000000):Calls Tryz.prog 228 #[.pointer (some ⟨X.bb,0,none⟩),.int .i64 x,v] w fun e w'=>e= .returned (.tuple #[])/\bV w gt gb gp X Bs D ((E.1.1,E.1.2.adds (pz x xs)),E.2) w':=(agD H.gx hI hN x hx hs hl).mono fun e w' ⟨he,h⟩=>⟨he,H.step h⟩
theorem aav(w:World)(a b c:Int)(ha:bU a)(hb:bU b)(hc:bU c):Ints (w.alloc (.cells #[.int .i64 a,.int .i64 b,.int .i64 c] 3)) (.slice (some ⟨w.heap.size,0,none⟩) 3 3) [a,b,c]:=
 Ints.fH (by
  have:=World.ownsRow_lit (base:=0) (e:=3) (size:=1) w #[.int .i64 a,.int .i64 b,.int .i64 c] 3 (qE _) zAe zAM
  simpa using this) (fun z hz=>by
   simp only[qY,List.not_mem_nil,or_false]at hz
   rcases hz with rfl|rfl|rfl<;>assumption)
theorem nC.cells{B:Nat}{w:World}{cs:List Value}{x:uY}(h:nC B w cs x):∃c1 c2,cs=c1++c2++[.int .i64 x.line]/\eF B w c1 x.on/\eF B w c2 x.cond:=by obtain⟨c1,c2,e,h1,h2,-⟩:=h;exact⟨c1,c2,e,h1,h2⟩
attribute [local irreducible] wpQuiet in
theorem adG(H:jW w gt gb gp X Bs D E)(hG:EdG D){r p k:Nat}(hr6:r<=1000000)(hp6:p<=1000000)(hk6:k<=1000000){css:List Value}{d:uY}(hd:nC Bs w css d)(hss:d.on.sets.length<=900000/\d.cond.sets.length<=900000){N:Nat}(hP:vK E.2 N)(hN:N<=900000):Calls Tryz.prog 160 #[.pointer (some ⟨X.px,0,none⟩),.int .i64 r,.int .i64 p,.int .i64 k,.agg css.toArray] w fun e w'=>e= .returned (.tuple #[])/\bV w gt gb gp X Bs D (E.depend D.x D.l D.names r p k d) w':=by
 have HG:=zh hG;have hpk:=hG.mid.packs;obtain⟨co,cw,rfl,hon,hwh⟩:=hd.cells;obtain⟨Eb,oJ,Ec,Ed,rfl,-,-,-⟩:=hon.cells;obtain⟨Ee,Ef,Eh,Ej,rfl,-,-,-⟩:=hwh.cells;obtain⟨Hw,e1⟩:=ze d.on.spans.length;obtain⟨Hz,e2⟩:=ze d.on.sets.length;obtain⟨Ia,e3⟩:=ze d.cond.spans.length;obtain⟨Ib,e4⟩:=ze d.cond.sets.length;rw[e1,e2]at hon;rw[e3,e4]at hwh;rw[e1,e2,e3,e4];clear e1 e2 e3 e4;obtain⟨W0,hW0⟩:=ze (w.alloc (.cells #[.string d.on.name,.slice Eb Hw Ec,.slice oJ Hz Ed,.string d.cond.name,.slice Ee Ia Eh,.slice Ef Ib Ej,.int .i64 d.line] 132));have hb0:W0.heap[w.heap.size]? =some (.cells #[.string d.on.name,.slice Eb Hw Ec,.slice oJ Hz Ed,.string d.cond.name,.slice Ee Ia Eh,.slice Ef Ib Ej,.int .i64 d.line] 132 (0,0)):=zAt;have nJ:Hid (O0 w W0):=zAr;have hnm:=H.nN (qH w.heap.size);have H0:=zh (H.aN nJ.out);have HS:Hid (∀W,Only (dF gt gb gp) W0 W->W.cell? ⟨X.px,0,none⟩=some (.pointer (some ⟨X.c,0,none⟩))/\W.cell? ⟨w.heap.size,0,none⟩=some (.string d.on.name)/\W.rangeAt w.heap.size 0 [.string d.on.name,.slice Eb Hw Ec,.slice oJ Hz Ed]/\W.rangeAt w.heap.size 3 [.string d.cond.name,.slice Ee Ia Eh,.slice Ef Ib Ej]):=fun W o=>by exact zCc
 have Jv:Hid (∀W,Only (dF gt gb gp) W0 W->eF Bs W [.string d.on.name,.slice Eb Hw Ec,.slice oJ Hz Ed] d.on):=fun W o=>eF.Sj (eF.keep hon (Kp.iI nJ.out)) H0.out o;have HWh:Hid (∀W,Only (dF gt gb gp) W0 W->eF Bs W [.string d.cond.name,.slice Ee Ia Eh,.slice Ef Ib Ej] d.cond):=fun W o=>eF.Sj (eF.keep hwh (Kp.iI nJ.out)) H0.out o;obtain⟨a1,c1,a2,c2,JK,Kr⟩:=H0.out.OQ;have CX:=zh (And.intro JK Kr);obtain⟨n1,hn1⟩:=ze D.x.packs.length;obtain⟨n2,hn2⟩:=ze D.x.iH.length;rw[hn1]at hpk;rw[hn1,hn2]at CX;have XP:=zh hn1; -- what is reckoned
 obtain⟨S1,hS1⟩:=ze ((E.1.num (lW p k)).1);obtain⟨a,ha⟩:=ze ((E.1.num (lW p k)).2);have hab:0<=a/\a<=65536:=by rw[<-ha];exact TB.xG H.ok _
 obtain⟨S2,hS2⟩:=ze ((S1.num (iK r)).1);obtain⟨z,hz⟩:=ze ((S1.num (iK r)).2);obtain⟨S3,hS3⟩:=ze ((S2.meet D.x D.l p r 0 d.cond).1);obtain⟨wh,XT⟩:=ze ((S2.meet D.x D.l p r 0 d.cond).2);obtain⟨S4,hS4⟩:∃S,(if [a,z,wh].contains 0=true then S3 else (S3.1,S3.2.adds (pz a [z,wh])))=S:=⟨_,rfl⟩;have adH:=(ES.Qs E D.x D.l D.names r p k d (show _=(S1,a) from by rw[<-hS1,<-ha]) (show _=(S2,z) from by rw[<-hS2,<-hz]) (show _=(S3,wh) from by rw[<-hS3,<-XT]) hS4);have al0:Hid (Calls Tryz.prog 75 #[.pointer (some ⟨X.c,0,none⟩),jS (lW p k)] W0 fun e w'=>e= .returned (.int .i64 a)/\bV W0 gt gb gp X Bs D (S1,E.2) w'):=by rw[<-hS1];exact alY H0.out (alF ⟨by omega,by omega⟩ ⟨by omega,by omega⟩) a ha
 have HZ:=zh (And.intro hS2 (And.intro hz (And.intro hS3 (And.intro XT hS4))));obtain⟨q0,-⟩:=HS.out W0 zr;have D7:=zh hP;obtain⟨E9,Ht⟩:=ze (E.depend D.x D.l D.names r p k d);rw[Ht];rw[Ht]at adH;have Ac:=zh adH;clear hd hon hwh hb0 hnm JK Kr hn1 hn2 hS1 ha hS2 hz hS3 XT hS4 H hG hP Ht adH;go_enter Tryz.func160,Tryz.ntmps160;go_wp2_with fail;try rw[hW0]
 clear hW0;refine al0.out.mono ?_;rintro e w1 ⟨rfl,h1⟩;have H1:=zh h1;clear h1 al0 q0;have hS0:=HS.out w1.drew (H1.out.only.drew);go_wp2_with fail;have Vp:Hid (∀W,O0 w1 W->Calls Tryz.prog 224 #[.pointer (some ⟨X.px,0,none⟩),.int .i64 r] W fun e w'=>e= .returned (.int .i64 z)/\bV W0 gt gb gp X Bs D (S2,E.2) w'):=fun W o=>by rw[<-HZ.out.1];exact bV.call H1.out o fun gt' gb' nM Hx _=>XJ Hx (r:=r) ⟨by omega,by omega⟩ z HZ.out.2.1
 have HMt:Hid (∀w2,bV W0 gt gb gp X Bs D (S2,E.2) w2->∀W,O0 w2 W->Calls Tryz.prog 225 #[.pointer (some ⟨X.c,0,none⟩),.int .i64 p,.int .i64 r,.int .i64 0,.agg #[.string d.cond.name,.slice Ee Ia Eh,.slice Ef Ib Ej]] W fun e w'=>e= .returned (.int .i64 wh)/\bV W0 gt gb gp X Bs D (S3,E.2) w'):=fun w2 h2 W o=>by rw[<-HZ.out.2.2.1];exact bV.call h2 o fun gt' gb' nM Hx Ox=>Nj Hx HG.out (p:=p) (rule:=r) (cc:=0) hp6 hr6 zBk (HWh.out W Ox) hss.2 wh HZ.out.2.2.2.1
 refine bH (n:=14) (E:=fun _=>false) (S:=fun W=>W.cell? ⟨X.px,0,none⟩=some (.pointer (some ⟨X.c,0,none⟩))/\W.cell? ⟨w.heap.size,0,none⟩=some (.string d.on.name)/\W.rangeAt w.heap.size 0 [.string d.on.name,.slice Eb Hw Ec,.slice oJ Hz Ed]/\W.rangeAt w.heap.size 3 [.string d.cond.name,.slice Ee Ia Eh,.slice Ef Ib Ej]) zk rfl hS0 (fun hHeld=>?_);refine tW 0 ?_;refine tW 1 ?_;refine tW 3 ?_;refine tW 4 ?_;refine tW 5 ?_;refine tK 6 ?_;refine tW 7 ?_;refine tW 8 ?_;refine tW 9 ?_;refine tK 10 ?_ (hy:=by(intro w hSw;(try dsimp only at hSw);refine Eq.trans (iD (ty:=108) (x:=.tmp 35) (cs:=[.string d.cond.name,.slice Ee Ia Eh,.slice Ef Ib Ej]) rfl rfl hSw.2.2.2 Tryz.underlying108 rfl zk) ?_;with_reducible rfl));refine tO 2 fun K hK=>?_;(go_simp;refine(Vp.out _ zBj).mono ?_;rintro e w2 ⟨rfl,h2⟩;have oR:Only (dF gt gb gp) W0 w2:=h2.only;try go_wp2_with fail);refine hK.out _ _ ?_ (fun hHeld=>?_);·(try dsimp only)<;>(exact HS.out _ oR)
 clear hK K;try simp only[Act.put,gJ,gU,gK,gu,gy,gG]
 refine tO 11 fun K hK=>?_;(go_simp;refine(HMt.out w2 h2 _ zBj).mono ?_;rintro e w3 ⟨rfl,h3⟩;try go_wp2_with fail);refine hK.out _ _ ?_ (fun hHeld=>?_);·(try dsimp only)<;>(exact HS.out _ h3.only)
 clear hK K;try simp only[Act.put,gJ,gU,gK,gu,gy,gG]
 refine tW 12 ?_;refine tW 13 ?_;refine aZ zk ?_ _;have H3:=zh h3;have hz2:0<=z/\z<=65536/\0<=wh/\wh<=65536:=by have b1:=TB.xG H1.out.XR (iK r);have b2:=TB.Nk h2.XR D.x D.l p r 0 d.cond;rw[HZ.out.2.1]at b1;rw[HZ.out.2.2.2.1]at b2;exact⟨b1.1,b1.2,b2.1,b2.2⟩
 clear h3 h2 oR Vp HMt H1 hS0;obtain⟨r0,hr0⟩:=ze (![a,z,wh].contains 0);have HRi:Hid (Calls Tryz.prog 227 #[.slice (some ⟨w3.heap.size,0,none⟩) 3 3] (w3.alloc (.cells #[.int .i64 a,.int .i64 z,.int .i64 wh] 3)) fun e w'=>e= .returned (.bool r0)/\w'=(w3.alloc (.cells #[.int .i64 a,.int .i64 z,.int .i64 wh] 3))):=
  KC (aav w3 a z wh (jC hab) (jC ⟨hz2.1,hz2.2.1⟩) (jC ⟨hz2.2.2.1,hz2.2.2.2⟩)) r0 hr0
 have hS4:(if r0=true then (S3.1,S3.2.adds (pz a [z,wh]))else S3)=S4:=by rw[<-HZ.out.2.2.2.2,<-hr0];cases[a,z,wh].contains 0<;>simp
 have HS4:=zh hS4;obtain⟨w4,hw4⟩:=ze (w3.alloc (.cells #[.int .i64 a,.int .i64 z,.int .i64 wh] 3));have H4:Hid (bV W0 gt gb gp X Bs D (S3,E.2) w4):=by rw[<-hw4];exact H3.out.Qn (zr.alloc _)
 rw[hw4]at HRi;clear hr0 hS4 HZ;go_wp2_with fail;try rw[hw4]
 clear hw4 H3;refine HRi.out.mono ?_;rintro e w5 ⟨rfl,rfl⟩;clear HRi;go_upto_if 42 with fail;go_cut [] (fun wx=>bV W0 gt gb gp X Bs D (S4,E.2) wx);case first=>
  cases r0 with
  |false=>
   have h4:S3=S4:=by rw[<-HS4.out];simp
   subst h4
   go_wp2_with fail
   go_meet
   exact H4.out
  |true=>
   have h4:(S3.1,S3.2.adds (pz a [z,wh]))=S4:=by rw[<-HS4.out];simp
   have wR:Hid (Calls Tryz.prog 28 #[.pointer (some ⟨X.c,0,none⟩)] w5 fun e w'=>e= .returned (.pointer (some ⟨X.bb,0,none⟩))/\bV W0 gt gb gp X Bs D (S3,E.2) w'):=
    bV.call H4.out zr fun gt' gb' nM Hx _=>aau Hx
   obtain⟨q0,-⟩:=HS.out w5 H4.out.only
   clear H4
   go_wp2_with fail
   refine wR.out.mono ?_
   rintro e w6 ⟨rfl,h6⟩
   have OU:Hid (Calls Tryz.prog 228 #[.pointer (some ⟨X.bb,0,none⟩),.int .i64 a,.slice (some ⟨w6.heap.size,0,none⟩) 2 2] (w6.alloc (.cells #[.int .i64 z,.int .i64 wh] 3)) fun e w'=>e= .returned (.tuple #[])/\bV W0 gt gb gp X Bs D (S4,E.2) w'):=by
    rw[<-h4]
    obtain⟨gt',gb',nM,Hy,A1,A2,A3,O⟩:=h6
    refine(alZ (Hy.aN (zr.alloc _)) (BH w6 z wh (jC ⟨hz2.1,hz2.2.1⟩) (jC ⟨hz2.2.2.1,hz2.2.2.2⟩)) (fun hp k hk=>?_) a ⟨by omega,by omega⟩ (fun y hy=>by simp only[qY,List.not_mem_nil,or_false]at hy;rcases hy with rfl|rfl<;>omega) zAM).mono fun e w' ⟨he,h⟩=>⟨he,bV.trans A1 A2 A3 O (bV.after (zr.alloc _) h)⟩
    simp[Value.blk]at hk
    subst hk
    have:=Hy.nN (qH w6.heap.size)
    exact⟨fun h=>this (.inl (.inl h)),fun h=>this (.inl (.inr h))⟩
   clear h6 h4 wR q0
   go_wp2_with fail
   refine OU.out.mono ?_
   rintro e w7 ⟨rfl,h7⟩
   have H7:=zh h7
   clear h7 OU
   go_wp2_with fail
   go_meet
   exact H7.out
 case rest=>
  have H5:=zh hcut;clear hcut H4 HS4 hz2;obtain⟨f,hf⟩:=ze (D.x.find d.on.name);have hfr:=Hu D.x d.on.name;have FV:Hid (∀W,O0 wc W->Calls Tryz.prog 78 #[.pointer (some ⟨X.c,0,none⟩)] W fun e w'=>e= .returned (.agg #[.slice a1 n1 c1,.slice a2 n2 c2])/\O0 W w'):=fun W o=>by obtain⟨_,_,_,Hy,_⟩:=H5.out;exact mF (Hy.aN o).gx.gr CX.out.1 CX.out.2
  have HFd:Hid (∀W,O0 wc W->Calls Tryz.prog 182 #[.agg #[.slice a1 n1 c1,.slice a2 n2 c2],.string d.on.name] W fun e w'=>e= .returned (.int .i64 f)/\O0 W w'):=fun W o=>by obtain⟨_,_,_,Hy,_⟩:=H5.out;have h:=(Hy.aN o).gx.BI;rw[CX.out.1,CX.out.2]at h;have h2:=BO h d.on.name;rw[hf]at h2;exact h2
  rw[hf]at hfr Ac;rw[XP.out]at hfr;clear hf;go_wp2_with fail;refine eY (fun W=>O0 wc W) zk zk (by exact zr.drew) ?_;iterate 4 refine qV ?_ (hy:=zAm)
  refine kR (v:=.agg #[.slice a1 n1 c1,.slice a2 n2 c2]) (f:=78) (args:= #[.pointer (some ⟨X.c,0,none⟩)]) (by rfl) ?_ ?_ ?_;·exact zCM
  ·exact zEd
  try simp only[Act.put,gJ,gU,gK,gu,gy,gG]
  iterate 3 refine qV ?_ (hy:=zAm)
  refine kR (v:=.int .i64 f) (f:=182) (args:= #[.agg #[.slice a1 n1 c1,.slice a2 n2 c2],.string d.on.name]) (by rfl) ?_ ?_ ?_;·exact zCM
  ·exact zEa
  try simp only[Act.put,gJ,gU,gK,gu,gy,gG]
  refine qV ?_ (hy:=zAm);refine wpQuiet_nil ?_;intro w6 O6;have H6:=zh (H5.out.Qn O6);clear O6 H5 FV HFd;rcases hfr with rfl| ⟨f',rfl,hf'⟩
  ·rw[if_neg zBk]at Ac;obtain⟨zn,hzn⟩:=ze (ES.Qo (S4,E.2) D.names d.on.name);obtain⟨j,hj⟩:=ze (eH D.names d.on.name);have hjr:=FU D.names d.on.name;have HNT:Hid (ES.Na (S4,E.2) D.names d.on.name=if j<0 then S4 else (S4.num (iJ j.toNat)).1):=by unfold ES.Na;rw[hj];exact rfl
   have HZn:Hid ((if j<0 then (0:Int)else (S4.num (iJ j.toNat)).2)=zn):=by rw[<-hzn];unfold ES.Qo;rw[hj];exact rfl
   have FB:Hid (Calls Tryz.prog 226 #[.pointer (some ⟨X.px,0,none⟩),.string d.on.name] w6 fun e w'=>e= .returned (.tuple #[.int .i64 zn,.int .i64 j])/\bV W0 gt gb gp X Bs D ((if j<0 then S4 else (S4.num (iJ j.toNat)).1),E.2) w'):=by rw[<-HNT.out];exact bV.call H6.out zr fun gt' gb' nM Hx _=>adn Hx HG.out.nl d.on.name j zn hj hzn
   rw[hj]at hjr Ac;have al1:=H6.out.XR;obtain⟨q0,q1,-⟩:=HS.out w6 H6.out.only;clear hzn hj HNT H6;go_wp2_with fail;refine FB.out.mono ?_;rintro e w8 ⟨rfl,h8⟩;have H8:=zh h8;clear h8 FB q0 q1;obtain⟨q0,-⟩:=HS.out w8 H8.out.only;have ewz:=zw (-a);rcases hjr with rfl| ⟨j',rfl,hj'⟩
   ·rw[if_pos zBk]at H8 Ac;have h9:=Ac.out;subst h9;have xg:Hid (Calls Tryz.prog 163 #[.pointer (some ⟨X.c,0,none⟩),.slice (some ⟨w8.heap.size,0,none⟩) 1 1] (w8.alloc (.cells #[.int .i64 (-a)] 3)) fun e w'=>e= .returned (.tuple #[])/\bV W0 gt gb gp X Bs D (S4.dD [-a],E.2) w'):=
     bV.call H8.out (zr.alloc _) fun gt' gb' nM Hx _=>EL Hx (afy w8 (-a) (iL hab)) zAM
    clear H8;go_wp2_with fail;refine xg.out.mono ?_;rintro e w9 ⟨rfl,h9⟩;have H9:=zh (bV.after nJ.out h9);clear h9 xg;exact zCq
   rw[if_neg zBk,yT]at H8 HZn Ac;have aiC:0<=zn/\zn<=65536:=by rw[<-HZn.out];exact TB.xG al1 _
   rw[HZn.out]at Ac;obtain⟨S5,hS5⟩:=ze ((S4.num (iJ j')).1);rw[hS5]at H8 Ac;have xg:Hid (Calls Tryz.prog 163 #[.pointer (some ⟨X.c,0,none⟩),.slice (some ⟨w8.heap.size,0,none⟩) 2 2] (w8.alloc (.cells #[.int .i64 (-a),.int .i64 zn] 3)) fun e w'=>e= .returned (.tuple #[])/\bV W0 gt gb gp X Bs D (S5.dD [-a,zn],E.2) w'):=
    bV.call H8.out (zr.alloc _) fun gt' gb' nM Hx _=>EL Hx (BH w8 (-a) zn (iL hab) (jC aiC)) zAM
   obtain⟨S6,hS6⟩:=ze (S5.dD [-a,zn]);rw[hS6]at xg Ac;clear H8 hS5 HZn hS6;go_wp2_with fail;refine xg.out.mono ?_;rintro e w9 ⟨rfl,h9⟩;have H9:=zh h9;clear h9 xg q0 ewz;obtain⟨vM,vN,uU,H4,A4,B4,C4,O4⟩:=H9.out;obtain⟨b,cap,v,hsv,hrow,hSS,hpu⟩:=H4.wF (n:=j') hj' (z:=a) (jC hab);have hrl:=D7.out.nr j';obtain⟨xs,hxs⟩:=ze (E.2.needs.getD j' []);rw[show(S6,E.2).2.needs.getD j' []=xs from hxs]at hrow hpu;rw[hxs]at hrl;obtain⟨ao,adF,rfl,-,-⟩:=hrow.shape;obtain⟨n,hn⟩:=ze xs.length;simp only[qM]at hrow hSS;rw[hn]at hrow hrl hSS;obtain⟨nn,hnn⟩:=ze D.names.length;rw[hnn]at hsv hj';rw[hsv]at hSS;have aiD:nn<=1000000:=by rw[<-hnn];exact HG.out.nl
   have Iw:Hid (∀W,Only (fun k=>uU k=(2,j'+1)) w9 W->W.cell? ⟨X.px,3,none⟩=some (.slice (some ⟨b,0,none⟩) nn cap)/\W.cell? ⟨b,j',none⟩=some (.slice ao n adF)/\W.frozen? ⟨b,j',none⟩=false):=hSS;have vW:=zh hrow;have HPu:Hid (∀wA w5 v',O0 w9 wA->Only (fun k=>uU k=(2,j'+1)) wA w5->Row w5 (Tag.put uU wA.heap.size w5.heap.size (2,j'+1)) (2,j'+1) 3 v' (xs.map cI++[cI a])->bV W0 gt gb gp X Bs D (S6,{E.2 with needs:=nU E.2.needs j' a}) (w5.setCell ⟨b,j',none⟩ v')):=fun wA w5 v' o1 o2 hr=>bV.trans A4 B4 C4 O4 (hpu wA w5 v' o1 o2 hr);have HN:=zh hn;have hS0:=Iw.out w9.drew (zr.drew);clear hrow hSS hpu hxs hn H4 A4 B4 C4 O4 hsv hnn H9;go_wp2_with fail;refine bH (n:=17) (E:=fun j=>j==16) (S:=fun W=>W.cell? ⟨X.px,3,none⟩=some (.slice (some ⟨b,0,none⟩) nn cap)/\W.cell? ⟨b,j',none⟩=some (.slice ao n adF)/\W.frozen? ⟨b,j',none⟩=false) zk rfl hS0 (fun hHeld=>?_);refine tW 0 ?_;refine tW 1 ?_;refine tW 2 ?_;refine tK 3 ?_;refine tW 4 ?_;refine tW 5 ?_;refine tW 6 ?_;refine tW 7 ?_;refine tK 8 ?_;refine tW 9 ?_;refine tW 10 ?_;refine tK 11 ?_;refine tW 12 ?_;refine tO 13 fun K hK=>?_;go_simp;refine hK.out _ _ ?_ (fun hHeld=>?_);·exact zFG
   clear hK K;try simp only[Act.put,gJ,gU,gK,gu,gy,gG]
   refine tO 14 fun K hK=>?_;(refine Row.step (u:=.int .i64 a) kJ (by rfl) (.tmp 132) (.tmp 134) (by rfl) zB9 (by rfl) zBz rfl zBo zCD zAG ?_;intro bb5 cap5 w10 Un Kv);refine hK.out _ _ ?_ (fun hHeld=>?_);·exact zFK
   clear hK K;try simp only[Act.put,gJ,gU,gK,gu,gy,gG]
   refine tW 15 ?_;refine fP (rs:=[16]) zk zAM ?_;refine dA.late (i:=16) rfl zk (fun K hK=>?_) ?_
   ·(obtain⟨s1,s2,s3⟩:=hHeld;go_simp);refine hK.out _ _ ?_;clear hK K;try simp only[Act.put,gJ,gU,gK,gu,gy,gG]
    refine aZ zk ?_ _;have H10:Hid (bV W0 gt gb gp X Bs D (S6,{E.2 with needs:=nU E.2.needs j' a}) (w10.setCell ⟨b,j',none⟩ (.slice (some ⟨bb5,0,none⟩) (List.length (xs.map cI)+1) cap5))):=HPu.out _ w10 _ zBj Kv Un;simp only[qM]at H10;obtain⟨Y9,aiF⟩:=ze (w10.setCell ⟨b,j',none⟩ (.slice (some ⟨bb5,0,none⟩) (xs.length+1) cap5));rw[aiF]at H10;try simp only[qM]
    rw[aiF];clear Un Kv HPu vW Iw hS0;obtain⟨P1,hP1⟩:∃P,({E.2 with needs:=nU E.2.needs j' a}:iM)=P:=⟨_,rfl⟩;have aql:Hid (vK P1 900001):=by rw[<-hP1];exact(D7.out.wF j' a).mono zBk
    rw[hP1]at H10 Ac;obtain⟨pv,hpv⟩:=ze (D.x.eG d.on.name);have hpl:=Aa D.x d.on.name;have FV:Hid (∀W,O0 Y9 W->Calls Tryz.prog 78 #[.pointer (some ⟨X.c,0,none⟩)] W fun e w'=>e= .returned (.agg #[.slice a1 n1 c1,.slice a2 n2 c2])/\O0 W w'):=fun W o=>by obtain⟨_,_,_,Hy,_⟩:=H10.out;exact mF (Hy.aN o).gx.gr CX.out.1 CX.out.2
    have Zp:Hid (∀W,O0 Y9 W->Calls Tryz.prog 165 #[.agg #[.slice a1 n1 c1,.slice a2 n2 c2],.string d.on.name] W fun e w'=> ∃v,e= .returned v/\w'.ownsRow 0 3 1 v (D.x.eG d.on.name).length (ji (D.x.eG d.on.name))/\(∀k,v.ownBlock=some k->W.heap.size<=k)/\O0 W w'):=fun W o=>by obtain⟨_,_,_,Hy,_⟩:=H10.out;have h:=(Hy.aN o).gx.BI;rw[CX.out.1,CX.out.2]at h;exact uz h (by rw[XP.out];omega) d.on.name
    rw[hpv]at Zp hpl Ac;have h9:=Ac.out;subst h9;obtain⟨nt,hnt⟩:=ze pv.length;rw[hnt]at Zp hpl;rw[XP.out]at hpl;have HTl:=zh hpl.2;have alS:=hpl.1;have Ja:=zh hnt;have hS0:=HS.out Y9.drew (H10.out.only.drew);clear hpv hpl hnt hP1 aiF;go_wp2_with fail;refine bH (n:=11) (E:=fun _=>false) (S:=fun W=>W.cell? ⟨X.px,0,none⟩=some (.pointer (some ⟨X.c,0,none⟩))/\W.cell? ⟨w.heap.size,0,none⟩=some (.string d.on.name)/\W.rangeAt w.heap.size 0 [.string d.on.name,.slice Eb Hw Ec,.slice oJ Hz Ed]/\W.rangeAt w.heap.size 3 [.string d.cond.name,.slice Ee Ia Eh,.slice Ef Ib Ej]) zk rfl hS0 (fun hHeld=>?_);refine tW 0 ?_;refine tW 1 ?_;refine tW 2 ?_;refine tK 3 ?_;refine tW 5 ?_;refine tW 6 ?_;refine tK 7 ?_;refine tW 10 ?_;refine tO 4 fun K hK=>?_;(go_simp;refine(FV.out _ zAB).mono ?_;rintro e w12 ⟨rfl,o2⟩;have oA:O0 Y9 w12:=Only.same zBj o2;try go_wp2_with fail);refine hK.out _ _ ?_ (fun hHeld=>?_);·(try dsimp only)<;>(exact HS.out _ (H10.out.only.same (oA.mono fun _ f=>f.elim)))
    clear hK K;try simp only[Act.put,gJ,gU,gK,gu,gy,gG]
    refine tO 8 fun K hK=>?_;(go_simp;refine(Zp.out _ zAL).mono ?_;rintro e Vr ⟨vt,rfl,r3,b3,o3⟩;have oB:O0 Y9 Vr:=Only.same zBn o3;obtain⟨at3,ct3,rfl,kt3,-⟩:=aC r3;try go_wp2_with fail);refine hK.out _ _ ?_ (fun hHeld=>?_);·(try dsimp only)<;>(exact HS.out _ (H10.out.only.same (oB.mono fun _ f=>f.elim)))
    clear hK K;try simp only[Act.put,gJ,gU,gK,gu,gy,gG]
    refine tW 9 ?_;refine aZ zk ?_ _;have YD:Hid (Vr.ownsRow 0 3 1 (.slice at3 nt ct3) nt (ji pv)):=r3;obtain⟨Np,Nq,Nr,aiG,A5,B5,C5,O5a⟩:=H10.out;have H13:=zh (aiG.aN oB);have O5:Only (dF gt gb gp) W0 Vr:=O5a.same (oB.mono fun _ f=>f.elim);have Wn:Hid (∀k,(Value.slice at3 nt ct3).ownBlock=some k->¬dF Np Nq Nr k):=fun k hk hm=>by have h1:=b3 k hk;have h2:Y9.heap.size<=k:=qR (qR oA.size (by first|exact qH _| (simp[World.drew,World.drewN]))) h1;exact aiG.nN h2 hm
    have Fz:Hid (∀E2 W,bV Vr Np Nq Nr X Bs D E2 W->bV w gt gb gp X Bs D E2 W):=fun E2 W h=>bV.after nJ.out (bV.trans A5 B5 C5 O5 h);have adI:Hid (∀W,Only (dF Np Nq Nr) Vr W->W.cell? ⟨X.px,0,none⟩=some (.pointer (some ⟨X.c,0,none⟩))/\W.cell? ⟨w.heap.size,0,none⟩=some (.string d.on.name)/\W.rangeAt w.heap.size 0 [.string d.on.name,.slice Eb Hw Ec,.slice oJ Hz Ed]/\W.rangeAt w.heap.size 3 [.string d.cond.name,.slice Ee Ia Eh,.slice Ef Ib Ej]):=fun W o=>HS.out W (O5.zZ A5 B5 C5 o);have HL0:Hid (bV Vr Np Nq Nr X Bs D (ES.eG (S6,P1) p a (pv.take 0)) Vr):=bV.refl H13.out;clear r3 b3 o3 o2 oB oA aiG A5 B5 C5 O5 O5a FV Zp H10 hS0;go_wp2_with fail;go_loopw [147] (fun vi wr=> ∃i:Nat,vi= .int .i64 i/\i<=nt/\Hid (bV Vr Np Nq Nr X Bs D (ES.eG (S6,P1) p a (pv.take i)) wr)) (fun v _=>nt-(RowKit.intOf v).toNat);case atStart=>exact⟨0,rfl,qE _,HL0⟩
    case round=>
     clear HL0;obtain⟨i,rfl,hi,HR⟩:=hrel;by_cases ci:i<nt
     ·obtain⟨t,ht⟩:=zG pv i zBS;have hcell:wr.cell? ⟨(match at3 with|some a=>a.block|none=>0),i,none⟩=some (.int .i64 t)/\∃b,at3=some ⟨b,0,none⟩:=by have hrow:=aI YD.out HR.out.only Wn.out;exact zFF
      obtain⟨hcell,bt3,rfl⟩:=hcell;have jh:=zw (i+1);have htb:t<=1000:=by have:=HTl.out t (qT ht);omega
      obtain⟨E5,hE5⟩:=ze (ES.eG (S6,P1) p a (pv.take i));have al2:vK E5.2 910000:=by rw[<-hE5];exact(ES.Aa (E:=(S6,P1)) aql.out p a (pv.take i)).mono zAx
      have uh:Hid (ES.eG (S6,P1) p a (pv.take (i+1))=E5.Jg p a t):=by show _=_;rw[List.take_add_one,ht];simp only[Option.toList_some];rw[ES.XQ,hE5]
      rw[hE5]at HR;obtain⟨zd,hzd⟩:=ze ((E5.1.num (aJ t)).2);obtain⟨S7,hS7⟩:=ze ((E5.1.num (aJ t)).1);have al3:0<=zd/\zd<=65536:=by rw[<-hzd];exact TB.xG HR.out.XR _
      have HNo:Hid (∀W,O0 wr W->Calls Tryz.prog 164 #[.pointer (some ⟨X.c,0,none⟩),.int .i64 t] W fun e w'=>e= .returned (.int .i64 zd)/\bV Vr Np Nq Nr X Bs D (S7,E5.2) w'):=fun W o=>by rw[<-hS7];exact bV.call HR.out o fun gt' gb' nM Hx _=>aiE Hx (p:=t) zBk zd hzd
      obtain⟨zg,hzg⟩:=ze ((ES.goes (S7,E5.2) p t a).2);obtain⟨E8,hE8⟩:=ze ((ES.goes (S7,E5.2) p t a).1);have HGo:Hid (∀w9,bV Vr Np Nq Nr X Bs D (S7,E5.2) w9->∀W,O0 w9 W->Calls Tryz.prog 229 #[.pointer (some ⟨X.px,0,none⟩),.int .i64 p,.int .i64 t,.int .i64 a] W fun e w'=>e= .returned (.int .i64 zg)/\bV Vr Np Nq Nr X Bs D E8 w'):=fun w9 h9 W o=>by rw[<-hE8];exact bV.call h9 o fun gt' gb' nM Hx _=>adz Hx hp6 zAC (jC hab) al2 zBk zg hzg
      have HZg:Hid (∀w9,bV Vr Np Nq Nr X Bs D (S7,E5.2) w9->0<=zg/\zg<=65536):=fun w9 h9=>by rw[<-hzg];exact TB.xG h9.XR _
      have xg:Hid (∀w8 W,bV Vr Np Nq Nr X Bs D E8 w8->O0 w8 W->Ints W (.slice (some ⟨w8.heap.size,0,none⟩) 3 3) [-a,-zd,zg]->Calls Tryz.prog 163 #[.pointer (some ⟨X.c,0,none⟩),.slice (some ⟨w8.heap.size,0,none⟩) 3 3] W fun e w'=>e= .returned (.tuple #[])/\bV Vr Np Nq Nr X Bs D (ES.eG (S6,P1) p a (pv.take (i+1))) w'):=fun w8 W h8 o hI=>by
       rw[uh.out];have e:E5.Jg p a t=(E8.1.dD [-a,-zd,zg],E8.2):=by unfold ES.Jg;rw[hzd,hS7,hzg,hE8]
       rw[e];exact bV.call h8 o fun gt' gb' nM Hx _=>EL Hx hI zAM
      have ewa:=zw (-a);have ewd:=zw (-zd);have hS0:=adI.out wr.drew (HR.out.only.drew);have KD:=zh jh;clear ht hE5 al2 hzd hS7 hzg hE8 jh uh;go_wp2_with fail;refine bH (n:=20) (E:=fun _=>false) (S:=fun W=>W.cell? ⟨X.px,0,none⟩=some (.pointer (some ⟨X.c,0,none⟩))/\W.cell? ⟨w.heap.size,0,none⟩=some (.string d.on.name)/\W.rangeAt w.heap.size 0 [.string d.on.name,.slice Eb Hw Ec,.slice oJ Hz Ed]/\W.rangeAt w.heap.size 3 [.string d.cond.name,.slice Ee Ia Eh,.slice Ef Ib Ej]) zk rfl hS0 (fun hHeld=>?_);refine tW 0 ?_;refine tW 1 ?_;refine tW 2 ?_;refine tK 3 ?_;refine tW 4 ?_;refine tW 5 ?_;refine tW 6 ?_;refine tW 7 ?_;refine tW 8 ?_;refine tK 9 ?_;refine tW 10 ?_;refine tW 13 ?_;refine tW 14 ?_;refine tW 15 ?_;refine tW 16 ?_;refine tO 11 fun K hK=>?_;(go_simp;refine(HNo.out _ zBj).mono ?_;rintro e w14 ⟨rfl,h14⟩;have oM:Only (dF Np Nq Nr) Vr w14:=h14.only;try go_wp2_with fail);refine hK.out _ _ ?_ (fun hHeld=>?_);·(try dsimp only)<;>(exact adI.out _ oM)
      clear hK K;try simp only[Act.put,gJ,gU,gK,gu,gy,gG]
      refine tW 12 ?_;refine tO 17 fun K hK=>?_;(go_simp;refine(HGo.out w14 h14 _ zBj).mono ?_;rintro e w15 ⟨rfl,h15⟩;have Vs:=HZg.out w14 h14;have oG:Only (dF Np Nq Nr) Vr w15:=h15.only;try go_wp2_with fail);refine hK.out _ _ ?_ (fun hHeld=>?_);·(try dsimp only)<;>(exact adI.out _ oG)
      clear hK K;try simp only[Act.put,gJ,gU,gK,gu,gy,gG]
      refine tO 18 fun K hK=>?_;go_simp;refine hK.out _ _ ?_ (fun hHeld=>?_);·(try dsimp only)<;>(exact adI.out _ (by repeat (first|exact Only.refl _ _|exact oG|apply Only.drew|apply Only.alloc|apply Only.drewN)))
      clear hK K;try simp only[Act.put,gJ,gU,gK,gu,gy,gG]
      refine tO 19 fun K hK=>?_;(go_simp;refine(xg.out w15 _ h15 zAB (by first|exact aav _ _ _ _ (iL hab) (iL al3) (jC Vs)|exact(aav w15 _ _ _ (iL hab) (iL al3) (jC Vs)).aN zBj)).mono ?_;rintro e w16 ⟨rfl,h16⟩;try go_wp2_with fail);refine hK.out _ _ ?_ (fun hHeld=>?_);·(try dsimp only)<;>(exact adI.out _ h16.only)
      clear hK K;try simp only[Act.put,gJ,gU,gK,gu,gy,gG]
      refine aZ zk ?_ _;have H16:=zh h16;have jh:=KD.out;clear h16 h15 h14 oM oG HNo HGo xg HZg HR hS0 ewa ewd;go_wp2_with fail;go_roundw;case rel=>exact⟨i+1,by first|rfl|go_num,by omega,H16⟩
      case measure=>simp[RowKit.intOf]<;>omega
     obtain rfl:nt=i:=by omega
     have HF:=HR.out;rw[qI (yG Ja.out)]at HF;have HF2:=zh (Fz.out _ _ HF);clear HF HR;go_wp2_with fail;go_end0;exact⟨rfl,HF2.out⟩
   exact dA.nil
  rw[if_pos zBk,yT]at Ac;obtain⟨zm,hzm⟩:=ze ((S4.meet D.x D.l f' r 1 d.on).2);obtain⟨S5,hS5⟩:=ze ((S4.meet D.x D.l f' r 1 d.on).1);have Vq:0<=zm/\zm<=65536:=by rw[<-hzm];exact TB.Nk H6.out.XR _ _ _ _ _ _
  have HMt:Hid (∀W,O0 w6 W->Calls Tryz.prog 225 #[.pointer (some ⟨X.c,0,none⟩),.int .i64 f',.int .i64 r,.int .i64 1,.agg #[.string d.on.name,.slice Eb Hw Ec,.slice oJ Hz Ed]] W fun e w'=>e= .returned (.int .i64 zm)/\bV W0 gt gb gp X Bs D (S5,E.2) w'):=fun W o=>by rw[<-hS5];exact bV.call H6.out o fun gt' gb' nM Hx Ox=>Nj Hx HG.out (p:=f') (rule:=r) (cc:=1) zAC hr6 zBk (Jv.out W Ox) hss.1 zm hzm
  obtain⟨S6,hS6⟩:=ze (S5.dD [-a,zm]);have xg:Hid (∀w8 W,bV W0 gt gb gp X Bs D (S5,E.2) w8->O0 w8 W->Ints W (.slice (some ⟨w8.heap.size,0,none⟩) 2 2) [-a,zm]->Calls Tryz.prog 163 #[.pointer (some ⟨X.c,0,none⟩),.slice (some ⟨w8.heap.size,0,none⟩) 2 2] W fun e w'=>e= .returned (.tuple #[])/\bV W0 gt gb gp X Bs D (S6,E.2) w'):=fun w8 W h8 o hI=>by rw[<-hS6];exact bV.call h8 o fun gt' gb' nM Hx _=>EL Hx hI zAM
  rw[hzm,hS5,hS6]at Ac;obtain⟨zg,hzg⟩:=ze ((ES.goes (S6,E.2) p f' a).2);obtain⟨E7,hE7⟩:=ze ((ES.goes (S6,E.2) p f' a).1);have HGo:Hid (∀w9,bV W0 gt gb gp X Bs D (S6,E.2) w9->∀W,O0 w9 W->Calls Tryz.prog 229 #[.pointer (some ⟨X.px,0,none⟩),.int .i64 p,.int .i64 f',.int .i64 a] W fun e w'=>e= .returned (.int .i64 zg)/\bV W0 gt gb gp X Bs D E7 w'):=fun w9 h9 W o=>by rw[<-hE7];exact bV.call h9 o fun gt' gb' nM Hx _=>adz Hx hp6 zAC (jC hab) D7.out zBk zg hzg
  have Vs:∀w9,bV W0 gt gb gp X Bs D (S6,E.2) w9->0<=zg/\zg<=65536:=fun w9 h9=>by rw[<-hzg];exact TB.xG h9.XR _
  have HZg:=zh Vs;have aqr:Hid (∀w8 W,bV W0 gt gb gp X Bs D E7 w8->O0 w8 W->Ints W (.slice (some ⟨w8.heap.size,0,none⟩) 2 2) [-a,zg]->Calls Tryz.prog 163 #[.pointer (some ⟨X.c,0,none⟩),.slice (some ⟨w8.heap.size,0,none⟩) 2 2] W fun e w'=>e= .returned (.tuple #[])/\bV W0 gt gb gp X Bs D (E7.1.dD [-a,zg],E7.2) w'):=fun w8 W h8 o hI=>
   bV.call h8 o fun gt' gb' nM Hx _=>EL Hx hI zAM
  rw[hzg,hE7]at Ac;have h9:=Ac.out;subst h9;have ewz:=zw (-a);have hS0:=HS.out w6.drew (H6.out.only.drew);have oN:=H6.out.only;clear hzm hS5 hS6 hzg hE7 Vs H6 oN;go_wp2_with fail;refine bH (n:=17) (E:=fun _=>false) (S:=fun W=>W.cell? ⟨X.px,0,none⟩=some (.pointer (some ⟨X.c,0,none⟩))/\W.cell? ⟨w.heap.size,0,none⟩=some (.string d.on.name)/\W.rangeAt w.heap.size 0 [.string d.on.name,.slice Eb Hw Ec,.slice oJ Hz Ed]/\W.rangeAt w.heap.size 3 [.string d.cond.name,.slice Ee Ia Eh,.slice Ef Ib Ej]) zk rfl hS0 (fun hHeld=>?_);refine tW 0 ?_;refine tW 1 ?_;refine tW 2 ?_;refine tK 3 ?_;refine tW 4 ?_;refine tW 5 ?_;refine tW 6 ?_;refine tW 7 ?_;refine tW 8 ?_;refine tK 9 ?_;refine tW 10 ?_;refine tW 11 ?_;refine tW 12 ?_;refine tK 13 ?_ (hy:=by(intro w hSw;(try dsimp only at hSw);refine Eq.trans (iD (ty:=108) (x:=.tmp 76) (cs:=[.string d.on.name,.slice Eb Hw Ec,.slice oJ Hz Ed]) rfl rfl hSw.2.2.1 Tryz.underlying108 rfl zk) ?_;with_reducible rfl));refine tO 14 fun K hK=>?_;(go_simp;refine(HMt.out _ zBj).mono ?_;rintro e w8 ⟨rfl,h8⟩;have oM:Only (dF gt gb gp) W0 w8:=h8.only;try go_wp2_with fail);refine hK.out _ _ ?_ (fun hHeld=>?_);·exact zDr
  clear hK K;try simp only[Act.put,gJ,gU,gK,gu,gy,gG]
  refine tO 15 fun K hK=>?_;go_simp;refine hK.out _ _ ?_ (fun hHeld=>?_);·exact zDo
  clear hK K;try simp only[Act.put,gJ,gU,gK,gu,gy,gG]
  refine tO 16 fun K hK=>?_;(go_simp;refine(xg.out w8 _ h8 zAB (by first|exact BH _ _ _ (iL hab) (jC Vq)|exact(BH w8 _ _ (iL hab) (jC Vq)).aN zBj)).mono ?_;rintro e w9 ⟨rfl,h9⟩;try go_wp2_with fail);refine hK.out _ _ ?_ (fun hHeld=>?_);·exact zEh
  clear hK K;try simp only[Act.put,gJ,gU,gK,gu,gy,gG]
  refine aZ zk ?_ _;have H9:=zh h9;clear h9 h8 oM HMt xg hS0;have hS0:=HS.out w9.drew (H9.out.only.drew);have Vs:=HZg.out w9 H9.out;clear HZg;go_wp2_with fail;refine bH (n:=13) (E:=fun _=>false) (S:=fun W=>W.cell? ⟨X.px,0,none⟩=some (.pointer (some ⟨X.c,0,none⟩))/\W.cell? ⟨w.heap.size,0,none⟩=some (.string d.on.name)/\W.rangeAt w.heap.size 0 [.string d.on.name,.slice Eb Hw Ec,.slice oJ Hz Ed]/\W.rangeAt w.heap.size 3 [.string d.cond.name,.slice Ee Ia Eh,.slice Ef Ib Ej]) zk rfl hS0 (fun hHeld=>?_);refine tW 0 ?_;refine tW 1 ?_;refine tW 2 ?_;refine tK 3 ?_;refine tW 4 ?_;refine tW 5 ?_;refine tW 6 ?_;refine tW 7 ?_;refine tW 8 ?_;refine tW 9 ?_;refine tO 10 fun K hK=>?_;(go_simp;refine(HGo.out w9 H9.out _ zBj).mono ?_;rintro e w10 ⟨rfl,h10⟩;have oM:Only (dF gt gb gp) W0 w10:=h10.only;try go_wp2_with fail);refine hK.out _ _ ?_ (fun hHeld=>?_);·exact zDr
  clear hK K;try simp only[Act.put,gJ,gU,gK,gu,gy,gG]
  refine tO 11 fun K hK=>?_;go_simp;refine hK.out _ _ ?_ (fun hHeld=>?_);·exact zDo
  clear hK K;try simp only[Act.put,gJ,gU,gK,gu,gy,gG]
  refine tO 12 fun K hK=>?_;(go_simp;refine(aqr.out w10 _ h10 zAB (by first|exact BH _ _ _ (iL hab) (jC Vs)|exact(BH w10 _ _ (iL hab) (jC Vs)).aN zBj)).mono ?_;rintro e Y9 ⟨rfl,h11⟩;try go_wp2_with fail);refine hK.out _ _ ?_ (fun hHeld=>?_);·(try dsimp only)<;>(exact HS.out _ h11.only)
  clear hK K;try simp only[Act.put,gJ,gU,gK,gu,gy,gG]
  refine aZ zk ?_ _;have H11:=zh (bV.after nJ.out h11);clear h11 h10 oM;go_wp2_with fail;((try simp only[Exit.inBlock,Exit.then]);refine bodyPost_ret (results_none rfl _ _ _) rfl ?_);exact⟨rfl,H11.out⟩
end
end Go.Proofs.YtdmmebjjojimiaaGreatDoor
