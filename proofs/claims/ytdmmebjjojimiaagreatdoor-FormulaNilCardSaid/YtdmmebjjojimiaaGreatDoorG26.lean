/- Package edge: depend. Printed by gen_edw7.py. -/
import Derived.Test.YtdmmebjjojimiaaGreatDoorG25
set_option maxRecDepth 100000
set_option maxHeartbeats 8000000
set_option linter.all false
namespace Go.Proofs
theorem zAO{p:Prop}(h:p:=by(intro w hSw;(try dsimp only at hSw);obtain⟨p0,p1,-⟩:=HS.out w (H5.out.only.same (hSw.mono fun _ f=>f.elim));go_simp<;>(try with_reducible rfl))):p:=h
theorem zBq{p:Prop}(h:p:=by
 have hb:=ak hb0 o hnm
 refine⟨aK H0.out.cells.1 o H0.out.tp,by rw[aj hb];rfl,fun j u hu=>?_,fun j u hu=>?_⟩
 ·rw[aj hb]
  match j,hu with
  |0,hu=>exact hu
  |1,hu=>exact hu
  |2,hu=>exact hu
  |n+3,hu=>simp at hu
 ·rw[aj hb]
  match j,hu with
  |0,hu=>exact hu
  |1,hu=>exact hu
  |2,hu=>exact hu
  |n+3,hu=>simp at hu):p:=h
theorem zCN{p:Prop}(h:p:=by(try dsimp only)<;>(exact HS.out _ h9.only)):p:=h
theorem zCV{p:Prop}(h:p:=by(try dsimp only)<;>(exact HS.out _ zAF)):p:=h
theorem zCX{p:Prop}(h:p:=by(try dsimp only)<;>(exact HS.out _ oM)):p:=h
theorem zDT{p:Prop}(h:p:=by(intro w hSw;exact(HFd.out w hSw).mono fun _ _ ⟨he,hw⟩=>⟨he,hSw.same hw⟩)):p:=h
theorem zDW{p:Prop}(h:p:=by(intro w hSw;exact(zo.out w hSw).mono fun _ _ ⟨he,hw⟩=>⟨he,hSw.same hw⟩)):p:=h
end Go.Proofs
namespace Go.Proofs.YtdmmebjjojimiaaGreatDoor
open Go.RowKit
def ES.CQ(E:ES)(p:Nat)(a:Int)(t:Nat):ES:=
 (((ES.goes ((E.1.num (aG t)).1,E.2) p t a).1.1.aV [-a,-(E.1.num (aG t)).2,(ES.goes ((E.1.num (aG t)).1,E.2) p t a).2]),(ES.goes ((E.1.num (aG t)).1,E.2) p t a).1.2)
def ES.bZ(E:ES)(p:Nat)(a:Int)(l:List Nat):ES:=l.foldl (fun E t=>E.CQ p a t) E
theorem ES.RQ(E:ES)(p:Nat)(a:Int)(l:List Nat)(t:Nat):E.bZ p a (l++[t])=(E.bZ p a l).CQ p a t:=by simp[ES.bZ]
theorem ES.tq{E:ES}{N:Nat}(h:oL E.2 N)(p:Nat)(a:Int):∀(l:List Nat),oL (E.bZ p a l).2 (N+l.length):=by
 intro l;induction l generalizing E N with
 |nil=>exact h
 |cons b r ih=>have:=ih (E:=E.CQ p a b) (h.Ld (p,b) a);rw[qN,show N+(r.length+1)=N+1+r.length by omega];exact this
theorem ES.JC(E:ES)(x:aC)(l:List Nat)(names:List Str)(r p k:Nat)(d:oO){S1 S2 S3 S4:TB}{a z wh:Int}(e1:E.1.num (jJ p k)=(S1,a))(e2:S1.num (eH r)=(S2,z))(e3:S2.meet x l p r 0 d.cond=(S3,wh))(e4:(if [a,z,wh].contains 0=true then S3 else (S3.1,S3.2.adds (kL a [z,wh])))=S4):E.depend x l names r p k d=(if 0<=x.find d.on.name then (((ES.goes ((S4.meet x l (x.find d.on.name).toNat r 1 d.on).1.aV [-a,(S4.meet x l (x.find d.on.name).toNat r 1 d.on).2],E.2) p (x.find d.on.name).toNat a).1.1.aV [-a,(ES.goes ((S4.meet x l (x.find d.on.name).toNat r 1 d.on).1.aV [-a,(S4.meet x l (x.find d.on.name).toNat r 1 d.on).2],E.2) p (x.find d.on.name).toNat a).2]),(ES.goes ((S4.meet x l (x.find d.on.name).toNat r 1 d.on).1.aV [-a,(S4.meet x l (x.find d.on.name).toNat r 1 d.on).2],E.2) p (x.find d.on.name).toNat a).1.2)else if bP names d.on.name<0 then (S4.aV [-a],E.2)else ES.bZ ((S4.num (eG (bP names d.on.name).toNat)).1.aV [-a,(S4.num (eG (bP names d.on.name).toNat)).2],{E.2 with needs:=jK E.2.needs (bP names d.on.name).toNat a}) p a (x.bZ d.on.name)):=by unfold ES.depend;dsimp only;rw[e1];dsimp only;rw[e2];dsimp only;rw[e3];dsimp only;rw[e4];rfl
theorem tq(x:aC)(s:Str):(x.bZ s).length<=x.packs.length/\∀t∈x.bZ s,t<x.packs.length:=by exact zC1
section
variable {w w':World} {gt gb gp:Tag} {X:G9} {Bs:Nat} {D:rU} {E:ES}
theorem ad5(H:gI w gt gb gp X Bs D E){p:Nat}(hp:p<=1000000)(z:Int)(hz:(E.1.num (aG p)).2=z):
  Calls Tryz.prog 164 #[.pointer (some ⟨X.c,0,none⟩),.int .i64 p] w fun e w'=>e= .returned (.int .i64 z)/\aQ w gt gb gp X Bs D ((E.1.num (aG p)).1,E.2) w':=
 (KX H.gx (p:=p) ⟨by omega,by omega⟩ z hz).mono fun e w' ⟨he,h⟩=>⟨he,H.step h⟩
theorem ahi(H:gI w gt gb gp X Bs D E){x:At}(hx:kC x)(z:Int)(hz:(E.1.num x).2=z):Calls Tryz.prog 75 #[.pointer (some ⟨X.c,0,none⟩),fH x] w fun e w'=>e= .returned (.int .i64 z)/\aQ w gt gb gp X Bs D ((E.1.num x).1,E.2) w':=(xP H.gx hx z hz).mono fun e w' ⟨he,h⟩=>⟨he,H.step h⟩
theorem aQ.call(h:aQ w gt gb gp X Bs D E w'){w2:World}(o:O0 w' w2){E2:ES}{f:FuncId}{args:Array Value}{u:Value}(hc:∀gt' gb' jC,gI w2 gt' gb' jC X Bs D E->Only (aX gt gb gp) w w2->Calls Tryz.prog f args w2 fun e w3=>e= .returned u/\aQ w2 gt' gb' jC X Bs D E2 w3):Calls Tryz.prog f args w2 fun e w3=>e= .returned u/\aQ w gt gb gp X Bs D E2 w3:=by obtain⟨gt',gb',jC,H2,A1,A2,A3,O⟩:=h;exact(hc gt' gb' jC (H2.aF o) (O.same (o.mono fun _ f=>f.elim))).mono fun e w3 ⟨he,h⟩=>⟨he,aQ.trans A1 A2 A3 O (aQ.after o h)⟩
theorem aQ.Hf(h:aQ w gt gb gp X Bs D E w'):E.1.1.Ok:=by obtain⟨_,_,_,H,_⟩:=h;exact H.ok
theorem V6(H:gI w gt gb gp X Bs D E):Calls Tryz.prog 28 #[.pointer (some ⟨X.c,0,none⟩)] w fun e w'=>e= .returned (.pointer (some ⟨X.bb,0,none⟩))/\aQ w gt gb gp X Bs D E w':=
 (mX H.gx.gr).mono fun e w' ⟨he,h⟩=>⟨he,by rw[h];exact aQ.refl H⟩
theorem wQ.new(H:gI w gt gb gp X Bs D E){o:Obj}{n cap:Nat}{xs:List Int}:wQ gt gb (.slice (some ⟨w.heap.size,0,none⟩) n cap) xs:=fun _ k hk=>by
 simp[Value.blk]at hk
 subst hk
 have:=H.jD (qH w.heap.size)
 exact⟨fun h=>this (.inl (.inl h)),fun h=>this (.inl (.inr h))⟩
theorem ahj(H:gI w gt gb gp X Bs D E){v:Value}{xs:List Int}(hI:Ints w v xs)(hN:wQ gt gb v xs)(x:Int)(hx: -1000000<=x/\x<=1000000)(hs:∀z∈xs,-1000000<=z/\z<=1000000)(hl:xs.length<=1000000):Calls Tryz.prog 228 #[.pointer (some ⟨X.bb,0,none⟩),.int .i64 x,v] w fun e w'=>e= .returned (.tuple #[])/\aQ w gt gb gp X Bs D ((E.1.1,E.1.2.adds (kL x xs)),E.2) w':=(acp H.gx hI hN x hx hs hl).mono fun e w' ⟨he,h⟩=>⟨he,H.step h⟩
theorem OZ(w:World)(a b c:Int)(ha:aO a)(hb:aO b)(hc:aO c):Ints (w.alloc (.cells #[.int .i64 a,.int .i64 b,.int .i64 c] 3)) (.slice (some ⟨w.heap.size,0,none⟩) 3 3) [a,b,c]:=
 Ints.dF (by
  have:=World.ownsRow_lit (base:=0) (e:=3) (size:=1) w #[.int .i64 a,.int .i64 b,.int .i64 c] 3 (qE _) zAH zAE
  simpa using this) (fun z hz=>by
   simp only[qY,List.not_mem_nil,or_false]at hz
   rcases hz with rfl|rfl|rfl<;>assumption)
theorem l7.cells{B:Nat}{w:World}{cs:List Value}{x:oO}(h:l7 B w cs x):∃c1 c2,cs=c1++c2++[.int .i64 x.line]/\dh B w c1 x.on/\dh B w c2 x.cond:=by obtain⟨c1,c2,e,h1,h2,-⟩:=h;exact⟨c1,c2,e,h1,h2⟩
attribute [local irreducible] wpQuiet in
theorem YX(H:gI w gt gb gp X Bs D E)(hG:EdG D){r p k:Nat}(hr6:r<=1000000)(UE:p<=1000000)(hk6:k<=1000000){css:List Value}{d:oO}(hd:l7 Bs w css d)(hss:d.on.sets.length<=900000/\d.cond.sets.length<=900000){N:Nat}(hP:oL E.2 N)(hN:N<=900000):Calls Tryz.prog 160 #[.pointer (some ⟨X.px,0,none⟩),.int .i64 r,.int .i64 p,.int .i64 k,.agg css.toArray] w fun e w'=>e= .returned (.tuple #[])/\aQ w gt gb gp X Bs D (E.depend D.x D.l D.names r p k d) w':=by
 have HG:=zh hG;have hpk:=hG.mid.packs;obtain⟨co,cw,rfl,hon,hwh⟩:=hd.cells;obtain⟨wW,ku,wX,wY,rfl,-,-,-⟩:=hon.cells;obtain⟨wZ,xg,xq,xu,rfl,-,-,-⟩:=hwh.cells;obtain⟨AO,e1⟩:=ze d.on.spans.length;obtain⟨AQ,e2⟩:=ze d.on.sets.length;obtain⟨AU,e3⟩:=ze d.cond.spans.length;obtain⟨AV,e4⟩:=ze d.cond.sets.length;rw[e1,e2]at hon;rw[e3,e4]at hwh;rw[e1,e2,e3,e4];clear e1 e2 e3 e4;obtain⟨W0,hW0⟩:=ze (w.alloc (.cells #[.string d.on.name,.slice wW AO wX,.slice ku AQ wY,.string d.cond.name,.slice wZ AU xq,.slice xg AV xu,.int .i64 d.line] 132));have hb0:W0.heap[w.heap.size]? =some (.cells #[.string d.on.name,.slice wW AO wX,.slice ku AQ wY,.string d.cond.name,.slice wZ AU xq,.slice xg AV xu,.int .i64 d.line] 132 (0,0)):=zAW;have iM:Hid (O0 w W0):=zAM;have hnm:=H.jD (qH w.heap.size);have H0:=zh (H.aF iM.out);have HS:Hid (∀W,Only (aX gt gb gp) W0 W->W.cell? ⟨X.px,0,none⟩=some (.pointer (some ⟨X.c,0,none⟩))/\W.cell? ⟨w.heap.size,0,none⟩=some (.string d.on.name)/\W.rangeAt w.heap.size 0 [.string d.on.name,.slice wW AO wX,.slice ku AQ wY]/\W.rangeAt w.heap.size 3 [.string d.cond.name,.slice wZ AU xq,.slice xg AV xu]):=fun W o=>by exact zBq
 have HOn:Hid (∀W,Only (aX gt gb gp) W0 W->dh Bs W [.string d.on.name,.slice wW AO wX,.slice ku AQ wY] d.on):=fun W o=>dh.Le (dh.keep hon (Kp.fU iM.out)) H0.out o;have HWh:Hid (∀W,Only (aX gt gb gp) W0 W->dh Bs W [.string d.cond.name,.slice wZ AU xq,.slice xg AV xu] d.cond):=fun W o=>dh.Le (dh.keep hwh (Kp.fU iM.out)) H0.out o;obtain⟨a1,c1,a2,c2,zi,Az⟩:=H0.out.IE;have uV:=zh (And.intro zi Az);obtain⟨n1,hn1⟩:=ze D.x.packs.length;obtain⟨n2,hn2⟩:=ze D.x.cO.length;rw[hn1]at hpk;rw[hn1,hn2]at uV;have He:=zh hn1; -- what is reckoned
 obtain⟨S1,hS1⟩:=ze ((E.1.num (jJ p k)).1);obtain⟨a,ha⟩:=ze ((E.1.num (jJ p k)).2);have hab:0<=a/\a<=65536:=by rw[<-ha];exact TB.kN H.ok _
 obtain⟨S2,hS2⟩:=ze ((S1.num (eH r)).1);obtain⟨z,hz⟩:=ze ((S1.num (eH r)).2);obtain⟨S3,hS3⟩:=ze ((S2.meet D.x D.l p r 0 d.cond).1);obtain⟨wh,RS⟩:=ze ((S2.meet D.x D.l p r 0 d.cond).2);obtain⟨S4,hS4⟩:∃S,(if [a,z,wh].contains 0=true then S3 else (S3.1,S3.2.adds (kL a [z,wh])))=S:=⟨_,rfl⟩;have YZ:=(ES.JC E D.x D.l D.names r p k d (show _=(S1,a) from by rw[<-hS1,<-ha]) (show _=(S2,z) from by rw[<-hS2,<-hz]) (show _=(S3,wh) from by rw[<-hS3,<-RS]) hS4);have ahk:Hid (Calls Tryz.prog 75 #[.pointer (some ⟨X.c,0,none⟩),fH (jJ p k)] W0 fun e w'=>e= .returned (.int .i64 a)/\aQ W0 gt gb gp X Bs D (S1,E.2) w'):=by rw[<-hS1];exact ahi H0.out (agX ⟨by omega,by omega⟩ ⟨by omega,by omega⟩) a ha
 have HZ:=zh (And.intro hS2 (And.intro hz (And.intro hS3 (And.intro RS hS4))));obtain⟨q0,-⟩:=HS.out W0 zr;have xE:=zh hP;obtain⟨E9,AB⟩:=ze (E.depend D.x D.l D.names r p k d);rw[AB];rw[AB]at YZ;have tu:=zh YZ;clear hd hon hwh hb0 hnm zi Az hn1 hn2 hS1 ha hS2 hz hS3 RS hS4 H hG hP AB YZ;go_enter Tryz.func160,Tryz.ntmps160;go_wp2_with fail;try rw[hW0]
 clear hW0;refine ahk.out.mono ?_;rintro e w1 ⟨rfl,h1⟩;have H1:=zh h1;clear h1 ahk q0;have hS0:=HS.out w1.drew (H1.out.only.drew);go_wp2_with fail;have OX:Hid (∀W,O0 w1 W->Calls Tryz.prog 224 #[.pointer (some ⟨X.px,0,none⟩),.int .i64 r] W fun e w'=>e= .returned (.int .i64 z)/\aQ W0 gt gb gp X Bs D (S2,E.2) w'):=fun W o=>by rw[<-HZ.out.1];exact aQ.call H1.out o fun gt' gb' jC Hx _=>RG Hx (r:=r) ⟨by omega,by omega⟩ z HZ.out.2.1
 have V5:Hid (∀w2,aQ W0 gt gb gp X Bs D (S2,E.2) w2->∀W,O0 w2 W->Calls Tryz.prog 225 #[.pointer (some ⟨X.c,0,none⟩),.int .i64 p,.int .i64 r,.int .i64 0,.agg #[.string d.cond.name,.slice wZ AU xq,.slice xg AV xu]] W fun e w'=>e= .returned (.int .i64 wh)/\aQ W0 gt gb gp X Bs D (S3,E.2) w'):=fun w2 h2 W o=>by rw[<-HZ.out.2.2.1];exact aQ.call h2 o fun gt' gb' jC Hx Ox=>Gg Hx HG.out (p:=p) (rule:=r) (cc:=0) UE hr6 zBB (HWh.out W Ox) hss.2 wh HZ.out.2.2.2.1
 refine aT (n:=14) (E:=fun _=>false) (S:=fun W=>W.cell? ⟨X.px,0,none⟩=some (.pointer (some ⟨X.c,0,none⟩))/\W.cell? ⟨w.heap.size,0,none⟩=some (.string d.on.name)/\W.rangeAt w.heap.size 0 [.string d.on.name,.slice wW AO wX,.slice ku AQ wY]/\W.rangeAt w.heap.size 3 [.string d.cond.name,.slice wZ AU xq,.slice xg AV xu]) zk rfl hS0 (fun hHeld=>?_);refine tW 0 ?_;refine tW 1 ?_;refine tW 3 ?_;refine tW 4 ?_;refine tW 5 ?_;refine tK 6 ?_;refine tW 7 ?_;refine tW 8 ?_;refine tW 9 ?_;refine tK 10 ?_ (hy:=by(intro w hSw;(try dsimp only at hSw);refine Eq.trans (bV (ty:=108) (x:=.tmp 35) (cs:=[.string d.cond.name,.slice wZ AU xq,.slice xg AV xu]) rfl rfl hSw.2.2.2 Tryz.underlying108 rfl zk) ?_;with_reducible rfl));refine tO 2 fun K hK=>?_;(go_simp;refine(OX.out _ zBA).mono ?_;rintro e w2 ⟨rfl,h2⟩;have oR:Only (aX gt gb gp) W0 w2:=h2.only;try go_wp2_with fail);refine hK.out _ _ ?_ (fun hHeld=>?_);·(try dsimp only)<;>(exact HS.out _ oR)
 clear hK K;try simp only[Act.put,dL,dQ,dM,dN,dO,dP]
 refine tO 11 fun K hK=>?_;(go_simp;refine(V5.out w2 h2 _ zBA).mono ?_;rintro e w3 ⟨rfl,h3⟩;try go_wp2_with fail);refine hK.out _ _ ?_ (fun hHeld=>?_);·(try dsimp only)<;>(exact HS.out _ h3.only)
 clear hK K;try simp only[Act.put,dL,dQ,dM,dN,dO,dP]
 refine tW 12 ?_;refine tW 13 ?_;refine aS zk ?_ _;have H3:=zh h3;have hz2:0<=z/\z<=65536/\0<=wh/\wh<=65536:=by have b1:=TB.kN H1.out.Hf (eH r);have b2:=TB.Gi h2.Hf D.x D.l p r 0 d.cond;rw[HZ.out.2.1]at b1;rw[HZ.out.2.2.2.1]at b2;exact⟨b1.1,b1.2,b2.1,b2.2⟩
 clear h3 h2 oR OX V5 H1 hS0;obtain⟨r0,hr0⟩:=ze (![a,z,wh].contains 0);have wJ:Hid (Calls Tryz.prog 227 #[.slice (some ⟨w3.heap.size,0,none⟩) 3 3] (w3.alloc (.cells #[.int .i64 a,.int .i64 z,.int .i64 wh] 3)) fun e w'=>e= .returned (.bool r0)/\w'=(w3.alloc (.cells #[.int .i64 a,.int .i64 z,.int .i64 wh] 3))):=
  En (OZ w3 a z wh (dX hab) (dX ⟨hz2.1,hz2.2.1⟩) (dX ⟨hz2.2.2.1,hz2.2.2.2⟩)) r0 hr0
 have hS4:(if r0=true then (S3.1,S3.2.adds (kL a [z,wh]))else S3)=S4:=by rw[<-HZ.out.2.2.2.2,<-hr0];cases[a,z,wh].contains 0<;>simp
 have HS4:=zh hS4;obtain⟨w4,hw4⟩:=ze (w3.alloc (.cells #[.int .i64 a,.int .i64 z,.int .i64 wh] 3));have H4:Hid (aQ W0 gt gb gp X Bs D (S3,E.2) w4):=by rw[<-hw4];exact H3.out.F5 (zr.alloc _)
 rw[hw4]at wJ;clear hr0 hS4 HZ;go_wp2_with fail;try rw[hw4]
 clear hw4 H3;refine wJ.out.mono ?_;rintro e w5 ⟨rfl,rfl⟩;clear wJ;go_upto_if 42 with fail;go_cut [] (fun wx=>aQ W0 gt gb gp X Bs D (S4,E.2) wx);case first=>
  cases r0 with
  |false=>
   have h4:S3=S4:=by rw[<-HS4.out];simp
   subst h4
   go_wp2_with fail
   go_meet
   exact H4.out
  |true=>
   have h4:(S3.1,S3.2.adds (kL a [z,wh]))=S4:=by rw[<-HS4.out];simp
   have zF:Hid (Calls Tryz.prog 28 #[.pointer (some ⟨X.c,0,none⟩)] w5 fun e w'=>e= .returned (.pointer (some ⟨X.bb,0,none⟩))/\aQ W0 gt gb gp X Bs D (S3,E.2) w'):=
    aQ.call H4.out zr fun gt' gb' jC Hx _=>V6 Hx
   obtain⟨q0,-⟩:=HS.out w5 H4.out.only
   clear H4
   go_wp2_with fail
   refine zF.out.mono ?_
   rintro e w6 ⟨rfl,h6⟩
   have F7:Hid (Calls Tryz.prog 228 #[.pointer (some ⟨X.bb,0,none⟩),.int .i64 a,.slice (some ⟨w6.heap.size,0,none⟩) 2 2] (w6.alloc (.cells #[.int .i64 z,.int .i64 wh] 3)) fun e w'=>e= .returned (.tuple #[])/\aQ W0 gt gb gp X Bs D (S4,E.2) w'):=by
    rw[<-h4]
    obtain⟨gt',gb',jC,Hy,A1,A2,A3,O⟩:=h6
    refine(ahj (Hy.aF (zr.alloc _)) (rC w6 z wh (dX ⟨hz2.1,hz2.2.1⟩) (dX ⟨hz2.2.2.1,hz2.2.2.2⟩)) (fun hp k hk=>?_) a ⟨by omega,by omega⟩ (fun y hy=>by simp only[qY,List.not_mem_nil,or_false]at hy;rcases hy with rfl|rfl<;>omega) zAE).mono fun e w' ⟨he,h⟩=>⟨he,aQ.trans A1 A2 A3 O (aQ.after (zr.alloc _) h)⟩
    simp[Value.blk]at hk
    subst hk
    have:=Hy.jD (qH w6.heap.size)
    exact⟨fun h=>this (.inl (.inl h)),fun h=>this (.inl (.inr h))⟩
   clear h6 h4 zF q0
   go_wp2_with fail
   refine F7.out.mono ?_
   rintro e w7 ⟨rfl,h7⟩
   have H7:=zh h7
   clear h7 F7
   go_wp2_with fail
   go_meet
   exact H7.out
 case rest=>
  have H5:=zh hcut;clear hcut H4 HS4 hz2;obtain⟨f,hf⟩:=ze (D.x.find d.on.name);have hfr:=AL D.x d.on.name;have zo:Hid (∀W,O0 wc W->Calls Tryz.prog 78 #[.pointer (some ⟨X.c,0,none⟩)] W fun e w'=>e= .returned (.agg #[.slice a1 n1 c1,.slice a2 n2 c2])/\O0 W w'):=fun W o=>by obtain⟨_,_,_,Hy,_⟩:=H5.out;exact iH (Hy.aF o).gx.gr uV.out.1 uV.out.2
  have HFd:Hid (∀W,O0 wc W->Calls Tryz.prog 182 #[.agg #[.slice a1 n1 c1,.slice a2 n2 c2],.string d.on.name] W fun e w'=>e= .returned (.int .i64 f)/\O0 W w'):=fun W o=>by obtain⟨_,_,_,Hy,_⟩:=H5.out;have h:=(Hy.aF o).gx.yZ;rw[uV.out.1,uV.out.2]at h;have h2:=lK h d.on.name;rw[hf]at h2;exact h2
  rw[hf]at hfr tu;rw[He.out]at hfr;clear hf;go_wp2_with fail;refine rJ (fun W=>O0 wc W) zk zk (by exact zr.drew) ?_;iterate 4 refine qV ?_ (hy:=zAO)
  refine nN (v:=.agg #[.slice a1 n1 c1,.slice a2 n2 c2]) (f:=78) (args:= #[.pointer (some ⟨X.c,0,none⟩)]) (by rfl) ?_ ?_ ?_;·exact zBj
  ·exact zDW
  try simp only[Act.put,dL,dQ,dM,dN,dO,dP]
  iterate 3 refine qV ?_ (hy:=zAO)
  refine nN (v:=.int .i64 f) (f:=182) (args:= #[.agg #[.slice a1 n1 c1,.slice a2 n2 c2],.string d.on.name]) (by rfl) ?_ ?_ ?_;·exact zBj
  ·exact zDT
  try simp only[Act.put,dL,dQ,dM,dN,dO,dP]
  refine qV ?_ (hy:=zAO);refine wpQuiet_nil ?_;intro w6 O6;have H6:=zh (H5.out.F5 O6);clear O6 H5 zo HFd;rcases hfr with rfl| ⟨f',rfl,hf'⟩
  ·rw[if_neg zBB]at tu;obtain⟨zn,hzn⟩:=ze (ES.Jy (S4,E.2) D.names d.on.name);obtain⟨j,hj⟩:=ze (bP D.names d.on.name);have hjr:=y9 D.names d.on.name;have HNT:Hid (ES.F6 (S4,E.2) D.names d.on.name=if j<0 then S4 else (S4.num (eG j.toNat)).1):=by unfold ES.F6;rw[hj];exact rfl
   have HZn:Hid ((if j<0 then (0:Int)else (S4.num (eG j.toNat)).2)=zn):=by rw[<-hzn];unfold ES.Jy;rw[hj];exact rfl
   have zD:Hid (Calls Tryz.prog 226 #[.pointer (some ⟨X.px,0,none⟩),.string d.on.name] w6 fun e w'=>e= .returned (.tuple #[.int .i64 zn,.int .i64 j])/\aQ W0 gt gb gp X Bs D ((if j<0 then S4 else (S4.num (eG j.toNat)).1),E.2) w'):=by rw[<-HNT.out];exact aQ.call H6.out zr fun gt' gb' jC Hx _=>YC Hx HG.out.nl d.on.name j zn hj hzn
   rw[hj]at hjr tu;have ahl:=H6.out.Hf;obtain⟨q0,q1,-⟩:=HS.out w6 H6.out.only;clear hzn hj HNT H6;go_wp2_with fail;refine zD.out.mono ?_;rintro e w8 ⟨rfl,h8⟩;have H8:=zh h8;clear h8 zD q0 q1;obtain⟨q0,-⟩:=HS.out w8 H8.out.only;have ewz:=zw (-a);rcases hjr with rfl| ⟨j',rfl,hj'⟩
   ·rw[if_pos zBB]at H8 tu;have h9:=tu.out;subst h9;have lQ:Hid (Calls Tryz.prog 163 #[.pointer (some ⟨X.c,0,none⟩),.slice (some ⟨w8.heap.size,0,none⟩) 1 1] (w8.alloc (.cells #[.int .i64 (-a)] 3)) fun e w'=>e= .returned (.tuple #[])/\aQ W0 gt gb gp X Bs D (S4.aV [-a],E.2) w'):=
     aQ.call H8.out (zr.alloc _) fun gt' gb' jC Hx _=>xR Hx (YT w8 (-a) (bW hab)) zAE
    clear H8;go_wp2_with fail;refine lQ.out.mono ?_;rintro e w9 ⟨rfl,h9⟩;have H9:=zh (aQ.after iM.out h9);clear h9 lQ;exact zB6
   rw[if_neg zBB,yT]at H8 HZn tu;have ad3:0<=zn/\zn<=65536:=by rw[<-HZn.out];exact TB.kN ahl _
   rw[HZn.out]at tu;obtain⟨S5,hS5⟩:=ze ((S4.num (eG j')).1);rw[hS5]at H8 tu;have lQ:Hid (Calls Tryz.prog 163 #[.pointer (some ⟨X.c,0,none⟩),.slice (some ⟨w8.heap.size,0,none⟩) 2 2] (w8.alloc (.cells #[.int .i64 (-a),.int .i64 zn] 3)) fun e w'=>e= .returned (.tuple #[])/\aQ W0 gt gb gp X Bs D (S5.aV [-a,zn],E.2) w'):=
    aQ.call H8.out (zr.alloc _) fun gt' gb' jC Hx _=>xR Hx (rC w8 (-a) zn (bW hab) (dX ad3)) zAE
   obtain⟨S6,hS6⟩:=ze (S5.aV [-a,zn]);rw[hS6]at lQ tu;clear H8 hS5 HZn hS6;go_wp2_with fail;refine lQ.out.mono ?_;rintro e w9 ⟨rfl,h9⟩;have H9:=zh h9;clear h9 lQ q0 ewz;obtain⟨pK,pO,nZ,H4,A4,B4,C4,O4⟩:=H9.out;obtain⟨b,cap,v,hsv,hrow,hSS,hpu⟩:=H4.pJ (n:=j') hj' (z:=a) (dX hab);have hrl:=xE.out.nr j';obtain⟨xs,hxs⟩:=ze (E.2.needs.getD j' []);rw[show(S6,E.2).2.needs.getD j' []=xs from hxs]at hrow hpu;rw[hxs]at hrl;obtain⟨ao,YW,rfl,-,-⟩:=hrow.shape;obtain⟨n,hn⟩:=ze xs.length;simp only[qM]at hrow hSS;rw[hn]at hrow hrl hSS;obtain⟨nn,hnn⟩:=ze D.names.length;rw[hnn]at hsv hj';rw[hsv]at hSS;have ad4:nn<=1000000:=by rw[<-hnn];exact HG.out.nl
   have BI:Hid (∀W,Only (fun k=>nZ k=(2,j'+1)) w9 W->W.cell? ⟨X.px,3,none⟩=some (.slice (some ⟨b,0,none⟩) nn cap)/\W.cell? ⟨b,j',none⟩=some (.slice ao n YW)/\W.frozen? ⟨b,j',none⟩=false):=hSS;have qp:=zh hrow;have Xh:Hid (∀wA w5 v',O0 w9 wA->Only (fun k=>nZ k=(2,j'+1)) wA w5->Row w5 (Tag.put nZ wA.heap.size w5.heap.size (2,j'+1)) (2,j'+1) 3 v' (xs.map cI++[cI a])->aQ W0 gt gb gp X Bs D (S6,{E.2 with needs:=jK E.2.needs j' a}) (w5.setCell ⟨b,j',none⟩ v')):=fun wA w5 v' o1 o2 hr=>aQ.trans A4 B4 C4 O4 (hpu wA w5 v' o1 o2 hr);have HN:=zh hn;have hS0:=BI.out w9.drew (zr.drew);clear hrow hSS hpu hxs hn H4 A4 B4 C4 O4 hsv hnn H9;go_wp2_with fail;refine aT (n:=17) (E:=fun j=>j==16) (S:=fun W=>W.cell? ⟨X.px,3,none⟩=some (.slice (some ⟨b,0,none⟩) nn cap)/\W.cell? ⟨b,j',none⟩=some (.slice ao n YW)/\W.frozen? ⟨b,j',none⟩=false) zk rfl hS0 (fun hHeld=>?_);refine tW 0 ?_;refine tW 1 ?_;refine tW 2 ?_;refine tK 3 ?_;refine tW 4 ?_;refine tW 5 ?_;refine tW 6 ?_;refine tW 7 ?_;refine tK 8 ?_;refine tW 9 ?_;refine tW 10 ?_;refine tK 11 ?_;refine tW 12 ?_;refine tO 13 fun K hK=>?_;go_simp;refine hK.out _ _ ?_ (fun hHeld=>?_);·exact zDy
   clear hK K;try simp only[Act.put,dL,dQ,dM,dN,dO,dP]
   refine tO 14 fun K hK=>?_;(refine Row.step (u:=.int .i64 a) kF (by rfl) (.tmp 132) (.tmp 134) (by rfl) zBT (by rfl) zBN rfl zBE zBW zAC ?_;intro bb5 cap5 w10 NI Ef);refine hK.out _ _ ?_ (fun hHeld=>?_);·exact zD3
   clear hK K;try simp only[Act.put,dL,dQ,dM,dN,dO,dP]
   refine tW 15 ?_;refine eY (rs:=[16]) zk zAE ?_;refine bD.late (i:=16) rfl zk (fun K hK=>?_) ?_
   ·(obtain⟨s1,s2,s3⟩:=hHeld;go_simp);refine hK.out _ _ ?_;clear hK K;try simp only[Act.put,dL,dQ,dM,dN,dO,dP]
    refine aS zk ?_ _;have Xi:Hid (aQ W0 gt gb gp X Bs D (S6,{E.2 with needs:=jK E.2.needs j' a}) (w10.setCell ⟨b,j',none⟩ (.slice (some ⟨bb5,0,none⟩) (List.length (xs.map cI)+1) cap5))):=Xh.out _ w10 _ zBA Ef NI;simp only[qM]at Xi;obtain⟨RP,ad6⟩:=ze (w10.setCell ⟨b,j',none⟩ (.slice (some ⟨bb5,0,none⟩) (xs.length+1) cap5));rw[ad6]at Xi;try simp only[qM]
    rw[ad6];clear NI Ef Xh qp BI hS0;obtain⟨P1,hP1⟩:∃P,({E.2 with needs:=jK E.2.needs j' a}:dR)=P:=⟨_,rfl⟩;have ako:Hid (oL P1 900001):=by rw[<-hP1];exact(xE.out.pJ j' a).mono zBB
    rw[hP1]at Xi tu;obtain⟨pv,hpv⟩:=ze (D.x.bZ d.on.name);have hpl:=tq D.x d.on.name;have zo:Hid (∀W,O0 RP W->Calls Tryz.prog 78 #[.pointer (some ⟨X.c,0,none⟩)] W fun e w'=>e= .returned (.agg #[.slice a1 n1 c1,.slice a2 n2 c2])/\O0 W w'):=fun W o=>by obtain⟨_,_,_,Hy,_⟩:=Xi.out;exact iH (Hy.aF o).gx.gr uV.out.1 uV.out.2
    have J6:Hid (∀W,O0 RP W->Calls Tryz.prog 165 #[.agg #[.slice a1 n1 c1,.slice a2 n2 c2],.string d.on.name] W fun e w'=> ∃v,e= .returned v/\w'.ownsRow 0 3 1 v (D.x.bZ d.on.name).length (iK (D.x.bZ d.on.name))/\(∀k,v.ownBlock=some k->W.heap.size<=k)/\O0 W w'):=fun W o=>by obtain⟨_,_,_,Hy,_⟩:=Xi.out;have h:=(Hy.aF o).gx.yZ;rw[uV.out.1,uV.out.2]at h;exact kG h (by rw[He.out];omega) d.on.name
    rw[hpv]at J6 hpl tu;have h9:=tu.out;subst h9;obtain⟨nt,hnt⟩:=ze pv.length;rw[hnt]at J6 hpl;rw[He.out]at hpl;have HTl:=zh hpl.2;have ahc:=hpl.1;have Q7:=zh hnt;have hS0:=HS.out RP.drew (Xi.out.only.drew);clear hpv hpl hnt hP1 ad6;go_wp2_with fail;refine aT (n:=11) (E:=fun _=>false) (S:=fun W=>W.cell? ⟨X.px,0,none⟩=some (.pointer (some ⟨X.c,0,none⟩))/\W.cell? ⟨w.heap.size,0,none⟩=some (.string d.on.name)/\W.rangeAt w.heap.size 0 [.string d.on.name,.slice wW AO wX,.slice ku AQ wY]/\W.rangeAt w.heap.size 3 [.string d.cond.name,.slice wZ AU xq,.slice xg AV xu]) zk rfl hS0 (fun hHeld=>?_);refine tW 0 ?_;refine tW 1 ?_;refine tW 2 ?_;refine tK 3 ?_;refine tW 5 ?_;refine tW 6 ?_;refine tK 7 ?_;refine tW 10 ?_;refine tO 4 fun K hK=>?_;(go_simp;refine(zo.out _ zAA).mono ?_;rintro e w12 ⟨rfl,o2⟩;have oA:O0 RP w12:=Only.same zBA o2;try go_wp2_with fail);refine hK.out _ _ ?_ (fun hHeld=>?_);·(try dsimp only)<;>(exact HS.out _ (Xi.out.only.same (oA.mono fun _ f=>f.elim)))
    clear hK K;try simp only[Act.put,dL,dQ,dM,dN,dO,dP]
    refine tO 8 fun K hK=>?_;(go_simp;refine(J6.out _ zAD).mono ?_;rintro e Pg ⟨vt,rfl,r3,b3,o3⟩;have oB:O0 RP Pg:=Only.same zBD o3;obtain⟨at3,ct3,rfl,kt3,-⟩:=aH r3;try go_wp2_with fail);refine hK.out _ _ ?_ (fun hHeld=>?_);·(try dsimp only)<;>(exact HS.out _ (Xi.out.only.same (oB.mono fun _ f=>f.elim)))
    clear hK K;try simp only[Act.put,dL,dQ,dM,dN,dO,dP]
    refine tW 9 ?_;refine aS zk ?_ _;have TU:Hid (Pg.ownsRow 0 3 1 (.slice at3 nt ct3) nt (iK pv)):=r3;obtain⟨DJ,DK,Gl,ad7,A5,B5,C5,O5a⟩:=Xi.out;have H13:=zh (ad7.aF oB);have O5:Only (aX gt gb gp) W0 Pg:=O5a.same (oB.mono fun _ f=>f.elim);have zq:Hid (∀k,(Value.slice at3 nt ct3).ownBlock=some k->¬aX DJ DK Gl k):=fun k hk hm=>by have h1:=b3 k hk;have h2:RP.heap.size<=k:=qR (qR oA.size (by first|exact qH _| (simp[World.drew,World.drewN]))) h1;exact ad7.jD h2 hm
    have yS:Hid (∀E2 W,aQ Pg DJ DK Gl X Bs D E2 W->aQ w gt gb gp X Bs D E2 W):=fun E2 W h=>aQ.after iM.out (aQ.trans A5 B5 C5 O5 h);have Y0:Hid (∀W,Only (aX DJ DK Gl) Pg W->W.cell? ⟨X.px,0,none⟩=some (.pointer (some ⟨X.c,0,none⟩))/\W.cell? ⟨w.heap.size,0,none⟩=some (.string d.on.name)/\W.rangeAt w.heap.size 0 [.string d.on.name,.slice wW AO wX,.slice ku AQ wY]/\W.rangeAt w.heap.size 3 [.string d.cond.name,.slice wZ AU xq,.slice xg AV xu]):=fun W o=>HS.out W (O5.sZ A5 B5 C5 o);have xU:Hid (aQ Pg DJ DK Gl X Bs D (ES.bZ (S6,P1) p a (pv.take 0)) Pg):=aQ.refl H13.out;clear r3 b3 o3 o2 oB oA ad7 A5 B5 C5 O5 O5a zo J6 Xi hS0;go_wp2_with fail;go_loopw [147] (fun vi wr=> ∃i:Nat,vi= .int .i64 i/\i<=nt/\Hid (aQ Pg DJ DK Gl X Bs D (ES.bZ (S6,P1) p a (pv.take i)) wr)) (fun v _=>nt-(RowKit.intOf v).toNat);case atStart=>exact⟨0,rfl,qE _,xU⟩
    case round=>
     clear xU;obtain⟨i,rfl,hi,HR⟩:=hrel;by_cases ci:i<nt
     ·obtain⟨t,ht⟩:=zG pv i (by rw[Q7.out];exact ci);have hcell:wr.cell? ⟨(match at3 with|some a=>a.block|none=>0),i,none⟩=some (.int .i64 t)/\∃b,at3=some ⟨b,0,none⟩:=by have hrow:=aB TU.out HR.out.only zq.out;exact zDx
      obtain⟨hcell,bt3,rfl⟩:=hcell;have jg:=zw (i+1);have htb:t<=1000:=by have:=HTl.out t (qT ht);omega
      obtain⟨E5,hE5⟩:=ze (ES.bZ (S6,P1) p a (pv.take i));have ahm:oL E5.2 910000:=by rw[<-hE5];exact(ES.tq (E:=(S6,P1)) ako.out p a (pv.take i)).mono zAZ
      have jr:Hid (ES.bZ (S6,P1) p a (pv.take (i+1))=E5.CQ p a t):=by show _=_;rw[List.take_add_one,ht];simp only[Option.toList_some];rw[ES.RQ,hE5]
      rw[hE5]at HR;obtain⟨zd,hzd⟩:=ze ((E5.1.num (aG t)).2);obtain⟨S7,hS7⟩:=ze ((E5.1.num (aG t)).1);have ahn:0<=zd/\zd<=65536:=by rw[<-hzd];exact TB.kN HR.out.Hf _
      have Jw:Hid (∀W,O0 wr W->Calls Tryz.prog 164 #[.pointer (some ⟨X.c,0,none⟩),.int .i64 t] W fun e w'=>e= .returned (.int .i64 zd)/\aQ Pg DJ DK Gl X Bs D (S7,E5.2) w'):=fun W o=>by rw[<-hS7];exact aQ.call HR.out o fun gt' gb' jC Hx _=>ad5 Hx (p:=t) zBB zd hzd
      obtain⟨zg,hzg⟩:=ze ((ES.goes (S7,E5.2) p t a).2);obtain⟨E8,hE8⟩:=ze ((ES.goes (S7,E5.2) p t a).1);have HGo:Hid (∀w9,aQ Pg DJ DK Gl X Bs D (S7,E5.2) w9->∀W,O0 w9 W->Calls Tryz.prog 229 #[.pointer (some ⟨X.px,0,none⟩),.int .i64 p,.int .i64 t,.int .i64 a] W fun e w'=>e= .returned (.int .i64 zg)/\aQ Pg DJ DK Gl X Bs D E8 w'):=fun w9 h9 W o=>by rw[<-hE8];exact aQ.call h9 o fun gt' gb' jC Hx _=>YR Hx UE zAB (dX hab) ahm zBB zg hzg
      have HZg:Hid (∀w9,aQ Pg DJ DK Gl X Bs D (S7,E5.2) w9->0<=zg/\zg<=65536):=fun w9 h9=>by rw[<-hzg];exact TB.kN h9.Hf _
      have lQ:Hid (∀w8 W,aQ Pg DJ DK Gl X Bs D E8 w8->O0 w8 W->Ints W (.slice (some ⟨w8.heap.size,0,none⟩) 3 3) [-a,-zd,zg]->Calls Tryz.prog 163 #[.pointer (some ⟨X.c,0,none⟩),.slice (some ⟨w8.heap.size,0,none⟩) 3 3] W fun e w'=>e= .returned (.tuple #[])/\aQ Pg DJ DK Gl X Bs D (ES.bZ (S6,P1) p a (pv.take (i+1))) w'):=fun w8 W h8 o hI=>by
       rw[jr.out];have e:E5.CQ p a t=(E8.1.aV [-a,-zd,zg],E8.2):=by unfold ES.CQ;rw[hzd,hS7,hzg,hE8]
       rw[e];exact aQ.call h8 o fun gt' gb' jC Hx _=>xR Hx hI zAE
      have ewa:=zw (-a);have ewd:=zw (-zd);have hS0:=Y0.out wr.drew (HR.out.only.drew);have Eo:=zh jg;clear ht hE5 ahm hzd hS7 hzg hE8 jg jr;go_wp2_with fail;refine aT (n:=20) (E:=fun _=>false) (S:=fun W=>W.cell? ⟨X.px,0,none⟩=some (.pointer (some ⟨X.c,0,none⟩))/\W.cell? ⟨w.heap.size,0,none⟩=some (.string d.on.name)/\W.rangeAt w.heap.size 0 [.string d.on.name,.slice wW AO wX,.slice ku AQ wY]/\W.rangeAt w.heap.size 3 [.string d.cond.name,.slice wZ AU xq,.slice xg AV xu]) zk rfl hS0 (fun hHeld=>?_);refine tW 0 ?_;refine tW 1 ?_;refine tW 2 ?_;refine tK 3 ?_;refine tW 4 ?_;refine tW 5 ?_;refine tW 6 ?_;refine tW 7 ?_;refine tW 8 ?_;refine tK 9 ?_;refine tW 10 ?_;refine tW 13 ?_;refine tW 14 ?_;refine tW 15 ?_;refine tW 16 ?_;refine tO 11 fun K hK=>?_;(go_simp;refine(Jw.out _ zBA).mono ?_;rintro e w14 ⟨rfl,h14⟩;have oM:Only (aX DJ DK Gl) Pg w14:=h14.only;try go_wp2_with fail);refine hK.out _ _ ?_ (fun hHeld=>?_);·(try dsimp only)<;>(exact Y0.out _ oM)
      clear hK K;try simp only[Act.put,dL,dQ,dM,dN,dO,dP]
      refine tW 12 ?_;refine tO 17 fun K hK=>?_;(go_simp;refine(HGo.out w14 h14 _ zBA).mono ?_;rintro e w15 ⟨rfl,h15⟩;have Ph:=HZg.out w14 h14;have oG:Only (aX DJ DK Gl) Pg w15:=h15.only;try go_wp2_with fail);refine hK.out _ _ ?_ (fun hHeld=>?_);·(try dsimp only)<;>(exact Y0.out _ oG)
      clear hK K;try simp only[Act.put,dL,dQ,dM,dN,dO,dP]
      refine tO 18 fun K hK=>?_;go_simp;refine hK.out _ _ ?_ (fun hHeld=>?_);·(try dsimp only)<;>(exact Y0.out _ (by repeat (first|exact Only.refl _ _|exact oG|apply Only.drew|apply Only.alloc|apply Only.drewN)))
      clear hK K;try simp only[Act.put,dL,dQ,dM,dN,dO,dP]
      refine tO 19 fun K hK=>?_;(go_simp;refine(lQ.out w15 _ h15 zAA (by first|exact OZ _ _ _ _ (bW hab) (bW ahn) (dX Ph)|exact(OZ w15 _ _ _ (bW hab) (bW ahn) (dX Ph)).aF zBA)).mono ?_;rintro e w16 ⟨rfl,h16⟩;try go_wp2_with fail);refine hK.out _ _ ?_ (fun hHeld=>?_);·(try dsimp only)<;>(exact Y0.out _ h16.only)
      clear hK K;try simp only[Act.put,dL,dQ,dM,dN,dO,dP]
      refine aS zk ?_ _;have H16:=zh h16;have jg:=Eo.out;clear h16 h15 h14 oM oG Jw HGo lQ HZg HR hS0 ewa ewd;go_wp2_with fail;go_roundw;case rel=>exact⟨i+1,by first|rfl|go_num,by omega,H16⟩
      case measure=>simp[RowKit.intOf]<;>omega
     obtain rfl:nt=i:=by omega
     have HF:=HR.out;rw[qI (yG Q7.out)]at HF;have HF2:=zh (yS.out _ _ HF);clear HF HR;go_wp2_with fail;go_end0;exact⟨rfl,HF2.out⟩
   exact bD.nil
  rw[if_pos zBB,yT]at tu;obtain⟨zm,hzm⟩:=ze ((S4.meet D.x D.l f' r 1 d.on).2);obtain⟨S5,hS5⟩:=ze ((S4.meet D.x D.l f' r 1 d.on).1);have OY:0<=zm/\zm<=65536:=by rw[<-hzm];exact TB.Gi H6.out.Hf _ _ _ _ _ _
  have V5:Hid (∀W,O0 w6 W->Calls Tryz.prog 225 #[.pointer (some ⟨X.c,0,none⟩),.int .i64 f',.int .i64 r,.int .i64 1,.agg #[.string d.on.name,.slice wW AO wX,.slice ku AQ wY]] W fun e w'=>e= .returned (.int .i64 zm)/\aQ W0 gt gb gp X Bs D (S5,E.2) w'):=fun W o=>by rw[<-hS5];exact aQ.call H6.out o fun gt' gb' jC Hx Ox=>Gg Hx HG.out (p:=f') (rule:=r) (cc:=1) zAB hr6 zBB (HOn.out W Ox) hss.1 zm hzm
  obtain⟨S6,hS6⟩:=ze (S5.aV [-a,zm]);have lQ:Hid (∀w8 W,aQ W0 gt gb gp X Bs D (S5,E.2) w8->O0 w8 W->Ints W (.slice (some ⟨w8.heap.size,0,none⟩) 2 2) [-a,zm]->Calls Tryz.prog 163 #[.pointer (some ⟨X.c,0,none⟩),.slice (some ⟨w8.heap.size,0,none⟩) 2 2] W fun e w'=>e= .returned (.tuple #[])/\aQ W0 gt gb gp X Bs D (S6,E.2) w'):=fun w8 W h8 o hI=>by rw[<-hS6];exact aQ.call h8 o fun gt' gb' jC Hx _=>xR Hx hI zAE
  rw[hzm,hS5,hS6]at tu;obtain⟨zg,hzg⟩:=ze ((ES.goes (S6,E.2) p f' a).2);obtain⟨E7,hE7⟩:=ze ((ES.goes (S6,E.2) p f' a).1);have HGo:Hid (∀w9,aQ W0 gt gb gp X Bs D (S6,E.2) w9->∀W,O0 w9 W->Calls Tryz.prog 229 #[.pointer (some ⟨X.px,0,none⟩),.int .i64 p,.int .i64 f',.int .i64 a] W fun e w'=>e= .returned (.int .i64 zg)/\aQ W0 gt gb gp X Bs D E7 w'):=fun w9 h9 W o=>by rw[<-hE7];exact aQ.call h9 o fun gt' gb' jC Hx _=>YR Hx UE zAB (dX hab) xE.out zBB zg hzg
  have Ph:∀w9,aQ W0 gt gb gp X Bs D (S6,E.2) w9->0<=zg/\zg<=65536:=fun w9 h9=>by rw[<-hzg];exact TB.kN h9.Hf _
  have HZg:=zh Ph;have akt:Hid (∀w8 W,aQ W0 gt gb gp X Bs D E7 w8->O0 w8 W->Ints W (.slice (some ⟨w8.heap.size,0,none⟩) 2 2) [-a,zg]->Calls Tryz.prog 163 #[.pointer (some ⟨X.c,0,none⟩),.slice (some ⟨w8.heap.size,0,none⟩) 2 2] W fun e w'=>e= .returned (.tuple #[])/\aQ W0 gt gb gp X Bs D (E7.1.aV [-a,zg],E7.2) w'):=fun w8 W h8 o hI=>
   aQ.call h8 o fun gt' gb' jC Hx _=>xR Hx hI zAE
  rw[hzg,hE7]at tu;have h9:=tu.out;subst h9;have ewz:=zw (-a);have hS0:=HS.out w6.drew (H6.out.only.drew);have oN:=H6.out.only;clear hzm hS5 hS6 hzg hE7 Ph H6 oN;go_wp2_with fail;refine aT (n:=17) (E:=fun _=>false) (S:=fun W=>W.cell? ⟨X.px,0,none⟩=some (.pointer (some ⟨X.c,0,none⟩))/\W.cell? ⟨w.heap.size,0,none⟩=some (.string d.on.name)/\W.rangeAt w.heap.size 0 [.string d.on.name,.slice wW AO wX,.slice ku AQ wY]/\W.rangeAt w.heap.size 3 [.string d.cond.name,.slice wZ AU xq,.slice xg AV xu]) zk rfl hS0 (fun hHeld=>?_);refine tW 0 ?_;refine tW 1 ?_;refine tW 2 ?_;refine tK 3 ?_;refine tW 4 ?_;refine tW 5 ?_;refine tW 6 ?_;refine tW 7 ?_;refine tW 8 ?_;refine tK 9 ?_;refine tW 10 ?_;refine tW 11 ?_;refine tW 12 ?_;refine tK 13 ?_ (hy:=by(intro w hSw;(try dsimp only at hSw);refine Eq.trans (bV (ty:=108) (x:=.tmp 76) (cs:=[.string d.on.name,.slice wW AO wX,.slice ku AQ wY]) rfl rfl hSw.2.2.1 Tryz.underlying108 rfl zk) ?_;with_reducible rfl));refine tO 14 fun K hK=>?_;(go_simp;refine(V5.out _ zBA).mono ?_;rintro e w8 ⟨rfl,h8⟩;have oM:Only (aX gt gb gp) W0 w8:=h8.only;try go_wp2_with fail);refine hK.out _ _ ?_ (fun hHeld=>?_);·exact zCX
  clear hK K;try simp only[Act.put,dL,dQ,dM,dN,dO,dP]
  refine tO 15 fun K hK=>?_;go_simp;refine hK.out _ _ ?_ (fun hHeld=>?_);·exact zCV
  clear hK K;try simp only[Act.put,dL,dQ,dM,dN,dO,dP]
  refine tO 16 fun K hK=>?_;(go_simp;refine(lQ.out w8 _ h8 zAA (by first|exact rC _ _ _ (bW hab) (dX OY)|exact(rC w8 _ _ (bW hab) (dX OY)).aF zBA)).mono ?_;rintro e w9 ⟨rfl,h9⟩;try go_wp2_with fail);refine hK.out _ _ ?_ (fun hHeld=>?_);·exact zCN
  clear hK K;try simp only[Act.put,dL,dQ,dM,dN,dO,dP]
  refine aS zk ?_ _;have H9:=zh h9;clear h9 h8 oM V5 lQ hS0;have hS0:=HS.out w9.drew (H9.out.only.drew);have Ph:=HZg.out w9 H9.out;clear HZg;go_wp2_with fail;refine aT (n:=13) (E:=fun _=>false) (S:=fun W=>W.cell? ⟨X.px,0,none⟩=some (.pointer (some ⟨X.c,0,none⟩))/\W.cell? ⟨w.heap.size,0,none⟩=some (.string d.on.name)/\W.rangeAt w.heap.size 0 [.string d.on.name,.slice wW AO wX,.slice ku AQ wY]/\W.rangeAt w.heap.size 3 [.string d.cond.name,.slice wZ AU xq,.slice xg AV xu]) zk rfl hS0 (fun hHeld=>?_);refine tW 0 ?_;refine tW 1 ?_;refine tW 2 ?_;refine tK 3 ?_;refine tW 4 ?_;refine tW 5 ?_;refine tW 6 ?_;refine tW 7 ?_;refine tW 8 ?_;refine tW 9 ?_;refine tO 10 fun K hK=>?_;(go_simp;refine(HGo.out w9 H9.out _ zBA).mono ?_;rintro e w10 ⟨rfl,h10⟩;have oM:Only (aX gt gb gp) W0 w10:=h10.only;try go_wp2_with fail);refine hK.out _ _ ?_ (fun hHeld=>?_);·exact zCX
  clear hK K;try simp only[Act.put,dL,dQ,dM,dN,dO,dP]
  refine tO 11 fun K hK=>?_;go_simp;refine hK.out _ _ ?_ (fun hHeld=>?_);·exact zCV
  clear hK K;try simp only[Act.put,dL,dQ,dM,dN,dO,dP]
  refine tO 12 fun K hK=>?_;(go_simp;refine(akt.out w10 _ h10 zAA (by first|exact rC _ _ _ (bW hab) (dX Ph)|exact(rC w10 _ _ (bW hab) (dX Ph)).aF zBA)).mono ?_;rintro e RP ⟨rfl,h11⟩;try go_wp2_with fail);refine hK.out _ _ ?_ (fun hHeld=>?_);·(try dsimp only)<;>(exact HS.out _ h11.only)
  clear hK K;try simp only[Act.put,dL,dQ,dM,dN,dO,dP]
  refine aS zk ?_ _;have H11:=zh (aQ.after iM.out h11);clear h11 h10 oM;go_wp2_with fail;((try simp only[Exit.inBlock,Exit.then]);refine bodyPost_ret (results_none rfl _ _ _) rfl ?_);exact⟨rfl,H11.out⟩
end
end Go.Proofs.YtdmmebjjojimiaaGreatDoor
