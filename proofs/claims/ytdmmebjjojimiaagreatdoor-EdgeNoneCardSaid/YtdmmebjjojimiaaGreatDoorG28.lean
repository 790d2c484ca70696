/- Package edge: conflict. Printed by gen_edw8.py. -/
import Derived.Test.YtdmmebjjojimiaaGreatDoorG27
set_option maxRecDepth 100000
set_option maxHeartbeats 8000000
set_option linter.all false
namespace Go.Proofs
theorem zAn{p:Prop}(h:p:=by(intro w hSw;(try dsimp only at hSw);obtain⟨p0,p1,-⟩:=HS.out w (H3.out.only.same (hSw.mono fun _ f=>f.elim));go_simp<;>(try with_reducible rfl))):p:=h
end Go.Proofs
namespace Go.Proofs.YtdmmebjjojimiaaGreatDoor
open Go.RowKit
theorem sU.cells2{B:Nat}{w:World}{cs:List Value}{x:Ai}(h:sU B w cs x):∃c1 c2,cs=c1++c2++[.int .i64 x.line]/\eF B w c1 x.cond/\eF B w c2 x.with':=by obtain⟨c1,c2,e,h1,h2,-⟩:=h;exact⟨c1,c2,e,h1,h2⟩
theorem ES.JO(E:ES)(x:aH)(l:List Nat)(r p:Nat)(c:Ai){S1 S2:TB}{z wh:Int}(e1:E.1.num (iK r)=(S1,z))(e2:S1.meet x l p r 0 c.cond=(S2,wh)):E.conflict x l r p c=(if c.with'.name=ByteArray.empty then (S2.dD [-z,-wh],E.2)else if 0<=x.find c.with'.name/\(x.find c.with'.name).toNat∈l then ((S2.meet x l (x.find c.with'.name).toNat r 1 c.with').1.dD [-z,-wh,-(S2.meet x l (x.find c.with'.name).toNat r 1 c.with').2],E.2)else (S2,E.2)):=by unfold ES.conflict;dsimp only;rw[e1];dsimp only;rw[e2]
section
variable {w w':World} {gt gb gp:Tag} {X:NV} {Bs:Nat} {D:Dn} {E:ES}
theorem aiH(H:jW w gt gb gp X Bs D E)(f:Int)(hf:f= -1\/ ∃k:Nat,f=k)(r:Bool)(hr:decide (0<=f/\f.toNat∈D.l)=r):Calls Tryz.prog 230 #[.pointer (some ⟨X.c,0,none⟩),.int .i64 f] w fun e w'=>e= .returned (.bool r)/\bV w gt gb gp X Bs D E w':=by
 have h:=ac9 H.gx.gr H.gx.l f;have e:(intsOf D.l).contains f=r:=by
  rw[<-hr];rcases hf with rfl| ⟨k,rfl⟩
  ·rw[Bool.eq_iff_iff,List.contains_iff_mem,yP];unfold intsOf;rw[yD];constructor;·rintro⟨j,hj,e⟩;omega
   rintro⟨h1,-⟩;omega
  rw[EK];exact decide_eq_decide.2 ⟨fun h=>⟨by omega,by rw[yT];exact h⟩,fun h=>by have:=h.2;rwa[yT]at this⟩
 rw[e]at h;exact h.mono fun e w' ⟨he,h⟩=>⟨he,(bV.refl H).Qn h⟩
attribute [local irreducible] wpQuiet in
theorem XU(H:jW w gt gb gp X Bs D E)(hG:EdG D){r p:Nat}(hr6:r<=1000000)(hp6:p<=1000000){css:List Value}{d:Ai}(hd:sU Bs w css d)(hss:d.cond.sets.length<=900000/\d.with'.sets.length<=900000):Calls Tryz.prog 161 #[.pointer (some ⟨X.px,0,none⟩),.int .i64 r,.int .i64 p,.agg css.toArray] w fun e w'=>e= .returned (.tuple #[])/\bV w gt gb gp X Bs D (E.conflict D.x D.l r p d) w':=by
 have HG:=zh hG;have hpk:=hG.mid.packs;obtain⟨cw,co,rfl,hwh,hon⟩:=hd.cells2;obtain⟨Ee,Ef,Eh,Ej,rfl,-,-,-⟩:=hwh.cells;obtain⟨Eb,oJ,Ec,Ed,rfl,-,-,-⟩:=hon.cells;obtain⟨Hw,e1⟩:=ze d.with'.spans.length;obtain⟨Hz,e2⟩:=ze d.with'.sets.length;obtain⟨Ia,e3⟩:=ze d.cond.spans.length;obtain⟨Ib,e4⟩:=ze d.cond.sets.length;rw[e1,e2]at hon;rw[e3,e4]at hwh;rw[e1,e2,e3,e4];clear e1 e2 e3 e4;obtain⟨W0,hW0⟩:=ze (w.alloc (.cells #[.string d.cond.name,.slice Ee Ia Eh,.slice Ef Ib Ej,.string d.with'.name,.slice Eb Hw Ec,.slice oJ Hz Ed,.int .i64 d.line] 160));have hb0:W0.heap[w.heap.size]? =some (.cells #[.string d.cond.name,.slice Ee Ia Eh,.slice Ef Ib Ej,.string d.with'.name,.slice Eb Hw Ec,.slice oJ Hz Ed,.int .i64 d.line] 160 (0,0)):=zAt;have nJ:Hid (O0 w W0):=zAr;have hnm:=H.nN (qH w.heap.size);have H0:=zh (H.aN nJ.out);have HS:Hid (∀W,Only (dF gt gb gp) W0 W->W.cell? ⟨X.px,0,none⟩=some (.pointer (some ⟨X.c,0,none⟩))/\W.cell? ⟨w.heap.size,3,none⟩=some (.string d.with'.name)/\W.rangeAt w.heap.size 3 [.string d.with'.name,.slice Eb Hw Ec,.slice oJ Hz Ed]/\W.rangeAt w.heap.size 0 [.string d.cond.name,.slice Ee Ia Eh,.slice Ef Ib Ej]):=fun W o=>by exact zCc
 have Jv:Hid (∀W,Only (dF gt gb gp) W0 W->eF Bs W [.string d.with'.name,.slice Eb Hw Ec,.slice oJ Hz Ed] d.with'):=fun W o=>eF.Sj (eF.keep hon (Kp.iI nJ.out)) H0.out o;have HWh:Hid (∀W,Only (dF gt gb gp) W0 W->eF Bs W [.string d.cond.name,.slice Ee Ia Eh,.slice Ef Ib Ej] d.cond):=fun W o=>eF.Sj (eF.keep hwh (Kp.iI nJ.out)) H0.out o;obtain⟨a1,c1,a2,c2,JK,Kr⟩:=H0.out.OQ;have CX:=zh (And.intro JK Kr);obtain⟨n1,hn1⟩:=ze D.x.packs.length;obtain⟨n2,hn2⟩:=ze D.x.iH.length;rw[hn1]at hpk;rw[hn1,hn2]at CX;have XP:=zh hn1;obtain⟨S2,hS2⟩:=ze ((E.1.num (iK r)).1);obtain⟨z,hz⟩:=ze ((E.1.num (iK r)).2);have hzb:0<=z/\z<=65536:=by rw[<-hz];exact TB.xG H.ok _
 obtain⟨S3,hS3⟩:=ze ((S2.meet D.x D.l p r 0 d.cond).1);obtain⟨wh,XT⟩:=ze ((S2.meet D.x D.l p r 0 d.cond).2);have aiI:=(ES.JO E D.x D.l r p d (show _=(S2,z) from by rw[<-hS2,<-hz]) (show _=(S3,wh) from by rw[<-hS3,<-XT]));have HZ:=zh (And.intro hS2 (And.intro hz (And.intro hS3 XT)));have hS0:=HS.out W0.drew (zr.drew);obtain⟨E9,Ht⟩:=ze (E.conflict D.x D.l r p d);rw[Ht];rw[Ht]at aiI;have HCo:=zh aiI;clear hd hon hwh hb0 hnm JK Kr hn1 hn2 hS2 hz hS3 XT H hG Ht aiI;go_enter Tryz.func161,Tryz.ntmps161;go_wp2_with fail;try rw[hW0]
 clear hW0;have Vp:Hid (∀W,O0 W0 W->Calls Tryz.prog 224 #[.pointer (some ⟨X.px,0,none⟩),.int .i64 r] W fun e w'=>e= .returned (.int .i64 z)/\bV W0 gt gb gp X Bs D (S2,E.2) w'):=fun W o=>by rw[<-HZ.out.1];exact bV.call (bV.refl H0.out) o fun gt' gb' nM Hx _=>XJ Hx (r:=r) ⟨by omega,by omega⟩ z HZ.out.2.1
 have HMt:Hid (∀w2,bV W0 gt gb gp X Bs D (S2,E.2) w2->∀W,O0 w2 W->Calls Tryz.prog 225 #[.pointer (some ⟨X.c,0,none⟩),.int .i64 p,.int .i64 r,.int .i64 0,.agg #[.string d.cond.name,.slice Ee Ia Eh,.slice Ef Ib Ej]] W fun e w'=>e= .returned (.int .i64 wh)/\bV W0 gt gb gp X Bs D (S3,E.2) w'):=fun w2 h2 W o=>by rw[<-HZ.out.2.2.1];exact bV.call h2 o fun gt' gb' nM Hx Ox=>Nj Hx HG.out (p:=p) (rule:=r) (cc:=0) hp6 hr6 zBk (HWh.out W Ox) hss.1 wh HZ.out.2.2.2
 refine bH (n:=14) (E:=fun _=>false) (S:=fun W=>W.cell? ⟨X.px,0,none⟩=some (.pointer (some ⟨X.c,0,none⟩))/\W.cell? ⟨w.heap.size,3,none⟩=some (.string d.with'.name)/\W.rangeAt w.heap.size 3 [.string d.with'.name,.slice Eb Hw Ec,.slice oJ Hz Ed]/\W.rangeAt w.heap.size 0 [.string d.cond.name,.slice Ee Ia Eh,.slice Ef Ib Ej]) zk rfl hS0 (fun hHeld=>?_);refine tW 0 ?_;refine tW 1 ?_;refine tW 3 ?_;refine tW 4 ?_;refine tW 5 ?_;refine tK 6 ?_;refine tW 7 ?_;refine tW 8 ?_;refine tW 9 ?_;refine tK 10 ?_ (hy:=by(intro w hSw;(try dsimp only at hSw);refine Eq.trans (iD (ty:=108) (x:=.tmp 20) (cs:=[.string d.cond.name,.slice Ee Ia Eh,.slice Ef Ib Ej]) rfl rfl hSw.2.2.2 Tryz.underlying108 rfl zk) ?_;with_reducible rfl));refine tO 2 fun K hK=>?_;(go_simp;refine(Vp.out _ zBj).mono ?_;rintro e w2 ⟨rfl,h2⟩;have oR:Only (dF gt gb gp) W0 w2:=h2.only;try go_wp2_with fail);refine hK.out _ _ ?_ (fun hHeld=>?_);·(try dsimp only)<;>(exact HS.out _ oR)
 clear hK K;try simp only[Act.put,gJ,gU,gK,gu,gy,gG]
 refine tO 11 fun K hK=>?_;(go_simp;refine(HMt.out w2 h2 _ zBj).mono ?_;rintro e w3 ⟨rfl,h3⟩;try go_wp2_with fail);refine hK.out _ _ ?_ (fun hHeld=>?_);·(try dsimp only)<;>(exact HS.out _ h3.only)
 clear hK K;try simp only[Act.put,gJ,gU,gK,gu,gy,gG]
 refine tW 12 ?_;refine tW 13 ?_;refine aZ zk ?_ _;have H3:=zh h3;have hwb:0<=wh/\wh<=65536:=by have b2:=TB.Nk h2.XR D.x D.l p r 0 d.cond;rw[HZ.out.2.2.2]at b2;exact b2
 clear h3 h2 oR Vp HMt hS0 HZ;obtain⟨q0,q1,-⟩:=HS.out w3 H3.out.only;have ewz:=zw (-z);have eww:=zw (-wh);by_cases hnil:d.with'.name=ByteArray.empty
 ·rw[if_pos hnil]at HCo;have h9:=HCo.out;subst h9;have hd0:d.with'.name.toList=[]:=oz.2 hnil;have hd1:d.with'.name.toList.isEmpty=true:=by rw[hd0];rfl
  have xg:Hid (Calls Tryz.prog 163 #[.pointer (some ⟨X.c,0,none⟩),.slice (some ⟨w3.heap.size,0,none⟩) 2 2] (w3.alloc (.cells #[.int .i64 (-z),.int .i64 (-wh)] 3)) fun e w'=>e= .returned (.tuple #[])/\bV W0 gt gb gp X Bs D (S3.dD [-z,-wh],E.2) w'):=
   bV.call H3.out (zr.alloc _) fun gt' gb' nM Hx _=>EL Hx (BH w3 (-z) (-wh) (iL hzb) (iL hwb)) zAM
  clear H3 hnil;go_wp2_with fail;refine xg.out.mono ?_;rintro e w4 ⟨rfl,h4⟩;have H4:=zh (bV.after nJ.out h4);clear h4 xg;go_wp2_with fail;((try simp only[Exit.inBlock,Exit.then]);refine bodyPost_ret (results_none rfl _ _ _) rfl ?_);exact⟨rfl,H4.out⟩
 rw[if_neg hnil]at HCo;have hd0:¬d.with'.name.toList=[]:=fun h=>hnil (oz.1 h);have hd1:d.with'.name.toList.isEmpty=false:=by cases hh:d.with'.name.toList with
  |nil=>exact absurd hh hd0
  |cons a b=>rfl
 obtain⟨f,hf⟩:=ze (D.x.find d.with'.name);have hfr:=Hu D.x d.with'.name;have FV:Hid (∀W,O0 w3 W->Calls Tryz.prog 78 #[.pointer (some ⟨X.c,0,none⟩)] W fun e w'=>e= .returned (.agg #[.slice a1 n1 c1,.slice a2 n2 c2])/\O0 W w'):=fun W o=>by obtain⟨_,_,_,Hy,_⟩:=H3.out;exact mF (Hy.aN o).gx.gr CX.out.1 CX.out.2
 have HFd:Hid (∀W,O0 w3 W->Calls Tryz.prog 182 #[.agg #[.slice a1 n1 c1,.slice a2 n2 c2],.string d.with'.name] W fun e w'=>e= .returned (.int .i64 f)/\O0 W w'):=fun W o=>by obtain⟨_,_,_,Hy,_⟩:=H3.out;have h:=(Hy.aN o).gx.BI;rw[CX.out.1,CX.out.2]at h;have h2:=BO h d.with'.name;rw[hf]at h2;exact h2
 rw[hf]at hfr HCo;rw[XP.out]at hfr;clear hf hnil;go_wp2_with fail;refine eY (fun W=>O0 w3 W) zk zk (by exact zr.drew) ?_;iterate 4 refine qV ?_ (hy:=zAn)
 refine kR (v:=.agg #[.slice a1 n1 c1,.slice a2 n2 c2]) (f:=78) (args:= #[.pointer (some ⟨X.c,0,none⟩)]) (by rfl) ?_ ?_ ?_;·exact zCM
 ·exact zEd
 try simp only[Act.put,gJ,gU,gK,gu,gy,gG]
 iterate 3 refine qV ?_ (hy:=zAn)
 refine kR (v:=.int .i64 f) (f:=182) (args:= #[.agg #[.slice a1 n1 c1,.slice a2 n2 c2],.string d.with'.name]) (by rfl) ?_ ?_ ?_;·exact zCM
 ·exact zEa
 try simp only[Act.put,gJ,gU,gK,gu,gy,gG]
 refine qV ?_ (hy:=zAn);refine wpQuiet_nil ?_;intro w6 O6;have H6:=zh (H3.out.Qn O6);clear O6 H3 FV HFd q0 q1;obtain⟨rh,hrh⟩:∃r,decide (0<=f/\f.toNat∈D.l)=r:=⟨_,rfl⟩;have Gi:Hid (Calls Tryz.prog 230 #[.pointer (some ⟨X.c,0,none⟩),.int .i64 f] w6 fun e w'=>e= .returned (.bool rh)/\bV W0 gt gb gp X Bs D (S3,E.2) w'):=
  bV.call H6.out zr fun gt' gb' nM Hx _=>aiH Hx f (hfr.imp id fun⟨k,h,_⟩=>⟨k,h⟩) rh hrh
 have HRh:=zh hrh;obtain⟨q0,-⟩:=HS.out w6 H6.out.only;clear hrh H6;go_wp2_with fail;refine Gi.out.mono ?_;rintro e w7 ⟨rfl,h7⟩;have H7:=zh h7;clear h7 Gi q0;cases rh with
 |false=>rw[if_neg (of_decide_eq_false HRh.out)]at HCo;have h9:=HCo.out;subst h9;have H8:=zh (bV.after nJ.out H7.out);clear H7;go_wp2_with fail;go_end0;exact⟨rfl,H8.out⟩
 |true=>
  have hfl:=of_decide_eq_true HRh.out;rw[if_pos hfl]at HCo;obtain⟨f',rfl,hf'⟩:∃k:Nat,f=k/\k<n1:=by
   rcases hfr with rfl|h;·exact absurd hfl.1 zAG
   exact h
  rw[yT]at HCo;obtain⟨zm,hzm⟩:=ze ((S3.meet D.x D.l f' r 1 d.with').2);obtain⟨S5,hS5⟩:=ze ((S3.meet D.x D.l f' r 1 d.with').1);have Vq:0<=zm/\zm<=65536:=by rw[<-hzm];exact TB.Nk H7.out.XR _ _ _ _ _ _
  have HMt:Hid (∀W,O0 w7 W->Calls Tryz.prog 225 #[.pointer (some ⟨X.c,0,none⟩),.int .i64 f',.int .i64 r,.int .i64 1,.agg #[.string d.with'.name,.slice Eb Hw Ec,.slice oJ Hz Ed]] W fun e w'=>e= .returned (.int .i64 zm)/\bV W0 gt gb gp X Bs D (S5,E.2) w'):=fun W o=>by rw[<-hS5];exact bV.call H7.out o fun gt' gb' nM Hx Ox=>Nj Hx HG.out (p:=f') (rule:=r) (cc:=1) zAC hr6 zBk (Jv.out W Ox) hss.2 zm hzm
  have xg:Hid (∀w8 W,bV W0 gt gb gp X Bs D (S5,E.2) w8->O0 w8 W->Ints W (.slice (some ⟨w8.heap.size,0,none⟩) 3 3) [-z,-wh,-zm]->Calls Tryz.prog 163 #[.pointer (some ⟨X.c,0,none⟩),.slice (some ⟨w8.heap.size,0,none⟩) 3 3] W fun e w'=>e= .returned (.tuple #[])/\bV W0 gt gb gp X Bs D (S5.dD [-z,-wh,-zm],E.2) w'):=fun w8 W h8 o hI=>
   bV.call h8 o fun gt' gb' nM Hx _=>EL Hx hI zAM
  rw[hzm,hS5]at HCo;have h9:=HCo.out;subst h9;have ewm:=zw (-zm);have hS0:=HS.out w7.drew (H7.out.only.drew);clear hzm hS5 hfl H7;go_wp2_with fail;refine bH (n:=20) (E:=fun _=>false) (S:=fun W=>W.cell? ⟨X.px,0,none⟩=some (.pointer (some ⟨X.c,0,none⟩))/\W.cell? ⟨w.heap.size,3,none⟩=some (.string d.with'.name)/\W.rangeAt w.heap.size 3 [.string d.with'.name,.slice Eb Hw Ec,.slice oJ Hz Ed]/\W.rangeAt w.heap.size 0 [.string d.cond.name,.slice Ee Ia Eh,.slice Ef Ib Ej]) zk rfl hS0 (fun hHeld=>?_);refine tW 0 ?_;refine tW 1 ?_;refine tW 2 ?_;refine tK 3 ?_;refine tW 4 ?_;refine tW 5 ?_;refine tW 6 ?_;refine tW 7 ?_;refine tW 8 ?_;refine tW 9 ?_;refine tW 10 ?_;refine tK 11 ?_;refine tW 12 ?_;refine tW 13 ?_;refine tW 14 ?_;refine tK 15 ?_ (hy:=by(intro w hSw;(try dsimp only at hSw);refine Eq.trans (iD (ty:=108) (x:=.tmp 66) (cs:=[.string d.with'.name,.slice Eb Hw Ec,.slice oJ Hz Ed]) rfl rfl hSw.2.2.1 Tryz.underlying108 rfl zk) ?_;with_reducible rfl));refine tO 16 fun K hK=>?_;(go_simp;refine(HMt.out _ zBj).mono ?_;rintro e w8 ⟨rfl,h8⟩;have oM:Only (dF gt gb gp) W0 w8:=h8.only;try go_wp2_with fail);refine hK.out _ _ ?_ (fun hHeld=>?_);·exact zDr
  clear hK K;try simp only[Act.put,gJ,gU,gK,gu,gy,gG]
  refine tW 17 ?_;refine tO 18 fun K hK=>?_;go_simp;refine hK.out _ _ ?_ (fun hHeld=>?_);·exact zDo
  clear hK K;try simp only[Act.put,gJ,gU,gK,gu,gy,gG]
  refine tO 19 fun K hK=>?_;(go_simp;refine(xg.out w8 _ h8 zAB (by first|exact aav _ _ _ _ (iL hzb) (iL hwb) (iL Vq)|exact(aav w8 _ _ _ (iL hzb) (iL hwb) (iL Vq)).aN zBj)).mono ?_;rintro e w9 ⟨rfl,h9⟩;try go_wp2_with fail);refine hK.out _ _ ?_ (fun hHeld=>?_);·exact zEh
  clear hK K;try simp only[Act.put,gJ,gU,gK,gu,gy,gG]
  refine aZ zk ?_ _;have H9:=zh (bV.after nJ.out h9);clear h9 h8 oM HMt xg hS0;go_wp2_with fail;go_end0;exact⟨rfl,H9.out⟩
end
end Go.Proofs.YtdmmebjjojimiaaGreatDoor
