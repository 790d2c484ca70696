/- Bld1 Bld2, in one text. -/
import Derived.Test.YtdmmebjjojimiaaGreatDoorG04
import Derived.Test.YtdmmebjjojimiaaGreatDoorG06
set_option maxRecDepth 100000
set_option maxHeartbeats 8000000
set_option linter.all false
namespace Go.Proofs
theorem zBr{p:Prop}(h:p:=by unfold Mine;rw[H.tb];decide):p:=h
theorem zCH{p:Prop}(h:p:=by
 intro v2 w3 s1 s2 s3
 have hsz:=hO2.size
 have hS3:=(hS2.aH ((Only.refl (fun _=>False) _).alloc (.cells #[.slice af c.length cf] 78))).snoc zAU (hIf.aH ((Only.refl (fun _=>False) _).alloc _)) HAp.out s1 s2 s3
 have hO3:O0 w w3:=(hO2.alloc _).trans s2 (fun k hk=>.inr (hS2.new k hk))
 clear s1 s2 s3 hS2
 go_wp2_with fail
 go_roundw
 case rel=>
  refine⟨k+1,us++[.slice af c.length cf],by go_num,by omega,by simp;omega,?_,hO3⟩
  rw[HTS.out]
  exact hS3
 case measure=>simp[intOf];omega):p:=h
theorem zCl{p:Prop}(h:p:=by
 intro _ j hj hF
 have hj1:vf.ownBlock=some j:=by
  rcases R1.2 with⟨h',_⟩| ⟨g',cap',cur,h',_⟩
  ·rw[h']at hj;simp[Value.blk]at hj
  ·rw[h']at hj⊢;simpa[Value.blk,Value.ownBlock]using hj
 have h1:=N1 j hj1
 have h2:=dP hS.row hF
 omega):p:=h
theorem zCv{p:Prop}(h:p:=by
 refine⟨g,V,⟨?_,H.tb,H.l.far (hF zAD) _,H.ci.EL H.ct ho (fun k hk e=>by rw[e,H.tb]at hk;simp at hk),H.ct,H.few,H.short,H.fresh.more ho.size⟩,Agree.refl _ _,(Only.refl _ w).setCell (.inl zBr) _⟩
 rw[mQ H.blk];rfl):p:=h
theorem zEC{p:Prop}(h:p:=by
 rw[<-HAdd.out]at hfin
 have HFin:=zh hfin
 clear hfin HC O2 O3
 go_wp2_with fail
 go_end0
 exact⟨rfl,HFin.out⟩):p:=h
theorem zEX{p:Prop}(h:p:=by
 have HFin:=zh hfin
 clear hS hfin
 go_wp2_with fail
 go_ret
 exact⟨_,us,rfl,HFin.out,hO⟩):p:=h
end Go.Proofs
namespace Go.Proofs.YtdmmebjjojimiaaGreatDoor
open Go.RowKit
structure kD where
 cls:List (List Int)
 bad:Bool
 full:Bool
structure Tj where
 vl:Value
 us:List Value
structure jL (w:World) (g:Tag) (b:Nat) (V:Tj) (B:kD):Prop where
 blk:w.heap[b]? =some (.cells #[V.vl,.bool B.bad,.bool B.full] 162 (0,0))
 tb:g b=(31,0)
 l:Row w g (32,0) 78 V.vl V.us
 ci:jR w V.us B.cls
 ct:∀i,i<B.cls.length->Tagged g (33,0) (V.us.getD i dF) (B.cls.getD i [])
 few:B.cls.length<=262144
 short:∀c∈B.cls,c.length<=1099511627
 fresh:rM w g
def gG(w:World)(g:Tag)(b:Nat)(B:kD)(w':World):Prop:= ∃g' V',jL w' g' b V' B/\Agree w g g'/\Only (Mine g) w w'
section
variable {w:World} {g:Tag} {b:Nat} {V:Tj} {B:kD}
theorem jL.only(H:jL w g b V B){F:Nat->Prop}{w':World}(ho:Only F w w')(hF:∀k,(g k).1≠0->¬F k):jL w' g b V B:=
 ⟨aC H.blk ho (hF b (by rw[H.tb];simp)),H.tb,H.l.only ho (fun k hk=>hF k (by rw[hk];simp)),H.ci.EL H.ct ho (fun k hk=>hF k (by rw[hk];simp)),H.ct,H.few,H.short,H.fresh.more ho.size⟩
theorem jL.aH(H:jL w g b V B){w':World}(ho:O0 w w'):jL w' g b V B:=H.only ho (fun _ _ f=>f)
theorem gG.refl(H:jL w g b V B):gG w g b B w:=⟨g,V,H,Agree.refl _ _,Only.refl _ _⟩
theorem gG.trans{g1:Tag}{w1 w2:World}{B2:kD}(ha:Agree w g g1)(ho:Only (Mine g) w w1)(h2:gG w1 g1 b B2 w2):gG w g b B2 w2:=by obtain⟨g2,V2,H2,A2,O2⟩:=h2;exact⟨g2,V2,H2,ha.trans A2 ho.size,ho.mine ha O2⟩
theorem jL.Oy(H:jL w g b V B):tH w V.vl B.cls:=⟨V.us,Cells.dV H.l.own,H.ci⟩
def Ko(w:World)(e:Ending)(w':World):Prop:= ∃b g V,e= .returned (.pointer (some ⟨b,0,none⟩))/\jL w' g b V ⟨[],false,false⟩/\(∀k,Mine g k->w.heap.size<=k)/\O0 w w'
theorem Ko.of(w:World):Ko w (.returned (.pointer (some ⟨w.heap.size,0,none⟩))) (w.alloc (.cells #[.slice none 0 0,.bool false,.bool false] 162)):=by
 refine⟨w.heap.size,fun k=>if k=w.heap.size then (31,0)else (0,0),⟨dF,[]⟩,rfl,⟨qL w _,by simp,Row.nil _ _ _ _,⟨rfl,by simp⟩,by simp,by simp,by simp,?_⟩,fun k hk=>?_,(Only.refl _ w).alloc _⟩;·intro k hk;simp at hk;simp only;rw[if_neg zAB]
 unfold Mine at hk;simp only at hk;split at hk;·omega
 simp at hk
theorem Wq(w:World):Calls Tryz.prog 73 #[] w (Ko w):=by have hm:=Ko.of w;have HM:=zh hm;clear hm;go_enter Tryz.func73,Tryz.ntmps73;go_wp2_with fail;go_ret;exact HM.out
theorem Tn(H:jL w g b V B):Calls Tryz.prog 29 #[.pointer (some ⟨b,0,none⟩)] w fun e w'=> ∃v us,e= .returned v/\zK w w' v us B.cls/\O0 w w':=by
 have hI:=H.Oy;have hfew:=H.few;have HSh:=zh H.short;have q0:w.cell? ⟨b,0,none⟩=some V.vl:=by rw[aj H.blk];rfl
 obtain⟨ac,cc,hvl,hc1,hc2⟩:=hI.shape;rw[hvl]at q0 hI;clear hvl;go_enter Tryz.func29,Tryz.ntmps29;go_wp2_with fail;go_loopw [3,13] (fun vo v wr=> ∃(k:Nat) (us:List Value),v= .int .i64 k/\k<=B.cls.length/\us.length<=k/\zK w wr vo us (B.cls.take k)/\O0 w wr) (fun _ v _=>B.cls.length-(intOf v).toNat);case atStart=>exact⟨0,[],rfl,qE _,qE _,zK.nil w w,Only.refl _ _⟩
 case round=>
  obtain⟨k,us,rfl,hk,hus,hS,hO⟩:=hrel;by_cases ck:k<B.cls.length
  ·obtain⟨bb,off,u,rfl,_,q,hu⟩:=(hI.aH hO).at ck;have hcb:=HSh.out _ (mW [] ck);have hts:=JW B.cls k ck;obtain⟨au,cu,rfl,_,_⟩:=hu.shape;have HTS:=zh hts;clear hts;generalize B.cls.getD k []=c at*;have hC:=G5 hu zAB;have HC:=zh hC;clear hC;go_wp2_with fail;refine HC.out.mono ?_;rintro e w2 ⟨vf,rfl,R1,N1,O2⟩;have hIf:=Ints.dV R1 hu.range;have hS2:=hS.aH O2;have hO2:=hO.same O2;have hap:0<c.length->∀j,Value.blk vf=some j->u3.ownBlock≠some j:=by exact zCl
   have HAp:=zh hap;clear hap;obtain⟨af,cf,rfl,_,_⟩:=hIf.shape;go_wp2_with (at_builtin;go_must (refine AL (u:=.slice af c.length cf) Wh rfl (.tmp 17) (.tmp 20) rfl rfl rfl (GU _ _ _ _ rfl) rfl (aG hS2.row ((Only.refl (fun _=>False) _).alloc _) (fun _ _ f=>f)) zAB (by decide) ?n3));exact zCH
  have hk':k=B.cls.length:=by omega
  have hfin:zK w wr u3 us B.cls:=by rw[hk',qI (qH _)]at hS;exact hS
  exact zEX
end
def kD.add(B:kD)(xs:List Int):kD:=
 if xs.any ig.wr then {B with bad:=true}else
 match ig.form xs with
 |none=>B
 |some f=>if 262144<=B.cls.length then {B with full:=true}else {B with cls:=B.cls++[f]}
theorem Tq{xs f:List Int}(h:ig.form xs=some f):f.length<=xs.length:=by
 have h1:=D8 (ig.sortL xs);have h2:(ig.sortL xs).length=xs.length:=List.length_mergeSort xs;have hl:Lib.compact (ig.sortL xs)=ig.tY xs:=rfl;rw[hl]at h1;unfold ig.form at h;split at h;·cases h
 split at h;·cases h
 have:=Option.some.inj h;rw[<-this];omega
section
variable {w:World} {g:Tag} {b:Nat} {V:Tj} {B:kD}
theorem jL.ahz(H:jL w g b V B):gG w g b {B with bad:=true} (w.setCell ⟨b,1,none⟩ (.bool true)):=by have hF:∀{t:Nat×Nat},t≠(31,0)->g b≠t:=fun{t} h e=>h (e.symm.trans H.tb);have ho:Only (fun k=>k=b) w (w.setCell ⟨b,1,none⟩ (.bool true)):=Only.setCell (Only.refl (fun k=>k=b) w) (p:=⟨b,1,none⟩) (.inl rfl) _;exact zCv
theorem jL.Qb(H:jL w g b V B):gG w g b {B with full:=true} (w.setCell ⟨b,2,none⟩ (.bool true)):=by have hF:∀{t:Nat×Nat},t≠(31,0)->g b≠t:=fun{t} h e=>h (e.symm.trans H.tb);have ho:Only (fun k=>k=b) w (w.setCell ⟨b,2,none⟩ (.bool true)):=Only.setCell (Only.refl (fun k=>k=b) w) (p:=⟨b,2,none⟩) (.inl rfl) _;exact zCv
def kS(w w2:World)(g:Tag):Tag:=Tag.put g w.heap.size w2.heap.size (33,0)
theorem tZ{w w2:World}{g:Tag}{k:Nat}(h:k<w.heap.size):kS w w2 g k=g k:=Tag.wX _ _ h
theorem jL.rowAt(H:jL w g b V B){w2:World}(O2:O0 w w2):Row w2 (kS w w2 g) (32,0) 78 V.vl V.us:=H.l.keep O2 (fun _ _ f=>f) (fun k hk=>tZ hk)
theorem jL.push(H:jL w g b V B){w2 w3:World}{vf v':Value}{f:List Int}(O2:O0 w w2)(hf:Ints w2 vf f)(hnew:0<f.length->∀k,Value.blk vf=some k->w.heap.size<=k)(hfew:B.cls.length<262144)(hsh:f.length<=1099511627){lo:Nat}(hlo:w2.heap.size<=lo)(R:Row w3 (Tag.put (kS w w2 g) lo w3.heap.size (32,0)) (32,0) 78 v' (V.us++[vf]))(O3:Only (fun k=>kS w w2 g k=(32,0)) w2 w3):gG w g b {B with cls:=B.cls++[f]} (w3.setCell ⟨b,0,none⟩ v'):=by
 have hb:=bU H.blk;have hs2:=O2.size;have hs3:=O3.size;have A1:Agree w g (kS w w2 g):=fun k hk=>tZ hk;have A2:Agree w2 (kS w w2 g) (Tag.put (kS w w2 g) lo w3.heap.size (32,0)):=Agree.put _ _ hlo;have A12:=A1.trans A2 hs2;have hb1:kS w w2 g b=(31,0):=(A1 b hb).trans H.tb;have hb2:Tag.put (kS w w2 g) lo w3.heap.size (32,0) b=(31,0):=(A12 b hb).trans H.tb;have ho:Only (fun k=>k=b) w3 (w3.setCell ⟨b,0,none⟩ v'):=Only.setCell (Only.refl (fun k=>k=b) w3) (p:=⟨b,0,none⟩) (.inl rfl) _;have aky:∀i,i<B.cls.length->Tagged (kS w w2 g) (33,0) (V.us.getD i dF) (B.cls.getD i []):=fun i hi=>(H.ct i hi).agree (H.ci.2 i hi) A1;have akz:=H.ci.aH O2;have aoa:=akz.EL aky O3 (fun k hk e=>by rw[hk]at e;simp at e);have htf:Tagged (kS w w2 g) (33,0) vf f:=fun hp k hk=>Tag.zJ _ _ (hnew hp k hk) (hf.lt hp hk);have hf3:=hf.EL htf O3 (fun k hk e=>by rw[hk]at e;simp at e);have akA:=htf.agree hf A2;have akB:∀i,i<B.cls.length->Tagged (Tag.put (kS w w2 g) lo w3.heap.size (32,0)) (33,0) (V.us.getD i dF) (B.cls.getD i []):=fun i hi=>(aky i hi).agree (akz.2 i hi) A2;have hne:∀k,Tag.put (kS w w2 g) lo w3.heap.size (32,0) k=(33,0)->¬k=b:=fun k hk e=>by rw[e,hb2]at hk;simp at hk
 refine⟨Tag.put (kS w w2 g) lo w3.heap.size (32,0),⟨v',V.us++[vf]⟩,⟨?_,hb2,R.far (by rw[hb2];simp) _,jR.snoc (aoa.EL akB ho hne) (hf3.EL akA ho hne),?_,by simp;omega,?_,?_⟩,A12,?_⟩;·rw[mQ (aC (aC H.blk O2 (fun f=>f)) O3 (by rw[hb1];simp))];rfl
 ·intro i hi;have hul:=H.ci.1;by_cases c:i<B.cls.length;·simp only;rw[rW _ _ _ zAB,rW _ _ _ c];exact akB i c
  simp only[qK,List.length_singleton]at hi;have:i=B.cls.length:=zAB;subst this;simp only;rw[rX _ _ _ zBU,rX _ _ _ zAB,hul];simpa using akA
 ·intro c hc;rcases qW.1 hc with h|h;·exact H.short c h
  rw[yJ.1 h];exact hsh
 ·intro k hk;have hk':w3.heap.size<=k:=by simpa using hk
  rw[Tag.Jw _ _ hk'];unfold kS;rw[Tag.Jw _ _ zAB];exact H.fresh k zAB
 refine Only.setCell ?_ (.inl zBr) _;refine(O2.mono (G:=Mine g) fun _ f=>f.elim).trans O3 (fun k hk=>?_);by_cases c:k<w.heap.size;·rw[tZ c]at hk;exact .inl (by unfold Mine;rw[hk];decide)
 exact .inr zAB
theorem BQ(H:jL w g b V B){v:Value}{xs:List Int}(hI:Ints w v xs)(hb:xs.length<=1099511627):Calls Tryz.prog 153 #[.pointer (some ⟨b,0,none⟩),v] w fun e w'=>e= .returned (.tuple #[])/\gG w g b (B.add xs) w':=by
 have abH:∀args w,(callFunc 222 args).run Tryz.prog w= .ok (.enter 222 args) w:=enters_of Tryz.func222 zk rfl;have hF:=abJ hI zAB;obtain⟨ao,cap,rfl,hc1,hc2⟩:=hI.shape;have hCF:∀W,O0 w W->∀r,xs.any ig.wr=r->_:=fun W hW r hr=>rV (hI.aH hW) 222 #[] ig.wr abH (fun x _ W _=>(OC x).mono fun _ _ ⟨he,hw⟩=>⟨he,by rw[hw];exact Only.refl _ _⟩) r hr;have HF:=zh hF;have HCF:=zh hCF;have HI:=zh hI;clear hF hCF abH;have hfew:=H.few;go_enter Tryz.func153,Tryz.ntmps153;go_wp2_with fail;refine HF.out.mono ?_;intro e w2 hp;unfold xZ at hp;cases hany:xs.any ig.wr with
 |true=>
  have hform:ig.form xs=none:=by unfold ig.form;rw[if_pos hany]
  rw[hform]at hp;obtain⟨rfl,O2⟩:=hp;have hC:=HCF.out w2 O2 true hany;have HC:=zh hC;have hadd:B.add xs={B with bad:=true}:=by unfold kD.add;rw[if_pos hany]
  have HAdd:=zh hadd;clear hany hform hC HF HCF hadd;go_wp2_with fail;refine HC.out.mono ?_;rintro e w3 ⟨rfl,O3⟩;have hO:=O2.same O3;have H3:=H.aH hO;have q1:w3.cell? ⟨b,1,none⟩=some (.bool B.bad):=by rw[aj H3.blk];rfl
  have f1:=jW H3.blk 1;have hfin:=gG.trans (Agree.refl _ _) (hO.mono (G:=Mine g) fun _ f=>f.elim) H3.ahz;exact zEC
 |false=>
  have hC:=fun W hW=>HCF.out W hW false hany;have HC:=zh hC;clear hC HCF HF;cases hform:ig.form xs with
  |none=>
   rw[hform]at hp;obtain⟨rfl,O2⟩:=hp;have hadd:B.add xs=B:=by unfold kD.add;rw[if_neg (by rw[hany];simp),hform]
   have HAdd:=zh hadd;clear hany hform hadd;go_wp2_with fail;refine(HC.out w2 O2).mono ?_;rintro e w3 ⟨rfl,O3⟩;have hO:=O2.same O3;have hfin:=gG.trans (Agree.refl _ _) (hO.mono (G:=Mine g) fun _ f=>f.elim) (gG.refl (H.aH hO));exact zEC
  |some f=>
   rw[hform]at hp;obtain⟨vf,rfl,R2,N2,O2⟩:=hp;have hadd:B.add xs=if 262144<=B.cls.length then {B with full:=true}else {B with cls:=B.cls++[f]}:=by unfold kD.add;rw[if_neg (by rw[hany];simp),hform]
   have HAdd:=zh hadd;have hrf:=Wp HI.out.range hform;have hfl:f.length<=xs.length:=Tq hform;have hIf:=Ints.dV R2 hrf;have hN:0<f.length->∀k,Value.blk vf=some k->w.heap.size<=k:=by
    intro _ j hj;refine N2 j ?_;rcases R2.2 with⟨h',_⟩| ⟨g',cap',cur,h',_⟩;·rw[h']at hj;simp[Value.blk]at hj
    rw[h']at hj⊢;simpa[Value.blk,Value.ownBlock]using hj
   have HN:=zh hN;obtain⟨af,cf,rfl,_,_⟩:=hIf.shape;clear hany hform hadd hrf R2 N2 hN;go_wp2_with fail;refine(HC.out w2 O2).mono ?_;rintro e w3 ⟨rfl,O3⟩;have hO:=O2.same O3;have aob:=hIf.aH O3;have H3:=H.aH hO;have q0:w3.cell? ⟨b,0,none⟩=some V.vl:=by rw[aj H3.blk];rfl
   have hul:V.us.length=B.cls.length:=H3.ci.1;have hrow:=H.rowAt hO;obtain⟨al,cl,hvl,_,_⟩:=hrow.shape;rw[hvl,hul]at q0;have hrow':=hrow;rw[hvl,hul]at hrow';have f0:=jW H3.blk 0;by_cases cf2:262144<=B.cls.length
   ·have q2:w3.cell? ⟨b,2,none⟩=some (.bool B.full):=by rw[aj H3.blk];rfl
    have f2:=jW H3.blk 2;have hfin:=gG.trans (Agree.refl _ _) (hO.mono (G:=Mine g) fun _ f=>f.elim) H3.Qb;have Tt:B.add xs={B with full:=true}:=by rw[HAdd.out,if_pos cf2]
    rw[<-Tt]at hfin;have HFin:=zh hfin;have d1:decide ((262144:Int)<=(B.cls.length:Int))=true:=qX zAB;have d2:decide (262144<=B.cls.length)=true:=qX cf2;clear hfin HC O2 O3 Tt cf2 hfew;go_wp2_with fail;go_end0;exact⟨rfl,HFin.out⟩
   have d1:decide ((262144:Int)<=(B.cls.length:Int))=false:=qP zAB;have d2:decide (262144<=B.cls.length)=false:=qP cf2;have Tt:B.add xs={B with cls:=B.cls++[f]}:=by rw[HAdd.out,if_neg cf2]
   have hlt:B.cls.length<262144:=zAB;have hpush:=fun(w4:World) (v4:Value) (lo:Nat) (h1:w3.heap.size<=lo) h2 h3=>H.push (w3:=w4) (v':=v4) hO aob HN.out hlt zAB (lo:=lo) h1 h2 h3;have HP:=zh hpush;have akC:=zh Tt;have hfz:∀o,(w3.alloc o).frozen? ⟨b,0,none⟩=false:=fun o=>rY q0 f0 ((Only.refl (fun _=>False) w3).alloc o) (fun f=>f);clear hpush Tt cf2 hfew HC O2 O3;have aoc:V.us.length+1<=1099511627776:=zAB;clear hlt;go_wp2_with (at_builtin;go_must (refine Row.app (u:=.slice af f.length cf) Wh rfl (.tmp 38) (.tmp 40) rfl rfl rfl (GU _ _ _ _ rfl) rfl (by exact Row.alloc hrow' _) aoc zAD ?n3));intro v4 w4 s1 s2;have hfin:=HP.out w4 v4 _ zAF s1 (Only.same ((Only.refl _ w3).alloc _) s2);rw[<-akC.out]at hfin;have HFin:=zh hfin;have z0:=aY q0 (Only.same ((Only.refl _ w3).alloc _) s2) (by rw[tZ (bU H.blk),H.tb];simp);have zf:=rY q0 f0 (Only.same ((Only.refl _ w3).alloc _) s2) (by rw[tZ (bU H.blk),H.tb];simp);obtain⟨a4,c4,rfl,_,_⟩:=s1.shape;clear hfin s1 s2 HP;go_wp2_with fail;go_end0;have hl3:(V.us++[Value.slice af f.length cf]).length=B.cls.length+1:=by simp[hul]
   have hfin:=HFin.out;rw[hl3]at hfin;exact⟨rfl,hfin⟩
end
end Go.Proofs.YtdmmebjjojimiaaGreatDoor
