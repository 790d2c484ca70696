/- Package edge: rules. Printed by gen_edw9.py.; slices.Grow laid at ints: a new row without elements. -/
import Derived.Test.YtdmmebjjojimiaaGreatDoorG28
import Derived.Shelf.Spec.SlicesGrow
set_option maxRecDepth 100000
set_option maxHeartbeats 8000000
set_option linter.all false
namespace Go.Proofs
theorem zBc{p:Prop}(h:p:=by
 refine hK.out _ _ ?_ (fun hHeld=>?_)
 ·(try dsimp only)<;>(exact(fun w' o'=>And.intro (HS.out w' o').1 (And.intro (HS.out w' o').2.1 (And.intro (HS.out w' o').2.2 (HQ.out w' o')))) _ h7.only)
 clear hK K
 try simp only[Act.put,dL,dQ,dM,dN,dO,dP]
 refine aS zk ?_ _
 have Y7:=h7
 rw[<-Pq.out]at Y7
 have HE6:=zh (HFin.out _ Y7)
 have jg:=Eo.out
 clear Y7 h7 oA
 go_wp2_with fail
 go_roundw
 case rel=>exact⟨i+1,by first|rfl|go_num,by omega,HE6⟩
 case measure=>simp[RowKit.intOf]<;>omega):p:=h
theorem zBr{p:Prop}(h:p:=by(try dsimp only)<;>(exact(fun w' o'=>And.intro (HS.out w' o').1 (And.intro (HS.out w' o').2.1 (And.intro (HS.out w' o').2.2 (HQ.out w' o')))) _ (oA.mono fun _ f=>f.elim))):p:=h
theorem zD9{p:Prop}(h:p:=by
 obtain⟨b',off',e5,hb5,-⟩:=CX.out.at zBB
 simp only[qG,qO,and_true]at e5
 omega):p:=h
theorem zEE{p:Prop}(h:p:=by
 (go_simp;refine(tu.out _ zBD).mono ?_;rintro e w7 ⟨rfl,h7⟩;try go_wp2_with fail)
 exact zBc):p:=h
end Go.Proofs
namespace Go.Proofs.YtdmmebjjojimiaaGreatDoor
open Go.RowKit
theorem uH{x:aC}{q:dG}{l:List Nat}{r:bG}(h:r∈eF x q l):(∃k:Nat,k<q.roots.length/\r=⟨1,-1,k,(q.roots.getD k default).line⟩)\/(∃p k:Nat,p∈l/\k<(x.pack p).deps.length/\r=⟨2,p,k,((x.pack p).deps.getD k default).line⟩)\/(∃p k:Nat,p∈l/\k<(x.pack p).cons.length/\r=⟨3,p,k,((x.pack p).cons.getD k default).line⟩):=by
 unfold eF at h;rcases qW.1 h with h|h;·unfold fZ at h;obtain⟨k,hk,rfl⟩:=yD.1 h;exact .inl ⟨k,yI.1 hk,rfl⟩
 obtain⟨p,hp,h⟩:=List.mem_flatMap.1 h;unfold jo kJ mG at h;rcases qW.1 h with h|h;·obtain⟨k,hk,rfl⟩:=yD.1 h;exact .inr (.inl ⟨p,k,hp,yI.1 hk,rfl⟩)
 obtain⟨k,hk,rfl⟩:=yD.1 h;exact .inr (.inr ⟨p,k,hp,yI.1 hk,rfl⟩)
structure EdR (D:rU):Prop where
 g:EdG D
 rs:D.rs=eF D.x D.q D.l
 rl:D.rs.length<=800
 roots:D.q.roots.length<=1000
 deps:∀p∈D.x.packs,p.deps.length<=1000
 cons:∀p∈D.x.packs,p.cons.length<=1000
 sr:∀r∈D.q.roots,r.spec.sets.length<=900000
 sd:∀p∈D.x.packs,∀d∈p.deps,d.on.sets.length<=900000/\d.cond.sets.length<=900000
 sc:∀p∈D.x.packs,∀d∈p.cons,d.cond.sets.length<=900000/\d.with'.sets.length<=900000
theorem oL.root{E:ES}{N:Nat}(h:oL E.2 N)(x:aC)(l:List Nat)(names:List Str)(r:Nat)(s:fQ)(hx:x.packs.length<=1000):oL (E.root x l names r s).2 (N+1010):=by
 have h1:=(uG h (E.1.num (eH r)).2 (x.targets s.name)).mono (show N+(x.targets s.name).length<=N+1001 by have:=(Gj x s.name).1;omega);unfold ES.root;dsimp only;split;·exact h1.mono zBB
 split;·exact h1.mono zBB
 exact(h1.pJ _ _).mono zBB
theorem oL.depend{E:ES}{N:Nat}(h:oL E.2 N)(x:aC)(l:List Nat)(names:List Str)(r p k:Nat)(d:oO)(hx:x.packs.length<=1000):oL (E.depend x l names r p k d).2 (N+1010):=by
 rw[ES.JC E x l names r p k d rfl rfl rfl rfl];split;·exact(h.Ld _ _).mono zBB
 split;·exact h.mono zBB
 refine oL.mono (N:=N+1+(x.bZ d.on.name).length) ?_ (by have:=(tq x d.on.name).1;omega);exact ES.tq (h.pJ _ _) p _ _
theorem oL.conflict{E:ES}{N:Nat}(h:oL E.2 N)(x:aC)(l:List Nat)(r p:Nat)(c:uh):oL (E.conflict x l r p c).2 (N+1010):=by
 rw[ES.DL E x l r p c rfl rfl];split;·exact h.mono zBB
 split;·exact h.mono zBB
 exact h.mono zBB
theorem oL.rule{E:ES}{N:Nat}(h:oL E.2 N)(x:aC)(q:dG)(l:List Nat)(names:List Str)(r:Nat)(y:bG)(hx:x.packs.length<=1000):oL (E.rule x q l names r y).2 (N+1010):=by
 unfold ES.rule;split;·exact h.root x l names r _ hx
 split;·exact h.depend x l names r _ _ _ hx
 split;·exact h.conflict x l r _ _
 exact h.mono zBB
theorem oL.rules{E:ES}{N:Nat}(h:oL E.2 N)(x:aC)(q:dG)(l:List Nat)(names:List Str)(rs:List bG)(hx:x.packs.length<=1000):∀i,oL (E.rules x q l names rs i).2 (N+i*1010)
 |0=>by
  show oL E.2 (N+0*1010)
  rw[Nat.zero_mul,qF]
  exact h
 |i+1=>by
  have:=(oL.rules h x q l names rs hx i).rule x q l names i (rs.getD i default) hx
  exact oL.mono this (by rw[Nat.add_mul];omega)
section
variable {w w':World} {gt gb gp:Tag} {X:G9} {Bs B:Nat} {D:rU} {E:ES}
theorem Wh{ao:Option Addr}{len cap i:Nat}{xs:List bG}{y:bG}(h:aJ 4 rO B w (.slice ao len cap) xs)(hx:xs[i]? =some y):∃(b off:Nat),ao=some ⟨b,off,none⟩/\((0<=y.kind/\y.kind<=255)/\aO y.pack/\aO y.idx/\aO y.line)/\∀W,O0 w W->W.rangeAt b (off+i*4) [.int .u8 y.kind,.int .i64 y.pack,.int .i64 y.idx,.int .i64 y.line]:=by obtain⟨b,off,cs,rfl,hb,hB,-,hr,hC⟩:=h.placed hx;obtain⟨rfl,hk⟩:=hC;exact⟨b,off,rfl,hk,fun W ho=>dA hr hb hB (Kp.fU ho)⟩
theorem Po{b o:Nat}{c1 c2:List Value}(h:w.rangeAt b o (c1++c2)):w.rangeAt b o c1:=fun j u hu=>h j u (by
 rw[yM]
 ·exact hu
 ·exact(qJ.1 hu).1)
theorem abm(H:gI w gt gb gp X Bs D E)(hR:EdR D){N:Nat}(hP:oL E.2 N)(hN:N<=1000):Calls Tryz.prog 80 #[.pointer (some ⟨X.px,0,none⟩)] w fun e w'=>e= .returned (.tuple #[])/\aQ w gt gb gp X Bs D (E.rules D.x D.q D.l D.names D.rs D.rs.length) w':=by
 have HR:=zh hR;have hpk:=hR.g.mid.packs;have hrl:=hR.rl;obtain⟨q0,-,-,-,-⟩:=H.cells;have HRs:=zh (Yw H.gx.gr H.gx.rl zBB);have akB:Hid (∀r∈D.rs,(0<=r.kind/\r.kind<=255)/\aO r.pack/\aO r.idx/\aO r.line):=fun r hr=>by obtain⟨cs,hC⟩:=H.gx.rl.all r hr;exact hC.2
 obtain⟨nr,hnr⟩:=ze D.rs.length;have Vm:=zh hnr;have H0:=zh H;have xE:=zh hP;obtain⟨E9,AB⟩:=ze (E.rules D.x D.q D.l D.names D.rs D.rs.length);rw[AB];rw[hnr]at AB hrl;have YS:=zh AB;obtain⟨n1,hn1⟩:=ze D.x.packs.length;obtain⟨n2,hn2⟩:=ze D.x.cO.length;obtain⟨n3,hn3⟩:=ze D.q.roots.length;have He:=zh hn1;have HN2:=zh hn2;have HN3:=zh hn3;clear hR AB hnr hn1 hn2 hn3 hP H;go_enter Tryz.func80,Tryz.ntmps80;go_wp2_with fail;refine HRs.out.mono ?_;rintro e w1 ⟨vr,rfl,N8,O1⟩;have HRu:=zh N8;have H1:=zh (H0.out.aF O1);have zq:Hid (∀k,vr.ownBlock=some k->¬aX gt gb gp k):=fun k hk=>H0.out.jD (N8.2 k hk);have bg:=zh O1;obtain⟨ar,cr,rfl,-,-⟩:=aH N8.1;rw[Vm.out]at HRu zq⊢;have xU:Hid (aQ w1 gt gb gp X Bs D (E.rules D.x D.q D.l D.names D.rs 0) w1):=aQ.refl H1.out;clear N8 O1 q0 HRs;go_wp2_with fail;go_loopw [10] (fun vi wr=> ∃i:Nat,vi= .int .i64 i/\i<=nr/\Hid (aQ w1 gt gb gp X Bs D (E.rules D.x D.q D.l D.names D.rs i) wr)) (fun v _=>nr-(RowKit.intOf v).toNat);case atStart=>exact⟨0,rfl,qE _,xU⟩
 case round=>
  clear xU;obtain⟨i,rfl,hi,zH⟩:=hrel;by_cases ci:i<nr
  ·obtain⟨⟨kd,pk,ix,ln⟩,hy⟩:∃y,D.rs[i]? =some y:=⟨_,qA (by rw[Vm.out];exact ci)⟩;have hgd:D.rs.getD i default=⟨kd,pk,ix,ln⟩:=by rw[qC,hy];rfl
   obtain⟨Ei,hEi⟩:=ze (E.rules D.x D.q D.l D.names D.rs i);have hPi:oL Ei.2 900000:=by rw[<-hEi];exact oL.mono (oL.rules xE.out D.x D.q D.l D.names D.rs hpk i) zBB
   have jr:Hid (E.rules D.x D.q D.l D.names D.rs (i+1)=Ei.rule D.x D.q D.l D.names i ⟨kd,pk,ix,ln⟩):=by show ES.rule _ _ _ _ _ _ _=_;rw[hEi,hgd]
   rw[hEi]at zH;obtain⟨pK,pO,nZ,H4',A4,B4,C4,O4⟩:=zH.out;have hrow:iq w wr (.slice ar nr cr) D.rs:=by refine⟨?_,HRu.out.2⟩;have:=aB HRu.out.1 O4 zq.out;rw[Vm.out]at this⊢;exact this
   obtain⟨br,Wi,rfl,hyr,hrg⟩:=Wh (iq.read hrow akB.out) hy;have Jf:=zh (hrg wr zr);have jg:=zw (i+1);obtain⟨wB,hwB⟩:=zB (wr.alloc (.cells #[.int .u8 kd,.int .i64 pk,.int .i64 ix,.int .i64 ln] 158));have oB:O0 wr wB:=zAi;have hb0:wB.heap[wr.heap.size]? =some (.cells #[.int .u8 kd,.int .i64 pk,.int .i64 ix,.int .i64 ln] 158 (0,0)):=zAn;have hnm:=H4'.jD (qH wr.heap.size);have HB:=zh (H4'.aF oB);have HS:Hid (∀W,Only (aX pK pO nZ) wB W->W.cell? ⟨X.px,0,none⟩=some (.pointer (some ⟨X.c,0,none⟩))/\W.cell? ⟨wr.heap.size,1,none⟩=some (.int .i64 pk)/\W.cell? ⟨wr.heap.size,2,none⟩=some (.int .i64 ix)):=fun W o=>by have c0:=ak hb0 o hnm;exact⟨aK HB.out.cells.1 o HB.out.tp,by rw[aj c0];rfl,by rw[aj c0];rfl⟩
   have HFin:Hid (∀W,aQ wB pK pO nZ X Bs D (Ei.rule D.x D.q D.l D.names i ⟨kd,pk,ix,ln⟩) W->aQ w1 gt gb gp X Bs D (E.rules D.x D.q D.l D.names D.rs (i+1)) W):=fun W h=>by rw[jr.out];exact aQ.trans A4 B4 C4 (O4.same (oB.mono fun _ f=>f.elim)) h
   have Eo:=zh jg;have hym:=uH (show(⟨kd,pk,ix,ln⟩:bG)∈eF D.x D.q D.l by rw[<-HR.out.rs];exact qT hy);obtain⟨a1,c1,a2,c2,zi,Az⟩:=HB.out.IE;rw[He.out]at zi;rw[HN2.out]at Az;have kB:wB.cell? ⟨wr.heap.size,0,none⟩=some (.int .u8 kd):=by rw[aj hb0];rfl
   have uV:=zh (And.intro zi Az);have HKx:Hid (∀W,Only (aX pK pO nZ) wB W->Kp Bs wB W):=fun W o=>Kp.rV o HB.out.Le;have CX:Hid (aJ 8 fF Bs wB (.slice a1 D.x.packs.length c1) D.x.packs):=by obtain⟨a1',c1',a2',c2',f1,f2,h1,-⟩:=HB.out.gx.IE;have e:=zi.symm.trans f1;rw[He.out]at e;simp only[qU]at e;obtain⟨rfl,-,rfl⟩:=e;exact h1
   clear hy hgd hEi H4' A4 B4 C4 O4 hrow hyr hrg hb0 hnm zH jg zi Az oB;rcases hym with⟨k,hk,hq⟩| ⟨p,k,hp,hk,hq⟩| ⟨p,k,hp,hk,hq⟩
   ·simp only[bG.mk.injEq]at hq;obtain⟨rfl,rfl,rfl,-⟩:=hq;have hS0:=HS.out wB zr;obtain⟨rt,hrt⟩:=zG D.q.roots k hk;have hgr:D.q.roots.getD k default=rt:=by rw[qC,hrt];rfl
    have Pq:Hid (Ei.rule D.x D.q D.l D.names i ⟨1,-1,k,ln⟩=Ei.root D.x D.l D.names i rt.spec):=by show _=_;unfold ES.rule;rw[if_pos rfl];show ES.root _ _ _ _ _ (D.q.roots.getD ((k:Int)).toNat default).spec=_;rw[yT,hgr]
    obtain⟨v3,e3,hq3⟩:=HB.out.gx.VA;simp only[List.cons.injEq,and_true]at e3;obtain⟨a3,c3,e4,-,-⟩:=hq3.shape;have hqq:X.G.q= .slice a3 n3 c3:=by rw[e3,e4,HN3.out]
    rw[e4]at hq3;obtain⟨bq,abn,rfl,-,-⟩:=hq3.at zBB;obtain⟨cs,-,hrq,cs1,rfl,hsp,-⟩:=hq3.get hrt;obtain⟨b1,b2,d1,d2,rfl,-,-,-⟩:=hsp.cells;obtain⟨m1,hm1⟩:=ze rt.spec.spans.length;obtain⟨m2,hm2⟩:=ze rt.spec.sets.length;rw[hm1,hm2]at hrq hsp;have hlow:bq<Bs:=by obtain⟨b',off',e5,hb5,-⟩:=hq3.at zBB;simp only[qG,qO,and_true]at e5;omega
    have HQ:Hid (∀W,Only (aX pK pO nZ) wB W->W.rangeAt bq (abn+k*4) [.string rt.spec.name,.slice b1 m1 d1,.slice b2 m2 d2]):=fun W o=>Po (dA hrq hlow HB.out.gx.le (HKx.out W o));have akD:Hid (∀W,Only (aX pK pO nZ) wB W->dh Bs W [.string rt.spec.name,.slice b1 m1 d1,.slice b2 m2 d2] rt.spec):=fun W o=>dh.keep hsp (HKx.out W o);have hss:rt.spec.sets.length<=900000:=HR.out.sr rt (qT hrt);have aps:n3<=1000:=by rw[<-HN3.out];exact HR.out.roots
    have hkn:k<n3:=by rw[<-HN3.out];exact hk
    have HRq:Hid (∀W,O0 wB W->Calls Tryz.prog 79 #[.pointer (some ⟨X.c,0,none⟩)] W fun e w'=>e= .returned (.agg #[.slice (some ⟨bq,abn,none⟩) n3 c3])/\O0 W w'):=fun W o=>FZ (HB.out.aF o).gx.gr hqq;have nY:Hid (∀W,O0 wB W->Calls Tryz.prog 159 #[.pointer (some ⟨X.px,0,none⟩),.int .i64 i,.agg #[.string rt.spec.name,.slice b1 m1 d1,.slice b2 m2 d2]] W fun e w'=>e= .returned (.tuple #[])/\aQ wB pK pO nZ X Bs D (Ei.root D.x D.l D.names i rt.spec) w'):=fun W o=>
     aQ.call (aQ.refl HB.out) o fun gt' gb' jC Hx Ox=>adY Hx HR.out.g (r:=i) zBB (akD.out W Ox) hss hPi (qH _)
    have hfq:=abe (.slice (some ⟨bq,abn,none⟩) n3 c3);have kB2:=kB;clear hrt hgr e3 hq3 e4 hqq hrq hsp hm1 hm2 hlow hPi CX uV;go_wp2_with (refine wpList_load_mid rfl 158 (.tmp 13) rfl br (Wi+i*4) rfl _ _ Jf.out Tryz.underlying158 rfl zk ?_);try rw[<-hwB]
    clear hwB;have hS0:=HS.out wB.drew (zr.drew);have hS0:=And.intro hS0.1 (And.intro hS0.2.1 (And.intro hS0.2.2 (HQ.out wB.drew (zr.drew))));refine aT (n:=14) (E:=fun _=>false) (S:=fun W=>W.cell? ⟨X.px,0,none⟩=some (.pointer (some ⟨X.c,0,none⟩))/\W.cell? ⟨wr.heap.size,1,none⟩=some (.int .i64 (-1))/\W.cell? ⟨wr.heap.size,2,none⟩=some (.int .i64 (k:Int))/\W.rangeAt bq (abn+k*4) [.string rt.spec.name,.slice b1 m1 d1,.slice b2 m2 d2]) zk rfl hS0 (fun hHeld=>?_);refine tW 0 ?_;refine tW 1 ?_;refine tW 2 ?_;refine tW 3 ?_;refine tW 4 ?_;refine tK 5 ?_;refine tW 8 ?_;refine tK 9 ?_;refine tO 6 fun K hK=>?_;(go_simp;refine(HRq.out _ zAA).mono ?_;rintro e w6 ⟨rfl,o6⟩;have oA:O0 wB w6:=Only.same zBA o6;try go_wp2_with fail);refine hK.out _ _ ?_ (fun hHeld=>?_);·exact zBr
    clear hK K;try simp only[Act.put,dL,dQ,dM,dN,dO,dP]
    refine tW 7 ?_;refine tW 10 ?_;refine tW 11 ?_;refine tK 12 ?_ (hy:=by(intro w hSw;(try dsimp only at hSw);refine Eq.trans (bV (ty:=108) (x:=.tmp 30) (cs:=[.string rt.spec.name,.slice b1 m1 d1,.slice b2 m2 d2]) rfl rfl hSw.2.2.2 Tryz.underlying108 rfl zk) ?_;with_reducible rfl));refine tO 13 fun K hK=>?_;(go_simp;refine(nY.out _ zBD).mono ?_;rintro e w7 ⟨rfl,h7⟩;try go_wp2_with fail);exact zBc
   ·simp only[bG.mk.injEq]at hq;obtain⟨rfl,rfl,rfl,-⟩:=hq;have hpx:p<D.x.packs.length:=HR.out.g.lt p hp;have UE:p<=1000:=zBB;obtain⟨dd,hdd⟩:=zG ((D.x.pack p).deps) k hk;have hgr:(D.x.pack p).deps.getD k default=dd:=by rw[qC,hdd];rfl
    have Pq:Hid (Ei.rule D.x D.q D.l D.names i ⟨2,p,k,ln⟩=Ei.depend D.x D.l D.names i p k dd):=by show _=_;unfold ES.rule;rw[if_neg (by show¬(2:Int)=1;decide),if_pos rfl];show ES.depend _ _ _ _ _ ((p:Int)).toNat ((k:Int)).toNat ((D.x.pack ((p:Int)).toNat).deps.getD ((k:Int)).toNat default)=_;rw[yT,yT,hgr]
    obtain⟨bp,Lp,cs,rfl,Ij,Je,-⟩:=Ep CX.out hpx;obtain⟨o1,o2,o3,o4,o5,o6,d1,d2,d3,d4,d5,d6,rfl,-,-,-,-,-,hdr,-,-⟩:=Je.cells;obtain⟨nd,hnd⟩:=ze ((D.x.pack p).deps.length);have akE:nd<=1000:=by rw[<-hnd];exact HR.out.deps _ (aC.gX hpx)
    obtain⟨bd,Lr,rfl,hbd,-⟩:=hdr.at zBB;obtain⟨cd,-,hrd,hCd⟩:=hdr.get hdd;have hss:=HR.out.sd _ (aC.gX hpx) dd (qT hdd);obtain⟨co,cw,rfl,hon,hwh⟩:=hCd.cells;obtain⟨wW,ku,wX,wY,rfl,-,-,-⟩:=hon.cells;obtain⟨wZ,xg,xq,xu,rfl,-,-,-⟩:=hwh.cells;have HDc:Hid (∀W,Only (aX pK pO nZ) wB W->l7 Bs W [.string dd.on.name,.slice wW dd.on.spans.length wX,.slice ku dd.on.sets.length wY,.string dd.cond.name,.slice wZ dd.cond.spans.length xq,.slice xg dd.cond.sets.length xu,.int .i64 dd.line] dd):=fun W o=>l7.keep hCd (HKx.out W o);obtain⟨AO,e1⟩:=ze dd.on.spans.length;obtain⟨AQ,e2⟩:=ze dd.on.sets.length;obtain⟨AU,e3⟩:=ze dd.cond.spans.length;obtain⟨AV,e4⟩:=ze dd.cond.sets.length;have Y8:bp<Bs:=by exact zD9
    have hQ0:∀W,Only (aX pK pO nZ) wB W->W.cell? ⟨bp,Lp+p*8+5,none⟩=some (.slice (some ⟨bd,Lr,none⟩) (D.x.pack p).deps.length d4)/\W.rangeAt bd (Lr+k*7) [.string dd.on.name,.slice wW dd.on.spans.length wX,.slice ku dd.on.sets.length wY,.string dd.cond.name,.slice wZ dd.cond.spans.length xq,.slice xg dd.cond.sets.length xu,.int .i64 dd.line]:=fun W o=>
     ⟨(dA Ij Y8 HB.out.gx.le (HKx.out W o)) 5 _ rfl,dA hrd hbd HB.out.gx.le (HKx.out W o)⟩
    rw[hnd,e1,e2,e3,e4]at hQ0;rw[e1,e2,e3,e4]at HDc;have HQ:=zh hQ0;rw[hnd]at hk;rw[He.out]at hpx;have zo:Hid (∀W,O0 wB W->Calls Tryz.prog 78 #[.pointer (some ⟨X.c,0,none⟩)] W fun e w'=>e= .returned (.agg #[.slice (some ⟨bp,Lp,none⟩) n1 c1,.slice a2 n2 c2])/\O0 W w'):=fun W o=>iH (HB.out.aF o).gx.gr uV.out.1 uV.out.2;have tu:Hid (∀W,O0 wB W->Calls Tryz.prog 160 #[.pointer (some ⟨X.px,0,none⟩),.int .i64 i,.int .i64 p,.int .i64 k,.agg #[.string dd.on.name,.slice wW AO wX,.slice ku AQ wY,.string dd.cond.name,.slice wZ AU xq,.slice xg AV xu,.int .i64 dd.line]] W fun e w'=>e= .returned (.tuple #[])/\aQ wB pK pO nZ X Bs D (Ei.depend D.x D.l D.names i p k dd) w'):=fun W o=>
     aQ.call (aQ.refl HB.out) o fun gt' gb' jC Hx Ox=>YX Hx HR.out.g (r:=i) (p:=p) (k:=k) zBL zAB zBB (HDc.out W Ox) hss hPi (qH _)
    have hfr:=Aw (.slice (some ⟨bp,Lp,none⟩) n1 c1) (.slice a2 n2 c2);clear hdd hgr Ij Je hdr hrd hCd hon hwh hnd e1 e2 e3 e4 hQ0 hbd Y8 CX uV hPi hss;go_wp2_with (refine wpList_load_mid rfl 158 (.tmp 13) rfl br (Wi+i*4) rfl _ _ Jf.out Tryz.underlying158 rfl zk ?_);try rw[<-hwB]
    clear hwB;have hS0:=HS.out wB.drew (zr.drew);have hS0:=And.intro hS0.1 (And.intro hS0.2.1 (And.intro hS0.2.2 (HQ.out wB.drew (zr.drew))));refine aT (n:=22) (E:=fun _=>false) (S:=fun W=>W.cell? ⟨X.px,0,none⟩=some (.pointer (some ⟨X.c,0,none⟩))/\W.cell? ⟨wr.heap.size,1,none⟩=some (.int .i64 (p:Int))/\W.cell? ⟨wr.heap.size,2,none⟩=some (.int .i64 (k:Int))/\W.cell? ⟨bp,Lp+p*8+5,none⟩=some (.slice (some ⟨bd,Lr,none⟩) nd d4)/\W.rangeAt bd (Lr+k*7) [.string dd.on.name,.slice wW AO wX,.slice ku AQ wY,.string dd.cond.name,.slice wZ AU xq,.slice xg AV xu,.int .i64 dd.line]) zk rfl hS0 (fun hHeld=>?_);refine tW 0 ?_;refine tW 1 ?_;refine tW 2 ?_;refine tK 3 ?_;refine tW 4 ?_;refine tK 5 ?_;refine tW 6 ?_;refine tW 7 ?_;refine tW 8 ?_;refine tK 9 ?_;refine tW 12 ?_;refine tK 13 ?_;refine tW 17 ?_;refine tK 18 ?_;refine tO 10 fun K hK=>?_;(go_simp;refine(zo.out _ zAA).mono ?_;rintro e w6 ⟨rfl,o6⟩;have oA:O0 wB w6:=Only.same zBA o6;try go_wp2_with fail);refine hK.out _ _ ?_ (fun hHeld=>?_);·exact zBr
    clear hK K;try simp only[Act.put,dL,dQ,dM,dN,dO,dP]
    refine tW 11 ?_;refine tW 14 ?_;refine tW 15 ?_;refine tK 16 ?_;refine tW 19 ?_;refine tK 20 ?_ (hy:=by(intro w hSw;(try dsimp only at hSw);refine Eq.trans (bV (ty:=132) (x:=.tmp 54) (cs:=[.string dd.on.name,.slice wW AO wX,.slice ku AQ wY,.string dd.cond.name,.slice wZ AU xq,.slice xg AV xu,.int .i64 dd.line]) rfl rfl hSw.2.2.2.2 Tryz.underlying132 rfl zk) ?_;with_reducible rfl));refine tO 21 fun K hK=>?_;exact zEE
   simp only[bG.mk.injEq]at hq;obtain⟨rfl,rfl,rfl,-⟩:=hq;have hpx:p<D.x.packs.length:=HR.out.g.lt p hp;have UE:p<=1000:=zBB;obtain⟨dd,hdd⟩:=zG ((D.x.pack p).cons) k hk;have hgr:(D.x.pack p).cons.getD k default=dd:=by rw[qC,hdd];rfl
   have Pq:Hid (Ei.rule D.x D.q D.l D.names i ⟨3,p,k,ln⟩=Ei.conflict D.x D.l i p dd):=by show _=_;unfold ES.rule;rw[if_neg (by show¬(3:Int)=1;decide),if_neg (by show¬(3:Int)=2;decide),if_pos rfl];show ES.conflict _ _ _ _ ((p:Int)).toNat ((D.x.pack ((p:Int)).toNat).cons.getD ((k:Int)).toNat default)=_;rw[yT,yT,hgr]
   obtain⟨bp,Lp,cs,rfl,Ij,Je,-⟩:=Ep CX.out hpx;obtain⟨o1,o2,o3,o4,o5,o6,d1,d2,d3,d4,d5,d6,rfl,-,-,-,-,-,-,hdr,-⟩:=Je.cells;obtain⟨nd,hnd⟩:=ze ((D.x.pack p).cons.length);have akE:nd<=1000:=by rw[<-hnd];exact HR.out.cons _ (aC.gX hpx)
   obtain⟨bd,Lr,rfl,hbd,-⟩:=hdr.at zBB;obtain⟨cd,-,hrd,hCd⟩:=hdr.get hdd;have hss:=HR.out.sc _ (aC.gX hpx) dd (qT hdd);obtain⟨cw,co,rfl,hwh,hon⟩:=hCd.cells2;obtain⟨wZ,xg,xq,xu,rfl,-,-,-⟩:=hwh.cells;obtain⟨wW,ku,wX,wY,rfl,-,-,-⟩:=hon.cells;have HDc:Hid (∀W,Only (aX pK pO nZ) wB W->oQ Bs W [.string dd.cond.name,.slice wZ dd.cond.spans.length xq,.slice xg dd.cond.sets.length xu,.string dd.with'.name,.slice wW dd.with'.spans.length wX,.slice ku dd.with'.sets.length wY,.int .i64 dd.line] dd):=fun W o=>oQ.keep hCd (HKx.out W o);obtain⟨AO,e1⟩:=ze dd.with'.spans.length;obtain⟨AQ,e2⟩:=ze dd.with'.sets.length;obtain⟨AU,e3⟩:=ze dd.cond.spans.length;obtain⟨AV,e4⟩:=ze dd.cond.sets.length;have Y8:bp<Bs:=by exact zD9
   have hQ0:∀W,Only (aX pK pO nZ) wB W->W.cell? ⟨bp,Lp+p*8+6,none⟩=some (.slice (some ⟨bd,Lr,none⟩) (D.x.pack p).cons.length d5)/\W.rangeAt bd (Lr+k*7) [.string dd.cond.name,.slice wZ dd.cond.spans.length xq,.slice xg dd.cond.sets.length xu,.string dd.with'.name,.slice wW dd.with'.spans.length wX,.slice ku dd.with'.sets.length wY,.int .i64 dd.line]:=fun W o=>
    ⟨(dA Ij Y8 HB.out.gx.le (HKx.out W o)) 6 _ rfl,dA hrd hbd HB.out.gx.le (HKx.out W o)⟩
   rw[hnd,e1,e2,e3,e4]at hQ0;rw[e1,e2,e3,e4]at HDc;have HQ:=zh hQ0;rw[hnd]at hk;rw[He.out]at hpx;have zo:Hid (∀W,O0 wB W->Calls Tryz.prog 78 #[.pointer (some ⟨X.c,0,none⟩)] W fun e w'=>e= .returned (.agg #[.slice (some ⟨bp,Lp,none⟩) n1 c1,.slice a2 n2 c2])/\O0 W w'):=fun W o=>iH (HB.out.aF o).gx.gr uV.out.1 uV.out.2;have tu:Hid (∀W,O0 wB W->Calls Tryz.prog 161 #[.pointer (some ⟨X.px,0,none⟩),.int .i64 i,.int .i64 p,.agg #[.string dd.cond.name,.slice wZ AU xq,.slice xg AV xu,.string dd.with'.name,.slice wW AO wX,.slice ku AQ wY,.int .i64 dd.line]] W fun e w'=>e= .returned (.tuple #[])/\aQ wB pK pO nZ X Bs D (Ei.conflict D.x D.l i p dd) w'):=fun W o=>
    aQ.call (aQ.refl HB.out) o fun gt' gb' jC Hx Ox=>Sl Hx HR.out.g (r:=i) (p:=p) zAB zBB (HDc.out W Ox) hss
   have hfr:=Aw (.slice (some ⟨bp,Lp,none⟩) n1 c1) (.slice a2 n2 c2);clear hdd hgr Ij Je hdr hrd hCd hon hwh hnd e1 e2 e3 e4 hQ0 hbd Y8 CX uV hPi hss;go_wp2_with (refine wpList_load_mid rfl 158 (.tmp 13) rfl br (Wi+i*4) rfl _ _ Jf.out Tryz.underlying158 rfl zk ?_);try rw[<-hwB]
   clear hwB;have hS0:=HS.out wB.drew (zr.drew);have hS0:=And.intro hS0.1 (And.intro hS0.2.1 (And.intro hS0.2.2 (HQ.out wB.drew (zr.drew))));refine aT (n:=20) (E:=fun _=>false) (S:=fun W=>W.cell? ⟨X.px,0,none⟩=some (.pointer (some ⟨X.c,0,none⟩))/\W.cell? ⟨wr.heap.size,1,none⟩=some (.int .i64 (p:Int))/\W.cell? ⟨wr.heap.size,2,none⟩=some (.int .i64 (k:Int))/\W.cell? ⟨bp,Lp+p*8+6,none⟩=some (.slice (some ⟨bd,Lr,none⟩) nd d5)/\W.rangeAt bd (Lr+k*7) [.string dd.cond.name,.slice wZ AU xq,.slice xg AV xu,.string dd.with'.name,.slice wW AO wX,.slice ku AQ wY,.int .i64 dd.line]) zk rfl hS0 (fun hHeld=>?_);refine tW 0 ?_;refine tW 1 ?_;refine tW 2 ?_;refine tK 3 ?_;refine tW 4 ?_;refine tW 5 ?_;refine tW 6 ?_;refine tK 7 ?_;refine tW 10 ?_;refine tK 11 ?_;refine tW 15 ?_;refine tK 16 ?_;refine tO 8 fun K hK=>?_;(go_simp;refine(zo.out _ zAA).mono ?_;rintro e w6 ⟨rfl,o6⟩;have oA:O0 wB w6:=Only.same zBA o6;try go_wp2_with fail);refine hK.out _ _ ?_ (fun hHeld=>?_);·exact zBr
   clear hK K;try simp only[Act.put,dL,dQ,dM,dN,dO,dP]
   refine tW 9 ?_;refine tW 12 ?_;refine tW 13 ?_;refine tK 14 ?_;refine tW 17 ?_;refine tK 18 ?_ (hy:=by(intro w hSw;(try dsimp only at hSw);refine Eq.trans (bV (ty:=160) (x:=.tmp 76) (cs:=[.string dd.cond.name,.slice wZ AU xq,.slice xg AV xu,.string dd.with'.name,.slice wW AO wX,.slice ku AQ wY,.int .i64 dd.line]) rfl rfl hSw.2.2.2.2 Tryz.underlying160 rfl zk) ?_;with_reducible rfl));refine tO 19 fun K hK=>?_;exact zEE
  obtain rfl:nr=i:=by omega
  have HF:=zH.out;rw[YS.out]at HF;have HF2:=zh (aQ.after bg.out HF);clear HF zH;go_wp2_with fail;go_end0;exact⟨rfl,HF2.out⟩
end
end Go.Proofs.YtdmmebjjojimiaaGreatDoor
namespace Go.Proofs.YtdmmebjjojimiaaGreatDoor
open Go.RowKit Go.Shelf
def Tryz.Ls:Go.Shelf.Ren:=⟨fun |4=>236|n=>n,fun |0=>0|3=>3|4=>4|9=>9|20=>20|22=>78|25=>3|n=>n,fun n=>n⟩
theorem Tryz.Pv:Go.Proofs.Lays8.n4 Tryz.prog Tryz.Ls:={
 mixed:=by kernel_rfl
 f4:=⟨Tryz.f236.name,by decide,Tryz.func236.trans (congrArg some zk)⟩
 t0:=Tryz.underlying0
 a0:=Tryz.isAgg0
 z0:=Tryz.sizeOf0
 v0:=Tryz.zeroValue0
 t3:=Tryz.underlying3
 a3:=Tryz.isAgg3
 z3:=Tryz.sizeOf3
 v3:=Tryz.zeroValue3
 t4:=Tryz.underlying4
 a4:=Tryz.isAgg4
 z4:=Tryz.sizeOf4
 v4:=Tryz.zeroValue4
 t9:=Tryz.underlying9
 a9:=Tryz.isAgg9
 z9:=Tryz.sizeOf9
 v9:=Tryz.zeroValue9
 t20:=Tryz.underlying20
 a20:=Tryz.isAgg20
 z20:=Tryz.sizeOf20
 v20:=Tryz.zeroValue20
 t22:=Tryz.underlying78
 a22:=Tryz.isAgg78
 z22:=Tryz.sizeOf78
 v22:=Tryz.zeroValue78}
theorem aee(w:World){n:Nat}(hn:n<=100000000):Calls Tryz.prog 236 #[.slice none 0 0,.int .i64 n] w fun e w'=> ∃v,e= .returned v/\w'.ownsRow 0 3 1 v 0 []/\(∀k,v.ownBlock=some k->w.heap.size<=k)/\O0 w w':=by
 rcases Nat.eq_zero_or_pos n with rfl|h0
 ·refine(Any8.slices_Grow_room Tryz.Pv none 0 0 0 w (qH _) zBL zAB zBB).mono fun e w' ⟨he,hw⟩=>⟨_,he,?_,fun k hk=>(by cases hk),?_⟩;·rw[hw];exact⟨rfl,.inl ⟨rfl,rfl⟩⟩
  exact zCy
 obtain⟨i0,hi,hz0,hz1,hz2⟩:=info_parts (show(Tryz.prog.info? 3).map (fun i=>(i.zero,i.size,i.bytes))=some (some (.int .i64 0),1,8) by kernel_rfl);refine(Any8.slices_Grow_grow Tryz.Pv i0 (.int .i64 0) hi hz0 zBL none 0 0 n [] w (qH _) zAB (by rw[hz2];omega) zBB (by simp) (fun _=>rfl) (fun a ha=>by cases ha)).mono fun e w' ⟨he,hw⟩=>⟨_,he,?_,fun k hk=>?_,?_⟩
 ·have hG:0+n<=grownCap w (0+n) 0 3:=grownCap_ge w _ _ _;have hM:grownCap w (0+n) 0 3<=maxLen:=grownCap_le_maxLen w (0+n) 0 3 zBG;have hsz:(([]:List Value).toArray++Builtin.zeroCells (Value.int .i64 0).cells (0+n-0)++Builtin.zeroCells (Value.int .i64 0).cells (grownCap w (0+n) 0 3-(0+n))).size=grownCap w (0+n) 0 3*1:=by obtain⟨G,hGG⟩:=ze (grownCap w (0+n) 0 3);rw[hGG]at hG⊢;simp[Builtin.zeroCells,Value.cells];omega
  refine⟨rfl,Or.inr ⟨w.heap.size,grownCap w (0+n) 0 3,_,rfl,qE _,by rw[hw];exact qL w.drew _,qE _,hM,hsz,by simp⟩⟩
 ·cases hk;exact qH _
 rw[hw];exact(zr.drew).alloc _
end Go.Proofs.YtdmmebjjojimiaaGreatDoor
namespace Go.Proofs.YtdmmebjjojimiaaGreatDoor
open Go.RowKit
def ji(l:List (Nat×Nat)):List Value:=l.flatMap fun e=>[.int .i64 (e.1:Int),.int .i64 (e.2:Int)]
section
variable {w:World}
theorem Wj{b:Nat}{vs:List Value}{xs:List (List Int)}(hb:w.heap[b]? =some (.cells vs.toArray 78 (0,0)))(hlv:vs.length=xs.length)(hv:∀(i:Nat) v x,vs[i]? =some v->xs[i]? =some x->Ints w v x)(hl:xs.flatten.length<=100000000)(hk:xs.length<=1000){n:Nat}(hn:xs.length=n):Calls Tryz.prog 166 #[.slice (some ⟨b,0,none⟩) n n] w fun e w'=> ∃v,e= .returned v/\w'.ownsRow 0 3 1 v xs.flatten.length (xs.flatten.map cI)/\(∀k,v.ownBlock=some k->w.heap.size<=k)/\O0 w w':=by
 have hcell:∀(i:Nat) v,vs[i]? =some v->w.cell? ⟨b,i,none⟩=some v:=by intro i v h;simp[World.cell?,hb,h]
 have HC:=zh hcell;have HV:=zh hv;have HN:=zh hn;have HLV:=zh hlv;have hpre:∀(i:Nat),(xs.take i).flatten.length<=xs.flatten.length:=fun i=>by have h:=congrArg (fun l=>l.flatten.length) (List.take_append_drop i xs);simp only[List.flatten_append,qK]at h;omega
 have HP:=zh hpre;obtain⟨N,hN⟩:=ze xs.flatten.length;have HNN:=zh hN;have hNb:N<=100000000:=by rw[<-hN];exact hl
 have hn6:n<=1000:=zBB;have hw0:O0 w w:=Only.refl _ _;obtain⟨w0,akG⟩:=ze w;clear hcell hv hn hlv hpre hN hl hb hk akG;go_enter Tryz.func166,Tryz.ntmps166;go_wp2_with fail;go_loopw [3,11] (fun vs vi wr=> ∃i:Nat,vi= .int .i64 i/\i<=n/\vs= .int .i64 ((xs.take i).flatten.length:Nat)/\Hid (wr=w)) (fun _ v _=>n-(intOf v).toNat);case atStart=>exact⟨0,rfl,qE _,rfl,zh rfl⟩
 case round=>
  obtain⟨i,rfl,hi,rfl,hwr⟩:=hrel;have akH:=hwr.out.symm;subst akH;by_cases ci:i<n
  ·obtain⟨v,hv⟩:=zG vs i (by rw[HLV.out,HN.out];exact ci);obtain⟨x,hx⟩:=zG xs i zAS;have hI:=HV.out i v x hv hx;have hcl:=HC.out i v hv;obtain⟨ao,cap,rfl,-,-⟩:=hI.shape;have hs:(xs.take (i+1)).flatten.length=(xs.take i).flatten.length+x.length:=by rw[List.take_add_one,hx];simp
   have h1:=HP.out (i+1);rw[HNN.out]at h1;obtain⟨a,ha⟩:=ze ((xs.take i).flatten.length);obtain⟨c,hc⟩:=ze x.length;rw[hc]at hcl;rw[ha]at hs⊢;rw[hc]at hs;have hab:a+c<=N:=zBB;have HS:=zh hs;have jg:=zw (i+1);have ewa:=zw ((a:Int)+(c:Int));have hneg:¬((a:Int)+(c:Int)<0):=zBB;clear hI hv hx hs ha h1 hc;go_wp2_with fail;go_roundw;case rel=>exact⟨i+1,by first|rfl|go_num,by omega,by rw[HS.out];first|rfl|simp| (push_cast;rfl),by first|exact hwr|exact zh trivial⟩
   case measure=>simp[intOf]<;>omega
  obtain rfl:n=i:=by omega
  have hall:(xs.take n).flatten.length=N:=by rw[qI (yG HN.out)];exact HNN.out
  rw[hall];clear hall;go_wp2_with fail;refine(aee w hNb).mono ?_;rintro e w1 ⟨v6,rfl,r6,b6,o6⟩;have R6:=zh r6;have B6:=zh b6;have O6:=zh o6;clear r6 b6 o6;go_wp2_with fail;go_loopw [6,27] (fun v6 vi ws=> ∃i:Nat,vi= .int .i64 i/\i<=n/\Hid (ws.ownsRow 0 3 1 v6 (xs.take i).flatten.length ((xs.take i).flatten.map cI))/\Hid (∀k,v6.ownBlock=some k->w.heap.size<=k)/\Hid (O0 w ws)) (fun _ v _=>n-(intOf v).toNat);case atStart=>exact⟨0,rfl,qE _,zh (by simpa using R6.out),B6,O6⟩
  case round=>
   clear R6 B6 O6;obtain⟨i,rfl,hi,R,B,O⟩:=hrel;by_cases ci:i<n
   ·obtain⟨v,hv⟩:=zG vs i (by rw[HLV.out,HN.out];exact ci);obtain⟨x,hx⟩:=zG xs i zAS;have hI:=(HV.out i v x hv hx).aF O.out;have hcl:=aK (HC.out i v hv) O.out (fun f=>f);obtain⟨ao,cap,rfl,-,-⟩:=hI.shape;have hs:(xs.take (i+1)).flatten=(xs.take i).flatten++x:=by rw[List.take_add_one,hx];simp
    have h1:=HP.out (i+1);rw[HNN.out,hs,qK]at h1;have HS:=zh hs;obtain⟨y,hy⟩:=ze ((xs.take i).flatten);rw[hy]at R h1;have HY:=zh hy;obtain⟨c,hc⟩:=ze x.length;obtain⟨a,ha⟩:=ze y.length;have HA:=zh ha;have HX:=zh hc;rw[hc]at hcl h1;rw[ha]at R h1;have HI:=zh hI;have jg:=zw (i+1);clear hI hv hx hs hy hc ha;go_wp2_with (at_builtin;go_must (refine agb kF (n:=a) (xs:=y.map cI) (ao:=ao) (m:=c) (c:=cap) (news:=x.map cI) rfl (.tmp 31) (.tmp 32) rfl rfl R.out rfl (by rw[qM];exact HX.out) (fun e=>by have h:=HI.out;rw[HX.out]at h;exact h.nil c cap (by rw[e])) ?n1 (MV _) zBB zBC ?n2));case n1=>have h:=HI.out;exact fun ad had=>h.news ad had
    case n2=>
     intro v' w2 r2 o2 nr;have R2:Hid (w2.ownsRow 0 3 1 v' (xs.take (i+1)).flatten.length ((xs.take (i+1)).flatten.map cI)):=by rw[HS.out,HY.out,qK,HA.out,HX.out,List.map_append];exact zh r2
     have B2:Hid (∀k,v'.ownBlock=some k->w.heap.size<=k):=fun k hk=>(nr k hk).elim (B.out k) (fun h=>qR O.out.size h);have O2:Hid (O0 w w2):=O.out.trans o2 fun k hk=>.inr (B.out k hk);clear r2 o2 nr;go_wp2_with fail;go_roundw;case rel=>exact⟨i+1,by first|rfl|go_num,by omega,R2,B2,O2⟩
     case measure=>simp[intOf]<;>omega
   obtain rfl:n=i:=by omega
   have hf:xs.take n=xs:=qI (yG HN.out);rw[hf]at R;clear hf;go_wp2_with fail;go_ret;exact⟨_,rfl,R.out,B.out,O.out⟩
end
end Go.Proofs.YtdmmebjjojimiaaGreatDoor
