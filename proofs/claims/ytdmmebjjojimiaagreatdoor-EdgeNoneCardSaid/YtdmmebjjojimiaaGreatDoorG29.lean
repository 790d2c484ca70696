/- Package edge: rules. Printed by gen_edw9.py. -/
import Derived.Test.YtdmmebjjojimiaaGreatDoorG28
set_option maxRecDepth 100000
set_option maxHeartbeats 8000000
set_option linter.all false
namespace Go.Proofs
theorem zCJ{p:Prop}(h:p:=by
 refine hK.out _ _ ?_ (fun hHeld=>?_)
 ·(try dsimp only)<;>(exact(fun w' o'=>And.intro (HS.out w' o').1 (And.intro (HS.out w' o').2.1 (And.intro (HS.out w' o').2.2 (HQ.out w' o')))) _ h7.only)
 clear hK K
 try simp only[Act.put,gJ,gU,gK,gu,gy,gG]
 refine aZ zk ?_ _
 have hE6:=h7
 rw[<-Vw.out]at hE6
 have HE6:=zh (HFin.out _ hE6)
 have jh:=KD.out
 clear hE6 h7 oA
 go_wp2_with fail
 go_roundw
 case rel=>exact⟨i+1,by first|rfl|go_num,by omega,HE6⟩
 case measure=>simp[RowKit.intOf]<;>omega):p:=h
theorem zCe{p:Prop}(h:p:=by(try dsimp only)<;>(exact(fun w' o'=>And.intro (HS.out w' o').1 (And.intro (HS.out w' o').2.1 (And.intro (HS.out w' o').2.2 (HQ.out w' o')))) _ (oA.mono fun _ f=>f.elim))):p:=h
theorem zFQ{p:Prop}(h:p:=by
 obtain⟨b',off',e5,hb5,-⟩:=OV.out.at zBk
 simp only[qG,qO,and_true]at e5
 omega):p:=h
theorem zFV{p:Prop}(h:p:=by
 (go_simp;refine(Ac.out _ zBn).mono ?_;rintro e w7 ⟨rfl,h7⟩;try go_wp2_with fail)
 exact zCJ):p:=h
end Go.Proofs
namespace Go.Proofs.YtdmmebjjojimiaaGreatDoor
open Go.RowKit
theorem vX{x:aH}{q:fV}{l:List Nat}{r:dH}(h:r∈dV x q l):(∃k:Nat,k<q.roots.length/\r=⟨1,-1,k,(q.roots.getD k default).line⟩)\/(∃p k:Nat,p∈l/\k<(x.pack p).deps.length/\r=⟨2,p,k,((x.pack p).deps.getD k default).line⟩)\/(∃p k:Nat,p∈l/\k<(x.pack p).cons.length/\r=⟨3,p,k,((x.pack p).cons.getD k default).line⟩):=by
 unfold dV at h;rcases qW.1 h with h|h;·unfold eU at h;obtain⟨k,hk,rfl⟩:=yD.1 h;exact .inl ⟨k,yI.1 hk,rfl⟩
 obtain⟨p,hp,h⟩:=List.mem_flatMap.1 h;unfold jr jL lN at h;rcases qW.1 h with h|h;·obtain⟨k,hk,rfl⟩:=yD.1 h;exact .inr (.inl ⟨p,k,hp,yI.1 hk,rfl⟩)
 obtain⟨k,hk,rfl⟩:=yD.1 h;exact .inr (.inr ⟨p,k,hp,yI.1 hk,rfl⟩)
structure EdR (D:Dn):Prop where
 g:EdG D
 rs:D.rs=dV D.x D.q D.l
 rl:D.rs.length<=800
 roots:D.q.roots.length<=1000
 deps:∀p∈D.x.packs,p.deps.length<=1000
 cons:∀p∈D.x.packs,p.cons.length<=1000
 sr:∀r∈D.q.roots,r.spec.sets.length<=900000
 sd:∀p∈D.x.packs,∀d∈p.deps,d.on.sets.length<=900000/\d.cond.sets.length<=900000
 sc:∀p∈D.x.packs,∀d∈p.cons,d.cond.sets.length<=900000/\d.with'.sets.length<=900000
theorem vK.root{E:ES}{N:Nat}(h:vK E.2 N)(x:aH)(l:List Nat)(names:List Str)(r:Nat)(s:jE)(hx:x.packs.length<=1000):vK (E.root x l names r s).2 (N+1010):=by
 have h1:=(Bc h (E.1.num (iK r)).2 (x.targets s.name)).mono (show N+(x.targets s.name).length<=N+1001 by have:=(Nl x s.name).1;omega);unfold ES.root;dsimp only;split;·exact h1.mono zBk
 split;·exact h1.mono zBk
 exact(h1.wF _ _).mono zBk
theorem vK.depend{E:ES}{N:Nat}(h:vK E.2 N)(x:aH)(l:List Nat)(names:List Str)(r p k:Nat)(d:uY)(hx:x.packs.length<=1000):vK (E.depend x l names r p k d).2 (N+1010):=by
 rw[ES.Qs E x l names r p k d rfl rfl rfl rfl];split;·exact(h.Si _ _).mono zBk
 split;·exact h.mono zBk
 refine vK.mono (N:=N+1+(x.eG d.on.name).length) ?_ (by have:=(Aa x d.on.name).1;omega);exact ES.Aa (h.wF _ _) p _ _
theorem vK.conflict{E:ES}{N:Nat}(h:vK E.2 N)(x:aH)(l:List Nat)(r p:Nat)(c:Ai):vK (E.conflict x l r p c).2 (N+1010):=by
 rw[ES.JO E x l r p c rfl rfl];split;·exact h.mono zBk
 split;·exact h.mono zBk
 exact h.mono zBk
theorem vK.rule{E:ES}{N:Nat}(h:vK E.2 N)(x:aH)(q:fV)(l:List Nat)(names:List Str)(r:Nat)(y:dH)(hx:x.packs.length<=1000):vK (E.rule x q l names r y).2 (N+1010):=by
 unfold ES.rule;split;·exact h.root x l names r _ hx
 split;·exact h.depend x l names r _ _ _ hx
 split;·exact h.conflict x l r _ _
 exact h.mono zBk
theorem vK.rules{E:ES}{N:Nat}(h:vK E.2 N)(x:aH)(q:fV)(l:List Nat)(names:List Str)(rs:List dH)(hx:x.packs.length<=1000):∀i,vK (E.rules x q l names rs i).2 (N+i*1010)
 |0=>by
  show vK E.2 (N+0*1010)
  rw[Nat.zero_mul,qF]
  exact h
 |i+1=>by
  have:=(vK.rules h x q l names rs hx i).rule x q l names i (rs.getD i default) hx
  exact vK.mono this (by rw[Nat.add_mul];omega)
section
variable {w w':World} {gt gb gp:Tag} {X:NV} {Bs B:Nat} {D:Dn} {E:ES}
theorem aaw{ao:Option Addr}{len cap i:Nat}{xs:List dH}{y:dH}(h:aQ 4 uP B w (.slice ao len cap) xs)(hx:xs[i]? =some y):∃(b off:Nat),ao=some ⟨b,off,none⟩/\((0<=y.kind/\y.kind<=255)/\bU y.pack/\bU y.idx/\bU y.line)/\∀W,O0 w W->W.rangeAt b (off+i*4) [.int .u8 y.kind,.int .i64 y.pack,.int .i64 y.idx,.int .i64 y.line]:=by obtain⟨b,off,cs,rfl,hb,hB,-,hr,hC⟩:=h.placed hx;obtain⟨rfl,hk⟩:=hC;exact⟨b,off,rfl,hk,fun W ho=>dO hr hb hB (Kp.iI ho)⟩
theorem Vu{b o:Nat}{c1 c2:List Value}(h:w.rangeAt b o (c1++c2)):w.rangeAt b o c1:=fun j u hu=>h j u (by
 rw[yM]
 ·exact hu
 ·exact(qJ.1 hu).1)
theorem afA(H:jW w gt gb gp X Bs D E)(hR:EdR D){N:Nat}(hP:vK E.2 N)(hN:N<=1000):Calls Tryz.prog 80 #[.pointer (some ⟨X.px,0,none⟩)] w fun e w'=>e= .returned (.tuple #[])/\bV w gt gb gp X Bs D (E.rules D.x D.q D.l D.names D.rs D.rs.length) w':=by
 have HR:=zh hR;have hpk:=hR.g.mid.packs;have hrl:=hR.rl;obtain⟨q0,-,-,-,-⟩:=H.cells;have HRs:=zh (ac8 H.gx.gr H.gx.rl zBk);have ah3:Hid (∀r∈D.rs,(0<=r.kind/\r.kind<=255)/\bU r.pack/\bU r.idx/\bU r.line):=fun r hr=>by obtain⟨cs,hC⟩:=H.gx.rl.all r hr;exact hC.2
 obtain⟨nr,hnr⟩:=ze D.rs.length;have QY:=zh hnr;have H0:=zh H;have D7:=zh hP;obtain⟨E9,Ht⟩:=ze (E.rules D.x D.q D.l D.names D.rs D.rs.length);rw[Ht];rw[hnr]at Ht hrl;have HE9:=zh Ht;obtain⟨n1,hn1⟩:=ze D.x.packs.length;obtain⟨n2,hn2⟩:=ze D.x.iH.length;obtain⟨n3,hn3⟩:=ze D.q.roots.length;have XP:=zh hn1;have HN2:=zh hn2;have HN3:=zh hn3;clear hR Ht hnr hn1 hn2 hn3 hP H;go_enter Tryz.func80,Tryz.ntmps80;go_wp2_with fail;refine HRs.out.mono ?_;rintro e w1 ⟨vr,rfl,mM,O1⟩;have Uw:=zh mM;have H1:=zh (H0.out.aN O1);have Wn:Hid (∀k,vr.ownBlock=some k->¬dF gt gb gp k):=fun k hk=>H0.out.nN (mM.2 k hk);have bM:=zh O1;obtain⟨ar,cr,rfl,-,-⟩:=aC mM.1;rw[QY.out]at Uw Wn⊢;have HL0:Hid (bV w1 gt gb gp X Bs D (E.rules D.x D.q D.l D.names D.rs 0) w1):=bV.refl H1.out;clear mM O1 q0 HRs;go_wp2_with fail;go_loopw [10] (fun vi wr=> ∃i:Nat,vi= .int .i64 i/\i<=nr/\Hid (bV w1 gt gb gp X Bs D (E.rules D.x D.q D.l D.names D.rs i) wr)) (fun v _=>nr-(RowKit.intOf v).toNat);case atStart=>exact⟨0,rfl,qE _,HL0⟩
 case round=>
  clear HL0;obtain⟨i,rfl,hi,FX⟩:=hrel;by_cases ci:i<nr
  ·obtain⟨⟨kd,pk,ix,ln⟩,hy⟩:∃y,D.rs[i]? =some y:=⟨_,qA (by rw[QY.out];exact ci)⟩;have hgd:D.rs.getD i default=⟨kd,pk,ix,ln⟩:=by rw[qC,hy];rfl
   obtain⟨Ei,hEi⟩:=ze (E.rules D.x D.q D.l D.names D.rs i);have hPi:vK Ei.2 900000:=by rw[<-hEi];exact vK.mono (vK.rules D7.out D.x D.q D.l D.names D.rs hpk i) zBk
   have uh:Hid (E.rules D.x D.q D.l D.names D.rs (i+1)=Ei.rule D.x D.q D.l D.names i ⟨kd,pk,ix,ln⟩):=by show ES.rule _ _ _ _ _ _ _=_;rw[hEi,hgd]
   rw[hEi]at FX;obtain⟨vM,vN,uU,H4',A4,B4,C4,O4⟩:=FX.out;have hrow:jk w wr (.slice ar nr cr) D.rs:=by refine⟨?_,Uw.out.2⟩;have:=aI Uw.out.1 O4 Wn.out;rw[QY.out]at this⊢;exact this
   obtain⟨br,MP,rfl,hyr,hrg⟩:=aaw (jk.read hrow ah3.out) hy;have V7:=zh (hrg wr zr);have jh:=zw (i+1);obtain⟨wB,hwB⟩:=zB (wr.alloc (.cells #[.int .u8 kd,.int .i64 pk,.int .i64 ix,.int .i64 ln] 158));have oB:O0 wr wB:=zBA;have hb0:wB.heap[wr.heap.size]? =some (.cells #[.int .u8 kd,.int .i64 pk,.int .i64 ix,.int .i64 ln] 158 (0,0)):=zBJ;have hnm:=H4'.nN (qH wr.heap.size);have HB:=zh (H4'.aN oB);have HS:Hid (∀W,Only (dF vM vN uU) wB W->W.cell? ⟨X.px,0,none⟩=some (.pointer (some ⟨X.c,0,none⟩))/\W.cell? ⟨wr.heap.size,1,none⟩=some (.int .i64 pk)/\W.cell? ⟨wr.heap.size,2,none⟩=some (.int .i64 ix)):=fun W o=>by have c0:=aF hb0 o hnm;exact⟨dh HB.out.cells.1 o HB.out.tp,by rw[ah c0];rfl,by rw[ah c0];rfl⟩
   have HFin:Hid (∀W,bV wB vM vN uU X Bs D (Ei.rule D.x D.q D.l D.names i ⟨kd,pk,ix,ln⟩) W->bV w1 gt gb gp X Bs D (E.rules D.x D.q D.l D.names D.rs (i+1)) W):=fun W h=>by rw[uh.out];exact bV.trans A4 B4 C4 (O4.same (oB.mono fun _ f=>f.elim)) h
   have KD:=zh jh;have hym:=vX (show(⟨kd,pk,ix,ln⟩:dH)∈dV D.x D.q D.l by rw[<-HR.out.rs];exact qT hy);obtain⟨a1,c1,a2,c2,JK,Kr⟩:=HB.out.OQ;rw[XP.out]at JK;rw[HN2.out]at Kr;have kB:wB.cell? ⟨wr.heap.size,0,none⟩=some (.int .u8 kd):=by rw[ah hb0];rfl
   have CX:=zh (And.intro JK Kr);have HKx:Hid (∀W,Only (dF vM vN uU) wB W->Kp Bs wB W):=fun W o=>Kp.yS o HB.out.Sj;have OV:Hid (aQ 8 iU Bs wB (.slice a1 D.x.packs.length c1) D.x.packs):=by obtain⟨a1',c1',a2',c2',f1,f2,h1,-⟩:=HB.out.gx.OQ;have e:=JK.symm.trans f1;rw[XP.out]at e;simp only[qU]at e;obtain⟨rfl,-,rfl⟩:=e;exact h1
   clear hy hgd hEi H4' A4 B4 C4 O4 hrow hyr hrg hb0 hnm FX jh JK Kr oB;rcases hym with⟨k,hk,hq⟩| ⟨p,k,hp,hk,hq⟩| ⟨p,k,hp,hk,hq⟩
   ·simp only[dH.mk.injEq]at hq;obtain⟨rfl,rfl,rfl,-⟩:=hq;have hS0:=HS.out wB zr;obtain⟨rt,hrt⟩:=zG D.q.roots k hk;have hgr:D.q.roots.getD k default=rt:=by rw[qC,hrt];rfl
    have Vw:Hid (Ei.rule D.x D.q D.l D.names i ⟨1,-1,k,ln⟩=Ei.root D.x D.l D.names i rt.spec):=by show _=_;unfold ES.rule;rw[if_pos rfl];show ES.root _ _ _ _ _ (D.q.roots.getD ((k:Int)).toNat default).spec=_;rw[yT,hgr]
    obtain⟨v3,e3,hq3⟩:=HB.out.gx.LQ;simp only[List.cons.injEq,and_true]at e3;obtain⟨a3,c3,e4,-,-⟩:=hq3.shape;have hqq:X.G.q= .slice a3 n3 c3:=by rw[e3,e4,HN3.out]
    rw[e4]at hq3;obtain⟨bq,afC,rfl,-,-⟩:=hq3.at zBk;obtain⟨cs,-,hrq,cs1,rfl,hsp,-⟩:=hq3.get hrt;obtain⟨b1,b2,d1,d2,rfl,-,-,-⟩:=hsp.cells;obtain⟨m1,hm1⟩:=ze rt.spec.spans.length;obtain⟨m2,hm2⟩:=ze rt.spec.sets.length;rw[hm1,hm2]at hrq hsp;have hlow:bq<Bs:=by obtain⟨b',off',e5,hb5,-⟩:=hq3.at zBk;simp only[qG,qO,and_true]at e5;omega
    have HQ:Hid (∀W,Only (dF vM vN uU) wB W->W.rangeAt bq (afC+k*4) [.string rt.spec.name,.slice b1 m1 d1,.slice b2 m2 d2]):=fun W o=>Vu (dO hrq hlow HB.out.gx.le (HKx.out W o));have aqv:Hid (∀W,Only (dF vM vN uU) wB W->eF Bs W [.string rt.spec.name,.slice b1 m1 d1,.slice b2 m2 d2] rt.spec):=fun W o=>eF.keep hsp (HKx.out W o);have hss:rt.spec.sets.length<=900000:=HR.out.sr rt (qT hrt);have av8:n3<=1000:=by rw[<-HN3.out];exact HR.out.roots
    have hkn:k<n3:=by rw[<-HN3.out];exact hk
    have HRq:Hid (∀W,O0 wB W->Calls Tryz.prog 79 #[.pointer (some ⟨X.c,0,none⟩)] W fun e w'=>e= .returned (.agg #[.slice (some ⟨bq,afC,none⟩) n3 c3])/\O0 W w'):=fun W o=>MR (HB.out.aN o).gx.gr hqq;have uT:Hid (∀W,O0 wB W->Calls Tryz.prog 159 #[.pointer (some ⟨X.px,0,none⟩),.int .i64 i,.agg #[.string rt.spec.name,.slice b1 m1 d1,.slice b2 m2 d2]] W fun e w'=>e= .returned (.tuple #[])/\bV wB vM vN uU X Bs D (Ei.root D.x D.l D.names i rt.spec) w'):=fun W o=>
     bV.call (bV.refl HB.out) o fun gt' gb' nM Hx Ox=>aiy Hx HR.out.g (r:=i) zBk (aqv.out W Ox) hss hPi (qH _)
    have hfq:=afu (.slice (some ⟨bq,afC,none⟩) n3 c3);have kB2:=kB;clear hrt hgr e3 hq3 e4 hqq hrq hsp hm1 hm2 hlow hPi OV CX;go_wp2_with (refine wpList_load_mid rfl 158 (.tmp 13) rfl br (MP+i*4) rfl _ _ V7.out Tryz.underlying158 rfl zk ?_);try rw[<-hwB]
    clear hwB;have hS0:=HS.out wB.drew (zr.drew);have hS0:=And.intro hS0.1 (And.intro hS0.2.1 (And.intro hS0.2.2 (HQ.out wB.drew (zr.drew))));refine bH (n:=14) (E:=fun _=>false) (S:=fun W=>W.cell? ⟨X.px,0,none⟩=some (.pointer (some ⟨X.c,0,none⟩))/\W.cell? ⟨wr.heap.size,1,none⟩=some (.int .i64 (-1))/\W.cell? ⟨wr.heap.size,2,none⟩=some (.int .i64 (k:Int))/\W.rangeAt bq (afC+k*4) [.string rt.spec.name,.slice b1 m1 d1,.slice b2 m2 d2]) zk rfl hS0 (fun hHeld=>?_);refine tW 0 ?_;refine tW 1 ?_;refine tW 2 ?_;refine tW 3 ?_;refine tW 4 ?_;refine tK 5 ?_;refine tW 8 ?_;refine tK 9 ?_;refine tO 6 fun K hK=>?_;(go_simp;refine(HRq.out _ zAB).mono ?_;rintro e w6 ⟨rfl,o6⟩;have oA:O0 wB w6:=Only.same zBj o6;try go_wp2_with fail);refine hK.out _ _ ?_ (fun hHeld=>?_);·exact zCe
    clear hK K;try simp only[Act.put,gJ,gU,gK,gu,gy,gG]
    refine tW 7 ?_;refine tW 10 ?_;refine tW 11 ?_;refine tK 12 ?_ (hy:=by(intro w hSw;(try dsimp only at hSw);refine Eq.trans (iD (ty:=108) (x:=.tmp 30) (cs:=[.string rt.spec.name,.slice b1 m1 d1,.slice b2 m2 d2]) rfl rfl hSw.2.2.2 Tryz.underlying108 rfl zk) ?_;with_reducible rfl));refine tO 13 fun K hK=>?_;(go_simp;refine(uT.out _ zBn).mono ?_;rintro e w7 ⟨rfl,h7⟩;try go_wp2_with fail);exact zCJ
   ·simp only[dH.mk.injEq]at hq;obtain⟨rfl,rfl,rfl,-⟩:=hq;have hpx:p<D.x.packs.length:=HR.out.g.lt p hp;have hp6:p<=1000:=zBk;obtain⟨dd,hdd⟩:=zG ((D.x.pack p).deps) k hk;have hgr:(D.x.pack p).deps.getD k default=dd:=by rw[qC,hdd];rfl
    have Vw:Hid (Ei.rule D.x D.q D.l D.names i ⟨2,p,k,ln⟩=Ei.depend D.x D.l D.names i p k dd):=by show _=_;unfold ES.rule;rw[if_neg (by show¬(2:Int)=1;decide),if_pos rfl];show ES.depend _ _ _ _ _ ((p:Int)).toNat ((k:Int)).toNat ((D.x.pack ((p:Int)).toNat).deps.getD ((k:Int)).toNat default)=_;rw[yT,yT,hgr]
    obtain⟨bp,Sm,cs,rfl,Oz,PY,-⟩:=KG OV.out hpx;obtain⟨o1,o2,o3,o4,o5,o6,d1,d2,d3,d4,d5,d6,rfl,-,-,-,-,-,hdr,-,-⟩:=PY.cells;obtain⟨nd,hnd⟩:=ze ((D.x.pack p).deps.length);have aqw:nd<=1000:=by rw[<-hnd];exact HR.out.deps _ (aH.iW hpx)
    obtain⟨bd,Sr,rfl,hbd,-⟩:=hdr.at zBk;obtain⟨cd,-,hrd,hCd⟩:=hdr.get hdd;have hss:=HR.out.sd _ (aH.iW hpx) dd (qT hdd);obtain⟨co,cw,rfl,hon,hwh⟩:=hCd.cells;obtain⟨Eb,oJ,Ec,Ed,rfl,-,-,-⟩:=hon.cells;obtain⟨Ee,Ef,Eh,Ej,rfl,-,-,-⟩:=hwh.cells;have HDc:Hid (∀W,Only (dF vM vN uU) wB W->nC Bs W [.string dd.on.name,.slice Eb dd.on.spans.length Ec,.slice oJ dd.on.sets.length Ed,.string dd.cond.name,.slice Ee dd.cond.spans.length Eh,.slice Ef dd.cond.sets.length Ej,.int .i64 dd.line] dd):=fun W o=>nC.keep hCd (HKx.out W o);obtain⟨Hw,e1⟩:=ze dd.on.spans.length;obtain⟨Hz,e2⟩:=ze dd.on.sets.length;obtain⟨Ia,e3⟩:=ze dd.cond.spans.length;obtain⟨Ib,e4⟩:=ze dd.cond.sets.length;have adK:bp<Bs:=by exact zFQ
    have hQ0:∀W,Only (dF vM vN uU) wB W->W.cell? ⟨bp,Sm+p*8+5,none⟩=some (.slice (some ⟨bd,Sr,none⟩) (D.x.pack p).deps.length d4)/\W.rangeAt bd (Sr+k*7) [.string dd.on.name,.slice Eb dd.on.spans.length Ec,.slice oJ dd.on.sets.length Ed,.string dd.cond.name,.slice Ee dd.cond.spans.length Eh,.slice Ef dd.cond.sets.length Ej,.int .i64 dd.line]:=fun W o=>
     ⟨(dO Oz adK HB.out.gx.le (HKx.out W o)) 5 _ rfl,dO hrd hbd HB.out.gx.le (HKx.out W o)⟩
    rw[hnd,e1,e2,e3,e4]at hQ0;rw[e1,e2,e3,e4]at HDc;have HQ:=zh hQ0;rw[hnd]at hk;rw[XP.out]at hpx;have FV:Hid (∀W,O0 wB W->Calls Tryz.prog 78 #[.pointer (some ⟨X.c,0,none⟩)] W fun e w'=>e= .returned (.agg #[.slice (some ⟨bp,Sm,none⟩) n1 c1,.slice a2 n2 c2])/\O0 W w'):=fun W o=>mF (HB.out.aN o).gx.gr CX.out.1 CX.out.2;have Ac:Hid (∀W,O0 wB W->Calls Tryz.prog 160 #[.pointer (some ⟨X.px,0,none⟩),.int .i64 i,.int .i64 p,.int .i64 k,.agg #[.string dd.on.name,.slice Eb Hw Ec,.slice oJ Hz Ed,.string dd.cond.name,.slice Ee Ia Eh,.slice Ef Ib Ej,.int .i64 dd.line]] W fun e w'=>e= .returned (.tuple #[])/\bV wB vM vN uU X Bs D (Ei.depend D.x D.l D.names i p k dd) w'):=fun W o=>
     bV.call (bV.refl HB.out) o fun gt' gb' nM Hx Ox=>adG Hx HR.out.g (r:=i) (p:=p) (k:=k) zBy zAC zBk (HDc.out W Ox) hss hPi (qH _)
    have hfr:=KF (.slice (some ⟨bp,Sm,none⟩) n1 c1) (.slice a2 n2 c2);clear hdd hgr Oz PY hdr hrd hCd hon hwh hnd e1 e2 e3 e4 hQ0 hbd adK OV CX hPi hss;go_wp2_with (refine wpList_load_mid rfl 158 (.tmp 13) rfl br (MP+i*4) rfl _ _ V7.out Tryz.underlying158 rfl zk ?_);try rw[<-hwB]
    clear hwB;have hS0:=HS.out wB.drew (zr.drew);have hS0:=And.intro hS0.1 (And.intro hS0.2.1 (And.intro hS0.2.2 (HQ.out wB.drew (zr.drew))));refine bH (n:=22) (E:=fun _=>false) (S:=fun W=>W.cell? ⟨X.px,0,none⟩=some (.pointer (some ⟨X.c,0,none⟩))/\W.cell? ⟨wr.heap.size,1,none⟩=some (.int .i64 (p:Int))/\W.cell? ⟨wr.heap.size,2,none⟩=some (.int .i64 (k:Int))/\W.cell? ⟨bp,Sm+p*8+5,none⟩=some (.slice (some ⟨bd,Sr,none⟩) nd d4)/\W.rangeAt bd (Sr+k*7) [.string dd.on.name,.slice Eb Hw Ec,.slice oJ Hz Ed,.string dd.cond.name,.slice Ee Ia Eh,.slice Ef Ib Ej,.int .i64 dd.line]) zk rfl hS0 (fun hHeld=>?_);refine tW 0 ?_;refine tW 1 ?_;refine tW 2 ?_;refine tK 3 ?_;refine tW 4 ?_;refine tK 5 ?_;refine tW 6 ?_;refine tW 7 ?_;refine tW 8 ?_;refine tK 9 ?_;refine tW 12 ?_;refine tK 13 ?_;refine tW 17 ?_;refine tK 18 ?_;refine tO 10 fun K hK=>?_;(go_simp;refine(FV.out _ zAB).mono ?_;rintro e w6 ⟨rfl,o6⟩;have oA:O0 wB w6:=Only.same zBj o6;try go_wp2_with fail);refine hK.out _ _ ?_ (fun hHeld=>?_);·exact zCe
    clear hK K;try simp only[Act.put,gJ,gU,gK,gu,gy,gG]
    refine tW 11 ?_;refine tW 14 ?_;refine tW 15 ?_;refine tK 16 ?_;refine tW 19 ?_;refine tK 20 ?_ (hy:=by(intro w hSw;(try dsimp only at hSw);refine Eq.trans (iD (ty:=132) (x:=.tmp 54) (cs:=[.string dd.on.name,.slice Eb Hw Ec,.slice oJ Hz Ed,.string dd.cond.name,.slice Ee Ia Eh,.slice Ef Ib Ej,.int .i64 dd.line]) rfl rfl hSw.2.2.2.2 Tryz.underlying132 rfl zk) ?_;with_reducible rfl));refine tO 21 fun K hK=>?_;exact zFV
   simp only[dH.mk.injEq]at hq;obtain⟨rfl,rfl,rfl,-⟩:=hq;have hpx:p<D.x.packs.length:=HR.out.g.lt p hp;have hp6:p<=1000:=zBk;obtain⟨dd,hdd⟩:=zG ((D.x.pack p).cons) k hk;have hgr:(D.x.pack p).cons.getD k default=dd:=by rw[qC,hdd];rfl
   have Vw:Hid (Ei.rule D.x D.q D.l D.names i ⟨3,p,k,ln⟩=Ei.conflict D.x D.l i p dd):=by show _=_;unfold ES.rule;rw[if_neg (by show¬(3:Int)=1;decide),if_neg (by show¬(3:Int)=2;decide),if_pos rfl];show ES.conflict _ _ _ _ ((p:Int)).toNat ((D.x.pack ((p:Int)).toNat).cons.getD ((k:Int)).toNat default)=_;rw[yT,yT,hgr]
   obtain⟨bp,Sm,cs,rfl,Oz,PY,-⟩:=KG OV.out hpx;obtain⟨o1,o2,o3,o4,o5,o6,d1,d2,d3,d4,d5,d6,rfl,-,-,-,-,-,-,hdr,-⟩:=PY.cells;obtain⟨nd,hnd⟩:=ze ((D.x.pack p).cons.length);have aqw:nd<=1000:=by rw[<-hnd];exact HR.out.cons _ (aH.iW hpx)
   obtain⟨bd,Sr,rfl,hbd,-⟩:=hdr.at zBk;obtain⟨cd,-,hrd,hCd⟩:=hdr.get hdd;have hss:=HR.out.sc _ (aH.iW hpx) dd (qT hdd);obtain⟨cw,co,rfl,hwh,hon⟩:=hCd.cells2;obtain⟨Ee,Ef,Eh,Ej,rfl,-,-,-⟩:=hwh.cells;obtain⟨Eb,oJ,Ec,Ed,rfl,-,-,-⟩:=hon.cells;have HDc:Hid (∀W,Only (dF vM vN uU) wB W->sU Bs W [.string dd.cond.name,.slice Ee dd.cond.spans.length Eh,.slice Ef dd.cond.sets.length Ej,.string dd.with'.name,.slice Eb dd.with'.spans.length Ec,.slice oJ dd.with'.sets.length Ed,.int .i64 dd.line] dd):=fun W o=>sU.keep hCd (HKx.out W o);obtain⟨Hw,e1⟩:=ze dd.with'.spans.length;obtain⟨Hz,e2⟩:=ze dd.with'.sets.length;obtain⟨Ia,e3⟩:=ze dd.cond.spans.length;obtain⟨Ib,e4⟩:=ze dd.cond.sets.length;have adK:bp<Bs:=by exact zFQ
   have hQ0:∀W,Only (dF vM vN uU) wB W->W.cell? ⟨bp,Sm+p*8+6,none⟩=some (.slice (some ⟨bd,Sr,none⟩) (D.x.pack p).cons.length d5)/\W.rangeAt bd (Sr+k*7) [.string dd.cond.name,.slice Ee dd.cond.spans.length Eh,.slice Ef dd.cond.sets.length Ej,.string dd.with'.name,.slice Eb dd.with'.spans.length Ec,.slice oJ dd.with'.sets.length Ed,.int .i64 dd.line]:=fun W o=>
    ⟨(dO Oz adK HB.out.gx.le (HKx.out W o)) 6 _ rfl,dO hrd hbd HB.out.gx.le (HKx.out W o)⟩
   rw[hnd,e1,e2,e3,e4]at hQ0;rw[e1,e2,e3,e4]at HDc;have HQ:=zh hQ0;rw[hnd]at hk;rw[XP.out]at hpx;have FV:Hid (∀W,O0 wB W->Calls Tryz.prog 78 #[.pointer (some ⟨X.c,0,none⟩)] W fun e w'=>e= .returned (.agg #[.slice (some ⟨bp,Sm,none⟩) n1 c1,.slice a2 n2 c2])/\O0 W w'):=fun W o=>mF (HB.out.aN o).gx.gr CX.out.1 CX.out.2;have Ac:Hid (∀W,O0 wB W->Calls Tryz.prog 161 #[.pointer (some ⟨X.px,0,none⟩),.int .i64 i,.int .i64 p,.agg #[.string dd.cond.name,.slice Ee Ia Eh,.slice Ef Ib Ej,.string dd.with'.name,.slice Eb Hw Ec,.slice oJ Hz Ed,.int .i64 dd.line]] W fun e w'=>e= .returned (.tuple #[])/\bV wB vM vN uU X Bs D (Ei.conflict D.x D.l i p dd) w'):=fun W o=>
    bV.call (bV.refl HB.out) o fun gt' gb' nM Hx Ox=>XU Hx HR.out.g (r:=i) (p:=p) zAC zBk (HDc.out W Ox) hss
   have hfr:=KF (.slice (some ⟨bp,Sm,none⟩) n1 c1) (.slice a2 n2 c2);clear hdd hgr Oz PY hdr hrd hCd hon hwh hnd e1 e2 e3 e4 hQ0 hbd adK OV CX hPi hss;go_wp2_with (refine wpList_load_mid rfl 158 (.tmp 13) rfl br (MP+i*4) rfl _ _ V7.out Tryz.underlying158 rfl zk ?_);try rw[<-hwB]
   clear hwB;have hS0:=HS.out wB.drew (zr.drew);have hS0:=And.intro hS0.1 (And.intro hS0.2.1 (And.intro hS0.2.2 (HQ.out wB.drew (zr.drew))));refine bH (n:=20) (E:=fun _=>false) (S:=fun W=>W.cell? ⟨X.px,0,none⟩=some (.pointer (some ⟨X.c,0,none⟩))/\W.cell? ⟨wr.heap.size,1,none⟩=some (.int .i64 (p:Int))/\W.cell? ⟨wr.heap.size,2,none⟩=some (.int .i64 (k:Int))/\W.cell? ⟨bp,Sm+p*8+6,none⟩=some (.slice (some ⟨bd,Sr,none⟩) nd d5)/\W.rangeAt bd (Sr+k*7) [.string dd.cond.name,.slice Ee Ia Eh,.slice Ef Ib Ej,.string dd.with'.name,.slice Eb Hw Ec,.slice oJ Hz Ed,.int .i64 dd.line]) zk rfl hS0 (fun hHeld=>?_);refine tW 0 ?_;refine tW 1 ?_;refine tW 2 ?_;refine tK 3 ?_;refine tW 4 ?_;refine tW 5 ?_;refine tW 6 ?_;refine tK 7 ?_;refine tW 10 ?_;refine tK 11 ?_;refine tW 15 ?_;refine tK 16 ?_;refine tO 8 fun K hK=>?_;(go_simp;refine(FV.out _ zAB).mono ?_;rintro e w6 ⟨rfl,o6⟩;have oA:O0 wB w6:=Only.same zBj o6;try go_wp2_with fail);refine hK.out _ _ ?_ (fun hHeld=>?_);·exact zCe
   clear hK K;try simp only[Act.put,gJ,gU,gK,gu,gy,gG]
   refine tW 9 ?_;refine tW 12 ?_;refine tW 13 ?_;refine tK 14 ?_;refine tW 17 ?_;refine tK 18 ?_ (hy:=by(intro w hSw;(try dsimp only at hSw);refine Eq.trans (iD (ty:=160) (x:=.tmp 76) (cs:=[.string dd.cond.name,.slice Ee Ia Eh,.slice Ef Ib Ej,.string dd.with'.name,.slice Eb Hw Ec,.slice oJ Hz Ed,.int .i64 dd.line]) rfl rfl hSw.2.2.2.2 Tryz.underlying160 rfl zk) ?_;with_reducible rfl));refine tO 19 fun K hK=>?_;exact zFV
  obtain rfl:nr=i:=by omega
  have HF:=FX.out;rw[HE9.out]at HF;have HF2:=zh (bV.after bM.out HF);clear HF FX;go_wp2_with fail;go_end0;exact⟨rfl,HF2.out⟩
end
end Go.Proofs.YtdmmebjjojimiaaGreatDoor
