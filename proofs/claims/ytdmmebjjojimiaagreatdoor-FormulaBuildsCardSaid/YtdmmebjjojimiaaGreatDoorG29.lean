/- Package edge: rules. Printed by gen_edw9.py.; slices.Grow laid at ints: a new row without elements. -/
import Derived.Test.YtdmmebjjojimiaaGreatDoorG28
import Derived.Shelf.Spec.SlicesGrow
set_option maxRecDepth 100000
set_option maxHeartbeats 8000000
set_option linter.all false
namespace Go.Proofs
theorem zB7{p:Prop}(h:p:=by
 refine hK.out _ _ ?_ (fun hHeld=>?_)
 ·(try dsimp only)<;>(exact(fun w' o'=>And.intro (HS.out w' o').1 (And.intro (HS.out w' o').2.1 (And.intro (HS.out w' o').2.2 (HQ.out w' o')))) _ h7.only)
 clear hK K
 try simp only[Act.put,eF,fA,eG,dW,dX,dY]
 refine bf zk ?_ _
 have hE6:=h7
 rw[<-UR.out]at hE6
 have HE6:=zh (HFin.out _ hE6)
 have iG:=JH.out
 clear hE6 h7 oA
 go_wp2_with fail
 go_roundw
 case rel=>exact⟨i+1,by first|rfl|go_num,by omega,HE6⟩
 case measure=>simp[RowKit.intOf]<;>omega):p:=h
theorem zCW{p:Prop}(h:p:=by(try dsimp only)<;>(exact(fun w' o'=>And.intro (HS.out w' o').1 (And.intro (HS.out w' o').2.1 (And.intro (HS.out w' o').2.2 (HQ.out w' o')))) _ (oA.mono fun _ f=>f.elim))):p:=h
theorem zEa{p:Prop}(h:p:=by
 obtain⟨b',off',e5,hb5,-⟩:=Ig.out.at zAB
 simp only[qG,qO,and_true]at e5
 omega):p:=h
theorem zFK{p:Prop}(h:p:=by
 (go_simp;refine(zo.out _ zAE).mono ?_;rintro e w7 ⟨rfl,h7⟩;try go_wp2_with fail)
 exact zB7):p:=h
end Go.Proofs
namespace Go.Proofs.YtdmmebjjojimiaaGreatDoor
open Go.RowKit
theorem zZ{x:aF}{q:dH}{l:List Nat}{r:bW}(h:r∈dZ x q l):(∃k:Nat,k<q.roots.length/\r=⟨1,-1,k,(q.roots.getD k default).line⟩)\/(∃p k:Nat,p∈l/\k<(x.pack p).deps.length/\r=⟨2,p,k,((x.pack p).deps.getD k default).line⟩)\/(∃p k:Nat,p∈l/\k<(x.pack p).cons.length/\r=⟨3,p,k,((x.pack p).cons.getD k default).line⟩):=by
 unfold dZ at h;rcases qW.1 h with h|h;·unfold iK at h;obtain⟨k,hk,rfl⟩:=yD.1 h;exact .inl ⟨k,yI.1 hk,rfl⟩
 obtain⟨p,hp,h⟩:=List.mem_flatMap.1 h;unfold kK nV rU at h;rcases qW.1 h with h|h;·obtain⟨k,hk,rfl⟩:=yD.1 h;exact .inr (.inl ⟨p,k,hp,yI.1 hk,rfl⟩)
 obtain⟨k,hk,rfl⟩:=yD.1 h;exact .inr (.inr ⟨p,k,hp,yI.1 hk,rfl⟩)
structure EdR (D:xC):Prop where
 g:EdG D
 rs:D.rs=dZ D.x D.q D.l
 rl:D.rs.length<=800
 roots:D.q.roots.length<=1000
 deps:∀p∈D.x.packs,p.deps.length<=1000
 cons:∀p∈D.x.packs,p.cons.length<=1000
 sr:∀r∈D.q.roots,r.spec.sets.length<=900000
 sd:∀p∈D.x.packs,∀d∈p.deps,d.on.sets.length<=900000/\d.cond.sets.length<=900000
 sc:∀p∈D.x.packs,∀d∈p.cons,d.cond.sets.length<=900000/\d.with'.sets.length<=900000
theorem uS.root{E:ES}{N:Nat}(h:uS E.2 N)(x:aF)(l:List Nat)(names:List Str)(r:Nat)(s:gZ)(hx:x.packs.length<=1000):uS (E.root x l names r s).2 (N+1010):=by
 have h1:=(zY h (E.1.num (fG r)).2 (x.targets s.name)).mono (show N+(x.targets s.name).length<=N+1001 by have:=(LK x s.name).1;omega);unfold ES.root;dsimp only;split;·exact h1.mono zAB
 split;·exact h1.mono zAB
 exact(h1.vP _ _).mono zAB
theorem uS.depend{E:ES}{N:Nat}(h:uS E.2 N)(x:aF)(l:List Nat)(names:List Str)(r p k:Nat)(d:tJ)(hx:x.packs.length<=1000):uS (E.depend x l names r p k d).2 (N+1010):=by
 rw[ES.Pv E x l names r p k d rfl rfl rfl rfl];split;·exact(h.QT _ _).mono zAB
 split;·exact h.mono zAB
 refine uS.mono (N:=N+1+(x.dh d.on.name).length) ?_ (by have:=(zi x d.on.name).1;omega);exact ES.zi (h.vP _ _) p _ _
theorem uS.conflict{E:ES}{N:Nat}(h:uS E.2 N)(x:aF)(l:List Nat)(r p:Nat)(c:xX):uS (E.conflict x l r p c).2 (N+1010):=by
 rw[ES.I9 E x l r p c rfl rfl];split;·exact h.mono zAB
 split;·exact h.mono zAB
 exact h.mono zAB
theorem uS.rule{E:ES}{N:Nat}(h:uS E.2 N)(x:aF)(q:dH)(l:List Nat)(names:List Str)(r:Nat)(y:bW)(hx:x.packs.length<=1000):uS (E.rule x q l names r y).2 (N+1010):=by
 unfold ES.rule;split;·exact h.root x l names r _ hx
 split;·exact h.depend x l names r _ _ _ hx
 split;·exact h.conflict x l r _ _
 exact h.mono zAB
theorem uS.rules{E:ES}{N:Nat}(h:uS E.2 N)(x:aF)(q:dH)(l:List Nat)(names:List Str)(rs:List bW)(hx:x.packs.length<=1000):∀i,uS (E.rules x q l names rs i).2 (N+i*1010)
 |0=>by
  show uS E.2 (N+0*1010)
  rw[Nat.zero_mul,qF]
  exact h
 |i+1=>by
  have:=(uS.rules h x q l names rs hx i).rule x q l names i (rs.getD i default) hx
  exact uS.mono this (by rw[Nat.add_mul];omega)
section
variable {w w':World} {gt gb gp:Tag} {X:MW} {Bs B:Nat} {D:xC} {E:ES}
theorem aav{ao:Option Addr}{len cap i:Nat}{xs:List bW}{y:bW}(h:aQ 4 xw B w (.slice ao len cap) xs)(hx:xs[i]? =some y):∃(b off:Nat),ao=some ⟨b,off,none⟩/\((0<=y.kind/\y.kind<=255)/\bg y.pack/\bg y.idx/\bg y.line)/\∀W,O0 w W->W.rangeAt b (off+i*4) [.int .u8 y.kind,.int .i64 y.pack,.int .i64 y.idx,.int .i64 y.line]:=by obtain⟨b,off,cs,rfl,hb,hB,-,hr,hC⟩:=h.placed hx;obtain⟨rfl,hk⟩:=hC;exact⟨b,off,rfl,hk,fun W ho=>dI hr hb hB (Kp.gV ho)⟩
theorem UQ{b o:Nat}{c1 c2:List Value}(h:w.rangeAt b o (c1++c2)):w.rangeAt b o c1:=fun j u hu=>h j u (by
 rw[yM]
 ·exact hu
 ·exact(qJ.1 hu).1)
theorem afS(H:jl w gt gb gp X Bs D E)(hR:EdR D){N:Nat}(hP:uS E.2 N)(hN:N<=1000):Calls Tryz.prog 80 #[.pointer (some ⟨X.px,0,none⟩)] w fun e w'=>e= .returned (.tuple #[])/\bF w gt gb gp X Bs D (E.rules D.x D.q D.l D.names D.rs D.rs.length) w':=by
 have HR:=zh hR;have hpk:=hR.g.mid.packs;have hrl:=hR.rl;obtain⟨q0,-,-,-,-⟩:=H.cells;have HRs:=zh (acY H.gx.gr H.gx.rl zAB);have apn:Hid (∀r∈D.rs,(0<=r.kind/\r.kind<=255)/\bg r.pack/\bg r.idx/\bg r.line):=fun r hr=>by obtain⟨cs,hC⟩:=H.gx.rl.all r hr;exact hC.2
 obtain⟨nr,hnr⟩:=ze D.rs.length;have ZJ:=zh hnr;have H0:=zh H;have Dt:=zh hP;obtain⟨E9,F7⟩:=ze (E.rules D.x D.q D.l D.names D.rs D.rs.length);rw[F7];rw[hnr]at F7 hrl;have HE9:=zh F7;obtain⟨n1,hn1⟩:=ze D.x.packs.length;obtain⟨n2,hn2⟩:=ze D.x.cO.length;obtain⟨n3,hn3⟩:=ze D.q.roots.length;have MX:=zh hn1;have HN2:=zh hn2;have HN3:=zh hn3;clear hR F7 hnr hn1 hn2 hn3 hP H;go_enter Tryz.func80,Tryz.ntmps80;go_wp2_with fail;refine HRs.out.mono ?_;rintro e w1 ⟨vr,rfl,FI,O1⟩;have HRu:=zh FI;have H1:=zh (H0.out.aH O1);have Cm:Hid (∀k,vr.ownBlock=some k->¬bP gt gb gp k):=fun k hk=>H0.out.lT (FI.2 k hk);have aW:=zh O1;obtain⟨ar,cr,rfl,-,-⟩:=aJ FI.1;rw[ZJ.out]at HRu Cm⊢;have DU:Hid (bF w1 gt gb gp X Bs D (E.rules D.x D.q D.l D.names D.rs 0) w1):=bF.refl H1.out;clear FI O1 q0 HRs;go_wp2_with fail;go_loopw [10] (fun vi wr=> ∃i:Nat,vi= .int .i64 i/\i<=nr/\Hid (bF w1 gt gb gp X Bs D (E.rules D.x D.q D.l D.names D.rs i) wr)) (fun v _=>nr-(RowKit.intOf v).toNat);case atStart=>exact⟨0,rfl,qE _,DU⟩
 case round=>
  clear DU;obtain⟨i,rfl,hi,EG⟩:=hrel;by_cases ci:i<nr
  ·obtain⟨⟨kd,pk,ix,ln⟩,hy⟩:∃y,D.rs[i]? =some y:=⟨_,qA (by rw[ZJ.out];exact ci)⟩;have hgd:D.rs.getD i default=⟨kd,pk,ix,ln⟩:=by rw[qC,hy];rfl
   obtain⟨Ei,hEi⟩:=ze (E.rules D.x D.q D.l D.names D.rs i);have hPi:uS Ei.2 900000:=by rw[<-hEi];exact uS.mono (uS.rules Dt.out D.x D.q D.l D.names D.rs hpk i) zAB
   have kN:Hid (E.rules D.x D.q D.l D.names D.rs (i+1)=Ei.rule D.x D.q D.l D.names i ⟨kd,pk,ix,ln⟩):=by show ES.rule _ _ _ _ _ _ _=_;rw[hEi,hgd]
   rw[hEi]at EG;obtain⟨vS,vT,uD,H4',A4,B4,C4,O4⟩:=EG.out;have hrow:jB w wr (.slice ar nr cr) D.rs:=by refine⟨?_,HRu.out.2⟩;have:=aG HRu.out.1 O4 Cm.out;rw[ZJ.out]at this⊢;exact this
   obtain⟨br,aaw,rfl,hyr,hrg⟩:=aav (jB.read hrow apn.out) hy;have OJ:=zh (hrg wr zr);have iG:=zw (i+1);obtain⟨wB,hwB⟩:=zB (wr.alloc (.cells #[.int .u8 kd,.int .i64 pk,.int .i64 ix,.int .i64 ln] 158));have oB:O0 wr wB:=zA2;have hb0:wB.heap[wr.heap.size]? =some (.cells #[.int .u8 kd,.int .i64 pk,.int .i64 ix,.int .i64 ln] 158 (0,0)):=zA7;have hnm:=H4'.lT (qH wr.heap.size);have HB:=zh (H4'.aH oB);have HS:Hid (∀W,Only (bP vS vT uD) wB W->W.cell? ⟨X.px,0,none⟩=some (.pointer (some ⟨X.c,0,none⟩))/\W.cell? ⟨wr.heap.size,1,none⟩=some (.int .i64 pk)/\W.cell? ⟨wr.heap.size,2,none⟩=some (.int .i64 ix)):=fun W o=>by have c0:=aC hb0 o hnm;exact⟨aY HB.out.cells.1 o HB.out.tp,by rw[aj c0];rfl,by rw[aj c0];rfl⟩
   have HFin:Hid (∀W,bF wB vS vT uD X Bs D (Ei.rule D.x D.q D.l D.names i ⟨kd,pk,ix,ln⟩) W->bF w1 gt gb gp X Bs D (E.rules D.x D.q D.l D.names D.rs (i+1)) W):=fun W h=>by rw[kN.out];exact bF.trans A4 B4 C4 (O4.same (oB.mono fun _ f=>f.elim)) h
   have JH:=zh iG;have hym:=zZ (show(⟨kd,pk,ix,ln⟩:bW)∈dZ D.x D.q D.l by rw[<-HR.out.rs];exact qT hy);obtain⟨a1,c1,a2,c2,En,F6⟩:=HB.out.NT;rw[MX.out]at En;rw[HN2.out]at F6;have kB:wB.cell? ⟨wr.heap.size,0,none⟩=some (.int .u8 kd):=by rw[aj hb0];rfl
   have Am:=zh (And.intro En F6);have HKx:Hid (∀W,Only (bP vS vT uD) wB W->Kp Bs wB W):=fun W o=>Kp.xE o HB.out.QU;have Ig:Hid (aQ 8 fQ Bs wB (.slice a1 D.x.packs.length c1) D.x.packs):=by obtain⟨a1',c1',a2',c2',f1,f2,h1,-⟩:=HB.out.gx.NT;have e:=En.symm.trans f1;rw[MX.out]at e;simp only[qU]at e;obtain⟨rfl,-,rfl⟩:=e;exact h1
   clear hy hgd hEi H4' A4 B4 C4 O4 hrow hyr hrg hb0 hnm EG iG En F6 oB;rcases hym with⟨k,hk,hq⟩| ⟨p,k,hp,hk,hq⟩| ⟨p,k,hp,hk,hq⟩
   ·simp only[bW.mk.injEq]at hq;obtain⟨rfl,rfl,rfl,-⟩:=hq;have hS0:=HS.out wB zr;obtain⟨rt,hrt⟩:=zG D.q.roots k hk;have hgr:D.q.roots.getD k default=rt:=by rw[qC,hrt];rfl
    have UR:Hid (Ei.rule D.x D.q D.l D.names i ⟨1,-1,k,ln⟩=Ei.root D.x D.l D.names i rt.spec):=by show _=_;unfold ES.rule;rw[if_pos rfl];show ES.root _ _ _ _ _ (D.q.roots.getD ((k:Int)).toNat default).spec=_;rw[yT,hgr]
    obtain⟨v3,e3,hq3⟩:=HB.out.gx.ZY;simp only[List.cons.injEq,and_true]at e3;obtain⟨a3,c3,e4,-,-⟩:=hq3.shape;have hqq:X.G.q= .slice a3 n3 c3:=by rw[e3,e4,HN3.out]
    rw[e4]at hq3;obtain⟨bq,afT,rfl,-,-⟩:=hq3.at zAB;obtain⟨cs,-,hrq,cs1,rfl,hsp,-⟩:=hq3.get hrt;obtain⟨b1,b2,d1,d2,rfl,-,-,-⟩:=hsp.cells;obtain⟨m1,hm1⟩:=ze rt.spec.spans.length;obtain⟨m2,hm2⟩:=ze rt.spec.sets.length;rw[hm1,hm2]at hrq hsp;have hlow:bq<Bs:=by obtain⟨b',off',e5,hb5,-⟩:=hq3.at zAB;simp only[qG,qO,and_true]at e5;omega
    have HQ:Hid (∀W,Only (bP vS vT uD) wB W->W.rangeAt bq (afT+k*4) [.string rt.spec.name,.slice b1 m1 d1,.slice b2 m2 d2]):=fun W o=>UQ (dI hrq hlow HB.out.gx.le (HKx.out W o));have apq:Hid (∀W,Only (bP vS vT uD) wB W->dB Bs W [.string rt.spec.name,.slice b1 m1 d1,.slice b2 m2 d2] rt.spec):=fun W o=>dB.keep hsp (HKx.out W o);have hss:rt.spec.sets.length<=900000:=HR.out.sr rt (qT hrt);have auT:n3<=1000:=by rw[<-HN3.out];exact HR.out.roots
    have hkn:k<n3:=by rw[<-HN3.out];exact hk
    have HRq:Hid (∀W,O0 wB W->Calls Tryz.prog 79 #[.pointer (some ⟨X.c,0,none⟩)] W fun e w'=>e= .returned (.agg #[.slice (some ⟨bq,afT,none⟩) n3 c3])/\O0 W w'):=fun W o=>Ll (HB.out.aH o).gx.gr hqq;have uz:Hid (∀W,O0 wB W->Calls Tryz.prog 159 #[.pointer (some ⟨X.px,0,none⟩),.int .i64 i,.agg #[.string rt.spec.name,.slice b1 m1 d1,.slice b2 m2 d2]] W fun e w'=>e= .returned (.tuple #[])/\bF wB vS vT uD X Bs D (Ei.root D.x D.l D.names i rt.spec) w'):=fun W o=>
     bF.call (bF.refl HB.out) o fun gt' gb' lS Hx Ox=>aiu Hx HR.out.g (r:=i) zAB (apq.out W Ox) hss hPi (qH _)
    have hfq:=afM (.slice (some ⟨bq,afT,none⟩) n3 c3);have kB2:=kB;clear hrt hgr e3 hq3 e4 hqq hrq hsp hm1 hm2 hlow hPi Ig Am;go_wp2_with (refine wpList_load_mid rfl 158 (.tmp 13) rfl br (aaw+i*4) rfl _ _ OJ.out Tryz.underlying158 rfl zk ?_);try rw[<-hwB]
    clear hwB;have hS0:=HS.out wB.drew (zr.drew);have hS0:=And.intro hS0.1 (And.intro hS0.2.1 (And.intro hS0.2.2 (HQ.out wB.drew (zr.drew))));refine bC (n:=14) (E:=fun _=>false) (S:=fun W=>W.cell? ⟨X.px,0,none⟩=some (.pointer (some ⟨X.c,0,none⟩))/\W.cell? ⟨wr.heap.size,1,none⟩=some (.int .i64 (-1))/\W.cell? ⟨wr.heap.size,2,none⟩=some (.int .i64 (k:Int))/\W.rangeAt bq (afT+k*4) [.string rt.spec.name,.slice b1 m1 d1,.slice b2 m2 d2]) zk rfl hS0 (fun hHeld=>?_);refine tW 0 ?_;refine tW 1 ?_;refine tW 2 ?_;refine tW 3 ?_;refine tW 4 ?_;refine tK 5 ?_;refine tW 8 ?_;refine tK 9 ?_;refine tO 6 fun K hK=>?_;(go_simp;refine(HRq.out _ zBT).mono ?_;rintro e w6 ⟨rfl,o6⟩;have oA:O0 wB w6:=Only.same zAA o6;try go_wp2_with fail);refine hK.out _ _ ?_ (fun hHeld=>?_);·exact zCW
    clear hK K;try simp only[Act.put,eF,fA,eG,dW,dX,dY]
    refine tW 7 ?_;refine tW 10 ?_;refine tW 11 ?_;refine tK 12 ?_ (hy:=by(intro w hSw;(try dsimp only at hSw);refine Eq.trans (dJ (ty:=108) (x:=.tmp 30) (cs:=[.string rt.spec.name,.slice b1 m1 d1,.slice b2 m2 d2]) rfl rfl hSw.2.2.2 Tryz.underlying108 rfl zk) ?_;with_reducible rfl));refine tO 13 fun K hK=>?_;(go_simp;refine(uz.out _ zAE).mono ?_;rintro e w7 ⟨rfl,h7⟩;try go_wp2_with fail);exact zB7
   ·simp only[bW.mk.injEq]at hq;obtain⟨rfl,rfl,rfl,-⟩:=hq;have hpx:p<D.x.packs.length:=HR.out.g.lt p hp;have Y5:p<=1000:=zAB;obtain⟨dd,hdd⟩:=zG ((D.x.pack p).deps) k hk;have hgr:(D.x.pack p).deps.getD k default=dd:=by rw[qC,hdd];rfl
    have UR:Hid (Ei.rule D.x D.q D.l D.names i ⟨2,p,k,ln⟩=Ei.depend D.x D.l D.names i p k dd):=by show _=_;unfold ES.rule;rw[if_neg (by show¬(2:Int)=1;decide),if_pos rfl];show ES.depend _ _ _ _ _ ((p:Int)).toNat ((k:Int)).toNat ((D.x.pack ((p:Int)).toNat).deps.getD ((k:Int)).toNat default)=_;rw[yT,yT,hgr]
    obtain⟨bp,QZ,cs,rfl,Nz,OH,-⟩:=JI Ig.out hpx;obtain⟨o1,o2,o3,o4,o5,o6,d1,d2,d3,d4,d5,d6,rfl,-,-,-,-,-,hdr,-,-⟩:=OH.cells;obtain⟨nd,hnd⟩:=ze ((D.x.pack p).deps.length);have apr:nd<=1000:=by rw[<-hnd];exact HR.out.deps _ (aF.iQ hpx)
    obtain⟨bd,Q5,rfl,hbd,-⟩:=hdr.at zAB;obtain⟨cd,-,hrd,hCd⟩:=hdr.get hdd;have hss:=HR.out.sd _ (aF.iQ hpx) dd (qT hdd);obtain⟨co,cw,rfl,hon,hwh⟩:=hCd.cells;obtain⟨CW,nJ,CX,CY,rfl,-,-,-⟩:=hon.cells;obtain⟨CZ,Dc,Df,Dh,rfl,-,-,-⟩:=hwh.cells;have HDc:Hid (∀W,Only (bP vS vT uD) wB W->nH Bs W [.string dd.on.name,.slice CW dd.on.spans.length CX,.slice nJ dd.on.sets.length CY,.string dd.cond.name,.slice CZ dd.cond.spans.length Df,.slice Dc dd.cond.sets.length Dh,.int .i64 dd.line] dd):=fun W o=>nH.keep hCd (HKx.out W o);obtain⟨F9,e1⟩:=ze dd.on.spans.length;obtain⟨Gf,e2⟩:=ze dd.on.sets.length;obtain⟨Gg,e3⟩:=ze dd.cond.spans.length;obtain⟨Gh,e4⟩:=ze dd.cond.sets.length;have adz:bp<Bs:=by exact zEa
    have hQ0:∀W,Only (bP vS vT uD) wB W->W.cell? ⟨bp,QZ+p*8+5,none⟩=some (.slice (some ⟨bd,Q5,none⟩) (D.x.pack p).deps.length d4)/\W.rangeAt bd (Q5+k*7) [.string dd.on.name,.slice CW dd.on.spans.length CX,.slice nJ dd.on.sets.length CY,.string dd.cond.name,.slice CZ dd.cond.spans.length Df,.slice Dc dd.cond.sets.length Dh,.int .i64 dd.line]:=fun W o=>
     ⟨(dI Nz adz HB.out.gx.le (HKx.out W o)) 5 _ rfl,dI hrd hbd HB.out.gx.le (HKx.out W o)⟩
    rw[hnd,e1,e2,e3,e4]at hQ0;rw[e1,e2,e3,e4]at HDc;have HQ:=zh hQ0;rw[hnd]at hk;rw[MX.out]at hpx;have Eo:Hid (∀W,O0 wB W->Calls Tryz.prog 78 #[.pointer (some ⟨X.c,0,none⟩)] W fun e w'=>e= .returned (.agg #[.slice (some ⟨bp,QZ,none⟩) n1 c1,.slice a2 n2 c2])/\O0 W w'):=fun W o=>jQ (HB.out.aH o).gx.gr Am.out.1 Am.out.2;have zo:Hid (∀W,O0 wB W->Calls Tryz.prog 160 #[.pointer (some ⟨X.px,0,none⟩),.int .i64 i,.int .i64 p,.int .i64 k,.agg #[.string dd.on.name,.slice CW F9 CX,.slice nJ Gf CY,.string dd.cond.name,.slice CZ Gg Df,.slice Dc Gh Dh,.int .i64 dd.line]] W fun e w'=>e= .returned (.tuple #[])/\bF wB vS vT uD X Bs D (Ei.depend D.x D.l D.names i p k dd) w'):=fun W o=>
     bF.call (bF.refl HB.out) o fun gt' gb' lS Hx Ox=>adr Hx HR.out.g (r:=i) (p:=p) (k:=k) zBl zBU zAB (HDc.out W Ox) hss hPi (qH _)
    have hfr:=F5 (.slice (some ⟨bp,QZ,none⟩) n1 c1) (.slice a2 n2 c2);clear hdd hgr Nz OH hdr hrd hCd hon hwh hnd e1 e2 e3 e4 hQ0 hbd adz Ig Am hPi hss;go_wp2_with (refine wpList_load_mid rfl 158 (.tmp 13) rfl br (aaw+i*4) rfl _ _ OJ.out Tryz.underlying158 rfl zk ?_);try rw[<-hwB]
    clear hwB;have hS0:=HS.out wB.drew (zr.drew);have hS0:=And.intro hS0.1 (And.intro hS0.2.1 (And.intro hS0.2.2 (HQ.out wB.drew (zr.drew))));refine bC (n:=22) (E:=fun _=>false) (S:=fun W=>W.cell? ⟨X.px,0,none⟩=some (.pointer (some ⟨X.c,0,none⟩))/\W.cell? ⟨wr.heap.size,1,none⟩=some (.int .i64 (p:Int))/\W.cell? ⟨wr.heap.size,2,none⟩=some (.int .i64 (k:Int))/\W.cell? ⟨bp,QZ+p*8+5,none⟩=some (.slice (some ⟨bd,Q5,none⟩) nd d4)/\W.rangeAt bd (Q5+k*7) [.string dd.on.name,.slice CW F9 CX,.slice nJ Gf CY,.string dd.cond.name,.slice CZ Gg Df,.slice Dc Gh Dh,.int .i64 dd.line]) zk rfl hS0 (fun hHeld=>?_);refine tW 0 ?_;refine tW 1 ?_;refine tW 2 ?_;refine tK 3 ?_;refine tW 4 ?_;refine tK 5 ?_;refine tW 6 ?_;refine tW 7 ?_;refine tW 8 ?_;refine tK 9 ?_;refine tW 12 ?_;refine tK 13 ?_;refine tW 17 ?_;refine tK 18 ?_;refine tO 10 fun K hK=>?_;(go_simp;refine(Eo.out _ zBT).mono ?_;rintro e w6 ⟨rfl,o6⟩;have oA:O0 wB w6:=Only.same zAA o6;try go_wp2_with fail);refine hK.out _ _ ?_ (fun hHeld=>?_);·exact zCW
    clear hK K;try simp only[Act.put,eF,fA,eG,dW,dX,dY]
    refine tW 11 ?_;refine tW 14 ?_;refine tW 15 ?_;refine tK 16 ?_;refine tW 19 ?_;refine tK 20 ?_ (hy:=by(intro w hSw;(try dsimp only at hSw);refine Eq.trans (dJ (ty:=132) (x:=.tmp 54) (cs:=[.string dd.on.name,.slice CW F9 CX,.slice nJ Gf CY,.string dd.cond.name,.slice CZ Gg Df,.slice Dc Gh Dh,.int .i64 dd.line]) rfl rfl hSw.2.2.2.2 Tryz.underlying132 rfl zk) ?_;with_reducible rfl));refine tO 21 fun K hK=>?_;exact zFK
   simp only[bW.mk.injEq]at hq;obtain⟨rfl,rfl,rfl,-⟩:=hq;have hpx:p<D.x.packs.length:=HR.out.g.lt p hp;have Y5:p<=1000:=zAB;obtain⟨dd,hdd⟩:=zG ((D.x.pack p).cons) k hk;have hgr:(D.x.pack p).cons.getD k default=dd:=by rw[qC,hdd];rfl
   have UR:Hid (Ei.rule D.x D.q D.l D.names i ⟨3,p,k,ln⟩=Ei.conflict D.x D.l i p dd):=by show _=_;unfold ES.rule;rw[if_neg (by show¬(3:Int)=1;decide),if_neg (by show¬(3:Int)=2;decide),if_pos rfl];show ES.conflict _ _ _ _ ((p:Int)).toNat ((D.x.pack ((p:Int)).toNat).cons.getD ((k:Int)).toNat default)=_;rw[yT,yT,hgr]
   obtain⟨bp,QZ,cs,rfl,Nz,OH,-⟩:=JI Ig.out hpx;obtain⟨o1,o2,o3,o4,o5,o6,d1,d2,d3,d4,d5,d6,rfl,-,-,-,-,-,-,hdr,-⟩:=OH.cells;obtain⟨nd,hnd⟩:=ze ((D.x.pack p).cons.length);have apr:nd<=1000:=by rw[<-hnd];exact HR.out.cons _ (aF.iQ hpx)
   obtain⟨bd,Q5,rfl,hbd,-⟩:=hdr.at zAB;obtain⟨cd,-,hrd,hCd⟩:=hdr.get hdd;have hss:=HR.out.sc _ (aF.iQ hpx) dd (qT hdd);obtain⟨cw,co,rfl,hwh,hon⟩:=hCd.cells2;obtain⟨CZ,Dc,Df,Dh,rfl,-,-,-⟩:=hwh.cells;obtain⟨CW,nJ,CX,CY,rfl,-,-,-⟩:=hon.cells;have HDc:Hid (∀W,Only (bP vS vT uD) wB W->rF Bs W [.string dd.cond.name,.slice CZ dd.cond.spans.length Df,.slice Dc dd.cond.sets.length Dh,.string dd.with'.name,.slice CW dd.with'.spans.length CX,.slice nJ dd.with'.sets.length CY,.int .i64 dd.line] dd):=fun W o=>rF.keep hCd (HKx.out W o);obtain⟨F9,e1⟩:=ze dd.with'.spans.length;obtain⟨Gf,e2⟩:=ze dd.with'.sets.length;obtain⟨Gg,e3⟩:=ze dd.cond.spans.length;obtain⟨Gh,e4⟩:=ze dd.cond.sets.length;have adz:bp<Bs:=by exact zEa
   have hQ0:∀W,Only (bP vS vT uD) wB W->W.cell? ⟨bp,QZ+p*8+6,none⟩=some (.slice (some ⟨bd,Q5,none⟩) (D.x.pack p).cons.length d5)/\W.rangeAt bd (Q5+k*7) [.string dd.cond.name,.slice CZ dd.cond.spans.length Df,.slice Dc dd.cond.sets.length Dh,.string dd.with'.name,.slice CW dd.with'.spans.length CX,.slice nJ dd.with'.sets.length CY,.int .i64 dd.line]:=fun W o=>
    ⟨(dI Nz adz HB.out.gx.le (HKx.out W o)) 6 _ rfl,dI hrd hbd HB.out.gx.le (HKx.out W o)⟩
   rw[hnd,e1,e2,e3,e4]at hQ0;rw[e1,e2,e3,e4]at HDc;have HQ:=zh hQ0;rw[hnd]at hk;rw[MX.out]at hpx;have Eo:Hid (∀W,O0 wB W->Calls Tryz.prog 78 #[.pointer (some ⟨X.c,0,none⟩)] W fun e w'=>e= .returned (.agg #[.slice (some ⟨bp,QZ,none⟩) n1 c1,.slice a2 n2 c2])/\O0 W w'):=fun W o=>jQ (HB.out.aH o).gx.gr Am.out.1 Am.out.2;have zo:Hid (∀W,O0 wB W->Calls Tryz.prog 161 #[.pointer (some ⟨X.px,0,none⟩),.int .i64 i,.int .i64 p,.agg #[.string dd.cond.name,.slice CZ Gg Df,.slice Dc Gh Dh,.string dd.with'.name,.slice CW F9 CX,.slice nJ Gf CY,.int .i64 dd.line]] W fun e w'=>e= .returned (.tuple #[])/\bF wB vS vT uD X Bs D (Ei.conflict D.x D.l i p dd) w'):=fun W o=>
    bF.call (bF.refl HB.out) o fun gt' gb' lS Hx Ox=>XK Hx HR.out.g (r:=i) (p:=p) zBU zAB (HDc.out W Ox) hss
   have hfr:=F5 (.slice (some ⟨bp,QZ,none⟩) n1 c1) (.slice a2 n2 c2);clear hdd hgr Nz OH hdr hrd hCd hon hwh hnd e1 e2 e3 e4 hQ0 hbd adz Ig Am hPi hss;go_wp2_with (refine wpList_load_mid rfl 158 (.tmp 13) rfl br (aaw+i*4) rfl _ _ OJ.out Tryz.underlying158 rfl zk ?_);try rw[<-hwB]
   clear hwB;have hS0:=HS.out wB.drew (zr.drew);have hS0:=And.intro hS0.1 (And.intro hS0.2.1 (And.intro hS0.2.2 (HQ.out wB.drew (zr.drew))));refine bC (n:=20) (E:=fun _=>false) (S:=fun W=>W.cell? ⟨X.px,0,none⟩=some (.pointer (some ⟨X.c,0,none⟩))/\W.cell? ⟨wr.heap.size,1,none⟩=some (.int .i64 (p:Int))/\W.cell? ⟨wr.heap.size,2,none⟩=some (.int .i64 (k:Int))/\W.cell? ⟨bp,QZ+p*8+6,none⟩=some (.slice (some ⟨bd,Q5,none⟩) nd d5)/\W.rangeAt bd (Q5+k*7) [.string dd.cond.name,.slice CZ Gg Df,.slice Dc Gh Dh,.string dd.with'.name,.slice CW F9 CX,.slice nJ Gf CY,.int .i64 dd.line]) zk rfl hS0 (fun hHeld=>?_);refine tW 0 ?_;refine tW 1 ?_;refine tW 2 ?_;refine tK 3 ?_;refine tW 4 ?_;refine tW 5 ?_;refine tW 6 ?_;refine tK 7 ?_;refine tW 10 ?_;refine tK 11 ?_;refine tW 15 ?_;refine tK 16 ?_;refine tO 8 fun K hK=>?_;(go_simp;refine(Eo.out _ zBT).mono ?_;rintro e w6 ⟨rfl,o6⟩;have oA:O0 wB w6:=Only.same zAA o6;try go_wp2_with fail);refine hK.out _ _ ?_ (fun hHeld=>?_);·exact zCW
   clear hK K;try simp only[Act.put,eF,fA,eG,dW,dX,dY]
   refine tW 9 ?_;refine tW 12 ?_;refine tW 13 ?_;refine tK 14 ?_;refine tW 17 ?_;refine tK 18 ?_ (hy:=by(intro w hSw;(try dsimp only at hSw);refine Eq.trans (dJ (ty:=160) (x:=.tmp 76) (cs:=[.string dd.cond.name,.slice CZ Gg Df,.slice Dc Gh Dh,.string dd.with'.name,.slice CW F9 CX,.slice nJ Gf CY,.int .i64 dd.line]) rfl rfl hSw.2.2.2.2 Tryz.underlying160 rfl zk) ?_;with_reducible rfl));refine tO 19 fun K hK=>?_;exact zFK
  obtain rfl:nr=i:=by omega
  have HF:=EG.out;rw[HE9.out]at HF;have HF2:=zh (bF.after aW.out HF);clear HF EG;go_wp2_with fail;go_end0;exact⟨rfl,HF2.out⟩
end
end Go.Proofs.YtdmmebjjojimiaaGreatDoor
namespace Go.Proofs.YtdmmebjjojimiaaGreatDoor
open Go.RowKit Go.Shelf
def Tryz.Q7:Go.Shelf.Ren:=⟨fun |4=>236|n=>n,fun |0=>0|3=>3|4=>4|9=>9|20=>20|22=>78|25=>3|n=>n,fun n=>n⟩
theorem Tryz.UU:Go.Proofs.Lays8.n4 Tryz.prog Tryz.Q7:={
 mixed:=by kernel_rfl
 f4:=⟨Tryz.f236.name,by decide,Tryz.func236.trans (congrArg some zk)⟩
 t0:=Tryz.underlying0
 a0:=Tryz.isAgg0
 z0:=Tryz.sizeOf0
 v0:=Tryz.zeroValue0
 t3:=Tryz.underlying3
 a3:=Tryz.isAgg3
 z3:=Tryz.sizeOf3
 v3:=Tryz.zeroValue3
 t4:=Tryz.underlying4
 a4:=Tryz.isAgg4
 z4:=Tryz.sizeOf4
 v4:=Tryz.zeroValue4
 t9:=Tryz.underlying9
 a9:=Tryz.isAgg9
 z9:=Tryz.sizeOf9
 v9:=Tryz.zeroValue9
 t20:=Tryz.underlying20
 a20:=Tryz.isAgg20
 z20:=Tryz.sizeOf20
 v20:=Tryz.zeroValue20
 t22:=Tryz.underlying78
 a22:=Tryz.isAgg78
 z22:=Tryz.sizeOf78
 v22:=Tryz.zeroValue78}
theorem aiI(w:World){n:Nat}(hn:n<=100000000):Calls Tryz.prog 236 #[.slice none 0 0,.int .i64 n] w fun e w'=> ∃v,e= .returned v/\w'.ownsRow 0 3 1 v 0 []/\(∀k,v.ownBlock=some k->w.heap.size<=k)/\O0 w w':=by
 rcases Nat.eq_zero_or_pos n with rfl|h0
 ·refine(Any8.slices_Grow_room Tryz.UU none 0 0 0 w (qH _) zBl zBU zAB).mono fun e w' ⟨he,hw⟩=>⟨_,he,?_,fun k hk=>(by cases hk),?_⟩;·rw[hw];exact⟨rfl,.inl ⟨rfl,rfl⟩⟩
  exact zD5
 obtain⟨i0,hi,hz0,hz1,hz2⟩:=info_parts (show(Tryz.prog.info? 3).map (fun i=>(i.zero,i.size,i.bytes))=some (some (.int .i64 0),1,8) by kernel_rfl);refine(Any8.slices_Grow_grow Tryz.UU i0 (.int .i64 0) hi hz0 zBl none 0 0 n [] w (qH _) zBU (by rw[hz2];omega) zAB (by simp) (fun _=>rfl) (fun a ha=>by cases ha)).mono fun e w' ⟨he,hw⟩=>⟨_,he,?_,fun k hk=>?_,?_⟩
 ·have hG:0+n<=grownCap w (0+n) 0 3:=grownCap_ge w _ _ _;have hM:grownCap w (0+n) 0 3<=maxLen:=grownCap_le_maxLen w (0+n) 0 3 zAS;have hsz:(([]:List Value).toArray++Builtin.zeroCells (Value.int .i64 0).cells (0+n-0)++Builtin.zeroCells (Value.int .i64 0).cells (grownCap w (0+n) 0 3-(0+n))).size=grownCap w (0+n) 0 3*1:=by obtain⟨G,hGG⟩:=ze (grownCap w (0+n) 0 3);rw[hGG]at hG⊢;simp[Builtin.zeroCells,Value.cells];omega
  refine⟨rfl,Or.inr ⟨w.heap.size,grownCap w (0+n) 0 3,_,rfl,qE _,by rw[hw];exact qL w.drew _,qE _,hM,hsz,by simp⟩⟩
 ·cases hk;exact qH _
 rw[hw];exact(zr.drew).alloc _
end Go.Proofs.YtdmmebjjojimiaaGreatDoor
namespace Go.Proofs.YtdmmebjjojimiaaGreatDoor
open Go.RowKit
def kQ(l:List (Nat×Nat)):List Value:=l.flatMap fun e=>[.int .i64 (e.1:Int),.int .i64 (e.2:Int)]
section
variable {w:World}
theorem aax{b:Nat}{vs:List Value}{xs:List (List Int)}(hb:w.heap[b]? =some (.cells vs.toArray 78 (0,0)))(hlv:vs.length=xs.length)(hv:∀(i:Nat) v x,vs[i]? =some v->xs[i]? =some x->Ints w v x)(hl:xs.flatten.length<=100000000)(hk:xs.length<=1000){n:Nat}(hn:xs.length=n):Calls Tryz.prog 166 #[.slice (some ⟨b,0,none⟩) n n] w fun e w'=> ∃v,e= .returned v/\w'.ownsRow 0 3 1 v xs.flatten.length (xs.flatten.map cI)/\(∀k,v.ownBlock=some k->w.heap.size<=k)/\O0 w w':=by
 have hcell:∀(i:Nat) v,vs[i]? =some v->w.cell? ⟨b,i,none⟩=some v:=by intro i v h;simp[World.cell?,hb,h]
 have HC:=zh hcell;have HV:=zh hv;have HN:=zh hn;have HLV:=zh hlv;have hpre:∀(i:Nat),(xs.take i).flatten.length<=xs.flatten.length:=fun i=>by have h:=congrArg (fun l=>l.flatten.length) (List.take_append_drop i xs);simp only[List.flatten_append,qK]at h;omega
 have HP:=zh hpre;obtain⟨N,hN⟩:=ze xs.flatten.length;have HNN:=zh hN;have hNb:N<=100000000:=by rw[<-hN];exact hl
 have hn6:n<=1000:=zAB;have hw0:O0 w w:=Only.refl _ _;obtain⟨w0,apt⟩:=ze w;clear hcell hv hn hlv hpre hN hl hb hk apt;go_enter Tryz.func166,Tryz.ntmps166;go_wp2_with fail;go_loopw [3,11] (fun vs vi wr=> ∃i:Nat,vi= .int .i64 i/\i<=n/\vs= .int .i64 ((xs.take i).flatten.length:Nat)/\Hid (wr=w)) (fun _ v _=>n-(intOf v).toNat);case atStart=>exact⟨0,rfl,qE _,rfl,zh rfl⟩
 case round=>
  obtain⟨i,rfl,hi,rfl,hwr⟩:=hrel;have apu:=hwr.out.symm;subst apu;by_cases ci:i<n
  ·obtain⟨v,hv⟩:=zG vs i (by rw[HLV.out,HN.out];exact ci);obtain⟨x,hx⟩:=zG xs i zAT;have hI:=HV.out i v x hv hx;have hcl:=HC.out i v hv;obtain⟨ao,cap,rfl,-,-⟩:=hI.shape;have hs:(xs.take (i+1)).flatten.length=(xs.take i).flatten.length+x.length:=by rw[List.take_add_one,hx];simp
   have h1:=HP.out (i+1);rw[HNN.out]at h1;obtain⟨a,ha⟩:=ze ((xs.take i).flatten.length);obtain⟨c,hc⟩:=ze x.length;rw[hc]at hcl;rw[ha]at hs⊢;rw[hc]at hs;have hab:a+c<=N:=zAB;have HS:=zh hs;have iG:=zw (i+1);have ewa:=zw ((a:Int)+(c:Int));have hneg:¬((a:Int)+(c:Int)<0):=zAB;clear hI hv hx hs ha h1 hc;go_wp2_with fail;go_roundw;case rel=>exact⟨i+1,by first|rfl|go_num,by omega,by rw[HS.out];first|rfl|simp| (push_cast;rfl),by first|exact hwr|exact zh trivial⟩
   case measure=>simp[intOf]<;>omega
  obtain rfl:n=i:=by omega
  have hall:(xs.take n).flatten.length=N:=by rw[qI (yG HN.out)];exact HNN.out
  rw[hall];clear hall;go_wp2_with fail;refine(aiI w hNb).mono ?_;rintro e w1 ⟨v6,rfl,r6,b6,o6⟩;have R6:=zh r6;have B6:=zh b6;have O6:=zh o6;clear r6 b6 o6;go_wp2_with fail;go_loopw [6,27] (fun v6 vi ws=> ∃i:Nat,vi= .int .i64 i/\i<=n/\Hid (ws.ownsRow 0 3 1 v6 (xs.take i).flatten.length ((xs.take i).flatten.map cI))/\Hid (∀k,v6.ownBlock=some k->w.heap.size<=k)/\Hid (O0 w ws)) (fun _ v _=>n-(intOf v).toNat);case atStart=>exact⟨0,rfl,qE _,zh (by simpa using R6.out),B6,O6⟩
  case round=>
   clear R6 B6 O6;obtain⟨i,rfl,hi,R,B,O⟩:=hrel;by_cases ci:i<n
   ·obtain⟨v,hv⟩:=zG vs i (by rw[HLV.out,HN.out];exact ci);obtain⟨x,hx⟩:=zG xs i zAT;have hI:=(HV.out i v x hv hx).aH O.out;have hcl:=aY (HC.out i v hv) O.out (fun f=>f);obtain⟨ao,cap,rfl,-,-⟩:=hI.shape;have hs:(xs.take (i+1)).flatten=(xs.take i).flatten++x:=by rw[List.take_add_one,hx];simp
    have h1:=HP.out (i+1);rw[HNN.out,hs,qK]at h1;have HS:=zh hs;obtain⟨y,hy⟩:=ze ((xs.take i).flatten);rw[hy]at R h1;have HY:=zh hy;obtain⟨c,hc⟩:=ze x.length;obtain⟨a,ha⟩:=ze y.length;have HA:=zh ha;have HX:=zh hc;rw[hc]at hcl h1;rw[ha]at R h1;have HI:=zh hI;have iG:=zw (i+1);clear hI hv hx hs hy hc ha;go_wp2_with (at_builtin;go_must (refine akt lY (n:=a) (xs:=y.map cI) (ao:=ao) (m:=c) (c:=cap) (news:=x.map cI) rfl (.tmp 31) (.tmp 32) rfl rfl R.out rfl (by rw[qM];exact HX.out) (fun e=>by have h:=HI.out;rw[HX.out]at h;exact h.nil c cap zBs) ?n1 (SL _) zAB zBV ?n2));case n1=>have h:=HI.out;exact fun ad had=>h.news ad had
    case n2=>
     intro v' w2 r2 o2 nr;have R2:Hid (w2.ownsRow 0 3 1 v' (xs.take (i+1)).flatten.length ((xs.take (i+1)).flatten.map cI)):=by rw[HS.out,HY.out,qK,HA.out,HX.out,List.map_append];exact zh r2
     have B2:Hid (∀k,v'.ownBlock=some k->w.heap.size<=k):=fun k hk=>(nr k hk).elim (B.out k) (fun h=>qR O.out.size h);have O2:Hid (O0 w w2):=O.out.trans o2 fun k hk=>.inr (B.out k hk);clear r2 o2 nr;go_wp2_with fail;go_roundw;case rel=>exact⟨i+1,by first|rfl|go_num,by omega,R2,B2,O2⟩
     case measure=>simp[intOf]<;>omega
   obtain rfl:n=i:=by omega
   have hf:xs.take n=xs:=qI (yG HN.out);rw[hf]at R;clear hf;go_wp2_with fail;go_ret;exact⟨_,rfl,R.out,B.out,O.out⟩
end
end Go.Proofs.YtdmmebjjojimiaaGreatDoor
