/- needs.Closure: the walk.; ref10.Has; the chapter's example; NeedsMore. -/
import Derived.Test.YtdmmebjjojimiaaGreatDoorG04
import Derived.Test.YtdmmebjjojimiaaGreatDoorG10
set_option maxRecDepth 100000
set_option maxHeartbeats 8000000
set_option linter.all false
namespace Go.Proofs
theorem zBQ{p:Prop}(h:p:=by rw[hW0];exact(zr.alloc _).alloc _):p:=h
theorem zBT{p:Prop}(h:p:=by have:=N3.out;omega):p:=h
theorem zBg{p:Prop}(h:p:=by have:=HS.out.packs;omega):p:=h
end Go.Proofs
namespace Go.Proofs.YtdmmebjjojimiaaGreatDoor
open Go.RowKit Go.Shelf
def qp(l:List Str):List Value:=l.map Value.string
theorem I9(l:List Str):(qp l).length=l.length:=by simp[qp]
theorem YC:BM Tryz.prog 81 9 1 16:=BM.mk' (z:=.string .empty) Tryz.underlying81 zk rfl zAG
theorem OC(g o m cap:Nat)(hm:m+1<=cap)(hc:cap<=maxLen)(W:World):(Instr.slice 81 (.slice (some ⟨g,o,none⟩) (m+1) cap) (some (.int .i64 1)) none none).run Tryz.prog W= .ok (.slice (some ⟨g,if cap=1 then o else o+1,none⟩) m (cap-1)) W:=by obtain⟨ii,zz,t1,t2,t3,-,-⟩:=YC.info;exact Ur (P:=Tryz.prog) YC.und t1 t3 g o m cap hm hc W
theorem Xj{α:Type}(f:α->Str){xs:List α}{l:Nat}{d:α}(hx:xs[l]? =some d):(xs.map f).drop l=f d::(xs.map f).drop (l+1):=by obtain⟨hlt,rfl⟩:=qJ.1 hx;rw[List.drop_eq_getElem_cons (by simpa using hlt),List.getElem_map]
theorem OD{ks:List Int}{l:List Nat}(hn:ks.Nodup)(hl:l.Pairwise (· < ·))(h:∀z,z∈ks↔ ∃i:Nat,z=i/\i∈l):Ez ks=l.map fun i:Nat=>(i:Int):=by
 have hl2:(l.map fun i:Nat=>(i:Int)).Pairwise (· < ·):=by rw[List.pairwise_map];exact hl.imp fun h=>by omega
 have hp:ks.Perm (l.map fun i:Nat=>(i:Int)):=(List.perm_ext_iff_of_nodup hn (hl2.imp fun h=>Int.ne_of_lt h)).2 fun z=>by
  rw[h,yD];constructor;·rintro⟨i,rfl,hi⟩;exact⟨i,hi,rfl⟩
  rintro⟨i,hi,rfl⟩;exact⟨i,rfl,hi⟩
 exact List.Perm.eq_of_pairwise (le:=fun x y:Int=>x<=y) (fun a b _ _ h1 h2=>by omega) (AB ks) (hl2.imp fun h=>Int.le_of_lt h) ((Az ks).trans hp)
theorem AL{α:Type}[DecidableEq α]:∀{l m:List α},l.Nodup->(∀z∈l,z∈m)->l.length<=m.length
 | [],_,_,_=>qE _
 |a::l,m,hn,hs=>by
  rw[List.nodup_cons]at hn
  have hm:=hs a qQ
  have h1:=AL (l:=l) (m:=m.erase a) hn.2 fun z hz=>(List.mem_erase_of_ne (fun e=>by rw[e]at hz;exact hn.1 hz)).2 (hs z (yE _ hz))
  rw[List.length_erase_of_mem hm]at h1
  have:=List.length_pos_of_mem hm
  simp only[qN];omega
def fV.names(q:fV):List Str:=q.roots.map fun r=>r.spec.name
theorem xu{α:Type}(f:α->Str){xs:List α}{i:Nat}{x:α}(hx:xs[i]? =some x):(xs.map f).take (i+1)=(xs.map f).take i++[f x]:=by obtain⟨hlt,rfl⟩:=qJ.1 hx;rw[yL (by simpa using hlt)];simp
def Cnt(ks:List Int)(f:Int->Int)(c:Nat):Prop:= ∀z∈ks,1<=f z/\f z<=c
section
variable {w w':World} {B:Nat}
theorem JB{cs cq:List Value}{x:aH}{q:fV}(h:jl B w cs x)(hq:mV B w cq q)(hs:rM x)(hl:q.roots.length<=1000):Calls Tryz.prog 70 #[.agg cs.toArray,.agg cq.toArray] w fun e w'=> ∃v,e= .returned v/\w'.ownsRow 0 3 1 v (x.closure q.names).length (ji (x.closure q.names))/\(∀k,v.ownBlock=some k->w.heap.size<=k)/\O0 w w':=by
 have HH:=zh h;have HQ:=zh hq;have HS:=zh hs;obtain⟨v1,v2,rfl,h1,h2⟩:=h;obtain⟨ao,cap,rfl,-,-⟩:=h1.shape;obtain⟨oJ,cap2,rfl,-,-⟩:=h2.shape;obtain⟨v3,rfl,h3⟩:=hq;obtain⟨P5,cap3,rfl,g3,g3'⟩:=h3.shape;obtain⟨n1,hn1⟩:=ze x.packs.length;obtain⟨n2,hn2⟩:=ze x.iH.length;obtain⟨n3,hn3⟩:=ze q.roots.length;rw[hn1,hn2]at HH;rw[hn1]at h1;rw[hn3]at h3 HQ g3 hl;rw[hn1,hn2,hn3];have R1:=zh h1;have R3:=zh h3;have N1:=zh hn1;have N3:=zh hn3;obtain⟨W0,hW0⟩:=zB ((w.alloc (.cells #[.slice ao n1 cap,.slice oJ n2 cap2] 25)).alloc (.cells #[.slice P5 n3 cap3] 28));have bW:Hid (O0 w W0):=zBQ;have aG:Hid (∀W,O0 W0 W->W.cell? ⟨w.heap.size,0,none⟩=some (.slice ao n1 cap)/\W.cell? ⟨w.heap.size,1,none⟩=some (.slice oJ n2 cap2)/\W.cell? ⟨w.heap.size+1,0,none⟩=some (.slice P5 n3 cap3)):=fun W ho=>by
  have hb:=ho.block w.heap.size (by rw[hW0];simp;omega) (fun f=>f);have hb1:=ho.block (w.heap.size+1) (by rw[hW0];simp) (fun f=>f);refine⟨?_,?_,?_⟩;·rw[World.cell?_of_block (w:=W0) hb,hW0];simp
  ·rw[World.cell?_of_block (w:=W0) hb,hW0];simp
  rw[World.cell?_of_block (w:=W0) hb1,hW0];simp
 clear h1 h2 h3 hn1 hn2 hn3 hs;go_enter Tryz.func70,Tryz.ntmps70;go_wp2_with fail;rw[<-hW0];clear hW0;go_loopw [5,17] (fun vo vi wr=>Hid (O0 W0 wr)/\∃i:Nat,vi= .int .i64 i/\i<=n3/\Hid (pY wr 9 vo (qp (q.names.take i)))/\Hid (∀k,Value.blk vo=some k->W0.heap.size<=k)) (fun _ v _=>n3-(RowKit.intOf v).toNat);case atStart=>exact⟨show Hid _ from Only.refl _ _,0,rfl,qE _,show Hid _ from .inl ⟨rfl,by simp[qp]⟩,show Hid _ from fun k hk=>by cases hk⟩
 case round=>
  obtain⟨HO,i,rfl,hi,HV,HB⟩:=hrel;obtain⟨k0,k1,k2⟩:=aG.out wr HO.out;by_cases ci:i<n3
  ·have h2:=R3.out;rw[<-N3.out]at h2;obtain⟨b,off,he,-,-⟩:=h2.at zBT;subst he;obtain⟨y,hx⟩:=zG q.roots i (by rw[N3.out];exact ci);obtain⟨cs,hl2,hr,hC⟩:=(h2.keep lY.keep (Kp.iI (bW.out.same HO.out))).get hx;have jh:=zw (i+1);obtain⟨c1,rfl,hS,-⟩:=hC;obtain⟨p1,p2,d1,d2,rfl,-,-,-⟩:=hS.cells;have HR:=zh hr;have DN:Hid (q.names.take (i+1)=q.names.take i++[y.spec.name]):=xu (fun r:F8=>r.spec.name) hx;clear hr hx h2 hl2 hS;obtain⟨au,cu,rfl,-,-⟩:=HV.out.sh;have hlen:(qp (q.names.take i)).length<=1000:=by rw[I9,List.length_take];omega
   go_wp2_with (first| (refine wpList_load_mid rfl 110 (.tmp 19) rfl b (off+i*4) rfl _ _ HR.out Tryz.underlying110 rfl zk ?_)| (at_builtin;go_must (refine akR (u:=.string y.spec.name) YC rfl (.tmp 21) (.tmp 25) rfl rfl rfl (by simp) rfl (HV.out.only (((Only.refl (fun _=>False) _).alloc _).alloc _) (fun _ _ f=>f)) zBk zBl ?_)));intro v' w2 r1 r2 r3;have Ae:Hid (pY w2 9 v' (qp (q.names.take (i+1)))):=by rw[DN.out];simpa[qp,Hid]using r1
   have fK:=zh ((((HO.out.alloc _).alloc _).trans r2 fun k hk=>.inr (HB.out k hk)));have HB2:Hid (∀k,Value.blk v'=some k->W0.heap.size<=k):=by
    intro k hk;rcases r3 k hk with h|h;·exact HB.out _ h
    have:=HO.out.size;try simp at h
    omega
   obtain⟨av,cv,rfl,-,-⟩:=Ae.out.sh;clear r1 r2 r3 HV;go_wp2_with fail;go_roundw;case rel=>exact⟨fK,i+1,by first|rfl|go_num,by omega,Ae,HB2⟩
   case measure=>simp[RowKit.intOf]<;>omega
  obtain rfl:n3=i:=by omega
  have hmm:= @run_makeMap Tryz.prog;go_wp2_with fail;have hM:n3+x.IC []<=10000:=by have:=x.ag3 (M:=40) (fun p hp=>(HS.out.all p hp).deps) [];have h30:=HS.out.packs;have:x.packs.length*40<=30*40:=Nat.mul_le_mul_right _ h30;omega
  have hnl:q.names.length=n3:=by unfold fV.names;rw[qM,N3.out]
  obtain⟨bm,hbm⟩:=ze wr.heap.size;have ao9:W0.heap.size<=bm:=by rw[<-hbm];exact HO.out.size
  have BJ:Hid (pY (wr.alloc (.map #[] 0)) 9 u5 (qp q.names)):=by have:=HV.out;rw[qI (yG hnl)]at this;exact this.only ((Only.refl (fun _=>False) _).alloc _) (fun _ _ f=>f)
  have HB1:Hid (∀k,Value.blk u5=some k->W0.heap.size<=k/\k≠bm):=fun k hk=>⟨HB.out k hk,by have:=HV.out.lt hk;omega⟩;have HM1:Hid (rG (wr.alloc (.map #[] 0)) bm [] (fun _=>0)):=by rw[<-hbm];exact rG.made wr
  have bM:Hid (O0 W0 (wr.alloc (.map #[] 0))):=HO.out.alloc _;have HMl:=zh hM;have HNl:=zh hnl;obtain⟨M,hMM⟩:=zB (n3+x.IC []);rw[<-hMM]at hM HMl;have HMM:=zh hMM;generalize wr.alloc (.map #[] 0)=w1 at*;rw[hbm];clear hmm hbm HV HB HO hnl hi ci k0 k1 k2 hMM;have HBm:=zh ao9;go_loopg [5] M (fun k vo wr=>Hid (O0 W0 wr)/\∃(A:List Str) (ks:List Int) (f:Int->Int) (c:Nat),Hid (pY wr 9 vo (qp A))/\Hid (∀k,Value.blk vo=some k->W0.heap.size<=k/\k≠bm)/\Hid (rG wr bm ks f)/\Hid (rD x q.names ks A []/\Cnt ks f c/\A.length+x.IC ks=k/\64*k+c<=64*M));case atStart=>exact⟨bM,q.names,[],fun _=>0,0,BJ,HB1,HM1,show Hid _ from⟨rD.start x q.names,fun z hz=>(by cases hz),by rw[HNl.out,HMM.out],by omega⟩⟩
  case round=>
   obtain⟨HO,A,ks,f,c,HV,HB,HM,HI⟩:=hrel
   cases A with
   |nil=>
    obtain⟨au,cu,rfl,-,-⟩:=HV.out.sh
    rw[show(qp []).length=0 from rfl]at*
    have hfin:=OD HM.out.nd (x.KQ q.names) (fun z=>rD.fin HI.out.1 z)
    have HFin:=zh hfin
    have hkl:ks.length<=65536:=by
     have h1:=(Az ks).length_eq
     rw[hfin,qM]at h1
     have:=x.qm q.names
     have:=HS.out.packs
     omega
    clear hfin
    go_wp2_with fail
    refine(ab5 wr bm).mono ?_
    rintro e wk ⟨rfl,rfl⟩
    go_wp2_with fail
    refine(Xi HM.out hkl).mono ?_
    rintro e wk ⟨v,rfl,r1,r2,r3⟩
    obtain⟨av,cv,rfl,-,-⟩:=aC r1
    obtain⟨nk,hnk⟩:=ze ((Ez ks).length)
    rw[hnk]at r1 r2⊢
    have HR:=zh (And.intro r1 (And.intro r2 (And.intro r3 hnk)))
    clear r1 r2 r3 hnk
    go_wp2_with fail
    go_ret
    obtain⟨r1,r2,r3,hnk⟩:=HR.out
    refine⟨_,rfl,?_,fun k hk=>?_,(bW.out.same HO.out).same r3⟩
    ·have hl:nk=(x.closure q.names).length:=by rw[<-hnk,HFin.out,qM]
     rw[HFin.out]at r1
     rw[<-hl]
     have e1:((x.closure q.names).map fun i:Nat=>(i:Int)).map cI=ji (x.closure q.names):=by simp[ji,cI]
     rw[e1]at r1
     exact r1
    ·have h1:=r2 k hk
     have h2:=(bW.out.same HO.out).size
     omega
   |cons s A=>
    obtain⟨g,o,ahA,rfl,hc1,hc2,hc3,o',ho',hc4⟩:=pY.some (show pY wr 9 u5 (Value.string s::qp A) from HV.out)
    obtain⟨m,hm⟩:=ze ((qp A).length)
    rw[hm]at hc1 hc4⊢
    have HQ2:=zh hc4
    have hsl:=OC g o m ahA hc1 hc2
    rw[<-ho']at hsl
    clear ho'
    have hmA:A.length=m:=by rw[<-hm,I9]
    have HmA:=zh hmA
    obtain⟨k0,k1,k2⟩:=aG.out wr HO.out
    clear hm hc4 hmA
    have Us:=fun W hO=>zh (Ju (w:=W) (jl.keep HH.out (Kp.iI hO)) zBg s)
    go_wp2_with fail
    refine(Us wr (bW.out.same HO.out)).out.mono ?_
    rintro e wa ⟨vt,rfl,t1,t2,t3⟩
    obtain⟨I1,I2,I3,I4⟩:=HI.out
    have apc:=HmA.out
    obtain⟨ts,hts⟩:=ze (x.targets s)
    have htl:ts.length<=30:=by rw[<-hts];have:=x.TM s;have:=HS.out.packs;omega
    rw[hts]at t1
    obtain⟨atv,ct,rfl,-,-⟩:=aC t1
    obtain⟨nt,hnt⟩:=ze ts.length
    rw[hnt]at t1 t2 htl⊢
    have Ja:=zh hnt
    have HTs:=zh hts
    have YD:=zh (show wa.ownsRow 0 3 1 (.slice atv nt ct) nt (ji ts) from t1)
    have HBT:Hid (∀k,(Value.slice atv nt ct).ownBlock=some k->W0.heap.size<=k/\k≠bm):=fun k hk=>by
     have h1:=t2 k hk
     have h2:=HO.out.size
     have h3:=HM.out.lt
     exact⟨by omega,by omega⟩
    have HBq:Hid (∀k,Value.blk (.slice (some ⟨g,o',none⟩) m (ahA-1))=some k->W0.heap.size<=k/\k≠bm/\(Value.slice atv nt ct).ownBlock≠some k):=fun k hk=>by
     have h1:=HB.out k (by simpa[Value.blk]using hk)
     refine⟨h1.1,h1.2,fun h=>?_⟩
     have h2:=t2 k h
     have h3:=HQ2.out.lt hk
     omega
    have HQa:Hid (pY wa 9 (.slice (some ⟨g,o',none⟩) m (ahA-1)) (qp A)):=HQ2.out.only (by have:=t3;exact this) (fun _ _ f=>f)
    have YE:Hid (rG wa bm ks f):=HM.out.aN t3
    have HOa:Hid (O0 W0 wa):=HO.out.same t3
    have HIa:Hid (rD x q.names ks A [s]/\Cnt ks f c/\A.length+x.IC ks+1<=gk/\64*(A.length+x.IC ks)+nt+c<=64*M):=⟨rD.pop I1,I2,by simp only[qN]at I3;omega,by simp only[qN]at I3;omega⟩
    clear Us t1 t2 t3 hnt hts I1 I2 I3 I4 HV HB HM HI HO HQ2 hc3 hsl apc HmA k0 k1 k2
    generalize wr=wo at*
    go_wp2_with fail
    go_loopw [5,41] (fun vo vj wr=>Hid (O0 W0 wr)/\Hid (wr.ownsRow 0 3 1 (.slice atv nt ct) nt (ji ts))/\∃(j:Nat) (A:List Str) (ks:List Int) (f:Int->Int) (c:Nat),vj= .int .i64 j/\j<=nt/\Hid (pY wr 9 vo (qp A))/\Hid (∀k,Value.blk vo=some k->W0.heap.size<=k/\k≠bm/\(Value.slice atv nt ct).ownBlock≠some k)/\Hid (rG wr bm ks f)/\
     Hid (rD x q.names ks A [s]/\Cnt ks f c/\A.length+x.IC ks+1<=gk/\64*(A.length+x.IC ks)+(nt-j)+c<=64*M/\∀i∈ts.take j,(i:Int)∈ks)) (fun _ v _=>nt-(RowKit.intOf v).toNat)
    case atStart=>exact⟨HOa,YD,0,A,ks,f,c,rfl,qE _,HQa,HBq,YE,show Hid _ from⟨HIa.out.1,HIa.out.2.1,HIa.out.2.2.1,HIa.out.2.2.2,fun i hi=>by simp at hi⟩⟩
    case round=>
     clear HQa HBq YE HIa YD
     obtain⟨HO,HT,j,A,ks,f,c,rfl,hj,HV,HB,HM,HI⟩:=hrel
     obtain⟨k0,k1,k2⟩:=aG.out wr HO.out
     by_cases cj:j<nt
     ·obtain⟨kT,ape,he,-,-⟩:=fJ HT.out zBk
      simp only[qU]at he
      obtain⟨rfl,-,rfl⟩:=he
      obtain⟨t,htt⟩:=zG ts j (by rw[Ja.out];exact cj)
      have hcell:wr.cell? ⟨kT,j,none⟩=some (.int .i64 (t:Int)):=by
       rw[HT.out.cellAt j zBk]
       simp[ji,htt]
      have ewj:=zw (j+1)
      have hit:t∈x.targets s:=by rw[HTs.out];exact qT htt
      have htn:t<n1:=by have:=aH.tY hit;rw[N1.out]at this;exact this
      have apf:n1<=30:=by rw[<-N1.out];exact HS.out.packs
      have ab7:bU (t:Int):=⟨by omega,by omega⟩
      obtain⟨I1,I2,I3,I4,I5⟩:=HI.out
      obtain⟨ft,hft⟩:∃ft,f (t:Int)=ft:=⟨_,rfl⟩
      have hf1:(t:Int)∈ks->1<=ft/\ft<=c:=fun h=>by rw[<-hft];exact I2 _ h
      have hf0:(t:Int)∉ks->ft=0:=fun h=>by rw[<-hft];exact HM.out.out _ h
      have hfc:0<=ft/\ft<=c:=by
       by_cases hk:(t:Int)∈ks
       ·have:=hf1 hk;omega
       ·have:=hf0 hk;omega
      have akU:=HMl.out
      have ewf:=zw (ft+1)
      have hkl:ks.length<=30:=by
       have h1:ks.length<=((List.range n1).map fun i:Nat=>(i:Int)).length:=AL HM.out.nd fun z hz=>by
        obtain⟨i,rfl,hi⟩:=I1.keys z hz
        have:=hi.lt
        rw[N1.out]at this
        exact yD.2 ⟨i,yI.2 this,rfl⟩
       simp at h1;omega
      have hlk:=HM.out.look ab7
      obtain⟨w2,hup,hM2,hO2⟩:=HM.out.store (v:=ft+1) ab7 ⟨by omega,by omega⟩ zBp
      have hlk2:=hM2.look ab7
      rw[hft]at hlk
      rw[show upd f (t:Int) (ft+1) (t:Int)=ft+1 by unfold upd;rw[if_pos rfl]]at hlk2
      have HM2:=zh hM2
      have fK:Hid (O0 W0 w2):=HO.out.trans hO2 fun k hk=>.inr (by have:=HBm.out;omega)
      have HT2:Hid (w2.ownsRow 0 3 1 (.slice (some ⟨kT,0,none⟩) nt ct) nt (ji ts)):=aI HT.out hO2 fun k hk=>(HBT.out k hk).2
      have Ae:Hid (pY w2 9 u5 (qp A)):=HV.out.only hO2 fun k hk=>(HB.out k hk).2.1
      obtain⟨au,cu,rfl,-,-⟩:=HV.out.sh
      have DN:=zh htt
      by_cases hk:(t:Int)∈ks
      ·have avg:=hf1 hk
       have HI2:Hid (rD x q.names ks A [s]/\Cnt ks (upd f (t:Int) (ft+1)) (c+1)/\A.length+x.IC ks+1<=gk/\64*(A.length+x.IC ks)+(nt-(j+1))+(c+1)<=64*M/\∀i∈ts.take (j+1),(i:Int)∈ks):=by
        refine⟨I1,fun z hz=>?_,I3,by omega,fun i hi=>?_⟩
        ·unfold upd
         split
         ·omega
         ·have:=I2 z hz;omega
        ·rcases dI htt hi with h|rfl
         ·exact I5 i h
         ·exact hk
       rw[show D8 ks (t:Int)=ks by unfold D8;rw[if_pos hk]]at HM2
       clear htt hit hf1 hf0 akU hkl hM2 hO2 HT HV HM HI HO I1 I2 I3 I4 I5 hk hft
       go_wp2_with fail
       go_roundw
       case rel=>exact⟨fK,HT2,j+1,A,ks,_,c+1,by first|rfl|go_num,by omega,Ae,HB,HM2,HI2⟩
       case measure=>simp[RowKit.intOf]<;>omega
      ·obtain rfl:=hf0 hk
       have e01:(0:Int)+1=1:=rfl
       rw[e01]at hup hlk2 HM2 ewf
       clear e01
       have hpx:x.packs[t]? =some (x.pack t):=by
        unfold aH.pack
        rw[qC,qA (by rw[N1.out];exact htn)];rfl
       have h2:=R1.out
       rw[<-N1.out]at h2
       obtain⟨b,off,he,-,-⟩:=h2.at zA2
       subst he
       obtain⟨csp,-,Oz,PY⟩:=h2.get hpx
       obtain⟨p,hp⟩:=ze (x.pack t)
       have Ut:p∈x.packs:=by rw[<-hp];exact qT hpx
       rw[hp]at PY
       obtain⟨q1,q2,q3,q4,q5,q6,z1,z2,z3,z4,z5,z6,rfl,-,-,-,-,-,b4,-,-⟩:=PY.cells
       have hcd:=uD Oz (bW.out.same fK.out) 5 _ rfl
       have hdl:=(HS.out.all p Ut).deps
       obtain⟨nd,hnd⟩:=ze p.deps.length
       rw[hnd]at hcd b4 hdl
       have FB:=zh hnd
       obtain⟨_,_,e4,g4,g4'⟩:=b4.shape
       simp only[qU]at e4
       obtain⟨-,-,rfl⟩:=e4
       rw[hnd]at g4
       have HD:Hid (∀W,O0 W0 W->aQ 7 nC B W (.slice q4 nd z4) p.deps):=fun W hW=>b4.keep nC.keep (Kp.iI (bW.out.same hW))
       have hk':∀z,z∈D8 ks (t:Int)↔z∈ks\/z=(t:Int):=fun z=>CY
       have apg:x.IC (D8 ks (t:Int))+nd=x.IC ks:=by
        have:=aH.aeM (x:=x) (i:=t) (by rw[N1.out];exact htn) hk hk'
        rw[hp,hnd]at this;exact this
       have HI2:Hid (rD x q.names (D8 ks (t:Int)) A (p.names++[s])/\Cnt (D8 ks (t:Int)) (upd f (t:Int) 1) (c+1)/\A.length+nd+x.IC (D8 ks (t:Int))+1<=gk/\64*(A.length+nd+x.IC (D8 ks (t:Int)))+(nt-(j+1))+(c+1)<=64*M/\∀i∈ts.take (j+1),(i:Int)∈D8 ks (t:Int)):=by
        have hk1:=rD.key (R:=[]) (by simpa using I1) hit hk'
        rw[hp]at hk1
        refine⟨by simpa using hk1,fun z hz=>?_,by omega,by omega,fun i hi=>?_⟩
        ·unfold upd
         split
         ·omega
         ·rename_i hne
          rcases(hk' z).1 hz with h|h
          ·have:=I2 z h;omega
          ·exact absurd h hne
        ·rcases dI htt hi with h|rfl
         ·exact(hk' _).2 (.inl (I5 i h))
         ·exact(hk' _).2 (.inr rfl)
       obtain⟨k0,k1,k2⟩:=aG.out w2 fK.out
       generalize D8 ks (t:Int)=Tn at*
       generalize upd f (t:Int) 1=f2 at*
       clear htt hit hf1 hf0 akU hkl hM2 hO2 HT HV HM HI HO I1 I2 I3 I4 I5 hk hft h2 hpx hp PY Oz b4 Ut hnd hk' apg
       go_wp2_with fail
       generalize wr=wm at*
       go_loopw [5,60] (fun vo vl wr=>Hid (O0 W0 wr)/\Hid (wr.ownsRow 0 3 1 (.slice (some ⟨kT,0,none⟩) nt ct) nt (ji ts))/\∃(l:Nat) (A:List Str),vl= .int .i64 l/\l<=nd/\Hid (pY wr 9 vo (qp A))/\Hid (∀k,Value.blk vo=some k->W0.heap.size<=k/\k≠bm/\(Value.slice (some ⟨kT,0,none⟩) nt ct).ownBlock≠some k)/\Hid (rG wr bm Tn f2)/\
        Hid (rD x q.names Tn A (p.names.drop l++[s])/\Cnt Tn f2 (c+1)/\A.length+(nd-l)+x.IC Tn+1<=gk/\64*(A.length+(nd-l)+x.IC Tn)+(nt-(j+1))+(c+1)<=64*M/\∀i∈ts.take (j+1),(i:Int)∈Tn)) (fun _ v _=>nd-(RowKit.intOf v).toNat)
       case atStart=>exact⟨fK,HT2,0,A,rfl,qE _,Ae,HB,HM2,HI2⟩
       case round=>
        clear fK HT2 Ae HB HM2 HI2
        obtain⟨HO,HT,l,A,rfl,hl2,HV,HB,HM,HI⟩:=hrel
        by_cases cl:l<nd
        ·have hd2:=HD.out wr HO.out
         rw[<-FB.out]at hd2
         obtain⟨b',off',he',-,-⟩:=hd2.at (by have:=FB.out;omega)
         subst he'
         obtain⟨d,hdd⟩:=zG p.deps l (by rw[FB.out];exact cl)
         obtain⟨cs7,-,ZM,hC7⟩:=hd2.get hdd
         obtain⟨c1,c2,rfl,hS1,hS2,-⟩:=hC7
         obtain⟨p1,p2,d1,d2,rfl,-,-,-⟩:=hS1.cells
         obtain⟨p3,p4,d3,d4,rfl,-,-,-⟩:=hS2.cells
         have HR7:=zh (show wr.rangeAt b' (off'+l*7) [.string d.on.name,.slice p1 d.on.spans.length d1,.slice p2 d.on.sets.length d2,.string d.cond.name,.slice p3 d.cond.spans.length d3,.slice p4 d.cond.sets.length d4,.int .i64 d.line] from ZM)
         have ewl:=zw (l+1)
         have hnd:p.names.drop l=d.on.name::p.names.drop (l+1):=Xj (fun d:uY=>d.on.name) hdd
         obtain⟨I1,I2,I3,I4,I5⟩:=HI.out
         rw[hnd]at I1
         have HI3:Hid (rD x q.names Tn (A++[d.on.name]) (p.names.drop (l+1)++[s])/\Cnt Tn f2 (c+1)/\(A++[d.on.name]).length+(nd-(l+1))+x.IC Tn+1<=gk/\64*((A++[d.on.name]).length+(nd-(l+1))+x.IC Tn)+(nt-(j+1))+(c+1)<=64*M/\∀i∈ts.take (j+1),(i:Int)∈Tn):=
          ⟨rD.push I1,I2,by simp only[qK,List.length_singleton];omega,by simp only[qK,List.length_singleton];omega,I5⟩
         obtain⟨aq,cq,rfl,-,-⟩:=HV.out.sh
         have hlA:(qp A).length<=20000:=by rw[I9];have:=HMl.out;omega
         clear hd2 hdd ZM hS1 hS2 hnd I1 I2 I3 I4 I5 HI
         go_wp2_with (first| (refine wpList_load_mid rfl 132 (.tmp 62) rfl b' (off'+l*7) rfl _ _ HR7.out Tryz.underlying132 rfl zk ?_)| (at_builtin;go_must (refine akR (u:=.string d.on.name) YC rfl (.tmp 64) (.tmp 68) rfl rfl rfl (by simp) rfl (HV.out.only (((Only.refl (fun _=>False) _).alloc _).alloc _) (fun _ _ f=>f)) zBk zBl ?_)))
         intro v' w3 r1 r2 r3
         have Tq:Hid (pY w3 9 v' (qp (A++[d.on.name]))):=by simpa[qp,Hid]using r1
         have hOa:=((Only.refl (fun k=>Value.blk (.slice aq (qp A).length cq)=some k) wr).alloc (.cells #[.string d.on.name,.slice p1 d.on.spans.length d1,.slice p2 d.on.sets.length d2,.string d.cond.name,.slice p3 d.cond.spans.length d3,.slice p4 d.cond.sets.length d4,.int .i64 d.line] 132)).alloc (.cells #[.string d.on.name] 9) |>.same r2
         have mO:Hid (O0 W0 w3):=HO.out.trans hOa fun k hk=>.inr (HB.out k hk).1
         have HT3:Hid (w3.ownsRow 0 3 1 (.slice (some ⟨kT,0,none⟩) nt ct) nt (ji ts)):=aI HT.out hOa fun k hk h=>(HB.out k h).2.2 hk
         have HM3:Hid (rG w3 bm Tn f2):=HM.out.only hOa fun h=>(HB.out bm h).2.1 rfl
         have HB3:Hid (∀k,Value.blk v'=some k->W0.heap.size<=k/\k≠bm/\(Value.slice (some ⟨kT,0,none⟩) nt ct).ownBlock≠some k):=fun k hk=>by
          rcases r3 k hk with h|h
          ·exact HB.out k h
          ·have h1:=HO.out.size
           have h2:=HM.out.lt
           have h3:kT<wr.heap.size:=dX HT.out rfl
           try simp at h
           refine⟨by omega,by omega,fun h4=>?_⟩
           simp[Value.ownBlock]at h4
           omega
         obtain⟨av,cv,rfl,-,-⟩:=Tq.out.sh
         clear r1 r2 r3 hOa HV HB HM HT HO
         go_wp2_with fail
         go_roundw
         case rel=>exact⟨mO,HT3,l+1,A++[d.on.name],by first|rfl|go_num,by omega,Tq,HB3,HM3,HI3⟩
         case measure=>simp[RowKit.intOf]<;>omega
        ·obtain rfl:nd=l:=by omega
         have hdr:p.names.drop nd=[]:=List.drop_eq_nil_of_le (by unfold iT.names;rw[qM,FB.out];omega)
         have HI3:Hid (rD x q.names Tn A [s]/\Cnt Tn f2 (c+1)/\A.length+x.IC Tn+1<=gk/\64*(A.length+x.IC Tn)+(nt-(j+1))+(c+1)<=64*M/\∀i∈ts.take (j+1),(i:Int)∈Tn):=by
          obtain⟨I1,I2,I3,I4,I5⟩:=HI.out
          rw[hdr]at I1
          exact⟨I1,I2,by omega,by omega,I5⟩
         clear hdr HI
         go_wp2_with fail
         go_roundw
         case rel=>exact⟨HO,HT,j+1,A,Tn,f2,c+1,by first|rfl|go_num,by omega,HV,HB,HM,HI3⟩
         case measure=>simp[RowKit.intOf]<;>omega
     ·obtain rfl:nt=j:=by omega
      have HI2:Hid (rD x q.names ks A []/\Cnt ks f c/\A.length+x.IC ks+1<=gk/\64*(A.length+x.IC ks)+c<=64*M):=by
       obtain⟨I1,I2,I3,I4,I5⟩:=HI.out
       refine⟨I1.drop fun i hi=>I5 i ?_,I2,I3,by omega⟩
       rw[HTs.out]at hi
       rw[qI (yG Ja.out)]
       exact hi
      have HB2:Hid (∀k,Value.blk u5=some k->W0.heap.size<=k/\k≠bm):=fun k hk=>⟨(HB.out k hk).1,(HB.out k hk).2.1⟩
      clear HI HB
      go_wp2_with fail
      go_roundg (A.length+x.IC ks)
      case measure=>have:=HI2.out.2.2.1;omega
      case rel=>exact⟨HO,A,ks,f,c,HV,HB2,HM,show Hid _ from⟨HI2.out.1,HI2.out.2.1,rfl,HI2.out.2.2.2⟩⟩
end
section
variable {w w':World} {B:Nat}
theorem oq{v:Value}{l:List Nat}(h:w.ownsRow 0 3 1 v l.length (ji l))(hl:∀i∈l,i<=1000000):Ints w v (intsOf l):=by
 have e1:(intsOf l).map (Value.int .i64)=ji l:=by simp[intsOf,ji]
 refine Ints.fH ?_ fun z hz=>?_;·rw[e1];simpa[intsOf]using h
 obtain⟨i,hi,rfl⟩:=yD.1 hz;have:=hl i hi;exact⟨by omega,by omega⟩
theorem Ky{v:Value}{zs:List Int}(h:Ints w v zs)(n:Int):Calls Tryz.prog 39 #[v,.int .i64 n] w fun e w'=>e= .returned (.bool (zs.contains n))/\O0 w w':=by
 obtain⟨ao,cap,rfl,hc1,hc2⟩:=h.shape;have HH:=zh h;obtain⟨m,hm⟩:=ze zs.length;have HN:=zh hm;rw[hm]at hc1⊢;obtain⟨r,hr⟩:=ze (zs.contains n);have HR:=zh hr;rw[hr];clear h hm hr;go_enter Tryz.func39,Tryz.ntmps39;go_wp2_with fail;go_loopw [8] (fun vi wr=>Hid (O0 w wr)/\∃i:Nat,vi= .int .i64 i/\i<=m/\Hid (∀z∈zs.take i,z≠n)) (fun v _=>m-(intOf v).toNat);case atStart=>exact⟨show Hid _ from Only.refl _ _,0,rfl,qE _,show Hid _ from fun z hz=>by simp at hz⟩
 case round=>
  obtain⟨HO,i,rfl,hi,HZ⟩:=hrel;by_cases ci:i<m
  ·have h2:=HH.out;rw[HN.out]at h2;obtain⟨b,off,rfl,-,-⟩:=h2.cells _ _ _ rfl zBC;obtain⟨z,hz⟩:=zG zs i zAl;have h3:=h2.aN HO.out;obtain⟨b',off',e2,-,hcell⟩:=h3.cells _ _ _ rfl zBC;simp only[qG,qO,and_true]at e2;obtain⟨rfl,rfl⟩:=e2;have hc:=hcell i zAl;rw[qC,hz]at hc;simp only[Option.getD_some]at hc;have jh:=zw (i+1);have HZz:=zh hz;clear h2 h3 hcell hz;by_cases hzn:z=n;·have HE:=zh hzn;subst hzn;go_wp2_with fail;go_ret;refine⟨?_,HO.out⟩;rw[<-HR.out,List.contains_iff_mem.2 (qT HZz.out)];rfl
   go_wp2_with fail;go_roundw;case rel=>exact⟨HO,i+1,by first|rfl|go_num,by omega,show Hid _ from fun y hy=>by
    rcases dI HZz.out hy with h|rfl
    ·exact HZ.out y h
    ·exact hzn⟩
   case measure=>simp[intOf]<;>omega
  obtain rfl:m=i:=by omega
  go_wp2_with fail;go_ret;refine⟨?_,HO.out⟩;have h1:=HZ.out;rw[qI (yG HN.out)]at h1;have h2:zs.contains n=false:=by rw[Bool.eq_false_iff];intro h;exact h1 n (List.contains_iff_mem.1 h) rfl
  rw[<-HR.out,h2];rfl
theorem OE{b o:Nat}{arr:Array Value}{t:TypeId}{f:Nat×Nat}{cs:List Value}(h:w.heap[b]? =some (.cells arr t f))(hs:(arr.toList.drop o).take cs.length=cs):w.rangeAt b o cs:=by intro j u hu;rw[ah h];have hj:=(qJ.1 hu).1;rw[<-hs,List.getElem?_take,if_pos hj,List.getElem?_drop]at hu;rw[<-hu,Array.getElem?_toList]
theorem aQ.lit{α:Type}{n:Nat}{C:Nat->World->List Value->α->Prop}{b cap:Nat}{arr:Array Value}{t:TypeId}{f:Nat×Nat}{xs:List α}{m:Nat}(h:w.heap[b]? =some (.cells arr t f))(hb:b<B)(hB:B<=w.heap.size)(hm:xs.length=m)(hc:m<=cap)(hc2:cap<=1000)(hx:∀i (hi:i<xs.length),∃cs,cs.length=n/\(arr.toList.drop (i*n)).take cs.length=cs/\C B w cs xs[i]):aQ n C B w (.slice (some ⟨b,0,none⟩) m cap) xs:=by subst hm;refine⟨⟨_,cap,rfl,hc,by omega⟩,fun ao len cap' hv hp=>?_,fun len cap' hv=>by simp at hv⟩;simp only[qU]at hv;obtain⟨rfl,-,-⟩:=hv;refine⟨b,0,rfl,hb,hB,fun i hi=>?_⟩;obtain⟨cs,h1,h2,h3⟩:=hx i hi;refine⟨cs,h1,?_,h3⟩;rw[Nat.zero_add];exact OE h h2
theorem z64:bU 0:=by constructor<;>decide
def bs(l:List UInt8):Str:=⟨l.toArray⟩
theorem Q5(l:List UInt8)(h:l.length<=1000):okS (bs l):=by
 show(bs l).size<=maxLen;unfold maxLen;have:(bs l).size=l.length:=by simp[bs,ByteArray.size]
 omega
end
end Go.Proofs.YtdmmebjjojimiaaGreatDoor
