/- needs.Closure: the walk.; ref10.Has; the chapter's example; NeedsMore. -/
import Derived.Test.YtdmmebjjojimiaaGreatDoorG05
set_option maxRecDepth 100000
set_option maxHeartbeats 8000000
set_option linter.all false
namespace Go.Proofs
theorem zCb{p:Prop}(h:p:=by have:=HS.out.packs;omega):p:=h
end Go.Proofs
namespace Go.Proofs.YtdmmebjjojimiaaGreatDoor
open Go.RowKit Go.Shelf
def uq(l:List Str):List Value:=l.map Value.string
theorem JU(l:List Str):(uq l).length=l.length:=by simp[uq]
theorem Z9:Gu Tryz.prog 81 9 1 16:=Gu.mk' (z:=.string .empty) Tryz.underlying81 zk rfl zAH
theorem Qv(g o m cap:Nat)(hm:m+1<=cap)(hc:cap<=maxLen)(W:World):(Instr.slice 81 (.slice (some ⟨g,o,none⟩) (m+1) cap) (some (.int .i64 1)) none none).run Tryz.prog W= .ok (.slice (some ⟨g,if cap=1 then o else o+1,none⟩) m (cap-1)) W:=by obtain⟨ii,zz,t1,t2,t3,-,-⟩:=Z9.info;exact KY (P:=Tryz.prog) Z9.und t1 t3 g o m cap hm hc W
theorem Yt{α:Type}(f:α->Str){xs:List α}{l:Nat}{d:α}(hx:xs[l]? =some d):(xs.map f).drop l=f d::(xs.map f).drop (l+1):=by obtain⟨hlt,rfl⟩:=qJ.1 hx;rw[List.drop_eq_getElem_cons (by simpa using hlt),List.getElem_map]
theorem Qw{ks:List Int}{l:List Nat}(hn:ks.Nodup)(hl:l.Pairwise (· < ·))(h:∀z,z∈ks↔ ∃i:Nat,z=i/\i∈l):GY ks=l.map fun i:Nat=>(i:Int):=by
 have hl2:(l.map fun i:Nat=>(i:Int)).Pairwise (· < ·):=by rw[List.pairwise_map];exact hl.imp fun h=>by omega
 have hp:ks.Perm (l.map fun i:Nat=>(i:Int)):=(List.perm_ext_iff_of_nodup hn (hl2.imp fun h=>Int.ne_of_lt h)).2 fun z=>by
  rw[h,yD];constructor;·rintro⟨i,rfl,hi⟩;exact⟨i,hi,rfl⟩
  rintro⟨i,hi,rfl⟩;exact⟨i,rfl,hi⟩
 exact List.Perm.eq_of_pairwise (le:=fun x y:Int=>x<=y) (fun a b _ _ h1 h2=>by omega) (C9 ks) (hl2.imp fun h=>Int.le_of_lt h) ((CZ ks).trans hp)
theorem Dc{α:Type}[DecidableEq α]:∀{l m:List α},l.Nodup->(∀z∈l,z∈m)->l.length<=m.length
 | [],_,_,_=>qE _
 |a::l,m,hn,hs=>by
  rw[List.nodup_cons]at hn
  have hm:=hs a qQ
  have h1:=Dc (l:=l) (m:=m.erase a) hn.2 fun z hz=>(List.mem_erase_of_ne (fun e=>by rw[e]at hz;exact hn.1 hz)).2 (hs z (yE _ hz))
  rw[List.length_erase_of_mem hm]at h1
  have:=List.length_pos_of_mem hm
  simp only[qN];omega
def dD.names(q:dD):List Str:=q.roots.map fun r=>r.spec.name
theorem zC{α:Type}(f:α->Str){xs:List α}{i:Nat}{x:α}(hx:xs[i]? =some x):(xs.map f).take (i+1)=(xs.map f).take i++[f x]:=by obtain⟨hlt,rfl⟩:=qJ.1 hx;rw[yL (by simpa using hlt)];simp
def Cnt(ks:List Int)(f:Int->Int)(c:Nat):Prop:= ∀z∈ks,1<=f z/\f z<=c
section
variable {w w':World} {B:Nat}
theorem VP{cs cq:List Value}{x:aQ}{q:dD}(h:fO B w cs x)(hq:mg B w cq q)(hs:wR x)(hl:q.roots.length<=1000):Calls Tryz.prog 70 #[.agg cs.toArray,.agg cq.toArray] w fun e w'=> ∃v,e= .returned v/\w'.ownsRow 0 3 1 v (x.closure q.names).length (eP (x.closure q.names))/\(∀k,v.ownBlock=some k->w.heap.size<=k)/\O0 w w':=by
 have HH:=zh h;have HQ:=zh hq;have HS:=zh hs;obtain⟨v1,v2,rfl,h1,h2⟩:=h;obtain⟨ao,cap,rfl,-,-⟩:=h1.shape;obtain⟨Rl,cap2,rfl,-,-⟩:=h2.shape;obtain⟨v3,rfl,h3⟩:=hq;obtain⟨ao3,cap3,rfl,g3,g3'⟩:=h3.shape;obtain⟨n1,hn1⟩:=ze x.packs.length;obtain⟨n2,hn2⟩:=ze x.fV.length;obtain⟨n3,hn3⟩:=ze q.roots.length;rw[hn1,hn2]at HH;rw[hn1]at h1;rw[hn3]at h3 HQ g3 hl;rw[hn1,hn2,hn3];have R1:=zh h1;have R3:=zh h3;have N1:=zh hn1;have N3:=zh hn3;obtain⟨W0,hW0⟩:=zB ((w.alloc (.cells #[.slice ao n1 cap,.slice Rl n2 cap2] 25)).alloc (.cells #[.slice ao3 n3 cap3] 28));have aV:Hid (O0 w W0):=by rw[hW0];exact(zr.alloc _).alloc _
 have aF:Hid (∀W,O0 W0 W->W.cell? ⟨w.heap.size,0,none⟩=some (.slice ao n1 cap)/\W.cell? ⟨w.heap.size,1,none⟩=some (.slice Rl n2 cap2)/\W.cell? ⟨w.heap.size+1,0,none⟩=some (.slice ao3 n3 cap3)):=fun W ho=>by
  have hb:=ho.block w.heap.size (by rw[hW0];simp;omega) (fun f=>f);have hb1:=ho.block (w.heap.size+1) (by rw[hW0];simp) (fun f=>f);refine⟨?_,?_,?_⟩;·rw[World.cell?_of_block (w:=W0) hb,hW0];simp
  ·rw[World.cell?_of_block (w:=W0) hb,hW0];simp
  rw[World.cell?_of_block (w:=W0) hb1,hW0];simp
 clear h1 h2 h3 hn1 hn2 hn3 hs;go_enter Tryz.func70,Tryz.ntmps70;go_wp2_with fail;rw[<-hW0];clear hW0;go_loopw [5,17] (fun vo vi wr=>Hid (O0 W0 wr)/\∃i:Nat,vi= .int .i64 i/\i<=n3/\Hid (nC wr 9 vo (uq (q.names.take i)))/\Hid (∀k,Value.blk vo=some k->W0.heap.size<=k)) (fun _ v _=>n3-(RowKit.intOf v).toNat);case atStart=>exact⟨show Hid _ from Only.refl _ _,0,rfl,qE _,show Hid _ from .inl ⟨rfl,by simp[uq]⟩,show Hid _ from fun k hk=>by cases hk⟩
 case round=>
  obtain⟨HO,i,rfl,hi,HV,HB⟩:=hrel;obtain⟨k0,k1,k2⟩:=aF.out wr HO.out;by_cases ci:i<n3
  ·have h2:=R3.out;rw[<-N3.out]at h2;obtain⟨b,off,he,-,-⟩:=h2.at (by have:=N3.out;omega);subst he;obtain⟨y,hx⟩:=zG q.roots i (by rw[N3.out];exact ci);obtain⟨cs,hl2,hr,hC⟩:=(h2.keep mM.keep (Kp.dV (aV.out.same HO.out))).get hx;have iE:=zw (i+1);obtain⟨c1,rfl,hS,-⟩:=hC;obtain⟨p1,p2,d1,d2,rfl,-,-,-⟩:=hS.cells;have HR:=zh hr;have HSn:Hid (q.names.take (i+1)=q.names.take i++[y.spec.name]):=zC (fun r:tN=>r.spec.name) hx;clear hr hx h2 hl2 hS;obtain⟨au,cu,rfl,-,-⟩:=HV.out.sh;have hlen:(uq (q.names.take i)).length<=1000:=by rw[JU,List.length_take];omega
   go_wp2_with (first| (refine wpList_load_mid rfl 110 (.tmp 19) rfl b (off+i*4) rfl _ _ HR.out Tryz.underlying110 rfl zk ?_)| (at_builtin;go_must (refine aiz (u:=.string y.spec.name) Z9 rfl (.tmp 21) (.tmp 25) rfl rfl rfl (by simp) rfl (HV.out.only (((Only.refl (fun _=>False) _).alloc _).alloc _) (fun _ _ f=>f)) zAA zC6 ?_)));intro v' w2 r1 r2 r3;have uN:Hid (nC w2 9 v' (uq (q.names.take (i+1)))):=by rw[HSn.out];simpa[uq,Hid]using r1
   have eF:=zh ((((HO.out.alloc _).alloc _).trans r2 fun k hk=>.inr (HB.out k hk)));have HB2:Hid (∀k,Value.blk v'=some k->W0.heap.size<=k):=by
    intro k hk;rcases r3 k hk with h|h;·exact HB.out _ h
    have:=HO.out.size;try simp at h
    omega
   obtain⟨av,cv,rfl,-,-⟩:=uN.out.sh;clear r1 r2 r3 HV;go_wp2_with fail;go_roundw;case rel=>exact⟨eF,i+1,by first|rfl|go_num,by omega,uN,HB2⟩
   case measure=>simp[RowKit.intOf]<;>omega
  obtain rfl:n3=i:=by omega
  have hmm:= @run_makeMap Tryz.prog;go_wp2_with fail;have hM:n3+x.JH []<=10000:=by have:=x.ait (M:=40) (fun p hp=>(HS.out.all p hp).deps) [];have h30:=HS.out.packs;have:x.packs.length*40<=30*40:=Nat.mul_le_mul_right _ h30;omega
  have hnl:q.names.length=n3:=by unfold dD.names;rw[qM,N3.out]
  obtain⟨bm,hbm⟩:=ze wr.heap.size;have ant:W0.heap.size<=bm:=by rw[<-hbm];exact HO.out.size
  have GU:Hid (nC (wr.alloc (.map #[] 0)) 9 u5 (uq q.names)):=by have:=HV.out;rw[qI (yG hnl)]at this;exact this.only ((Only.refl (fun _=>False) _).alloc _) (fun _ _ f=>f)
  have HB1:Hid (∀k,Value.blk u5=some k->W0.heap.size<=k/\k≠bm):=fun k hk=>⟨HB.out k hk,by have:=HV.out.lt hk;omega⟩;have HM1:Hid (oI (wr.alloc (.map #[] 0)) bm [] (fun _=>0)):=by rw[<-hbm];exact oI.made wr
  have aI:Hid (O0 W0 (wr.alloc (.map #[] 0))):=HO.out.alloc _;have HMl:=zh hM;have Ak:=zh hnl;obtain⟨M,hMM⟩:=zB (n3+x.JH []);rw[<-hMM]at hM HMl;have HMM:=zh hMM;generalize wr.alloc (.map #[] 0)=w1 at*;rw[hbm];clear hmm hbm HV HB HO hnl hi ci k0 k1 k2 hMM;have HBm:=zh ant;go_loopg [5] M (fun k vo wr=>Hid (O0 W0 wr)/\∃(A:List Str) (ks:List Int) (f:Int->Int) (c:Nat),Hid (nC wr 9 vo (uq A))/\Hid (∀k,Value.blk vo=some k->W0.heap.size<=k/\k≠bm)/\Hid (oI wr bm ks f)/\Hid (uF x q.names ks A []/\Cnt ks f c/\A.length+x.JH ks=k/\64*k+c<=64*M));case atStart=>exact⟨aI,q.names,[],fun _=>0,0,GU,HB1,HM1,show Hid _ from⟨uF.start x q.names,fun z hz=>(by cases hz),by rw[Ak.out,HMM.out],by omega⟩⟩
  case round=>
   obtain⟨HO,A,ks,f,c,HV,HB,HM,HI⟩:=hrel
   cases A with
   |nil=>
    obtain⟨au,cu,rfl,-,-⟩:=HV.out.sh
    rw[show(uq []).length=0 from rfl]at*
    have hfin:=Qw HM.out.nd (x.Nk q.names) (fun z=>uF.fin HI.out.1 z)
    have HFin:=zh hfin
    have hkl:ks.length<=65536:=by
     have h1:=(CZ ks).length_eq
     rw[hfin,qM]at h1
     have:=x.Ap q.names
     have:=HS.out.packs
     omega
    clear hfin
    go_wp2_with fail
    refine(ado wr bm).mono ?_
    rintro e wk ⟨rfl,rfl⟩
    go_wp2_with fail
    refine(Yr HM.out hkl).mono ?_
    rintro e wk ⟨v,rfl,r1,r2,r3⟩
    obtain⟨av,cv,rfl,-,-⟩:=bg r1
    obtain⟨nk,hnk⟩:=ze ((GY ks).length)
    rw[hnk]at r1 r2⊢
    have HR:=zh (And.intro r1 (And.intro r2 (And.intro r3 hnk)))
    clear r1 r2 r3 hnk
    go_wp2_with fail
    go_ret
    obtain⟨r1,r2,r3,hnk⟩:=HR.out
    refine⟨_,rfl,?_,fun k hk=>?_,(aV.out.same HO.out).same r3⟩
    ·have hl:nk=(x.closure q.names).length:=by rw[<-hnk,HFin.out,qM]
     rw[HFin.out]at r1
     rw[<-hl]
     have e1:((x.closure q.names).map fun i:Nat=>(i:Int)).map cI=eP (x.closure q.names):=by simp[eP,cI]
     rw[e1]at r1
     exact r1
    ·have h1:=r2 k hk
     have h2:=(aV.out.same HO.out).size
     omega
   |cons s A=>
    obtain⟨g,o,Yu,rfl,hc1,hc2,hc3,o',ho',hc4⟩:=nC.some (show nC wr 9 u5 (Value.string s::uq A) from HV.out)
    obtain⟨m,hm⟩:=ze ((uq A).length)
    rw[hm]at hc1 hc4⊢
    have pI:=zh hc4
    have hsl:=Qv g o m Yu hc1 hc2
    rw[<-ho']at hsl
    clear ho'
    have hmA:A.length=m:=by rw[<-hm,JU]
    have HmA:=zh hmA
    obtain⟨k0,k1,k2⟩:=aF.out wr HO.out
    clear hm hc4 hmA
    have Rq:=fun W hO=>zh (EI (w:=W) (fO.keep HH.out (Kp.dV hO)) zCb s)
    go_wp2_with fail
    refine(Rq wr (aV.out.same HO.out)).out.mono ?_
    rintro e wa ⟨vt,rfl,t1,t2,t3⟩
    obtain⟨I1,I2,I3,I4⟩:=HI.out
    have anx:=HmA.out
    obtain⟨ts,hts⟩:=ze (x.targets s)
    have htl:ts.length<=30:=by rw[<-hts];have:=x.nX s;have:=HS.out.packs;omega
    rw[hts]at t1
    obtain⟨atv,ct,rfl,-,-⟩:=bg t1
    obtain⟨nt,hnt⟩:=ze ts.length
    rw[hnt]at t1 t2 htl⊢
    have HNt:=zh hnt
    have HTs:=zh hts
    have HRT:=zh (show wa.ownsRow 0 3 1 (.slice atv nt ct) nt (eP ts) from t1)
    have HBT:Hid (∀k,(Value.slice atv nt ct).ownBlock=some k->W0.heap.size<=k/\k≠bm):=fun k hk=>by
     have h1:=t2 k hk
     have h2:=HO.out.size
     have h3:=HM.out.lt
     exact⟨by omega,by omega⟩
    have HBq:Hid (∀k,Value.blk (.slice (some ⟨g,o',none⟩) m (Yu-1))=some k->W0.heap.size<=k/\k≠bm/\(Value.slice atv nt ct).ownBlock≠some k):=fun k hk=>by
     have h1:=HB.out k (by simpa[Value.blk]using hk)
     refine⟨h1.1,h1.2,fun h=>?_⟩
     have h2:=t2 k h
     have h3:=pI.out.lt hk
     omega
    have HQa:Hid (nC wa 9 (.slice (some ⟨g,o',none⟩) m (Yu-1)) (uq A)):=pI.out.only (by have:=t3;exact this) (fun _ _ f=>f)
    have HMa:Hid (oI wa bm ks f):=HM.out.dK t3
    have HOa:Hid (O0 W0 wa):=HO.out.same t3
    have HIa:Hid (uF x q.names ks A [s]/\Cnt ks f c/\A.length+x.JH ks+1<=gk/\64*(A.length+x.JH ks)+nt+c<=64*M):=⟨uF.pop I1,I2,by simp only[qN]at I3;omega,by simp only[qN]at I3;omega⟩
    clear Rq t1 t2 t3 hnt hts I1 I2 I3 I4 HV HB HM HI HO pI hc3 hsl anx HmA k0 k1 k2
    generalize wr=wo at*
    go_wp2_with fail
    go_loopw [5,41] (fun vo vj wr=>Hid (O0 W0 wr)/\Hid (wr.ownsRow 0 3 1 (.slice atv nt ct) nt (eP ts))/\∃(j:Nat) (A:List Str) (ks:List Int) (f:Int->Int) (c:Nat),vj= .int .i64 j/\j<=nt/\Hid (nC wr 9 vo (uq A))/\Hid (∀k,Value.blk vo=some k->W0.heap.size<=k/\k≠bm/\(Value.slice atv nt ct).ownBlock≠some k)/\Hid (oI wr bm ks f)/\
     Hid (uF x q.names ks A [s]/\Cnt ks f c/\A.length+x.JH ks+1<=gk/\64*(A.length+x.JH ks)+(nt-j)+c<=64*M/\∀i∈ts.take j,(i:Int)∈ks)) (fun _ v _=>nt-(RowKit.intOf v).toNat)
    case atStart=>exact⟨HOa,HRT,0,A,ks,f,c,rfl,qE _,HQa,HBq,HMa,show Hid _ from⟨HIa.out.1,HIa.out.2.1,HIa.out.2.2.1,HIa.out.2.2.2,fun i hi=>by simp at hi⟩⟩
    case round=>
     clear HQa HBq HMa HIa HRT
     obtain⟨HO,HT,j,A,ks,f,c,rfl,hj,HV,HB,HM,HI⟩:=hrel
     obtain⟨k0,k1,k2⟩:=aF.out wr HO.out
     by_cases cj:j<nt
     ·obtain⟨kT,aiC,he,-,-⟩:=gQ HT.out zAA
      simp only[qU]at he
      obtain⟨rfl,-,rfl⟩:=he
      obtain⟨t,htt⟩:=zG ts j (by rw[HNt.out];exact cj)
      have hcell:wr.cell? ⟨kT,j,none⟩=some (.int .i64 (t:Int)):=by
       rw[HT.out.cellAt j zAA]
       simp[eP,htt]
      have ewj:=zw (j+1)
      have hit:t∈x.targets s:=by rw[HTs.out];exact qT htt
      have htn:t<n1:=by have:=aQ.mD hit;rw[N1.out]at this;exact this
      have ak1:n1<=30:=by rw[<-N1.out];exact HS.out.packs
      have adp:jF (t:Int):=⟨by omega,by omega⟩
      obtain⟨I1,I2,I3,I4,I5⟩:=HI.out
      obtain⟨ft,hft⟩:∃ft,f (t:Int)=ft:=⟨_,rfl⟩
      have hf1:(t:Int)∈ks->1<=ft/\ft<=c:=fun h=>by rw[<-hft];exact I2 _ h
      have hf0:(t:Int)∉ks->ft=0:=fun h=>by rw[<-hft];exact HM.out.out _ h
      have hfc:0<=ft/\ft<=c:=by
       by_cases hk:(t:Int)∈ks
       ·have:=hf1 hk;omega
       ·have:=hf0 hk;omega
      have ak2:=HMl.out
      have ewf:=zw (ft+1)
      have hkl:ks.length<=30:=by
       have h1:ks.length<=((List.range n1).map fun i:Nat=>(i:Int)).length:=Dc HM.out.nd fun z hz=>by
        obtain⟨i,rfl,hi⟩:=I1.keys z hz
        have:=hi.lt
        rw[N1.out]at this
        exact yD.2 ⟨i,yI.2 this,rfl⟩
       simp at h1;omega
      have hlk:=HM.out.look adp
      obtain⟨w2,hup,hM2,hO2⟩:=HM.out.store (v:=ft+1) adp ⟨by omega,by omega⟩ zAu
      have hlk2:=hM2.look adp
      rw[hft]at hlk
      rw[show upd f (t:Int) (ft+1) (t:Int)=ft+1 by unfold upd;rw[if_pos rfl]]at hlk2
      have HM2:=zh hM2
      have eF:Hid (O0 W0 w2):=HO.out.trans hO2 fun k hk=>.inr (by have:=HBm.out;omega)
      have HT2:Hid (w2.ownsRow 0 3 1 (.slice (some ⟨kT,0,none⟩) nt ct) nt (eP ts)):=aW HT.out hO2 fun k hk=>(HBT.out k hk).2
      have uN:Hid (nC w2 9 u5 (uq A)):=HV.out.only hO2 fun k hk=>(HB.out k hk).2.1
      obtain⟨au,cu,rfl,-,-⟩:=HV.out.sh
      have HSn:=zh htt
      by_cases hk:(t:Int)∈ks
      ·have arL:=hf1 hk
       have HI2:Hid (uF x q.names ks A [s]/\Cnt ks (upd f (t:Int) (ft+1)) (c+1)/\A.length+x.JH ks+1<=gk/\64*(A.length+x.JH ks)+(nt-(j+1))+(c+1)<=64*M/\∀i∈ts.take (j+1),(i:Int)∈ks):=by
        refine⟨I1,fun z hz=>?_,I3,by omega,fun i hi=>?_⟩
        ·unfold upd
         split
         ·omega
         ·have:=I2 z hz;omega
        ·rcases bH htt hi with h|rfl
         ·exact I5 i h
         ·exact hk
       rw[show Ei ks (t:Int)=ks by unfold Ei;rw[if_pos hk]]at HM2
       clear htt hit hf1 hf0 ak2 hkl hM2 hO2 HT HV HM HI HO I1 I2 I3 I4 I5 hk hft
       go_wp2_with fail
       go_roundw
       case rel=>exact⟨eF,HT2,j+1,A,ks,_,c+1,by first|rfl|go_num,by omega,uN,HB,HM2,HI2⟩
       case measure=>simp[RowKit.intOf]<;>omega
      ·obtain rfl:=hf0 hk
       have e01:(0:Int)+1=1:=rfl
       rw[e01]at hup hlk2 HM2 ewf
       clear e01
       have hpx:x.packs[t]? =some (x.pack t):=by
        unfold aQ.pack
        rw[qC,qA (by rw[N1.out];exact htn)];rfl
       have h2:=R1.out
       rw[<-N1.out]at h2
       obtain⟨b,off,he,-,-⟩:=h2.at zB9
       subst he
       obtain⟨LY,-,hrp,hCp⟩:=h2.get hpx
       obtain⟨p,hp⟩:=ze (x.pack t)
       have VQ:p∈x.packs:=by rw[<-hp];exact qT hpx
       rw[hp]at hCp
       obtain⟨q1,q2,q3,q4,q5,q6,z1,z2,z3,z4,z5,z6,rfl,-,-,-,-,-,b4,-,-⟩:=hCp.cells
       have hcd:=wK hrp (aV.out.same eF.out) 5 _ rfl
       have hdl:=(HS.out.all p VQ).deps
       obtain⟨nd,hnd⟩:=ze p.deps.length
       rw[hnd]at hcd b4 hdl
       have BJ:=zh hnd
       obtain⟨_,_,e4,g4,g4'⟩:=b4.shape
       simp only[qU]at e4
       obtain⟨-,-,rfl⟩:=e4
       rw[hnd]at g4
       have HD:Hid (∀W,O0 W0 W->aS 7 wz B W (.slice q4 nd z4) p.deps):=fun W hW=>b4.keep wz.keep (Kp.dV (aV.out.same hW))
       have hk':∀z,z∈Ei ks (t:Int)↔z∈ks\/z=(t:Int):=fun z=>BI
       have anz:x.JH (Ei ks (t:Int))+nd=x.JH ks:=by
        have:=aQ.agt (x:=x) (i:=t) (by rw[N1.out];exact htn) hk hk'
        rw[hp,hnd]at this;exact this
       have HI2:Hid (uF x q.names (Ei ks (t:Int)) A (p.names++[s])/\Cnt (Ei ks (t:Int)) (upd f (t:Int) 1) (c+1)/\A.length+nd+x.JH (Ei ks (t:Int))+1<=gk/\64*(A.length+nd+x.JH (Ei ks (t:Int)))+(nt-(j+1))+(c+1)<=64*M/\∀i∈ts.take (j+1),(i:Int)∈Ei ks (t:Int)):=by
        have hk1:=uF.key (R:=[]) (by simpa using I1) hit hk'
        rw[hp]at hk1
        refine⟨by simpa using hk1,fun z hz=>?_,by omega,by omega,fun i hi=>?_⟩
        ·unfold upd
         split
         ·omega
         ·rename_i hne
          rcases(hk' z).1 hz with h|h
          ·have:=I2 z h;omega
          ·exact absurd h hne
        ·rcases bH htt hi with h|rfl
         ·exact(hk' _).2 (.inl (I5 i h))
         ·exact(hk' _).2 (.inr rfl)
       obtain⟨k0,k1,k2⟩:=aF.out w2 eF.out
       generalize Ei ks (t:Int)=MS at*
       generalize upd f (t:Int) 1=f2 at*
       clear htt hit hf1 hf0 ak2 hkl hM2 hO2 HT HV HM HI HO I1 I2 I3 I4 I5 hk hft h2 hpx hp hCp hrp b4 VQ hnd hk' anz
       go_wp2_with fail
       generalize wr=wm at*
       go_loopw [5,60] (fun vo vl wr=>Hid (O0 W0 wr)/\Hid (wr.ownsRow 0 3 1 (.slice (some ⟨kT,0,none⟩) nt ct) nt (eP ts))/\∃(l:Nat) (A:List Str),vl= .int .i64 l/\l<=nd/\Hid (nC wr 9 vo (uq A))/\Hid (∀k,Value.blk vo=some k->W0.heap.size<=k/\k≠bm/\(Value.slice (some ⟨kT,0,none⟩) nt ct).ownBlock≠some k)/\Hid (oI wr bm MS f2)/\
        Hid (uF x q.names MS A (p.names.drop l++[s])/\Cnt MS f2 (c+1)/\A.length+(nd-l)+x.JH MS+1<=gk/\64*(A.length+(nd-l)+x.JH MS)+(nt-(j+1))+(c+1)<=64*M/\∀i∈ts.take (j+1),(i:Int)∈MS)) (fun _ v _=>nd-(RowKit.intOf v).toNat)
       case atStart=>exact⟨eF,HT2,0,A,rfl,qE _,uN,HB,HM2,HI2⟩
       case round=>
        clear eF HT2 uN HB HM2 HI2
        obtain⟨HO,HT,l,A,rfl,hl2,HV,HB,HM,HI⟩:=hrel
        by_cases cl:l<nd
        ·have hd2:=HD.out wr HO.out
         rw[<-BJ.out]at hd2
         obtain⟨b',off',he',-,-⟩:=hd2.at (by have:=BJ.out;omega)
         subst he'
         obtain⟨d,hdd⟩:=zG p.deps l (by rw[BJ.out];exact cl)
         obtain⟨cs7,-,hr7,hC7⟩:=hd2.get hdd
         obtain⟨c1,c2,rfl,hS1,hS2,-⟩:=hC7
         obtain⟨p1,p2,d1,d2,rfl,-,-,-⟩:=hS1.cells
         obtain⟨p3,p4,d3,d4,rfl,-,-,-⟩:=hS2.cells
         have HR7:=zh (show wr.rangeAt b' (off'+l*7) [.string d.on.name,.slice p1 d.on.spans.length d1,.slice p2 d.on.sets.length d2,.string d.cond.name,.slice p3 d.cond.spans.length d3,.slice p4 d.cond.sets.length d4,.int .i64 d.line] from hr7)
         have ewl:=zw (l+1)
         have hnd:p.names.drop l=d.on.name::p.names.drop (l+1):=Yt (fun d:Aj=>d.on.name) hdd
         obtain⟨I1,I2,I3,I4,I5⟩:=HI.out
         rw[hnd]at I1
         have HI3:Hid (uF x q.names MS (A++[d.on.name]) (p.names.drop (l+1)++[s])/\Cnt MS f2 (c+1)/\(A++[d.on.name]).length+(nd-(l+1))+x.JH MS+1<=gk/\64*((A++[d.on.name]).length+(nd-(l+1))+x.JH MS)+(nt-(j+1))+(c+1)<=64*M/\∀i∈ts.take (j+1),(i:Int)∈MS):=
          ⟨uF.push I1,I2,by simp only[qK,List.length_singleton];omega,by simp only[qK,List.length_singleton];omega,I5⟩
         obtain⟨aq,cq,rfl,-,-⟩:=HV.out.sh
         have hlA:(uq A).length<=20000:=by rw[JU];have:=HMl.out;omega
         clear hd2 hdd hr7 hS1 hS2 hnd I1 I2 I3 I4 I5 HI
         go_wp2_with (first| (refine wpList_load_mid rfl 132 (.tmp 62) rfl b' (off'+l*7) rfl _ _ HR7.out Tryz.underlying132 rfl zk ?_)| (at_builtin;go_must (refine aiz (u:=.string d.on.name) Z9 rfl (.tmp 64) (.tmp 68) rfl rfl rfl (by simp) rfl (HV.out.only (((Only.refl (fun _=>False) _).alloc _).alloc _) (fun _ _ f=>f)) zAA zC6 ?_)))
         intro v' w3 r1 r2 r3
         have VD:Hid (nC w3 9 v' (uq (A++[d.on.name]))):=by simpa[uq,Hid]using r1
         have hOa:=((Only.refl (fun k=>Value.blk (.slice aq (uq A).length cq)=some k) wr).alloc (.cells #[.string d.on.name,.slice p1 d.on.spans.length d1,.slice p2 d.on.sets.length d2,.string d.cond.name,.slice p3 d.cond.spans.length d3,.slice p4 d.cond.sets.length d4,.int .i64 d.line] 132)).alloc (.cells #[.string d.on.name] 9) |>.same r2
         have kD:Hid (O0 W0 w3):=HO.out.trans hOa fun k hk=>.inr (HB.out k hk).1
         have HT3:Hid (w3.ownsRow 0 3 1 (.slice (some ⟨kT,0,none⟩) nt ct) nt (eP ts)):=aW HT.out hOa fun k hk h=>(HB.out k h).2.2 hk
         have HM3:Hid (oI w3 bm MS f2):=HM.out.only hOa fun h=>(HB.out bm h).2.1 rfl
         have HB3:Hid (∀k,Value.blk v'=some k->W0.heap.size<=k/\k≠bm/\(Value.slice (some ⟨kT,0,none⟩) nt ct).ownBlock≠some k):=fun k hk=>by
          rcases r3 k hk with h|h
          ·exact HB.out k h
          ·have h1:=HO.out.size
           have h2:=HM.out.lt
           have h3:kT<wr.heap.size:=pq HT.out rfl
           try simp at h
           refine⟨by omega,by omega,fun h4=>?_⟩
           simp[Value.ownBlock]at h4
           omega
         obtain⟨av,cv,rfl,-,-⟩:=VD.out.sh
         clear r1 r2 r3 hOa HV HB HM HT HO
         go_wp2_with fail
         go_roundw
         case rel=>exact⟨kD,HT3,l+1,A++[d.on.name],by first|rfl|go_num,by omega,VD,HB3,HM3,HI3⟩
         case measure=>simp[RowKit.intOf]<;>omega
        ·obtain rfl:nd=l:=by omega
         have hdr:p.names.drop nd=[]:=List.drop_eq_nil_of_le (by unfold iI.names;rw[qM,BJ.out];omega)
         have HI3:Hid (uF x q.names MS A [s]/\Cnt MS f2 (c+1)/\A.length+x.JH MS+1<=gk/\64*(A.length+x.JH MS)+(nt-(j+1))+(c+1)<=64*M/\∀i∈ts.take (j+1),(i:Int)∈MS):=by
          obtain⟨I1,I2,I3,I4,I5⟩:=HI.out
          rw[hdr]at I1
          exact⟨I1,I2,by omega,by omega,I5⟩
         clear hdr HI
         go_wp2_with fail
         go_roundw
         case rel=>exact⟨HO,HT,j+1,A,MS,f2,c+1,by first|rfl|go_num,by omega,HV,HB,HM,HI3⟩
         case measure=>simp[RowKit.intOf]<;>omega
     ·obtain rfl:nt=j:=by omega
      have HI2:Hid (uF x q.names ks A []/\Cnt ks f c/\A.length+x.JH ks+1<=gk/\64*(A.length+x.JH ks)+c<=64*M):=by
       obtain⟨I1,I2,I3,I4,I5⟩:=HI.out
       refine⟨I1.drop fun i hi=>I5 i ?_,I2,I3,by omega⟩
       rw[HTs.out]at hi
       rw[qI (yG HNt.out)]
       exact hi
      have HB2:Hid (∀k,Value.blk u5=some k->W0.heap.size<=k/\k≠bm):=fun k hk=>⟨(HB.out k hk).1,(HB.out k hk).2.1⟩
      clear HI HB
      go_wp2_with fail
      go_roundg (A.length+x.JH ks)
      case measure=>have:=HI2.out.2.2.1;omega
      case rel=>exact⟨HO,A,ks,f,c,HV,HB2,HM,show Hid _ from⟨HI2.out.1,HI2.out.2.1,rfl,HI2.out.2.2.2⟩⟩
end
section
variable {w w':World} {B:Nat}
theorem uX{v:Value}{l:List Nat}(h:w.ownsRow 0 3 1 v l.length (eP l))(hl:∀i∈l,i<=1000000):Ints w v (intsOf l):=by
 have e1:(intsOf l).map (Value.int .i64)=eP l:=by simp[intsOf,eP]
 refine Ints.xC ?_ fun z hz=>?_;·rw[e1];simpa[intsOf]using h
 obtain⟨i,hi,rfl⟩:=yD.1 hz;have:=hl i hi;exact⟨by omega,by omega⟩
theorem MV{v:Value}{zs:List Int}(h:Ints w v zs)(n:Int):Calls Tryz.prog 39 #[v,.int .i64 n] w fun e w'=>e= .returned (.bool (zs.contains n))/\O0 w w':=by
 obtain⟨ao,cap,rfl,hc1,hc2⟩:=h.shape;have HH:=zh h;obtain⟨m,hm⟩:=ze zs.length;have HN:=zh hm;rw[hm]at hc1⊢;obtain⟨r,hr⟩:=ze (zs.contains n);have HR:=zh hr;rw[hr];clear h hm hr;go_enter Tryz.func39,Tryz.ntmps39;go_wp2_with fail;go_loopw [8] (fun vi wr=>Hid (O0 w wr)/\∃i:Nat,vi= .int .i64 i/\i<=m/\Hid (∀z∈zs.take i,z≠n)) (fun v _=>m-(intOf v).toNat);case atStart=>exact⟨show Hid _ from Only.refl _ _,0,rfl,qE _,show Hid _ from fun z hz=>by simp at hz⟩
 case round=>
  obtain⟨HO,i,rfl,hi,HZ⟩:=hrel;by_cases ci:i<m
  ·have h2:=HH.out;rw[HN.out]at h2;obtain⟨b,off,rfl,-,-⟩:=h2.cells _ _ _ rfl zA0;obtain⟨z,hz⟩:=zG zs i zAe;have h3:=h2.dK HO.out;obtain⟨b',off',e2,-,hcell⟩:=h3.cells _ _ _ rfl zA0;simp only[qG,qO,and_true]at e2;obtain⟨rfl,rfl⟩:=e2;have hc:=hcell i zAe;rw[qC,hz]at hc;simp only[Option.getD_some]at hc;have iE:=zw (i+1);have HZz:=zh hz;clear h2 h3 hcell hz;by_cases hzn:z=n;·have HE:=zh hzn;subst hzn;go_wp2_with fail;go_ret;refine⟨?_,HO.out⟩;rw[<-HR.out,List.contains_iff_mem.2 (qT HZz.out)];rfl
   go_wp2_with fail;go_roundw;case rel=>exact⟨HO,i+1,by first|rfl|go_num,by omega,show Hid _ from fun y hy=>by
    rcases bH HZz.out hy with h|rfl
    ·exact HZ.out y h
    ·exact hzn⟩
   case measure=>simp[intOf]<;>omega
  obtain rfl:m=i:=by omega
  go_wp2_with fail;go_ret;refine⟨?_,HO.out⟩;have h1:=HZ.out;rw[qI (yG HN.out)]at h1;have h2:zs.contains n=false:=by rw[Bool.eq_false_iff];intro h;exact h1 n (List.contains_iff_mem.1 h) rfl
  rw[<-HR.out,h2];rfl
theorem Qx{b o:Nat}{arr:Array Value}{t:TypeId}{f:Nat×Nat}{cs:List Value}(h:w.heap[b]? =some (.cells arr t f))(hs:(arr.toList.drop o).take cs.length=cs):w.rangeAt b o cs:=by intro j u hu;rw[aj h];have hj:=(qJ.1 hu).1;rw[<-hs,List.getElem?_take,if_pos hj,List.getElem?_drop]at hu;rw[<-hu,Array.getElem?_toList]
theorem aS.lit{α:Type}{n:Nat}{C:Nat->World->List Value->α->Prop}{b cap:Nat}{arr:Array Value}{t:TypeId}{f:Nat×Nat}{xs:List α}{m:Nat}(h:w.heap[b]? =some (.cells arr t f))(hb:b<B)(hB:B<=w.heap.size)(hm:xs.length=m)(hc:m<=cap)(hc2:cap<=1000)(hx:∀i (hi:i<xs.length),∃cs,cs.length=n/\(arr.toList.drop (i*n)).take cs.length=cs/\C B w cs xs[i]):aS n C B w (.slice (some ⟨b,0,none⟩) m cap) xs:=by subst hm;refine⟨⟨_,cap,rfl,hc,by omega⟩,fun ao len cap' hv hp=>?_,fun len cap' hv=>by simp at hv⟩;simp only[qU]at hv;obtain⟨rfl,-,-⟩:=hv;refine⟨b,0,rfl,hb,hB,fun i hi=>?_⟩;obtain⟨cs,h1,h2,h3⟩:=hx i hi;refine⟨cs,h1,?_,h3⟩;rw[Nat.zero_add];exact Qx h h2
theorem z64:jF 0:=by constructor<;>decide
def bs(l:List UInt8):Str:=⟨l.toArray⟩
end
end Go.Proofs.YtdmmebjjojimiaaGreatDoor
namespace Go.Proofs.YtdmmebjjojimiaaGreatDoor
open Go.RowKit
structure Rt where
 kind:Int
 pack:Int
 idx:Int
 line:Int
deriving DecidableEq
instance:Inhabited Rt:=⟨⟨0,0,0,0⟩⟩
def Rt.cells(r:Rt):List Value:=[.int .u8 r.kind,.int .i64 r.pack,.int .i64 r.idx,.int .i64 r.line]
theorem Rt.one(r:Rt):∀u∈r.cells,u.oneCell'=true:=by intro u hu;simp[Rt.cells]at hu;rcases hu with rfl|rfl|rfl|rfl<;>rfl
structure agx (x:aQ) (q:dD) (l:List Nat):Prop where
 roots:q.roots.length<=1000
 packs:x.packs.length<=1000
 deps:∀p∈x.packs,p.deps.length<=1000
 cons:∀p∈x.packs,p.cons.length<=1000
 len:l.length<=1000
 lt:∀p∈l,p<x.packs.length
theorem aS.all{α:Type}{n:Nat}{C:Nat->World->List Value->α->Prop}{B:Nat}{w:World}{v:Value}{xs:List α}(h:aS n C B w v xs):∀x∈xs,∃cs,C B w cs x:=by intro x hx;obtain⟨i,hi,rfl⟩:=List.getElem_of_mem hx;obtain⟨ao,cap,rfl,-,-⟩:=h.shape;obtain⟨b,off,-,-,-,hc⟩:=h.cells _ _ _ rfl zAA;obtain⟨cs,-,-,h3⟩:=hc i hi;exact⟨cs,h3⟩
section
variable {w w':World} {B:Nat}
theorem getD_in{α:Type}[Inhabited α]{l:List α}{i:Nat}(h:i<l.length):l.getD i default∈l:=by rw[qC,qA h];exact qZ h
theorem aQ.VR{x:aQ}{p:Nat}(h:p<x.packs.length):x.pack p∈x.packs:=getD_in h
end
structure CD where
 rel:Int
 vals:List Int
instance:Inhabited CD:=⟨⟨-1,[]⟩⟩
namespace Cho
open ZY
end Cho
namespace Cho
section
variable {x:aQ} {q:dD} {l:List Nat} (hl:∀p∈l,p<x.packs.length) (hn:l.Nodup) (by_:List Nat)
include hl
end
end Cho
end Go.Proofs.YtdmmebjjojimiaaGreatDoor
