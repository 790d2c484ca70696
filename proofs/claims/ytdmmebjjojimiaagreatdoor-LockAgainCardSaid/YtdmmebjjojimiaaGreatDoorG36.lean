/- Package graph: behind: the nodes that ways lead to. Printed by gen_gwf.py.; Package graph, exact: the closures of shape. Printed by gen_gwg.py. -/
import Derived.Test.YtdmmebjjojimiaaGreatDoorG35
set_option maxRecDepth 100000
set_option maxHeartbeats 8000000
set_option linter.all false
namespace Go.Proofs
theorem zBv{p:Prop}(h:p:=by(intro w hSw;have kb:=aF.out w (aI.out.same hSw);have ka:=jY hc3.out hSw;go_simp<;>(try with_reducible rfl))):p:=h
theorem zG3{p:Prop}(h:p:=by(try dsimp only)<;>(exact Only.alloc hHeld _)):p:=h
end Go.Proofs
namespace Go.Proofs.YtdmmebjjojimiaaGreatDoor
open Go.RowKit
section
variable {w w':World} {B:Nat}
attribute [local irreducible] wpQuiet
theorem Vl:Gu Tryz.prog 78 3 1 8:=Gu.mk' (z:=.int .i64 0) Tryz.underlying78 zk rfl zAH
theorem Py(g o m cap:Nat)(hm:m+1<=cap)(hc:cap<=maxLen)(W:World):(Instr.slice 78 (.slice (some ⟨g,o,none⟩) (m+1) cap) (some (.int .i64 1)) none none).run Tryz.prog W= .ok (.slice (some ⟨g,if cap=1 then o else o+1,none⟩) m (cap-1)) W:=by obtain⟨ii,zz,t1,t2,t3,-,-⟩:=Vl.info;exact KY (P:=Tryz.prog) Vl.und t1 t3 g o m cap hm hc W
theorem Tt(l:List Nat):(eP l).length=l.length:=by simp[eP]
theorem Pz(l:List Nat)(k:Nat):eP (l++[k])=eP l++[.int .i64 (k:Int)]:=by simp[eP]
theorem ahp{e:TypeId}{v:Value}{n:Nat}{xs:List Value}(h:w.ownsRow 0 e 1 v n xs){k:Nat}(hk:Value.blk v=some k):v.ownBlock=some k:=by
 rcases h.2 with⟨rfl,_⟩| ⟨g,cap,cur,rfl,-⟩;·cases hk
 exact hk
structure MapOf (N:Nat) (ks:List Int) (f:Int->Int) (out:Nat->Nat) (c:Nat):Prop where
 val:∀i:Nat,f (i:Int)=(out i:Int)
 keys:∀z∈ks,∃i:Nat,z=i/\i<N
 le:∀i,out i<=c
theorem MapOf.len{N:Nat}{ks:List Int}{f:Int->Int}{out:Nat->Nat}{c:Nat}(h:MapOf N ks f out c)(hn:ks.Nodup):ks.length<=N:=by
 have h1:ks.length<=((List.range N).map fun i:Nat=>(i:Int)).length:=Dc hn fun z hz=>by obtain⟨i,rfl,hi⟩:=h.keys z hz;exact yD.2 ⟨i,yI.2 hi,rfl⟩
 simpa using h1
theorem MapOf.bump{N:Nat}{ks:List Int}{f:Int->Int}{out:Nat->Nat}{c:Nat}(h:MapOf N ks f out c){k:Nat}(hk:k<N):MapOf N (Ei ks (k:Int)) (upd f (k:Int) ((out k:Int)+1)) (rP out k) (c+1):=by
 refine⟨fun i=>?_,fun z hz=>?_,fun i=>?_⟩
 ·unfold upd rP;by_cases e:i=k;·subst e;rw[if_pos rfl,if_pos rfl];omega
  rw[if_neg zAA,if_neg e];exact h.val i
 ·rcases BI.1 hz with h1|rfl;·exact h.keys z h1
  exact⟨k,rfl,hk⟩
 have:=h.le i;unfold rP;split<;>omega
structure Ee (w:World) (bm:Nat) (g:List aC) (fr:List Nat) (ks:List Int) (f:Int->Int):Prop where
 map:oI w bm ks f
 way:∀i:Nat,0<f (i:Int)↔ ∃r∈fr,Dx g r i
 pos:∀i:Nat,0<=f (i:Int)
theorem Ee.dK{bm:Nat}{g:List aC}{fr:List Nat}{ks:List Int}{f:Int->Int}(h:Ee w bm g fr ks f)(o:O0 w w'):Ee w' bm g fr ks f:=⟨h.map.dK o,h.way,h.pos⟩
theorem jY{b o:Nat}{v:Value}(h:w.cell? ⟨b,o,none⟩=some v)(ho:O0 w w'):w'.cell? ⟨b,o,none⟩=some v:=eH h ho (fun f=>f)
theorem XF{CS:List Value}{g:List aC}(hg:rU B w CS g){vf:Value}{fr:List Nat}(hf:Ints w vf (intsOf fr))(hfr:∀r∈fr,r<g.length)(hgl:g.length<=1000000)(hfl:fr.length<=1000000)(hnd:∀n∈g,n.needs.length<=1000000):Calls Tryz.prog 206 #[.agg CS.toArray,vf] w fun e w'=> ∃bm ks f,e= .returned (.map (some bm))/\Ee w' bm g fr ks f/\O0 w w':=by
 have HI:=zh hf;have BJ:=zh hnd;obtain⟨a4,n4,c4,rfl,-,-,N4,F4⟩:=nH hg;try rw[N4.out]
 rw[N4.out]at hgl;obtain⟨W0,hW0,aV,jK,aF⟩:=agW w (.slice a4 n4 c4) 31;obtain⟨HG,MH⟩:=F4 W0 aV.out;have Ij:=zh (BeI.start hfr);have HMi:Hid (oI (W0.alloc (.map #[] 0)) W0.heap.size [] (fun _=>0)):=oI.made W0;have gK:Hid (O0 W0 (W0.alloc (.map #[] 0))):=zr.alloc _;have HCl:=zh (aaY (HI.out.dK (aV.out.same gK.out)) (by unfold intsOf;rw[qM];omega));have hsz:(W0.alloc (.map #[] 0)).heap.size=W0.heap.size+1:=zAP;obtain⟨bm,hbm⟩:=ze W0.heap.size;have HBm:Hid (W0.heap.size<=bm):=by rw[hbm];exact qH _
 rw[hbm]at HMi;have hW0':=hW0.symm;clear hg hf hnd F4 hW0 hfr;have hmm:= @run_makeMap Tryz.prog;go_enter Tryz.func206,Tryz.ntmps206;go_wp2_with fail;clear hW0' hmm;refine HCl.out.mono ?_;rintro e w1 ⟨v1,rfl,r1,b1,O1⟩;have aI:=zh (gK.out.same O1);have HM1:=zh (HMi.out.dK O1);have e1:(intsOf fr).map cI=eP fr:=by simp[eP,intsOf,cI]
 have e2:(intsOf fr).length=(eP fr).length:=by simp[eP,intsOf]
 rw[e1,e2]at r1;have Io:Hid (nC w1 3 v1 (eP fr)):=nC.xC r1;have HB1:Hid (∀k,Value.blk v1=some k->W0.heap.size<=k/\k≠bm):=fun k hk=>by have:=b1 k (ahp r1 hk);omega
 obtain⟨av,cv,rfl,-,-⟩:=Io.out.sh;obtain⟨M,hM⟩:=ze (n4+fr.length);have hzl:=acw (fun _=>0) n4;obtain⟨k0,hk0⟩:∃k,jh (fun _=>0) n4+fr.length=k:=⟨_,rfl⟩;have hkM:k0<=M:=zAA;have HKb:Hid (M<=2000000):=by rw[Hid];omega
 have HZ0:=zh hk0;clear r1 b1 O1 HCl HMi gK e1 e2 hk0 hzl hM;go_wp2_with fail;try rw[hbm]
 go_loopg [6] k0 (fun k vo wr=>Hid (O0 W0 wr)/\∃(A:List Nat) (ks:List Int) (f:Int->Int) (out:Nat->Nat) (c:Nat),Hid (nC wr 3 vo (eP A))/\Hid (∀k,Value.blk vo=some k->W0.heap.size<=k/\k≠bm)/\Hid (oI wr bm ks f)/\Hid (BeI g fr out A/\MapOf n4 ks f out c/\jh out n4+A.length=k/\1000000*(jh out n4+A.length)+c<=1000000*M));case atStart=>exact⟨aI,fr,[],fun _=>0,fun _=>0,0,Io,HB1,HM1,show Hid _ from⟨Ij.out,⟨fun i=>rfl,fun z hz=>(by cases hz),fun i=>qH _⟩,HZ0.out,by rw[HZ0.out];omega⟩⟩
 case round=>
  clear aI Io HB1 HM1 HZ0
  obtain⟨HO,A,ks,f,out,c,HV,HB,HM,HI⟩:=hrel
  cases A with
  |nil=>
   obtain⟨au,cu,rfl,-,-⟩:=HV.out.sh
   rw[show(eP []).length=0 from rfl]at*
   go_wp2_with fail
   go_ret
   obtain⟨I1,I2,-,-⟩:=HI.out
   exact⟨bm,ks,f,rfl,⟨HM.out,fun i=>by rw[I2.val,<-I1.finish i];omega,fun i=>by rw[I2.val];omega⟩,aV.out.same HO.out⟩
  |cons a A=>
   obtain⟨g0,o,Yu,rfl,hc1,hc2,hc3,o',ho',hc4⟩:=nC.some (show nC wr 3 u6 (Value.int .i64 (a:Int)::eP A) from HV.out)
   obtain⟨m,hm⟩:=ze ((eP A).length)
   rw[hm]at hc1 hc4⊢
   have pI:=zh hc4
   have hsl:=Py g0 o m Yu hc1 hc2
   rw[<-ho']at hsl
   have hmA:A.length=m:=by rw[<-hm,Tt]
   have HBq:Hid (∀k,Value.blk (.slice (some ⟨g0,o',none⟩) m (Yu-1))=some k->W0.heap.size<=k/\k≠bm):=fun k hk=>HB.out k (by simpa[Value.blk]using hk)
   obtain⟨I1,I2,I3,I4⟩:=HI.out
   have ca:a<n4:=by have:=I1.al7 qQ;rw[N4.out]at this;exact this
   obtain⟨W1,rfl⟩:=zB wr
   have aI:=HO
   have hc3:=zh hc3
   clear ho' hc4 hm HB HV
   obtain⟨yn,hxn⟩:=zG g a zCH
   obtain⟨Kv,wI,nR,nU,nV,mV,lD,mP,hen,lY,lG,Fp,Eo,jO⟩:=jf (MH.out W0 zr) hxn
   first
    |subst hen
    | (simp only[qG,qO,and_true]at hen;obtain⟨rfl,rfl⟩:=hen)
   have Nn2:=zh lG
   have jg:=zh jO
   have uJ:=zh hxn
   clear jO hxn lY lG
   have Kw:Hid (∀W,O0 W0 W->aS 1 bU B W (.slice mV lD mP) yn.needs):=fun W ho=>(jg.out W ho).2.2.1
   have hnn:lD<=1000000:=by rw[<-Nn2.out];exact BJ.out yn (qT uJ.out)
   have al8:Hid (BeM g fr out A a 0/\MapOf n4 ks f out c/\jh out n4+A.length+1<=gk/\1000000*(jh out n4+A.length)+(lD-0)+c<=1000000*M):=⟨I1.pop,I2,by simp only[qN]at I3;omega,by simp only[qN]at I3 I4;omega⟩
   clear I1 I2 I3 I4 HI HO
   have kb:=aF.out W1 aI.out
   have ka:=hc3.out
   go_wp2_with fail
   clear kb ka
   refine dn (n:=9) (E:=fun k=>k=8) (S:=fun W=>O0 W1 W) zk rfl (by exact(Only.refl (fun _=>False) W1).drew) (fun hHeld=>?_)
   refine tW 0 ?_
   refine tK 1 ?_ (hy:=zBv)
   refine tW 2 ?_
   refine tW 3 ?_
   refine tK 4 ?_ (hy:=zBv)
   refine tW 5 ?_
   refine tK 6 ?_ (hy:=by(intro w hSw;have kb:=aF.out w (aI.out.same hSw);have ka:=jY hc3.out hSw;exact oz rfl rfl (jg.out w (aI.out.same hSw)).1 Tryz.underlying83 rfl zk))
   refine tO 7 fun K hK=>?_
   (go_simp)
   refine hK.out _ _ ?_ (fun hHeld=>?_)
   ·exact zG3
   clear hK K
   try simp only[Act.put,fA,fD,fB,dW,dX,dY]
   refine dN (rs:=[8]) zk zAP ?_
   refine bI.late (i:=8) rfl zk (fun K hK=>?_) ?_
   ·(rw[if_pos zk];refine mG 83 (.tmp 7) (.tmp 23) rfl _ #[.string yn.name,.string yn.version,.slice nR nU nV,.slice mV lD mP] rfl rfl 83 #[.string ⟨#[]⟩,.string ⟨#[]⟩,.slice none 0 0,.slice none 0 0] (by exact qL _ _) zk rfl zk ?_;intro W3 hg3 ho3)
    refine hK.out _ _ ?_
    clear hK K
    try simp only[Act.put,fA,fD,fB,dW,dX,dY]
    refine bV zk ?_ _
    generalize hgg:W1.heap.size=gb at*
    have kD:Hid (O0 W1 W3):=hHeld.trans ho3 fun k hk=>.inr (by rw[hk,<-hgg];exact qH _)
    have n3:W3.cell? ⟨gb,3,none⟩=some (.slice mV lD mP):=by rw[aj hg3];rfl
    have MI:Hid (O0 W0 W3):=aI.out.same kD.out
    have aho:Hid (nC W3 3 (.slice (some ⟨g0,o',none⟩) m (Yu-1)) (eP A)):=pI.out.only kD.out (fun _ _ f=>f)
    have al9:Hid (oI W3 bm ks f):=HM.out.dK kD.out
    clear ho3 hHeld kD hg3 pI HM
    go_wp2_with fail
    clear n3 hsl
    go_loopw [6,29] (fun vo vj gV=>Hid (O0 W0 gV)/\∃(j:Nat) (A:List Nat) (ks:List Int) (f:Int->Int) (out:Nat->Nat) (c:Nat),vj= .int .i64 j/\j<=lD/\Hid (nC gV 3 vo (eP A))/\Hid (∀k,Value.blk vo=some k->W0.heap.size<=k/\k≠bm)/\Hid (oI gV bm ks f)/\Hid (BeM g fr out A a j/\MapOf n4 ks f out c/\jh out n4+A.length+1<=gk/\1000000*(jh out n4+A.length)+(lD-j)+c<=1000000*M)) (fun _ v _=>lD-(RowKit.intOf v).toNat)
    case atStart=>exact⟨MI,0,A,ks,f,out,c,rfl,qE _,aho,HBq,al9,al8⟩
    case round=>
     obtain⟨gV,rfl⟩:=zB wr
     clear MI aho HBq al9 al8
     obtain⟨GK,j,A,ks,f,out,c,rfl,hj,HV,HB,HM,HI⟩:=hrel
     obtain⟨vo,rfl⟩:=zB u6
     by_cases cj:j<lD
     ·have iE:=zw (j+1)
      obtain⟨s,hsj⟩:=zG yn.needs j (by rw[Nn2.out];exact cj)
      obtain⟨X5,Gv,hes,-,hEs⟩:=iR (Kw.out W0 zr) hsj
      first
       |subst hes
       | (simp only[qG,qO,and_true]at hes;obtain⟨rfl,rfl⟩:=hes)
      have Qk:=(hEs gV GK.out).1 0 _ rfl
      rw[yH,qF]at Qk
      obtain⟨t,ht⟩:=ze (jG g s)
      have hFi:=zh (MZ (HG.out gV GK.out) s)
      rw[ht]at hFi
      have HSj:Hid ((nodeAt g a).needs[j]? =some s):=by rw[Hid,jU uJ.out];exact hsj
      have HTt:=zh ht
      have htl:=xk g s
      have htg:=Ox g s
      rw[ht,N4.out]at htl
      rw[ht]at htg
      have kb:=aF.out gV GK.out
      clear hsj hEs ht
      go_wp2_with fail
      clear Qk kb
      refine hFi.out.mono ?_
      rintro e wf ⟨rfl,Of⟩
      have HOf:=zh (GK.out.same Of)
      have HVf:Hid (nC wf 3 vo (eP A)):=HV.out.only Of (fun _ _ f=>f)
      have HMf:Hid (oI wf bm ks f):=HM.out.dK Of
      clear Of hFi HV HM GK
      obtain⟨I1,I2,I3,I4⟩:=HI.out
      by_cases h0:0<=t
      ·obtain⟨k,rfl⟩:∃k:Nat,t=k:=⟨t.toNat,by omega⟩
       have hkn:k<n4:=zAA
       have ajV:jF (k:Int):=⟨by omega,by omega⟩
       have hfk:=I2.val k
       have hle:=I2.le k
       have hKb:=HKb.out
       have ewf:=zw ((out k:Int)+1)
       have hkl:=I2.len HMf.out.nd
       have hlk:=HMf.out.look ajV
       rw[hfk]at hlk
       obtain⟨w2,hup,hM2,hO2⟩:=HMf.out.store (v:=(out k:Int)+1) ajV ⟨by omega,by omega⟩ zAu
       have hlk2:=hM2.look ajV
       rw[show upd f (k:Int) ((out k:Int)+1) (k:Int)=(out k:Int)+1 by unfold upd;rw[if_pos rfl]]at hlk2
       have HM2:=zh hM2
       have eF:Hid (O0 W0 w2):=HOf.out.trans hO2 fun k hk=>.inr (by have:=HBm.out;omega)
       have uN:Hid (nC w2 3 vo (eP A)):=HVf.out.only hO2 fun k hk=>(HB.out k hk).2
       have HIh:=zh (I1.hit HSj.out HTt.out)
       have HMb:=zh (I2.bump hkn)
       obtain⟨au,cu,rfl,-,-⟩:=uN.out.sh
       clear hM2 hfk hle hkl
       generalize Ei ks (k:Int)=MS at*
       generalize upd f (k:Int) ((out k:Int)+1)=f2 at*
       obtain⟨z,hz0⟩:∃z:Int,(out k:Int)=z:=⟨_,rfl⟩
       have HZ0:=zh hz0
       rw[hz0]at hlk hup hlk2 ewf
       clear hz0
       by_cases hz:z=0
       ·subst hz
        have e01:(0:Int)+1=1:=rfl
        rw[e01]at hup hlk2 ewf
        have HI2:Hid (BeM g fr (rP out k) (A++[k]) a (j+1)/\MapOf n4 MS f2 (rP out k) (c+1)/\jh (rP out k) n4+(A++[k]).length+1<=gk/\1000000*(jh (rP out k) n4+(A++[k]).length)+(lD-(j+1))+(c+1)<=1000000*M):=by
         have hz:out k=0:=by have:=HZ0.out;omega
         have h1:=HIh.out
         rw[if_pos hz]at h1
         have h2:=LJ hz hkn
         have h3:(A++[k]).length=A.length+1:=zAP
         refine⟨h1,HMb.out,by omega,?_⟩
         have:jh (rP out k) n4+(A++[k]).length=jh out n4+A.length:=zAA
         rw[this];omega
        have hlA:(eP A).length<=20000000:=by rw[Tt];have:=HKb.out;omega
        clear I1 I2 I3 I4 HMf HVf HOf hO2 HIh HMb HI HZ0 e01
        go_wp2_with (at_builtin;go_must (refine aiz (u:=.int .i64 (k:Int)) Vl rfl (.tmp 46) (.tmp 48) rfl rfl rfl (cell_new0 _ _ _) rfl (uN.out.only ((Only.refl (fun _=>False) _).alloc _) (fun _ _ f=>f)) zAA zHZ ?_))
        intro v' w3 r1 r2 r3
        have VD:Hid (nC w3 3 v' (eP (A++[k]))):=by rw[Pz];exact r1
        have hOa:=((Only.refl (fun q=>Value.blk (.slice au (eP A).length cu)=some q) w2).alloc (.cells #[.int .i64 (k:Int)] 3)).same r2
        have kD:Hid (O0 W0 w3):=eF.out.trans hOa fun k hk=>.inr (HB.out k hk).1
        have HM3:Hid (oI w3 bm MS f2):=HM2.out.only hOa fun h=>(HB.out bm h).2 rfl
        have HB3:Hid (∀k,Value.blk v'=some k->W0.heap.size<=k/\k≠bm):=fun k hk=>by
         rcases r3 k hk with h|h
         ·exact HB.out k h
         ·have h1:=eF.out.size
          have h2:=HM2.out.lt
          try simp at h
          exact⟨by omega,by omega⟩
        obtain⟨av,cv,rfl,-,-⟩:=VD.out.sh
        clear r1 r2 r3 hOa uN HB HM2 eF
        go_wp2_with fail
        go_roundw
        case rel=>exact⟨kD,j+1,A++[k],MS,f2,_,c+1,by first|rfl|go_num,by omega,VD,HB3,HM3,HI2⟩
        case measure=>simp[RowKit.intOf]<;>omega
       ·have HI2:Hid (BeM g fr (rP out k) A a (j+1)/\MapOf n4 MS f2 (rP out k) (c+1)/\jh (rP out k) n4+A.length+1<=gk/\1000000*(jh (rP out k) n4+A.length)+(lD-(j+1))+(c+1)<=1000000*M):=by
         have hz:¬out k=0:=by have:=HZ0.out;omega
         have h1:=HIh.out
         rw[if_neg hz]at h1
         rw[LH hz]
         exact⟨h1,HMb.out,I3,by omega⟩
        have hne1:(z+1==1)=false:=zBL
        clear I1 I2 I3 I4 HMf HVf HOf hO2 HIh HMb HI HZ0
        go_wp2_with fail
        go_roundw
        case rel=>exact⟨eF,j+1,A,MS,f2,_,c+1,by first|rfl|go_num,by omega,uN,HB,HM2,HI2⟩
        case measure=>simp[RowKit.intOf]<;>omega
      ·have h0':decide ((0:Int)<=t)=false:=qP h0
       have HI2:Hid (BeM g fr out A a (j+1)/\MapOf n4 ks f out c/\jh out n4+A.length+1<=gk/\1000000*(jh out n4+A.length)+(lD-(j+1))+c<=1000000*M):=⟨I1.miss HSj.out (by rw[HTt.out];omega),I2,I3,by omega⟩
       obtain⟨au,cu,rfl,-,-⟩:=HVf.out.sh
       clear I1 I2 I3 I4 HI
       go_wp2_with fail
       go_roundw
       case rel=>exact⟨HOf,j+1,A,ks,f,out,c,by first|rfl|go_num,by omega,HVf,HB,HMf,HI2⟩
       case measure=>simp[RowKit.intOf]<;>omega
     ·obtain rfl:lD=j:=by omega
      obtain⟨I1,I2,I3,I4⟩:=HI.out
      have HI2:Hid (BeI g fr out A/\MapOf n4 ks f out c/\1000000*(jh out n4+A.length)+c<=1000000*M):=⟨I1.finish (by rw[jU uJ.out,Nn2.out];exact qH _),I2,by omega⟩
      have hlt:jh out n4+A.length<gk:=zAA
      obtain⟨au,cu,rfl,-,-⟩:=HV.out.sh
      clear I1 I2 I3 I4 HI
      go_wp2_with fail
      go_roundg (jh out n4+A.length)
      case rel=>exact⟨GK,A,ks,f,out,c,HV,HB,HM,zh ⟨HI2.out.1,HI2.out.2.1,rfl,HI2.out.2.2⟩⟩
      case measure=>omega
   exact bI.nil
end
section
variable {w w':World} {B:Nat}
attribute [local irreducible] wpQuiet
theorem acy(w:World)(x:Int):(w.alloc (.cells #[.int .i64 x] 3)).ownsRow 0 3 1 (.slice (some ⟨w.heap.size,0,none⟩) 1 1) 1 [.int .i64 x]:=World.ownsRow_lit (base:=0) (e:=3) (size:=1) w #[.int .i64 x] 1 (qE _) zCn zAP
theorem acz(w:World)(i:Nat)(hi:i<=1000000):Ints (w.alloc (.cells #[.int .i64 (i:Int)] 3)) (.slice (some ⟨w.heap.size,0,none⟩) 1 1) (intsOf [i]):=
 uX (l:=[i]) (acy w i) (fun j hj=>by rw[yJ]at hj;omega)
theorem XG{v:Value}{xs:List Int}(hI:Ints w v xs)(x:Int)(r:Bool)(hr:xs.contains x=r):Calls Tryz.prog 152 #[v,.int .i64 x] w fun e w'=>e= .returned (.bool r)/\O0 w w':=by
 subst hr;obtain⟨ao,cap,rfl,h1,h2⟩:=hI.shape;by_cases h0:xs.length=0;·have hx:xs=[]:=yF h0;subst hx;exact(Tryz.slices_Contains_int_empty ao cap x w).mono fun e w' ⟨he,hw⟩=>⟨by rw[he];rfl,by rw[hw];exact Only.refl _ _⟩
 obtain⟨b,off,rfl,_,hc⟩:=hI.cells _ _ _ rfl zAA;exact(Tryz.slices_Contains_int b off xs.length cap xs x w (qH _) zAA hc).mono fun e w' ⟨he,hw⟩=>⟨by rw[he,qI (qH _)],by rw[hw];exact Only.refl _ _⟩
structure afq (g:List aC):Prop where
 len:g.length<=1000000
 needs:∀n∈g,n.needs.length<=1000000
theorem acA{bp bc:Nat}{x:aQ}{q:dD}{g:List aC}(hc:lH B w bp x q g)(hcc:∀W,O0 w W->W.cell? ⟨bc,0,none⟩=some (.pointer (some ⟨bp,0,none⟩)))(hw:afq g){zQ:List Value}{n:aC}(hn:dH B w zQ n){i:Nat}(hi:i<g.length):Calls Tryz.prog 205 #[.int .i64 (i:Int),.agg zQ.toArray,.pointer (some ⟨bc,0,none⟩)] w fun e w'=>e= .returned (.bool (vZ g i))/\O0 w w':=by
 obtain⟨a1,n1,c1,a2,n2,c2,a3,n3,c3,a4,n4,c4,-,-,N4,-,-,-,oZ,-,-,HG,-,-,-⟩:=hc.open;obtain⟨v5,v6,rfl,-,-,r5,r6⟩:=hn;obtain⟨a5,c5,rfl,-,-⟩:=r5.shape;obtain⟨a6,c6,rfl,-,-⟩:=r6.shape;obtain⟨n5,h5⟩:=ze n.sets.length;obtain⟨n6,h6⟩:=ze n.needs.length;rw[h5,h6];clear r5 r6 h5 h6;obtain⟨W0,hW0,aV,jK,aF⟩:=QN w (.string n.name) (.string n.version) (.slice a5 n5 c5) (.slice a6 n6 c6) 83;obtain⟨r,hr⟩:=ze (vZ g i);rw[hr];have hl:=hw.len;have hi64:jF (i:Int):=⟨by omega,by omega⟩;have HIx:Hid (jF (i:Int)):=hi64;have HBe:Hid (Calls Tryz.prog 206 #[.agg #[.slice a4 n4 c4],.slice (some ⟨W0.heap.size,0,none⟩) 1 1] (W0.alloc (.cells #[.int .i64 (i:Int)] 3)) fun e w'=> ∃bm ks f,e= .returned (.map (some bm))/\Ee w' bm g [i] ks f/\O0 (W0.alloc (.cells #[.int .i64 (i:Int)] 3)) w'):=
  XF (HG.out _ (aV.out.same (zr.alloc _))) (acz W0 i zAA) (fun r hr=>by rw[yJ]at hr;omega) hl zCt hw.needs
 have hW0':=hW0.symm;have pc:=hcc W0 aV.out;obtain⟨p0,p1,p2,p3⟩:=oZ.out W0 aV.out;have HOI:Hid (O0 w (W0.alloc (.cells #[.int .i64 (i:Int)] 3))):=aV.out.alloc _;have HR:=zh hr;clear hc hcc hw hW0 hr hl hi hi64;go_enter Tryz.func205,Tryz.ntmps205;go_wp2_with fail;clear hW0' pc p0 p1 p2 p3;refine HBe.out.mono ?_;rintro e w1 ⟨bm,ks,f,rfl,hM,O1⟩;have aI:=zh (HOI.out.same O1);have hlk:=hM.map.look HIx.out;obtain⟨v,hv⟩:∃v,f (i:Int)=v:=⟨_,rfl⟩;rw[hv]at hlk;have hd:decide (0<v)=r:=by rw[<-HR.out,<-hv];unfold vZ;refine decide_eq_decide.2 ?_;rw[hM.way i];simp
 clear hM O1 HBe hv;cases r with
 |true=>have h0:0<v:=of_decide_eq_true hd;go_wp2_with fail;go_ret;exact⟨by simp[h0],aI.out⟩
 |false=>have h0:¬0<v:=of_decide_eq_false hd;go_wp2_with fail;go_ret;exact⟨by simp[h0],aI.out⟩
theorem Jq:∀args w,(callFunc 205 args).run Tryz.prog w= .ok (.enter 205 args) w:=enters_of Tryz.func205 zk rfl
theorem XH{bp bc:Nat}{x:aQ}{q:dD}{g:List aC}(hc:lH B w bp x q g)(hcc:∀W,O0 w W->W.cell? ⟨bc,0,none⟩=some (.pointer (some ⟨bp,0,none⟩)))(hw:afq g):
  DN B w 205 #[] #[.pointer (some ⟨bc,0,none⟩)] g (fun i _=>vZ g i):=fun i n hi W cs o hn=>by
 have h:=acA (hc.only o) (fun V hV=>hcc V (o.same hV)) hw hn (qJ.1 hi).1
 simpa using h
theorem acB{bi br bm:Nat}{x:aQ}{q:dD}{g:List aC}{ks:List Int}{f:Int->Int}{vr:Value}(hM:Ee w bm g (mJ x q g) ks f)(hr:Ints w vr (intsOf (mJ x q g)))(hcc:w.cell? ⟨bi,0,none⟩=some (.map (some bm))/\w.cell? ⟨br,0,none⟩=some vr)(hgl:g.length<=1000000){zQ:List Value}{n:aC}(hn:dH B w zQ n){i:Nat}(hi:i<g.length):Calls Tryz.prog 208 #[.int .i64 (i:Int),.agg zQ.toArray,.pointer (some ⟨bi,0,none⟩),.pointer (some ⟨br,0,none⟩)] w fun e w'=>e= .returned (.bool (pG x q g i))/\O0 w w':=by
 obtain⟨v5,v6,rfl,-,-,r5,r6⟩:=hn;obtain⟨a5,c5,rfl,-,-⟩:=r5.shape;obtain⟨a6,c6,rfl,-,-⟩:=r6.shape;obtain⟨n5,h5⟩:=ze n.sets.length;obtain⟨n6,h6⟩:=ze n.needs.length;rw[h5,h6];clear r5 r6 h5 h6;obtain⟨W0,hW0,aV,jK,aF⟩:=QN w (.string n.name) (.string n.version) (.slice a5 n5 c5) (.slice a6 n6 c6) 83;obtain⟨b1,hb1⟩:=ze (decide (i∈mJ x q g));have vG:=zh (XG (hr.dK aV.out) (i:Int) b1 (by
  rw[<-hb1,Bool.eq_iff_iff,vI,decide_eq_true_iff]
  refine⟨fun h=>?_,fun h=>⟨i,h,rfl⟩⟩
  obtain⟨p,hp,e⟩:=h
  have e2:i=p:=zAA
  rw[e2];exact hp))
 have hi64:jF (i:Int):=⟨by omega,by omega⟩;have hlk:=(hM.dK aV.out).map.look hi64;obtain⟨v,hv⟩:∃v,f (i:Int)=v:=⟨_,rfl⟩;have hv0:=hM.pos i;rw[hv]at hlk hv0;have hrw:pG x q g i=(!b1&&decide (v=0)):=by
  unfold pG;rw[hb1];congr 1;by_cases h:∃r∈mJ x q g,Dx g r i;·have h2:=(hM.way i).2 h;rw[hv]at h2;rw[Bool.eq_iff_iff,Bool.not_eq_true',decide_eq_false_iff_not,decide_eq_true_iff];exact⟨fun h1=>absurd h h1,fun h1=>by omega⟩
  have h2:¬0<f (i:Int):=fun h0=>h ((hM.way i).1 h0);rw[hv]at h2;rw[Bool.eq_iff_iff,Bool.not_eq_true',decide_eq_false_iff_not,decide_eq_true_iff];exact⟨fun _=>by omega,fun _=>h⟩
 rw[hrw];have hW0':=hW0.symm;have c0:=jY hcc.1 aV.out;have c1:=jY hcc.2 aV.out;clear hM hr hcc hW0 hb1 hv hrw hi64;by_cases h0:v=0;·subst h0;go_enter Tryz.func208,Tryz.ntmps208;go_wp2_with fail;refine vG.out.mono ?_;rintro e w1 ⟨rfl,O1⟩;have aI:=zh (aV.out.same O1);clear O1 c0 c1 hlk;go_wp2_with fail;go_ret;exact⟨by simp,aI.out⟩
 have h1:(v==0)=false:=by simpa using h0
 go_enter Tryz.func208,Tryz.ntmps208;go_wp2_with fail;go_ret;exact⟨by simp[h0],aV.out⟩
theorem yV:∀args w,(callFunc 208 args).run Tryz.prog w= .ok (.enter 208 args) w:=enters_of Tryz.func208 zk rfl
theorem Jr{bi br bm:Nat}{x:aQ}{q:dD}{g:List aC}{ks:List Int}{f:Int->Int}{vr:Value}(hM:Ee w bm g (mJ x q g) ks f)(hr:Ints w vr (intsOf (mJ x q g)))
  (hcc:w.cell? ⟨bi,0,none⟩=some (.map (some bm))/\w.cell? ⟨br,0,none⟩=some vr) (hgl:g.length<=1000000):
  DN B w 208 #[] #[.pointer (some ⟨bi,0,none⟩),.pointer (some ⟨br,0,none⟩)] g (fun i _=>pG x q g i):=fun i n hi W cs o hn=>by
 have h:=acB (B:=B) (hM.dK o) (hr.dK o) ⟨jY hcc.1 o,jY hcc.2 o⟩ hgl hn (qJ.1 hi).1
 simpa using h
end
end Go.Proofs.YtdmmebjjojimiaaGreatDoor
