/- LkWA LkWB, in one text. -/
import Derived.Test.YtdmmebjjojimiaaGreatDoorG31
set_option maxRecDepth 100000
set_option maxHeartbeats 8000000
set_option linter.all false
namespace Go.Proofs.YtdmmebjjojimiaaGreatDoor
open Go.RowKit
open Lk (sG uZ mO rG BL tq sH joinL Aw Df)
section
variable {w w':World} {B:Nat}
theorem ahs{W:World}{v:Value}{g:List aC}(h:aS 4 dH w.heap.size w v g)(o:Only (fun k=>w.heap.size<=k) w W){i:Nat}{x:aC}(hx:g[i]? =some x):∃b off len cap a1 c1 a2 c2,v= .slice (some ⟨b,off,none⟩) len cap/\okS x.name/\okS x.version/\W.rangeAt b (off+i*4) [.string x.name,.string x.version,.slice a1 x.sets.length c1,.slice a2 x.needs.length c2]/\aS 2 dO w.heap.size w (.slice a1 x.sets.length c1) x.sets/\aS 1 bU w.heap.size w (.slice a2 x.needs.length c2) x.needs/\x.sets.length<=c1/\c1<=9223372036854775807/\x.needs.length<=c2/\c2<=9223372036854775807:=by obtain⟨b,off,len,cap,a1,c1,a2,c2,e,k1,k2,g1,g2,g3,g4,hb,hE⟩:=Dt h hx;obtain⟨h1,h2,h3⟩:=hE w zr;refine⟨b,off,len,cap,a1,c1,a2,c2,e,k1,k2,?_,h2,h3,g1,g2,g3,g4⟩;intro j u hu;rw[World.cell?_of_block (w:=w) (o.block b hb zAA)];exact h1 j u hu
end
section
variable {w w':World} {B:Nat}
theorem aht{v:Value}{g:List aC}(hg:aS 4 dH w.heap.size w v g)(hs:H7 g):Calls Tryz.prog 11 #[.agg #[v]] w (fun e w'=> ∃t:Str,e= .returned (.string t)/\t.toList=Aw (fM g)/\O0 w w'):=by
 obtain⟨w0,hw0⟩:=ze (w.alloc (.cells #[v] 31));have ho0:O0 w w0:=zBN;have hb0:w0.heap[w.heap.size]? =some (.cells #[v] 31 (0,0)):=by rw[<-hw0];exact qL _ _
 have jW:=zh ho0;have HG:=zh hg;have HS:=zh hs;obtain⟨ao,cap,hv,k1,k2⟩:=hg.shape;obtain⟨n,hn⟩:=ze g.length;have HN:=zh hn;rw[hn]at hv k1;subst hv;have ak1:n<=30:=by rw[<-hn];exact hs.1
 have aF:Hid (∀W,O0 w0 W->W.cell? ⟨w.heap.size,0,none⟩=some (.slice ao n cap)):=fun W o=>by rw[aj ((o.block _ (yA.1 hb0).1 (fun f=>f)).trans hb0)];rfl
 have q0:=aF.out w0 zr;have ht0:(⟨#[108,111,99,107,32,49,10]⟩:ByteArray).toList=xu g 0:=by rw[toList_data];rfl
 have HT0:=zh ht0;clear hg hs hn ho0 hb0 ht0;go_enter Tryz.func11,Tryz.ntmps11;go_wp2_with fail;go_loopw [3,11] (fun vs vi wr=>Hid (O0 w0 wr)/\∃(i:Nat) (t:Str),vs= .string t/\vi= .int .i64 i/\i<=n/\Hid (t.toList=xu g i)) (fun _ v _=>n-(RowKit.intOf v).toNat);case atStart=>exact⟨Only.refl _ _,0,_,rfl,rfl,qE _,HT0⟩
 case round=>
  obtain⟨HO,i,t,rfl,rfl,hi,HT⟩:=hrel;by_cases ci:i<n
  ·have iE:=zw (i+1);obtain⟨x,hx⟩:=zG g i zAe;obtain⟨b,off,len',cap',a1,c1,a2,c2,he,kx1,kx2,hr,r1,r2,g1,g2,g3,g4⟩:=ahs HG.out ((jW.out.same HO.out).mono fun _ f=>f.elim) hx;cases he;have q0:=hr 0 _ rfl;have q1:=hr 1 _ rfl;have q2:=hr 2 _ rfl;have q3:=hr 3 _ rfl;rw[qF]at q0;have qb:=aF.out wr HO.out;obtain⟨xn,xv,xs,xd⟩:=x;dsimp only at kx1 kx2 q0 q1 q2 q3 r1 r2 g1 g3;obtain⟨ns,hns⟩:=ze xs.length;obtain⟨nd,hnd⟩:=ze xd.length;have HNs:=zh hns;have BJ:=zh hnd;rw[hns]at q2 r1 g1;rw[hnd]at q3 r2 g3;have HX:=zh hx;have hsm:=HS.out.2 _ (qT hx);have QI:=zh hsm;have arj:ns<=50:=by rw[<-hns];exact hsm.2.2.1
   have ark:nd<=50:=by rw[<-hnd];exact hsm.2.2.2.2.1
   have hlen0:=Gp HS.out i (by rw[HN.out];exact hi);rw[<-HT.out,bC]at hlen0;have HR1:=zh r1;have HR2:=zh r2;obtain⟨N5,hN5⟩:=ze wr.heap.size;obtain⟨wn,hwn⟩:=ze (wr.alloc (.cells #[.string xn,.string xv,.slice a1 ns c1,.slice a2 nd c2] 83));have hbn:wn.heap[N5]? =some (.cells #[.string xn,.string xv,.slice a1 ns c1,.slice a2 nd c2] 83 (0,0)):=by rw[<-hwn,<-hN5];exact qL _ _
   have hon:O0 w0 wn:=by rw[<-hwn];exact HO.out.alloc _
   have Ik:=zh hon;have vG:Hid (∀W,O0 wn W->W.cell? ⟨N5,0,none⟩=some (.string xn)/\W.cell? ⟨N5,1,none⟩=some (.string xv)/\W.cell? ⟨N5,2,none⟩=some (.slice a1 ns c1)/\W.cell? ⟨N5,3,none⟩=some (.slice a2 nd c2)):=fun W o=>by have hb:=(o.block _ (yA.1 hbn).1 (fun f=>f)).trans hbn;exact⟨by rw[aj hb];rfl,by rw[aj hb];rfl,by rw[aj hb];rfl,by rw[aj hb];rfl⟩
   obtain⟨n0,n1,n2,n3⟩:=vG.out wn zr;have hx1:xn.size<=100:=QI.out.1;have hx2:xv.size<=100:=QI.out.2.1;have s0:¬(9223372036854775807<t.size+5):=zAA;have s1:¬(9223372036854775807<t.size+5+xn.size):=zAA;have s2:¬(9223372036854775807<t.size+5+xn.size+1):=zAA;have s3:¬(9223372036854775807<t.size+5+xn.size+1+xv.size):=zAA;have et:((((t++(⟨#[110,111,100,101,32]⟩:ByteArray))++xn)++(⟨#[32]⟩:ByteArray))++xv).toList=xu g i++Ac ⟨xn,xv,xs,xd⟩ 0:=by rw[toList_append,toList_append,toList_append,toList_append,HT.out,toList_data ⟨#[110,111,100,101,32]⟩,toList_data ⟨#[32]⟩];simp[Ac,sG]
   have HEt:=zh et;have afy:Hid ((xu g i).length<=7+i*20000):=Gp HS.out i (by rw[HN.out];exact hi);clear hr hx hsm r1 r2 hns hnd kx1 kx2 hbn hon et hx1 hx2;go_wp2_with fail;generalize wr=wo at*;go_loopw [3,31] (fun vs vk wr=>Hid (O0 wn wr)/\∃(k:Nat) (t:Str),vs= .string t/\vk= .int .i64 k/\k<=ns/\Hid (t.toList=xu g i++Ac ⟨xn,xv,xs,xd⟩ k)) (fun _ v _=>ns-(RowKit.intOf v).toNat);case atStart=>exact⟨Only.refl _ _,0,_,rfl,rfl,qE _,HEt⟩
   case round=>
    obtain⟨kU,k,tk,rfl,rfl,hk,HTk⟩:=hrel;obtain⟨n0,n1,n2,n3⟩:=vG.out wr kU.out;by_cases ck:k<ns
    ·have ewk:=zw (k+1);obtain⟨s,hsx⟩:=zG xs k (by rw[HNs.out];exact ck);obtain⟨b',off',he',Iy,Yn,hE⟩:=uO (HR1.out.keep dO.keep (Kp.dV ((jW.out.same Ik.out).same kU.out))) hsx;subst he';have hr':=(hE wr zr).1;have p0:=hr' 0 _ rfl;have p1:=hr' 1 _ rfl;rw[qF]at p0;obtain⟨sn,sv⟩:=s;dsimp only at p0 p1 Iy Yn;have hsm:=QI.out.2.2.2.1 _ (qT hsx);dsimp only at hsm;have hll:=H8 QI.out k (by rw[HNs.out];exact hk);have hnx:=LD (x:=⟨xn,xv,xs,xd⟩) hsx;have htk:tk.size<=700000:=by rw[<-bC,HTk.out,qK];have:=afy.out;omega
     have et:((((tk++(⟨#[32]⟩:ByteArray))++sn)++(⟨#[61]⟩:ByteArray))++sv).toList=xu g i++Ac ⟨xn,xv,xs,xd⟩ (k+1):=by rw[toList_append,toList_append,toList_append,toList_append,HTk.out,hnx,toList_data ⟨#[32]⟩,toList_data ⟨#[61]⟩];simp
     have aj1:=zh et;have s1:¬(9223372036854775807<tk.size+1):=zAA;have s2:¬(9223372036854775807<tk.size+1+sn.size):=zAA;have s3:¬(9223372036854775807<tk.size+1+sn.size+1):=zAA;have s4:¬(9223372036854775807<tk.size+1+sn.size+1+sv.size):=zAA;clear hsx hr' hE Iy Yn hsm hll hnx et htk;go_wp2_with fail;go_quiet (fail);go_wp2_with fail;go_roundw;case rel=>exact⟨show Hid _ from kU.out.drewN _,k+1,_,rfl,by first|rfl|go_num,by omega,aj1⟩
     case measure=>simp[RowKit.intOf]<;>omega
    obtain rfl:k=ns:=by omega
    have hla:=Zt (x:=⟨xn,xv,xs,xd⟩) (k:=k) (yG HNs.out);have hll:=H8 QI.out k (by rw[HNs.out];exact qH _);have htk:tk.size<=700000:=by rw[<-bC,HTk.out,qK];have:=afy.out;omega
    have et:(tk++(⟨#[10]⟩:ByteArray)).toList=xu g i++rG (aC.toB ⟨xn,xv,xs,xd⟩)++[10]++Ad ⟨xn,xv,xs,xd⟩ 0:=by have e:Ad ⟨xn,xv,xs,xd⟩ 0=[]:=rfl;rw[toList_append,HTk.out,hla,toList_data ⟨#[10]⟩,e,List.append_nil]
    have aj1:=zh et;have Ip:Hid ((rG (aC.toB ⟨xn,xv,xs,xd⟩)).length<=206+k*202):=by rw[<-hla];exact hll
    have s1:¬(9223372036854775807<tk.size+1):=zAA;clear hla hll et htk;go_wp2_with fail;generalize wr=wo2 at*;go_loopw [3,57] (fun vs vj wr=>Hid (wo2=wr)/\∃(j:Nat) (t:Str),vs= .string t/\vj= .int .i64 j/\j<=nd/\Hid (t.toList=xu g i++rG (aC.toB ⟨xn,xv,xs,xd⟩)++[10]++Ad ⟨xn,xv,xs,xd⟩ j)) (fun _ v _=>nd-(RowKit.intOf v).toNat);case atStart=>exact⟨rfl,0,_,rfl,rfl,qE _,aj1⟩
    case round=>
     obtain⟨hw,j,tj,rfl,rfl,hj,HTj⟩:=hrel;obtain rfl:=hw.out;by_cases cj:j<nd
     ·have ewj:=zw (j+1);obtain⟨s,hsx⟩:=zG xd j (by rw[BJ.out];exact cj);obtain⟨b',off',he',Iy,hE⟩:=iR (HR2.out.keep bU.keep (Kp.dV ((jW.out.same Ik.out).same kU.out))) hsx;subst he';have p0:=(hE wo2 zr).1 0 _ rfl;rw[qF,yH]at p0;have hsm:=QI.out.2.2.2.2.2 _ (qT hsx);have hll:=Pg QI.out j (by rw[BJ.out];exact hj);have hnx:=LG (x:=⟨xn,xv,xs,xd⟩) hsx;have htj:tj.size<=900000:=by rw[<-bC,HTj.out];have:=afy.out;have:=Ip.out;simp only[qK,qN,List.length_nil];omega
      have et:(((tj++(⟨#[32,32,110,101,101,100,115,32]⟩:ByteArray))++s)++(⟨#[10]⟩:ByteArray)).toList=xu g i++rG (aC.toB ⟨xn,xv,xs,xd⟩)++[10]++Ad ⟨xn,xv,xs,xd⟩ (j+1):=by rw[toList_append,toList_append,toList_append,HTj.out,hnx,toList_data ⟨#[32,32,110,101,101,100,115,32]⟩,toList_data ⟨#[10]⟩];simp[uZ]
      have apB:=zh et;have s1:¬(9223372036854775807<tj.size+8):=zAA;have s2:¬(9223372036854775807<tj.size+8+s.size):=zAA;have s3:¬(9223372036854775807<tj.size+8+s.size+1):=zAA;clear hsx hE Iy hsm hll hnx et htj;go_wp2_with fail;go_roundw;case rel=>exact⟨by first|exact rfl|exact trivial,j+1,_,rfl,by first|rfl|go_num,by omega,apB⟩
      case measure=>simp[RowKit.intOf]<;>omega
     obtain rfl:j=nd:=by omega
     have hnx:=OZ HX.out;rw[aci]at hnx;have H5:Hid (tj.toList=xu g (i+1)):=by have e:(aC.needs ⟨xn,xv,xs,xd⟩).length=j:=BJ.out;rw[e]at hnx;show _=_;rw[HTj.out,hnx];simp
     clear hnx;go_wp2_with fail;go_roundw;case rel=>exact⟨Ik.out.same kU.out,i+1,_,rfl,by first|rfl|go_num,by omega,H5⟩
     case measure=>simp[RowKit.intOf]<;>omega
  obtain rfl:i=n:=by omega
  have hfin:t.toList=Aw (fM g):=by rw[HT.out];unfold xu Aw;rw[qI (yG HN.out)]
  have HFin:=zh hfin;clear hfin;go_wp2_with fail;go_ret;exact⟨_,rfl,HFin.out,jW.out.same HO.out⟩
end
end Go.Proofs.YtdmmebjjojimiaaGreatDoor
