/- LkWH LkWI LkWJ, in one text.; Nodes copied into a row of the call's own; a whole slice appended; a run of stores. -/
import Derived.Test.YtdmmebjjojimiaaGreatDoorG32
set_option maxRecDepth 100000
set_option maxHeartbeats 8000000
set_option linter.all false
namespace Go.Proofs
theorem zAo{p:Prop}(h:p:=by(intro w hSw;(try dsimp only at hSw);have q3:=(HQ.out w hSw).1;have q4:=(HQ.out w hSw).2;have q5:=(pI.out w hSw);go_simp<;>(try with_reducible rfl))):p:=h
theorem zAr{p:Prop}(h:p:=by(intro w hSw;(try dsimp only at hSw);obtain⟨q3,q4,q5,q6,q7⟩:=HQ.out w hSw;have q8:=(pI.out w hSw);go_simp<;>(try with_reducible rfl))):p:=h
theorem zBB{p:Prop}(h:p:=by(intro w hSw;(try dsimp only at hSw);have q3:=(HQz.out w hSw).1;have q4:=(HQz.out w hSw).2;go_simp<;>(try with_reducible rfl))):p:=h
theorem zBF{p:Prop}(h:p:=by(intro w hSw;(try dsimp only at hSw);obtain⟨q3,q4,q5,q6,q7⟩:=HQz.out w hSw;go_simp<;>(try with_reducible rfl))):p:=h
theorem zBH{p:Prop}(h:p:=by(intro w hSw;(try dsimp only at hSw);obtain⟨q3,q4,q5,q6,q7⟩:=HQ.out w hSw;go_simp<;>(try with_reducible rfl))):p:=h
theorem zEL{p:Prop}(h:p:=by
 refine wpQuiet_nil ?_
 intro w7 O7
 have pz:=zh (HO.out.same O7)
 clear O7
 go_wp2_with fail
 go_ret
 exact⟨rfl,jW.out.same pz.out⟩):p:=h
theorem zEw{p:Prop}(h:p:=by(intro w hSw;exact(BJ.out w hSw).mono fun _ _ ⟨he,hw⟩=>⟨he,hSw.same hw⟩)):p:=h
theorem zEx{p:Prop}(h:p:=by(intro w hSw;exact(HNy.out w).mono fun _ _ ⟨he,hw⟩=>⟨he,hSw.same hw⟩)):p:=h
theorem zFF{p:Prop}(h:p:=by
 refine wpQuiet_nil ?_
 intro w7 O7
 have pz:=zh (HO.out.same O7)
 clear O7
 go_wp2_with fail
 go_roundw
 case rel=>exact⟨pz,(j'+1)+1,by first|rfl|go_num,by omega,HB2⟩
 case measure=>simp[RowKit.intOf]<;>omega):p:=h
theorem zFK{p:Prop}(h:p:=by
 refine wpQuiet_nil ?_
 intro w7 O7
 have pz:=zh (HO.out.same O7)
 clear O7
 go_wp2_with fail
 go_roundw
 case rel=>exact⟨pz,0+1,by first|rfl|go_num,by omega,HB2⟩
 case measure=>simp[RowKit.intOf]<;>omega):p:=h
theorem zFS{p:Prop}(h:p:=by
 refine⟨Cc HB.out.1 HY.out (by rw[HU.out,hu1]),?_⟩
 rw[List.take_add_one,HY.out]
 simp only[Option.toList_some,List.map_append,List.map_cons,List.map_nil]
 rw[Lk.zF,HB.out.2,hl];rfl):p:=h
theorem zF3{p:Prop}(h:p:=by
 unfold Lk.lastB
 rw[List.take_add_one,hy']
 simp only[Option.toList_some,List.map_append,List.map_cons,List.map_nil,List.getLast?_concat]):p:=h
theorem zGU{p:Prop}(h:p:=by
 go_wp2_with fail
 go_ret
 exact⟨rfl,jW.out.same eF.out⟩):p:=h
end Go.Proofs
namespace Go.Proofs.YtdmmebjjojimiaaGreatDoor
open Go.RowKit
open Lk (kY nameB gW)
theorem xw{x:aC}{r:Bool}(hr:kY x.toB=r)(h:kY x.toB≠true):r=false:=by
 cases r with
 |false=>rfl
 |true=>exact absurd hr h
theorem Ci{x:aC}:kY x.toB=true↔nameB x.name.toList=true/\iV x.version.toList=true/\x.sets.length<=4/\x.needs.length<=24/\(∀s∈x.sets,nameB s.name.toList=true/\gW s.value.toList=true)/\(∀s∈x.needs,nameB s.toList=true)/\Lk.wX (x.needs.map ByteArray.toList)=true:=by simp[kY,aC.toB,dM.toB,and_assoc]
section
variable {w w':World} {B:Nat}
attribute [local irreducible] wpQuiet in
theorem afg{x:aC}{a1 a2:Option Addr}{c1 c2:Nat}(kx1:okS x.name)(kx2:okS x.version)(s1:aS 2 dO B w (.slice a1 x.sets.length c1) x.sets)(s2:aS 1 bU B w (.slice a2 x.needs.length c2) x.needs)(r:Bool)(hr:kY x.toB=r):Calls Tryz.prog 57 #[.agg #[.string x.name,.string x.version,.slice a1 x.sets.length c1,.slice a2 x.needs.length c2]] w (fun e w'=>e= .returned (.bool r)/\O0 w w'):=by
 have S1:=zh s1;have S2:=zh s2;have HR:=zh hr;obtain⟨z1,hz1⟩:=ze (nameB x.name.toList);obtain⟨z2,hz2⟩:=ze (Go.Proofs.YtdmmebjjojimiaaGreatDoor.iV x.version.toList);have HZ1:=zh hz1;have HZ2:=zh hz2;have NI:Hid (∀W,Calls Tryz.prog 130 #[.string x.name] W (fun e w'=>e= .returned (.bool z1)/\O0 W w')):=fun W=>Ja x.name kx1 z1 hz1;have HMa:Hid (∀W,Calls Tryz.prog 131 #[.string x.version] W (fun e w'=>e= .returned (.bool z2)/\O0 W w')):=fun W=>VY x.version kx2 z2 hz2;obtain⟨n1,hn1⟩:=ze x.sets.length;obtain⟨n2,hn2⟩:=ze x.needs.length;have Oy:=zh hn1;have Oo:=zh hn2;rw[hn1]at S1⊢;rw[hn2]at S2⊢;obtain⟨w0,hw0⟩:=ze (w.alloc (.cells #[.string x.name,.string x.version,.slice a1 n1 c1,.slice a2 n2 c2] 83));have hb0:w0.heap[w.heap.size]? =some (.cells #[.string x.name,.string x.version,.slice a1 n1 c1,.slice a2 n2 c2] 83 (0,0)):=by rw[<-hw0];exact qL _ _
 have jW:Hid (O0 w w0):=zBN;have aF:Hid (∀W,O0 w0 W->W.cell? ⟨w.heap.size,0,none⟩=some (.string x.name)/\W.cell? ⟨w.heap.size,1,none⟩=some (.string x.version)/\W.cell? ⟨w.heap.size,2,none⟩=some (.slice a1 n1 c1)/\W.cell? ⟨w.heap.size,3,none⟩=some (.slice a2 n2 c2)):=fun W o=>by have e1:=aA hb0 o (fun f=>f);exact zGt
 obtain⟨b0,b1,b2,b3⟩:=aF.out w0 zr;clear s1 s2 hr hz1 hz2 kx1 kx2 hn1 hn2 hb0;go_enter Tryz.func57,Tryz.ntmps57;go_wp2_with fail;refine(NI.out w0).mono ?_;rintro e w1 ⟨rfl,O1⟩;have aI:=zh O1;obtain⟨p0,p1,p2,p3⟩:=aF.out w1 O1;clear O1;cases z1 with
 |false=>obtain rfl:=xw HR.out (by simp[kY,aC.toB,HZ1.out]);go_wp2_with fail;go_ret;exact⟨rfl,jW.out.same aI.out⟩
 |true=>
  go_wp2_with fail;refine(HMa.out w1).mono ?_;rintro e w2 ⟨rfl,O2⟩;have eF:=zh (aI.out.same O2);obtain⟨q0,q1,q2,q3⟩:=aF.out w2 eF.out;clear O2;cases z2 with
  |false=>obtain rfl:=xw HR.out (by simp[kY,aC.toB,HZ2.out]);exact zGU
  |true=>
   by_cases d1:4<n1;·obtain rfl:=xw HR.out (by simp[kY,aC.toB,Oy.out];omega);exact zGU
   by_cases d2:24<n2;·obtain rfl:=xw HR.out (by simp[kY,aC.toB,Oo.out];omega);have t1:decide (4<n1)=false:=qP d1;have t2:decide (4<(n1:Int))=false:=qP zAA;exact zGU
   have t1:decide (4<n1)=false:=qP d1;have t2:decide (4<(n1:Int))=false:=qP zAA;have t3:decide (24<n2)=false:=qP d2;have t4:decide (24<(n2:Int))=false:=qP zAA;go_wp2_with fail;go_loopw [3,30] (fun _ vi wr=>Hid (O0 w0 wr)/\∃i:Nat,vi= .int .i64 i/\i<=n1/\Hid (∀s∈x.sets.take i,nameB s.name.toList=true/\gW s.value.toList=true)) (fun _ v _=>n1-(RowKit.intOf v).toNat);case atStart=>exact⟨eF.out,0,rfl,qE _,fun s hs=>by simp at hs⟩
   case round=>
    obtain⟨HO,i,rfl,hi,HA⟩:=hrel;by_cases ci:i<n1
    ·have iE:=zw (i+1);obtain⟨y,hy⟩:=zG x.sets i zB7;obtain⟨b,off,he1,ky1,ky2,hE1⟩:=uO (S1.out.keep dO.keep (Kp.dV (jW.out.same HO.out))) hy;subst he1;obtain⟨u1,hu1⟩:=ze (nameB y.name.toList);obtain⟨u2,hu2⟩:=ze (gW y.value.toList);have HU1:=zh hu1;have HU2:=zh hu2;have HNy:Hid (∀W,Calls Tryz.prog 130 #[.string y.name] W (fun e w'=>e= .returned (.bool u1)/\O0 W w')):=fun W=>Ja y.name ky1 u1 hu1;have HVy:Hid (∀W,Calls Tryz.prog 132 #[.string y.value] W (fun e w'=>e= .returned (.bool u2)/\O0 W w')):=fun W=>Xe y.value ky2 u2 hu2;have HY:=zh hy;have HE:=zh hE1;have g0:=(hE1 wr zr).1 0 _ rfl;rw[qF]at g0;obtain⟨m0,m1,m2,m3⟩:=aF.out wr HO.out;clear hy hE1 hu1 hu2 ky1 ky2;go_wp2_with fail;refine(HNy.out wr).mono ?_;rintro e w3 ⟨rfl,O3⟩;have kD:=zh (HO.out.same O3);obtain⟨l0,l1,l2,l3⟩:=aF.out w3 kD.out;have g1:=(HE.out w3 O3).1 1 _ rfl;clear O3;cases u1 with
     |false=>obtain rfl:=xw HR.out (fun h=>by have h2:=((Ci.1 h).2.2.2.2.1 y (qT HY.out)).1;rw[HU1.out]at h2;cases h2);go_wp2_with fail;go_ret;exact⟨rfl,jW.out.same kD.out⟩
     |true=>
      go_wp2_with fail;refine(HVy.out w3).mono ?_;rintro e w4 ⟨rfl,O4⟩;have Ej:=zh (kD.out.same O4);clear O4;cases u2 with
      |false=>obtain rfl:=xw HR.out (fun h=>by have h2:=((Ci.1 h).2.2.2.2.1 y (qT HY.out)).2;rw[HU2.out]at h2;cases h2);go_wp2_with fail;go_ret;exact⟨rfl,jW.out.same Ej.out⟩
      |true=>
       have HA2:=zh (Cc HA.out HY.out ⟨HU1.out,HU2.out⟩);go_wp2_with fail;go_roundw;case rel=>exact⟨Ej,i+1,by first|rfl|go_num,by omega,HA2⟩
       case measure=>simp[RowKit.intOf]<;>omega
    obtain rfl:i=n1:=by omega
    have adR:Hid (∀s∈x.sets,nameB s.name.toList=true/\gW s.value.toList=true):=by have h:=HA.out;rw[qI (yG Oy.out)]at h;exact h
    clear HA;obtain⟨m0,m1,m2,m3⟩:=aF.out wr HO.out;go_wp2_with fail;go_loopw [4,55] (fun _ vi wr=>Hid (O0 w0 wr)/\∃j:Nat,vi= .int .i64 j/\j<=n2/\Hid ((∀s∈x.needs.take j,nameB s.toList=true)/\Lk.wX ((x.needs.take j).map ByteArray.toList)=true)) (fun _ v _=>n2-(RowKit.intOf v).toNat);case atStart=>exact⟨HO.out,0,rfl,qE _,(fun s hs=>by simp at hs),rfl⟩
    case round=>
     clear m0 m1 m2 m3 HO;obtain⟨HO,j,rfl,hj,HB⟩:=hrel;by_cases cj:j<n2
     ·have ewj:=zw (j+1);obtain⟨y,hy⟩:=zG x.needs j (by rw[Oo.out];exact cj);obtain⟨b,off,he1,ky,hE1⟩:=iR (S2.out.keep bU.keep (Kp.dV (jW.out.same HO.out))) hy;subst he1;obtain⟨u,hu⟩:=ze (nameB y.toList);have HU:=zh hu;have HNy:Hid (∀W,Calls Tryz.prog 130 #[.string y] W (fun e w'=>e= .returned (.bool u)/\O0 W w')):=fun W=>Ja y ky u hu;have HY:=zh hy;have HQ:Hid (∀W,O0 wr W->W.cell? ⟨w.heap.size,3,none⟩=some (.slice (some ⟨b,off,none⟩) n2 c2)/\W.cell? ⟨b,off+j,none⟩=some (.string y)):=fun W o=>by have h:=(hE1 W o).1 0 _ rfl;rw[qF,yH]at h;exact⟨(aF.out W (HO.out.same o)).2.2.2,h⟩
      have Ed:Hid (∀hl:Lk.lastB ((x.needs.take j).map ByteArray.toList) y.toList=true,u=true->Hid ((∀s∈x.needs.take (j+1),nameB s.toList=true)/\Lk.wX ((x.needs.take (j+1)).map ByteArray.toList)=true)):=fun hl hu1=>by exact zFS
      clear hy hE1 hu ky;cases u with
      |false=>
       obtain rfl:=xw HR.out (fun h=>by have h2:=(Ci.1 h).2.2.2.2.2.1 y (qT HY.out);rw[HU.out]at h2;cases h2);go_wp2_with fail;refine aU (fun w'=>O0 wr w') zk zk (by exact zr.drew) ?_;iterate 5 refine qV ?_ (hy:=zAJ)
       refine bF (v:=.bool false) (f:=130) (args:= #[.string y]) (by rfl) ?_ ?_ ?_;·exact zE1
       ·exact zEx
       try simp only[Act.put,dW,dX,dY]
       iterate 2 refine qV ?_ (hy:=zAJ)
       iterate 16 refine qS ?_
       refine qV ?_ (hy:=zAJ);exact zEL
      |true=>
       rcases j with _|j'
       ·have HB2:=Ed.out rfl rfl;have HQz:Hid (∀W,O0 wr W->W.cell? ⟨w.heap.size,3,none⟩=some (.slice (some ⟨b,off,none⟩) n2 c2)/\W.cell? ⟨b,off,none⟩=some (.string y)):=HQ;go_wp2_with fail;refine aU (fun w'=>O0 wr w') zk zk (by exact zr.drew) ?_;iterate 5 refine qV ?_ (hy:=zBB)
        refine bF (v:=.bool true) (f:=130) (args:= #[.string y]) (by rfl) ?_ ?_ ?_;·exact zE1
        ·exact zEx
        try simp only[Act.put,dW,dX,dY]
        iterate 5 refine qV ?_ (hy:=zBB)
        iterate 12 refine qS ?_
        iterate 2 refine qV ?_ (hy:=zBB)
        exact zFK
       obtain⟨y',hy'⟩:=zG x.needs j' (by rw[Oo.out];omega);have hlast:Lk.lastB ((x.needs.take (j'+1)).map ByteArray.toList) y.toList=decide (y'.toList<y.toList):=by exact zF3
       obtain⟨b',off',he2,-,hE2⟩:=iR (S2.out.keep bU.keep (Kp.dV (jW.out.same HO.out))) hy';cases he2;have pI:Hid (∀W,O0 wr W->W.cell? ⟨b,off+j',none⟩=some (.string y')):=fun W o=>by have h:=(hE2 W o).1 0 _ rfl;rw[qF,yH]at h;exact h
       have ewk:IntKind.i64.wrap ((j':Int)+1-1)=(j':Int):=zBR;have al2:IntKind.i64.wrap (j':Int)=(j':Int):=zBR;have hk0:(0:Int)<(j':Int)+1:=zAA;have hk1:(0:Int)<=(j':Int)+1:=zAA;have hkk:j'<n2:=zAA;have ao8:(j':Int)+1<(n2:Int):=zAA;have Pj:=zh hlast;clear hlast hy' hE2;cases hlt:decide (y'.toList<y.toList)with
       |false=>
        obtain rfl:=xw HR.out (fun h=>by
         have h2:=(Ci.1 h).2.2.2.2.2.2
         have h3:x.needs=x.needs.take (j'+2)++x.needs.drop (j'+2):=(List.take_append_drop _ _).symm
         rw[h3,List.map_append]at h2
         have h4:=Lk.NQ h2
         rw[List.take_add_one,HY.out]at h4
         simp only[Option.toList_some,List.map_append,List.map_cons,List.map_nil]at h4
         rw[Lk.zF,Pj.out,hlt]at h4
         simp at h4)
        have hbl:Op.bytesLess y'.toList y.toList=false:=zCW;clear hlt Ed;go_wp2_with fail;refine aU (fun w'=>O0 wr w') zk zk (by exact zr.drew) ?_;iterate 5 refine qV ?_ (hy:=zAo)
        refine bF (v:=.bool true) (f:=130) (args:= #[.string y]) (by rfl) ?_ ?_ ?_;·exact zE1
        ·exact zEx
        try simp only[Act.put,dW,dX,dY]
        iterate 19 refine qV ?_ (hy:=zAo)
        exact zEL
       |true=>
        have HB2:=Ed.out (by rw[Pj.out,hlt]) rfl;have hbl:Op.bytesLess y'.toList y.toList=true:=zCW;clear hlt Ed;go_wp2_with fail;refine aU (fun w'=>O0 wr w') zk zk (by exact zr.drew) ?_;iterate 5 refine qV ?_ (hy:=zAo)
        refine bF (v:=.bool true) (f:=130) (args:= #[.string y]) (by rfl) ?_ ?_ ?_;·exact zE1
        ·exact zEx
        try simp only[Act.put,dW,dX,dY]
        iterate 19 refine qV ?_ (hy:=zAo)
        exact zFF
     obtain rfl:j=n2:=by omega
     obtain rfl:r=true:=by have h:=HB.out;rw[qI (yG Oo.out)]at h;rw[<-HR.out];exact Ci.2 ⟨HZ1.out,HZ2.out,by rw[Oy.out];omega,by rw[Oo.out];omega,adR.out,h.1,h.2⟩
     exact zFl
end
end Go.Proofs.YtdmmebjjojimiaaGreatDoor
namespace Go.Proofs.YtdmmebjjojimiaaGreatDoor
open Go.RowKit
open Lk (kY dL)
abbrev nmB(n:aC):List UInt8:=n.name.toList
theorem Ie{g:List aC}:dL (fM g)=true↔(∀n∈g,kY n.toB=true)/\Lk.wX (g.map nmB)=true/\g.length<=24:=by
 unfold dL;have e:(fM g).map Lk.NB.name=g.map nmB:=by simp[fM,aC.toB,nmB]
 rw[e];simp[fM,and_assoc]
theorem Tf{g:List aC}{r:Bool}(hr:dL (fM g)=r)(h:¬dL (fM g)=true):r=false:=by
 cases r with
 |false=>rfl
 |true=>exact absurd hr h
section
variable {w w':World} {B:Nat}
attribute [local irreducible] wpQuiet in
theorem yB{v:Value}{g:List aC}(hg:aS 4 dH B w v g)(r:Bool)(hr:dL (fM g)=r):Calls Tryz.prog 15 #[.agg #[v]] w (fun e w'=>e= .returned (.bool r)/\O0 w w'):=by
 have HG:=zh hg;have HR:=zh hr;obtain⟨ao,cap,rfl,k1,k2⟩:=hg.shape;obtain⟨n,hn⟩:=ze g.length;have HN:=zh hn;rw[hn]at HG k1⊢;obtain⟨w0,hw0⟩:=ze (w.alloc (.cells #[.slice ao n cap] 31));have hb0:w0.heap[w.heap.size]? =some (.cells #[.slice ao n cap] 31 (0,0)):=by rw[<-hw0];exact qL _ _
 have jW:Hid (O0 w w0):=zBN;have aF:Hid (∀W,O0 w0 W->W.cell? ⟨w.heap.size,0,none⟩=some (.slice ao n cap)):=fun W o=>by rw[aj (aA hb0 o (fun f=>f))];rfl
 have b0:=aF.out w0 zr;clear hg hr hn hb0;go_enter Tryz.func15,Tryz.ntmps15;go_wp2_with fail;go_loopw [3,7] (fun _ vi wr=>Hid (O0 w0 wr)/\∃j:Nat,vi= .int .i64 j/\j<=n/\Hid ((∀s∈g.take j,kY s.toB=true)/\Lk.wX ((g.take j).map nmB)=true)) (fun _ v _=>n-(RowKit.intOf v).toNat);case atStart=>exact⟨Only.refl _ _,0,rfl,qE _,(fun s hs=>by simp at hs),rfl⟩
 case round=>
  obtain⟨HO,j,rfl,hj,HB⟩:=hrel;by_cases cj:j<n
  ·have ewj:=zw (j+1);obtain⟨y,hy⟩:=zG g j (by rw[HN.out];exact cj);obtain⟨b,off,le,ca,p1,d1,p2,d2,he1,ky1,ky2,-,-,-,-,-,hE1⟩:=Dt (HG.out.keep dH.keep (Kp.dV (jW.out.same HO.out))) hy;cases he1;obtain⟨u,hu⟩:=ze (kY y.toB);have HU:=zh hu;obtain⟨m1,hm1⟩:=ze y.sets.length;obtain⟨m2,hm2⟩:=ze y.needs.length;have BJ:Hid (∀W,O0 wr W->Calls Tryz.prog 57 #[.agg #[.string y.name,.string y.version,.slice p1 m1 d1,.slice p2 m2 d2]] W (fun e w'=>e= .returned (.bool u)/\O0 W w')):=fun W o=>by have h:=afg (w:=W) ky1 ky2 (hE1 W o).2.1 (hE1 W o).2.2 u hu;rw[hm1,hm2]at h;exact h
   have HY:=zh hy;have HQ:Hid (∀W,O0 wr W->W.cell? ⟨w.heap.size,0,none⟩=some (.slice (some ⟨b,off,none⟩) n cap)/\W.cell? ⟨b,off+j*4,none⟩=some (.string y.name)/\W.cell? ⟨b,off+j*4+1,none⟩=some (.string y.version)/\W.cell? ⟨b,off+j*4+2,none⟩=some (.slice p1 m1 d1)/\W.cell? ⟨b,off+j*4+3,none⟩=some (.slice p2 m2 d2)):=fun W o=>by have h:=(hE1 W o).1;rw[hm1,hm2]at h;exact⟨aF.out W (HO.out.same o),h 0 _ rfl,h 1 _ rfl,h 2 _ rfl,h 3 _ rfl⟩
   have Ed:Hid (∀hl:Lk.lastB ((g.take j).map nmB) (nmB y)=true,u=true->Hid ((∀s∈g.take (j+1),kY s.toB=true)/\Lk.wX ((g.take (j+1)).map nmB)=true)):=fun hl hu1=>by exact zFS
   clear hy hE1 hu ky1 ky2 hm1 hm2;cases u with
   |false=>
    obtain rfl:=Tf HR.out (fun h=>by have h2:=(Ie.1 h).1 y (qT HY.out);rw[HU.out]at h2;cases h2);go_wp2_with fail;refine aU (fun w'=>O0 wr w') zk zk (by exact zr.drew) ?_;iterate 5 refine qV ?_ (hy:=zBH)
    refine bF (v:=.bool false) (f:=57) (args:= #[.agg #[.string y.name,.string y.version,.slice p1 m1 d1,.slice p2 m2 d2]]) (by rfl) ?_ ?_ ?_;·exact zE1
    ·exact zEw
    try simp only[Act.put,dW,dX,dY]
    iterate 2 refine qV ?_ (hy:=zBH)
    iterate 18 refine qS ?_
    refine qV ?_ (hy:=zBH);exact zEL
   |true=>
    rcases j with _|j'
    ·have HB2:=Ed.out rfl rfl;have HQz:Hid (∀W,O0 wr W->W.cell? ⟨w.heap.size,0,none⟩=some (.slice (some ⟨b,off,none⟩) n cap)/\W.cell? ⟨b,off,none⟩=some (.string y.name)/\W.cell? ⟨b,off+1,none⟩=some (.string y.version)/\W.cell? ⟨b,off+2,none⟩=some (.slice p1 m1 d1)/\W.cell? ⟨b,off+3,none⟩=some (.slice p2 m2 d2)):=fun W o=>by have h:=HQ.out W o;simp only[Nat.zero_mul,qF]at h;exact h
     go_wp2_with fail;refine aU (fun w'=>O0 wr w') zk zk (by exact zr.drew) ?_;iterate 5 refine qV ?_ (hy:=zBF)
     refine bF (v:=.bool true) (f:=57) (args:= #[.agg #[.string y.name,.string y.version,.slice p1 m1 d1,.slice p2 m2 d2]]) (by rfl) ?_ ?_ ?_;·exact zE1
     ·exact zEw
     try simp only[Act.put,dW,dX,dY]
     iterate 5 refine qV ?_ (hy:=zBF)
     iterate 14 refine qS ?_
     iterate 2 refine qV ?_ (hy:=zBF)
     exact zFK
    obtain⟨y',hy'⟩:=zG g j' zA0;have hlast:Lk.lastB ((g.take (j'+1)).map nmB) (nmB y)=decide (nmB y'<nmB y):=by exact zF3
    obtain⟨b',off',le',ca',p1',d1',p2',d2',he2,-,-,-,-,-,-,-,hE2⟩:=Dt (HG.out.keep dH.keep (Kp.dV (jW.out.same HO.out))) hy';cases he2;have pI:Hid (∀W,O0 wr W->W.cell? ⟨b,off+j'*4,none⟩=some (.string y'.name)):=fun W o=>(hE2 W o).1 0 _ rfl;have ewk:IntKind.i64.wrap ((j':Int)+1-1)=(j':Int):=zBR;have al2:IntKind.i64.wrap (j':Int)=(j':Int):=zBR;have hk0:(0:Int)<(j':Int)+1:=zAA;have hk1:(0:Int)<=(j':Int)+1:=zAA;have hkk:j'<n:=zAA;have ao8:(j':Int)+1<(n:Int):=zAA;have Pj:=zh hlast;clear hlast hy' hE2;cases hlt:decide (nmB y'<nmB y)with
    |false=>
     obtain rfl:=Tf HR.out (fun h=>by
      have h2:=(Ie.1 h).2.1
      have h3:g=g.take (j'+2)++g.drop (j'+2):=(List.take_append_drop _ _).symm
      rw[h3,List.map_append]at h2
      have h4:=Lk.NQ h2
      rw[List.take_add_one,HY.out]at h4
      simp only[Option.toList_some,List.map_append,List.map_cons,List.map_nil]at h4
      rw[Lk.zF,Pj.out,hlt]at h4
      simp at h4)
     have hbl:Op.bytesLess y'.name.toList y.name.toList=false:=by rw[iD];exact hlt
     clear hlt Ed;go_wp2_with fail;refine aU (fun w'=>O0 wr w') zk zk (by exact zr.drew) ?_;iterate 5 refine qV ?_ (hy:=zAr)
     refine bF (v:=.bool true) (f:=57) (args:= #[.agg #[.string y.name,.string y.version,.slice p1 m1 d1,.slice p2 m2 d2]]) (by rfl) ?_ ?_ ?_;·exact zE1
     ·exact zEw
     try simp only[Act.put,dW,dX,dY]
     iterate 21 refine qV ?_ (hy:=zAr)
     exact zEL
    |true=>
     have HB2:=Ed.out (by rw[Pj.out,hlt]) rfl;have hbl:Op.bytesLess y'.name.toList y.name.toList=true:=by rw[iD];exact hlt
     clear hlt Ed;go_wp2_with fail;refine aU (fun w'=>O0 wr w') zk zk (by exact zr.drew) ?_;iterate 5 refine qV ?_ (hy:=zAr)
     refine bF (v:=.bool true) (f:=57) (args:= #[.agg #[.string y.name,.string y.version,.slice p1 m1 d1,.slice p2 m2 d2]]) (by rfl) ?_ ?_ ?_;·exact zE1
     ·exact zEw
     try simp only[Act.put,dW,dX,dY]
     iterate 21 refine qV ?_ (hy:=zAr)
     exact zFF
  obtain rfl:j=n:=by omega
  have hra:r=decide (j<=24):=by have h:=HB.out;rw[qI (yG HN.out)]at h;rw[Bool.eq_iff_iff,<-HR.out,Ie,yP,HN.out];exact⟨fun h=>h.2.2,fun h2=>⟨h.1,h.2,h2⟩⟩
  have b1:=aF.out wr HO.out;by_cases c24:j<=24;·rw[qX c24]at hra;subst hra;have t1:decide ((j:Int)<=24)=true:=qX zAA;exact zFl
  rw[qP c24]at hra;subst hra;have t1:decide ((j:Int)<=24)=false:=qP zAA;exact zFl
end
end Go.Proofs.YtdmmebjjojimiaaGreatDoor
namespace Go.Proofs.YtdmmebjjojimiaaGreatDoor
open Go.RowKit
open Lk (cutAt)
theorem ahi{p l:List UInt8}:p.isPrefixOf l=(decide (p.length<=l.length)&&(l.take p.length==p)):=by rw[Bool.eq_iff_iff,List.isPrefixOf_iff_prefix,Bool.and_eq_true,yP,beq_iff_eq];exact⟨fun h=>⟨h.length_le,(List.prefix_iff_eq_take.1 h).symm⟩,fun h=>List.prefix_iff_eq_take.2 h.2.symm⟩
def Pm(s:Str)(c:UInt8)(r:Int):Prop:=match cutAt c s.toList with
 |none=>r= -1
 |some p=> ∃k:Nat,r=k/\k<s.size/\s.toList.take k=p.1/\s.toList.drop (k+1)=p.2
theorem Pn{c:UInt8}:∀{l:List UInt8},(∀b∈l,b≠c)->cutAt c l=none
 | [],_=>rfl
 |x::l,h=>by
  unfold cutAt
  rw[if_neg (h x qQ),Pn fun b hb=>h b (yE _ hb)];rfl
theorem Pm.hit{s:Str}{c:UInt8}{k:Nat}(hk:k<s.size)(hb:s[k]=c)(hn:∀b∈s.toList.take k,b≠c):Pm s c k:=by
 have e:s.toList=s.toList.take k++c::s.toList.drop (k+1):=by
  conv=>lhs;rw[<-List.take_append_drop k s.toList]
  have hl:k<s.toList.length:=by rw[bC];exact hk
  rw[List.drop_eq_getElem_cons hl,NH hl hk,hb]
 have h:=Lk.NK (r:=s.toList.drop (k+1)) hn;rw[<-e]at h;unfold Pm;rw[h];exact⟨k,rfl,hk,rfl,rfl⟩
theorem Pm.miss{s:Str}{c:UInt8}(hn:∀b∈s.toList,b≠c):Pm s c (-1):=by unfold Pm;rw[Pn hn]
section
variable {w w':World} {B:Nat}
theorem Ti(s p:Str)(hs:okS s)(hp:p.size<=1000)(r:Bool)(hr:p.toList.isPrefixOf s.toList=r):Calls Tryz.prog 133 #[.string s,.string p] w (fun e w'=>e= .returned (.bool r)/\w'=w):=by
 have hs2:s.size<=9223372036854775807:=zBM;rw[ahi,bC,bC]at hr;have HR:=zh hr;clear hs hr;by_cases c:p.size<=s.size
 ·obtain⟨q,hq⟩:∃q,(s.toList.take p.size==p.toList)=q:=⟨_,rfl⟩;have hr2:q=r:=by rw[<-HR.out,qX c,yR,hq]
  obtain⟨u,hu⟩:=ze (s.extract 0 p.size);have hul:(u.toList==p.toList)=r:=by rw[<-hu,ext_toList,<-hr2,<-hq];simp
  clear HR hq hr2 q;go_enter Tryz.func133,Tryz.ntmps133;go_wp2_with fail;go_ret;exact⟨by simp,rfl⟩
 obtain rfl:r=false:=by rw[<-HR.out,qP c,yQ]
 have t1:decide ((p.size:Int)<=(s.size:Int))=false:=qP zAA;clear HR;go_enter Tryz.func133,Tryz.ntmps133;go_wp2_with fail;go_ret;exact⟨rfl,rfl⟩
theorem ajL(s:Str)(hs:okS s)(c:UInt8):Calls Tryz.prog 134 #[.string s,.int .u8 (c.toNat:Int)] w (fun e w'=> ∃r,e= .returned (.int .i64 r)/\Pm s c r/\O0 w w'):=by
 have hs2:s.size<=9223372036854775807:=zBM;clear hs;go_enter Tryz.func134,Tryz.ntmps134;go_wp2_with fail;go_loopw [5] (fun vi wr=>Hid (O0 w wr)/\∃i:Nat,vi= .int .i64 i/\i<=s.size/\Hid (∀b∈s.toList.take i,b≠c)) (fun v _=>s.size-(RowKit.intOf v).toNat);case atStart=>exact⟨Only.refl _ _,0,rfl,qE _,fun b hb=>by simp at hb⟩
 case round=>
  obtain⟨HO,i,rfl,hi,HA⟩:=hrel;by_cases ci:i<s.size
  ·have iE:=zw (i+1);obtain⟨b,hb⟩:∃b:UInt8,s[i]=b:=⟨_,rfl⟩;have HB:=zh hb;by_cases cb:b=c
   ·have HAt:=zh (Pm.hit ci (by rw[HB.out,cb]) HA.out);have q1:((b.toNat:Int)==(c.toNat:Int))=true:=by rw[cb];exact beq_self_eq_true _
    clear cb;go_wp2_with fail;go_ret;exact⟨_,rfl,HAt.out,HO.out⟩
   have q1:((b.toNat:Int)==(c.toNat:Int))=false:=by rw[yC];intro h;exact cb (UInt8.toNat_inj.1 zAA)
   have HA2:Hid (∀b∈s.toList.take (i+1),b≠c):=fun x hx=>by
    rw[List.take_add_one,y7 ci,HB.out]at hx;rcases qW.1 hx with h|h;·exact HA.out x h
    simp only[Option.toList_some,yJ]at h;rw[h];exact cb
   clear cb;go_wp2_with fail;go_roundw;case rel=>exact⟨HO,i+1,by first|rfl|go_num,by omega,HA2⟩
   case measure=>simp[RowKit.intOf]<;>omega
  obtain rfl:i=s.size:=by omega
  have HAt:Hid (Pm s c (-1)):=Pm.miss zCB;go_wp2_with fail;go_ret;exact⟨_,rfl,HAt.out,HO.out⟩
end
end Go.Proofs.YtdmmebjjojimiaaGreatDoor
namespace Go.Proofs.YtdmmebjjojimiaaGreatDoor
open Go.RowKit
theorem ahj{P:Program}{w:World}{ops:Array Oper}{rest:List Oper}{o:Oper}{a:Act}{Q:Exit->Act->World->Prop}{tt e:TypeId}{size bytes:Nat}(T:Gu P tt e size bytes)
  (hgd:o.guard=none) (s x:Operand)
  (ho:o.op= .call {callee:=.builtin .append,args:= #[s,x],argTypes:= #[tt,tt]})
  {v:Value} {n:Nat} {xs:List Value} {ao:Option Addr} {m c:Nat} {news:List Value} (hs:a.eval s=v) (hown:w.ownsRow 0 e size v n xs) (hx:a.eval x= .slice ao m c) (hl:news.length=m*size) (hnone:ao=none->m=0/\c=0)
  (hnews:∀ad,ao=some ad->∀j u,news[j]? =some u->w.cell? (ad.add j)=some u) (h1:∀u∈news,u.oneCell'=true)
  (h63:n+m<=1099511627776) (hbytes:bytes<=128)
  (h:∀ao' cap w',w'.ownsRow 0 e size (.slice ao' (n+m) cap) (n+m) (xs++news)->Only (fun k=>v.ownBlock=some k) w w'->TL w v (.slice ao' (n+m) cap)->wpList P ops Q rest (a.put o.dst (.slice ao' (n+m) cap)) w'):wpList P ops Q (o::rest) a w:=by
 refine wpList_plain hgd fun K hK=>?_
 cases ao with
 |none=>
  obtain⟨rfl,rfl⟩:=hnone rfl
  have hn:news=[]:=yF (by simpa using hl)
  subst hn
  obtain⟨i,z,h2,h3,h4,h5,h6⟩:=T.info
  have hr:=run_append_owned_none (P:=P) w 0 tt o.type e i size T.und h2 v n xs hown
  obtain⟨ao',cap',rfl,_,_⟩:=bg hown
  unfold Oper.wp execOp
  simp only[ho,resolve,invoke,builtin,Sem.run_bind,Sem.run_pure,Result.andThen_ok,List.map_toArray,List.map_cons,List.map_nil,hs,hx,hr]
  exact hK _ _ (h ao' cap' w (by simpa using hown) zr (fun k hk=>.inl hk))
 |some ad=>
  have hmul:(n+m)*bytes<=1099511627776*128:=Nat.mul_le_mul h63 hbytes
  obtain⟨v',w',hr,r1,r2,r3,-⟩:=uK (P:=P) (ty:=o.type) w T v n xs hown ad m c news hl (hnews ad rfl) h1 zCn zAA
  unfold Oper.wp execOp
  simp only[ho,resolve,invoke,builtin,Sem.run_bind,Sem.run_pure,Result.andThen_ok,List.map_toArray,List.map_cons,List.map_nil,hs,hx,hr]
  obtain⟨ao',cap',rfl,_,_⟩:=bg r1
  exact hK _ _ (h ao' cap' w' r1 ((Only.refl _ w).grown r2 fun k hk=>.inl hk) r3)
def Tj(xs:List Value):Nat->List Value->List Value
 |_,[]=>xs
 |o,v::r=>Tj (xs.set o v) (o+1) r
theorem acn(vs:List Value):∀(a b c:List Value),b.length=vs.length->Tj (a++b++c) a.length vs=a++vs++c:=by
 induction vs with
 |nil=>intro a b c h;have:b=[]:=yF h;subst this;simp[Tj]
 |cons v r ih=>
  intro a b c h;match b,h with
  |x::b,h=>
   rw[Tj];have e:(a++x::b++c).set a.length v=(a++[v])++b++c:=by simp[]
   rw[e];have:=ih (a++[v]) b c zBy;rw[qK,List.length_singleton]at this;rw[this];simp
theorem QS{e:TypeId}{size g n cap:Nat}(vs:List Value):∀{w:World} {xs:List Value} (o:Nat),w.ownsRow 0 e size (.slice (some ⟨g,0,none⟩) n cap) n xs->(w.setCells g o vs).ownsRow 0 e size (.slice (some ⟨g,0,none⟩) n cap) n (Tj xs o vs):=by
 induction vs with
 |nil=>intro w xs o h;exact h
 |cons v r ih=>intro w xs o h;exact ih (o+1) (h.stored o v).1
theorem Po(g:Nat)(vs:List Value):∀(w:World) (o:Nat),Only (fun k=>k=g) w (w.setCells g o vs):=by
 induction vs with
 |nil=>intro w o;exact Only.refl _ _
 |cons v r ih=>intro w o;exact((Only.refl (fun k=>k=g) w).setCell (p:=⟨g,o,none⟩) (.inl rfl) v).same (ih _ _)
section
variable {w w':World} {B:Nat}
theorem dH.one{cs:List Value}{x:aC}(h:dH B w cs x):∀u∈cs,u.oneCell'=true:=by obtain⟨v1,v2,rfl,-,-,r1,r2⟩:=h;obtain⟨a1,c1,rfl,-,-⟩:=r1.shape;obtain⟨a2,c2,rfl,-,-⟩:=r2.shape;intro u hu;simp only[qY,List.not_mem_nil,or_false]at hu;rcases hu with rfl|rfl|rfl|rfl<;>rfl
theorem aco{L:List LN}(h:∀n∈L,dH B w n.cells n.x):∀u∈gJ L,u.oneCell'=true:=fun u hu=>by
 obtain⟨n,hn,hu⟩:=List.mem_flatMap.1 hu
 exact(h n hn).one u hu
structure Pq (B:Nat) (w:World) (v:Value) (L:List LN):Prop where
 own:w.ownsRow 0 83 4 v L.length (gJ L)
 new:∀k,v.ownBlock=some k->B<=k
theorem Pq.only{v:Value}{L:List LN}{F:Nat->Prop}(h:Pq B w v L)(ho:Only F w w')(h0:∀k,v.ownBlock=some k->¬F k):Pq B w' v L:=⟨aW h.own ho h0,h.new⟩
theorem Pq.dK{v:Value}{L:List LN}(h:Pq B w v L)(ho:O0 w w'):Pq B w' v L:=h.only ho (fun _ _ f=>f)
structure yS (w:World) (v:Value) (L:List LN):Prop where
 own:w.ownsRow 0 83 4 v L.length (gJ L)
 each:∀n∈L,BO 0 w n
theorem BO.grow{n:LN}(h:BO 0 w n){R:Nat}(hR:w.heap.size<=R)(ho:Only (fun k=>R<=k) w w'):BO 0 w' n:=
 h.only ho (fun k hk e=>by have:=pq h.sets hk;omega) (fun k hk e=>by have:=pq h.needs hk;omega)
theorem BO.blk{n:LN}(h:BO 0 w n){P:Nat}{c:Array Value}{t:TypeId}{f:Nat×Nat}(hb:w.heap[P]? =some (.cells c t f))(h2:117≠t)(h3:9≠t)(ho:Only (fun k=>k=P) w w'):BO 0 w' n:=h.only ho (fun k hk e=>jw h2 h.sets hb (e▸hk)) (fun k hk e=>jw h3 h.needs hb (e▸hk))
theorem yS.blk{v:Value}{L:List LN}(h:yS w v L){P:Nat}{c:Array Value}{t:TypeId}{f:Nat×Nat}(hb:w.heap[P]? =some (.cells c t f))(h1:83≠t)(h2:117≠t)(h3:9≠t)(ho:Only (fun k=>k=P) w w'):yS w' v L:=⟨aW h.own ho (fun k hk e=>jw h1 h.own hb (e▸hk)),fun n hn=>(h.each n hn).blk hb h2 h3 ho⟩
theorem yS.dK{v:Value}{L:List LN}(h:yS w v L)(ho:O0 w w'):yS w' v L:=⟨aW h.own ho (fun _ _ f=>f),fun n hn=>(h.each n hn).only ho (fun _ _ f=>f) (fun _ _ f=>f)⟩
theorem yS.nil{cap:Nat}(hc:cap=0):yS w (.slice none 0 cap) []:=by subst hc;exact⟨World.ownsRow_nil _ _ _ _,fun _ h=>by cases h⟩
theorem yS.read{v:Value}{L:List LN}(h:yS w v L):aS 4 dH w.heap.size w v (L.map LN.x):=by exact zFL
end
end Go.Proofs.YtdmmebjjojimiaaGreatDoor
