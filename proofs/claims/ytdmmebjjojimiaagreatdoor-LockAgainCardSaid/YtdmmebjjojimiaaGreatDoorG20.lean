/- LkWC LkWD, in one text.; The document's nodes, exact: Has, Meets, Legal of settings; Holds. Printed by gen_gr2.py. -/
import Derived.Test.YtdmmebjjojimiaaGreatDoorG19
set_option maxRecDepth 100000
set_option maxHeartbeats 8000000
set_option linter.all false
namespace Go.Proofs
theorem zBQ{p:Prop}(h:p:=by have h:=HT.out;rw[qI (yG Oy.out),qI (yG Oo.out)]at h;exact h):p:=h
theorem zBx{p:Prop}(h:p:=by rw[h]at hx;exact Option.some.inj (hx.symm.trans hy)):p:=h
theorem zB5{p:Prop}(h:p:=by rw[<-Oy.out,<-Oo.out,h]):p:=h
theorem zB7{p:Prop}(h:p:=by rw[Oy.out];exact ci):p:=h
theorem zCP{p:Prop}(h:p:=by rw[Oo.out];exact ci):p:=h
theorem zDZ{p:Prop}(h:p:=by
 go_wp2_with fail
 go_loopw [13] (fun vi wr=>Hid (O0 w wr)/\∃i:Nat,vi= .int .i64 i/\i<=n1/\Hid (l1.take i=l2.take i)) (fun v _=>n1-(RowKit.intOf v).toNat)
 case atStart=>exact⟨Only.refl _ _,0,rfl,qE _,rfl⟩
 case round=>
  obtain⟨HO,i,rfl,hi,HT⟩:=hrel
  by_cases ci:i<n1
  ·have iE:=zw (i+1)
   obtain⟨x,hx⟩:=zG l1 i zB7
   obtain⟨y,hy⟩:=zG l2 i zCP
   obtain⟨b1,o1,he1,-,hE1⟩:=iR (H1.out.keep bU.keep (Kp.dV HO.out)) hx
   obtain⟨b2,o2,he2,-,hE2⟩:=iR (H2.out.keep bU.keep (Kp.dV HO.out)) hy
   subst he1
   subst he2
   have p0:=(hE1 wr zr).1 0 _ rfl
   have p1:=(hE2 wr zr).1 0 _ rfl
   rw[qF,yH]at p0 p1
   by_cases e:x=y
   ·have HT2:=zh (DC hx hy HT.out e)
    have hd:(x.toList==y.toList)=true:=by rw[e];exact beq_self_eq_true _
    clear hx hy hE1 hE2 e
    go_wp2_with fail
    go_quiet (fail)
    go_wp2_with fail
    go_roundw
    case rel=>exact⟨show Hid _ from HO.out.drewN _,i+1,by first|rfl|go_num,by omega,HT2⟩
    case measure=>simp[RowKit.intOf]<;>omega
   ·have hrf:r=false:=uI.out fun h=>e zBx
    subst hrf
    have hd:(x.toList==y.toList)=false:=by rw[yC];exact fun h=>e (toList_inj h)
    clear hx hy hE1 hE2 e
    go_wp2_with fail
    go_quiet (fail)
    go_wp2_with fail
    go_ret
    exact⟨rfl,HO.out.drewN _⟩
  ·obtain rfl:i=n1:=by omega
   have hrt:r=true:=HR.out.2 zBQ
   subst hrt
   go_wp2_with fail
   go_ret
   exact⟨rfl,HO.out⟩):p:=h
theorem zFR{p:Prop}(h:p:=by
 cases hh:r with
 |false=>rfl
 |true=>exact absurd (HR.out.1 hh) h):p:=h
theorem zFl{p:Prop}(h:p:=by
 go_wp2_with fail
 go_ret
 exact⟨rfl,jW.out.same HO.out⟩):p:=h
end Go.Proofs
namespace Go.Proofs.YtdmmebjjojimiaaGreatDoor
open Go.RowKit
theorem abJ:(Tryz.prog.fieldsOf 117).toList=[{name:= "Name",type:=9,offset:=0,embedded:=false,tag:= "",pkgPath:= "",byteOffset:=0},{name:= "Value",type:=9,offset:=1,embedded:=false,tag:= "",pkgPath:= "",byteOffset:=16}]:=by kernel_rfl
theorem aaB(w:World)(a b c d:Str):(binOp .neq 117 (.agg #[.string a,.string b]) (.agg #[.string c,.string d])).run Tryz.prog w= .ok (.bool (!(a.toList==c.toList&&b.toList==d.toList))) w:=by
 have hu:Tryz.prog.underlying 117=some (.struct (Tryz.prog.fieldsOf 117)):=by kernel_rfl
 have hp:Tryz.prog.stoodInHeld 117=false:=by kernel_rfl
 have hs:=Tryz.underlying9;have ha:=Tryz.isAgg9;rw[run_neq_struct,run_equalIn_agg w 9999 _ _ _ hu hp,abJ];simp[Op.eqFields,go_sem,part,ha];by_cases h1:a.toList=c.toList<;>by_cases h2:b.toList=d.toList<;>simp[h1,h2]
theorem DC{α:Type}{l m:List α}{i:Nat}{x y:α}(hl:l[i]? =some x)(hm:m[i]? =some y)(h:l.take i=m.take i)(hxy:x=y):l.take (i+1)=m.take (i+1):=by rw[List.take_add_one,List.take_add_one,hl,hm,h,hxy]
section
variable {w w':World} {B B2:Nat}
theorem Xd{v1 v2:Value}{l1 l2:List Str}(h1:aS 1 bU B w v1 l1)(h2:aS 1 bU B2 w v2 l2)(r:Bool)(hr:r=true↔l1=l2):Calls Tryz.prog 144 #[v1,v2] w (fun e w'=>e= .returned (.bool r)/\O0 w w'):=by
 have H1:=zh h1;have H2:=zh h2;obtain⟨a1,c1,rfl,k1,k2⟩:=h1.shape;obtain⟨a2,c2,rfl,k3,k4⟩:=h2.shape;obtain⟨n1,hn1⟩:=ze l1.length;obtain⟨n2,hn2⟩:=ze l2.length;have Oy:=zh hn1;have Oo:=zh hn2;have HR:=zh hr;rw[hn1]at k1 H1⊢;rw[hn2]at k3 H2⊢;have hno:l1≠l2->r=false:=fun h=>by exact zFR
 have uI:=zh hno;clear h1 h2 hn1 hn2 hr hno;by_cases cn:n1=n2;·subst cn;have hne:((n1:Int)==(n1:Int))=true:=zAP;go_enter Tryz.func144,Tryz.ntmps144;exact zDZ
 have hrf:r=false:=uI.out fun h=>cn zB5;subst hrf;have hne:((n1:Int)==(n2:Int))=false:=zBd;go_enter Tryz.func144,Tryz.ntmps144;exact zDo
theorem aeo{v1 v2:Value}{l1 l2:List Str}(h1:aS 1 bU B w v1 l1)(h2:aS 1 bU B2 w v2 l2)(r:Bool)(hr:r=true↔l1=l2):Calls Tryz.prog 203 #[v1,v2] w (fun e w'=>e= .returned (.bool r)/\O0 w w'):=by
 have H1:=zh h1;have H2:=zh h2;obtain⟨a1,c1,rfl,k1,k2⟩:=h1.shape;obtain⟨a2,c2,rfl,k3,k4⟩:=h2.shape;obtain⟨n1,hn1⟩:=ze l1.length;obtain⟨n2,hn2⟩:=ze l2.length;have Oy:=zh hn1;have Oo:=zh hn2;have HR:=zh hr;rw[hn1]at k1 H1⊢;rw[hn2]at k3 H2⊢;have hno:l1≠l2->r=false:=fun h=>by exact zFR
 have uI:=zh hno;clear h1 h2 hn1 hn2 hr hno;by_cases cn:n1=n2;·subst cn;have hne:((n1:Int)==(n1:Int))=true:=zAP;go_enter Tryz.func203,Tryz.ntmps203;exact zDZ
 have hrf:r=false:=uI.out fun h=>cn zB5;subst hrf;have hne:((n1:Int)==(n2:Int))=false:=zBd;go_enter Tryz.func203,Tryz.ntmps203;exact zDo
theorem aep{v1 v2:Value}{l1 l2:List dM}(h1:aS 2 dO B w v1 l1)(h2:aS 2 dO B2 w v2 l2)(r:Bool)(hr:r=true↔l1=l2):Calls Tryz.prog 147 #[v1,v2] w (fun e w'=>e= .returned (.bool r)/\O0 w w'):=by
 have H1:=zh h1;have H2:=zh h2;obtain⟨a1,c1,rfl,k1,k2⟩:=h1.shape;obtain⟨a2,c2,rfl,k3,k4⟩:=h2.shape;obtain⟨n1,hn1⟩:=ze l1.length;obtain⟨n2,hn2⟩:=ze l2.length;have Oy:=zh hn1;have Oo:=zh hn2;have HR:=zh hr;rw[hn1]at k1 H1⊢;rw[hn2]at k3 H2⊢;have hno:l1≠l2->r=false:=fun h=>by exact zFR
 have uI:=zh hno;clear h1 h2 hn1 hn2 hr hno;by_cases cn:n1=n2
 ·subst cn;have hne:((n1:Int)==(n1:Int))=true:=zAP;go_enter Tryz.func147,Tryz.ntmps147;go_wp2_with fail;go_loopw [13] (fun vi wr=>Hid (O0 w wr)/\∃i:Nat,vi= .int .i64 i/\i<=n1/\Hid (l1.take i=l2.take i)) (fun v _=>n1-(RowKit.intOf v).toNat);case atStart=>exact⟨Only.refl _ _,0,rfl,qE _,rfl⟩
  case round=>
   obtain⟨HO,i,rfl,hi,HT⟩:=hrel;by_cases ci:i<n1
   ·have iE:=zw (i+1);obtain⟨x,hx⟩:=zG l1 i zB7;obtain⟨y,hy⟩:=zG l2 i zCP;obtain⟨b1,o1,he1,-,-,hE1⟩:=uO (H1.out.keep dO.keep (Kp.dV HO.out)) hx;obtain⟨b2,o2,he2,-,-,hE2⟩:=uO (H2.out.keep dO.keep (Kp.dV HO.out)) hy;subst he1;subst he2;have p0:=(hE1 wr zr).1 0 _ rfl;have p1:=(hE1 wr zr).1 1 _ rfl;have p2:=(hE2 wr zr).1 0 _ rfl;have p3:=(hE2 wr zr).1 1 _ rfl;rw[qF]at p0 p2;by_cases e:x=y
    ·have HT2:=zh (DC hx hy HT.out e);have hd:(x.name.toList==y.name.toList&&x.value.toList==y.value.toList)=true:=by rw[e];simp
     have hq:∀W,(binOp .neq 117 (.agg #[.string x.name,.string x.value]) (.agg #[.string y.name,.string y.value])).run Tryz.prog W= .ok (.bool false) W:=fun W=>by rw[aaB,hd];rfl
     clear hx hy hE1 hE2 e;go_wp2_with fail;go_quiet (fail);go_wp2_with fail;go_roundw;case rel=>exact⟨show Hid _ from HO.out.drewN _,i+1,by first|rfl|go_num,by omega,HT2⟩
     case measure=>simp[RowKit.intOf]<;>omega
    have hrf:r=false:=uI.out fun h=>e zBx;subst hrf;have hd:(x.name.toList==y.name.toList&&x.value.toList==y.value.toList)=false:=by
     rw[Bool.and_eq_false_iff];by_cases h:x.name=y.name;·exact .inr (by rw[yC];exact fun h2=>e (by obtain⟨a,b⟩:=x;obtain⟨c,d⟩:=y;simp only at h h2;rw[h,toList_inj h2]))
     exact .inl (by rw[yC];exact fun h2=>h (toList_inj h2))
    have hq:∀W,(binOp .neq 117 (.agg #[.string x.name,.string x.value]) (.agg #[.string y.name,.string y.value])).run Tryz.prog W= .ok (.bool true) W:=fun W=>by rw[aaB,hd];rfl
    clear hx hy hE1 hE2 e;go_wp2_with fail;go_quiet (fail);go_wp2_with fail;go_ret;exact⟨rfl,HO.out.drewN _⟩
   obtain rfl:i=n1:=by omega
   have hrt:r=true:=HR.out.2 zBQ;subst hrt;exact zDy
 have hrf:r=false:=uI.out fun h=>cn zB5;subst hrf;have hne:((n1:Int)==(n2:Int))=false:=zBd;go_enter Tryz.func147,Tryz.ntmps147;exact zDo
end
theorem aC.aoj{x y:aC}(h1:x.name=y.name)(h2:x.version=y.version)(h3:x.sets=y.sets)(h4:x.needs=y.needs):x=y:=by obtain⟨a,b,c,d⟩:=x;obtain⟨a',b',c',d'⟩:=y;simp only at h1 h2 h3 h4;rw[h1,h2,h3,h4]
theorem strEq{a b:Str}(h:a=b):(a.toList==b.toList)=true:=by rw[h];exact beq_self_eq_true _
theorem ahY{a b:Str}(h:a≠b):(a.toList==b.toList)=false:=by rw[yC];exact fun e=>h (toList_inj e)
theorem aer(p:Prop):∃r:Bool,r=true↔p:=by
 by_cases h:p;·exact⟨true,by simp[h]⟩
 exact⟨false,by simp[h]⟩
section
variable {w w':World} {B B2:Nat}
theorem aes{v1 v2:Value}{l1 l2:List aC}(h1:aS 4 dH B w v1 l1)(h2:aS 4 dH B2 w v2 l2)(r:Bool)(hr:r=true↔l1=l2):Calls Tryz.prog 64 #[.agg #[v1],.agg #[v2]] w (fun e w'=>e= .returned (.bool r)/\O0 w w'):=by
 have H1:=zh h1;have H2:=zh h2;obtain⟨a1,c1,rfl,k1,k2⟩:=h1.shape;obtain⟨a2,c2,rfl,k3,k4⟩:=h2.shape;obtain⟨n1,hn1⟩:=ze l1.length;obtain⟨n2,hn2⟩:=ze l2.length;have Oy:=zh hn1;have Oo:=zh hn2;have HR:=zh hr;rw[hn1]at k1 H1⊢;rw[hn2]at k3 H2⊢;have hno:l1≠l2->r=false:=fun h=>by exact zFR
 have uI:=zh hno;clear h1 h2 hn1 hn2 hr hno;obtain⟨wa,YM⟩:=ze (w.alloc (.cells #[.slice a1 n1 c1] 31));have hba:wa.heap[w.heap.size]? =some (.cells #[.slice a1 n1 c1] 31 (0,0)):=by rw[<-YM];exact qL _ _
 have hsa:wa.heap.size=w.heap.size+1:=by rw[<-YM];exact Array.size_push _
 obtain⟨w0,hw0⟩:=ze (wa.alloc (.cells #[.slice a2 n2 c2] 31));have hbb:w0.heap[w.heap.size+1]? =some (.cells #[.slice a2 n2 c2] 31 (0,0)):=by rw[<-hw0,<-hsa];exact qL _ _
 have oa:O0 w wa:=by rw[<-YM];exact zr.alloc _
 have ob:O0 wa w0:=by rw[<-hw0];exact zr.alloc _
 have hbc:=aA hba ob (fun f=>f);have aF:Hid (∀W,O0 w0 W->W.cell? ⟨w.heap.size,0,none⟩=some (.slice a1 n1 c1)/\W.cell? ⟨w.heap.size+1,0,none⟩=some (.slice a2 n2 c2)):=fun W o=>⟨by rw[aj (aA hbc o (fun f=>f))];rfl,by rw[aj (aA hbb o (fun f=>f))];rfl⟩;have jW:=zh (oa.same ob);obtain⟨bx0,bx1⟩:=aF.out w0 zr;clear hba hbb hbc oa ob;by_cases cn:n1=n2
 ·subst cn;have hne:((n1:Int)==(n1:Int))=true:=zAP;go_enter Tryz.func64,Tryz.ntmps64;go_wp2_with fail;go_loopw [5,6,7,18] (fun _ _ _ vi wr=>Hid (O0 w0 wr)/\∃i:Nat,vi= .int .i64 i/\i<=n1/\Hid (l1.take i=l2.take i)) (fun _ _ _ v _=>n1-(RowKit.intOf v).toNat);case atStart=>exact⟨Only.refl _ _,0,rfl,qE _,rfl⟩
  case round=>
   obtain⟨HO,i,rfl,hi,HT⟩:=hrel;by_cases ci:i<n1
   ·have iE:=zw (i+1);obtain⟨x,hx⟩:=zG l1 i zB7;obtain⟨y,hy⟩:=zG l2 i zCP;have hox:=jW.out.same HO.out;obtain⟨b,off,le,ca,p1,d1,p2,d2,he1,-,-,-,-,-,-,-,hE1⟩:=Dt (H1.out.keep dH.keep (Kp.dV hox)) hx;obtain⟨b',off',le',ca',p3,d3,p4,d4,he2,-,-,-,-,-,-,-,hE2⟩:=Dt (H2.out.keep dH.keep (Kp.dV hox)) hy;cases he1;cases he2;obtain⟨q1,hq1⟩:=aer (x.sets=y.sets);obtain⟨q2,hq2⟩:=aer (x.needs=y.needs);obtain⟨N5,hN5⟩:=ze wr.heap.size;obtain⟨s1,hs1⟩:=ze x.sets.length;obtain⟨s2,hs2⟩:=ze x.needs.length;obtain⟨s3,hs3⟩:=ze y.sets.length;obtain⟨s4,hs4⟩:=ze y.needs.length;rw[hs1,hs2]at hE1;rw[hs3,hs4]at hE2;have A1:=hE1 wr zr;have q0:=A1.1 0 _ rfl;have q1':=A1.1 1 _ rfl;have q2':=A1.1 2 _ rfl;have q3:=A1.1 3 _ rfl;obtain⟨wn,hwn⟩:=ze (wr.alloc (.cells #[.string x.name,.string x.version,.slice p1 s1 d1,.slice p2 s2 d2] 83));have hbn:wn.heap[N5]? =some (.cells #[.string x.name,.string x.version,.slice p1 s1 d1,.slice p2 s2 d2] 83 (0,0)):=by rw[<-hwn,<-hN5];exact qL _ _
    have hsn:wn.heap.size=N5+1:=by rw[<-hwn,<-hN5];exact Array.size_push _
    have on:O0 wr wn:=by rw[<-hwn];exact zr.alloc _
    have A2:=hE2 wn on;have r0:=A2.1 0 _ rfl;have r1:=A2.1 1 _ rfl;have r2:=A2.1 2 _ rfl;have r3:=A2.1 3 _ rfl;rw[qF]at q0 r0;obtain⟨wm,hwm⟩:=ze (wn.alloc (.cells #[.string y.name,.string y.version,.slice p3 s3 d3,.slice p4 s4 d4] 83));have om:O0 wn wm:=by rw[<-hwm];exact zr.alloc _
    have hbm:wm.heap[N5+1]? =some (.cells #[.string y.name,.string y.version,.slice p3 s3 d3,.slice p4 s4 d4] 83 (0,0)):=by rw[<-hwm,<-hsn];exact qL _ _
    have alu:=aA hbn om (fun f=>f);have HCm:Hid (∀W,O0 wm W->W.cell? ⟨N5,0,none⟩=some (.string x.name)/\W.cell? ⟨N5,1,none⟩=some (.string x.version)/\W.cell? ⟨N5,2,none⟩=some (.slice p1 s1 d1)/\W.cell? ⟨N5,3,none⟩=some (.slice p2 s2 d2)/\W.cell? ⟨N5+1,0,none⟩=some (.string y.name)/\W.cell? ⟨N5+1,1,none⟩=some (.string y.version)/\W.cell? ⟨N5+1,2,none⟩=some (.slice p3 s3 d3)/\W.cell? ⟨N5+1,3,none⟩=some (.slice p4 s4 d4)):=fun W o=>by have e1:=aA alu o (fun f=>f);have e2:=aA hbm o (fun f=>f);exact⟨by rw[aj e1];rfl,by rw[aj e1];rfl,by rw[aj e1];rfl,by rw[aj e1];rfl,by rw[aj e2];rfl,by rw[aj e2];rfl,by rw[aj e2];rfl,by rw[aj e2];rfl⟩
    have HOm:=zh (HO.out.same (on.same om));have HE1:Hid (∀W,O0 wm W->aS 2 dO B W (.slice p1 s1 d1) x.sets/\aS 1 bU B W (.slice p2 s2 d2) x.needs):=fun W o=>(hE1 W ((on.same om).same o)).2;have HE2:Hid (∀W,O0 wm W->aS 2 dO B2 W (.slice p3 s3 d3) y.sets/\aS 1 bU B2 W (.slice p4 s4 d4) y.needs):=fun W o=>(hE2 W ((on.same om).same o)).2;have Io:=zh hq1;have pI:=zh hq2;have HX:=zh hx;have HY:=zh hy;have HNe:Hid (x≠y->r=false):=fun e=>uI.out fun h=>e (by have h2:=HX.out;rw[h,HY.out]at h2;exact(Option.some.inj h2).symm);obtain⟨bx2,bx3⟩:=aF.out wr HO.out;obtain⟨-,bx4⟩:=aF.out wn (HO.out.same on);obtain⟨n0,n1',n2',n3',m0,m1,m2,m3⟩:=HCm.out wm zr;clear hx hy hE1 hE2 A1 A2 hq1 hq2 on om hbn alu hbm hs1 hs2 hs3 hs4 hox;by_cases e1:x.name=y.name
    ·have h1:=strEq e1;by_cases e2:x.version=y.version
     ·have h2:=strEq e2;have E1:=zh e1;have E2:=zh e2;clear e1 e2;go_wp2_with fail;refine(aep (HE1.out _ zr).1 (HE2.out _ zr).1 q1 Io.out).mono ?_;rintro e w5 ⟨rfl,O5⟩;have xK:=zh O5;obtain⟨-,-,-,l3,-,-,-,o3⟩:=HCm.out w5 O5;clear O5;cases q1 with
      |false=>
       have hrf:r=false:=HNe.out fun h=>by have:=Io.out.2 (by rw[h]);cases this
       subst hrf;go_wp2_with fail;go_ret;exact⟨rfl,jW.out.same (HOm.out.same xK.out)⟩
      |true=>
       go_wp2_with fail;refine(Xd (HE1.out _ xK.out).2 (HE2.out _ xK.out).2 q2 pI.out).mono ?_;rintro e w6 ⟨rfl,O6⟩;have Gz:=zh (HOm.out.same (xK.out.same O6));clear O6;cases q2 with
       |false=>
        have hrf:r=false:=HNe.out fun h=>by have:=pI.out.2 (by rw[h]);cases this
        subst hrf;go_wp2_with fail;go_ret;exact⟨rfl,jW.out.same Gz.out⟩
       |true=>
        have HT2:=zh (DC HX.out HY.out HT.out (aC.aoj E1.out E2.out (Io.out.1 (by trivial)) (pI.out.1 (by trivial))));go_wp2_with fail;go_roundw;case rel=>exact⟨Gz,i+1,by first|rfl|go_num,by omega,HT2⟩
        case measure=>simp[RowKit.intOf]<;>omega
     have h2:=ahY e2;have hrf:r=false:=HNe.out fun h=>e2 (by rw[h]);subst hrf;clear e1 e2;go_wp2_with fail;go_ret;exact⟨rfl,jW.out.same HOm.out⟩
    have h1:=ahY e1;have hrf:r=false:=HNe.out fun h=>e1 (by rw[h]);subst hrf;clear e1;go_wp2_with fail;go_ret;exact⟨rfl,jW.out.same HOm.out⟩
   obtain rfl:i=n1:=by omega
   have hrt:r=true:=HR.out.2 zBQ;subst hrt;exact zFl
 have hrf:r=false:=uI.out fun h=>cn zB5;subst hrf;have hne:((n1:Int)==(n2:Int))=false:=zBd;go_enter Tryz.func64,Tryz.ntmps64;go_wp2_with fail;go_ret;exact⟨rfl,jW.out⟩
theorem Sj{v1 v2:Value}{l1 l2:List aC}(h1:aS 4 dH B w v1 l1)(h2:aS 4 dH B2 w v2 l2)(r:Bool)(hr:r=true↔l1=l2):Calls Tryz.prog 18 #[.agg #[v1],.agg #[v2]] w (fun e w'=>e= .returned (.bool r)/\O0 w w'):=by have H1:=zh h1;have H2:=zh h2;obtain⟨a1,c1,rfl,k1,k2⟩:=h1.shape;obtain⟨a2,c2,rfl,k3,k4⟩:=h2.shape;obtain⟨n1,hn1⟩:=ze l1.length;obtain⟨n2,hn2⟩:=ze l2.length;rw[hn1]at k1 H1⊢;rw[hn2]at k3 H2⊢;have HR:=zh hr;clear h1 h2 hn1 hn2 hr;go_enter Tryz.func18,Tryz.ntmps18;go_wp2_with fail;have O2:O0 w _:=((Only.refl _ w).alloc (.cells #[.slice a1 n1 c1] 31)).alloc (.cells #[.slice a2 n2 c2] 31);refine(aes (H1.out.keep dH.keep (Kp.dV O2)) (H2.out.keep dH.keep (Kp.dV O2)) r HR.out).mono ?_;rintro e w1 ⟨rfl,O1⟩;have HO:=zh (O2.same O1);exact zDy
end
end Go.Proofs.YtdmmebjjojimiaaGreatDoor
namespace Go.Proofs
theorem zFk{p:Prop}(h:p:=by
 obtain⟨k0,k1⟩:=aF.out W hW
 match i,hu with
 |0,hu=>simp at hu;subst hu;exact k0
 |1,hu=>simp at hu;subst hu;exact k1
 |i+2,hu=>simp at hu):p:=h
theorem zF1{p:Prop}(h:p:=by
 go_wp2_with fail
 go_roundw
 case rel=>exact⟨fK,i+1,by first|rfl|go_num,by omega,pI⟩
 case measure=>simp[RowKit.intOf]<;>omega):p:=h
end Go.Proofs
namespace Go.Proofs.YtdmmebjjojimiaaGreatDoor
open Go.RowKit
section
variable {w w':World} {B:Nat}
attribute [local irreducible] wpQuiet
theorem Ls(a b:dM):rH a b=(decide (a.name.toList=b.name.toList)&&decide (a.value.toList=b.value.toList)):=by
 unfold rH;congr 1;·exact decide_eq_decide.2 ⟨fun h=>by rw[h],toList_inj⟩
 exact decide_eq_decide.2 ⟨fun h=>by rw[h],toList_inj⟩
theorem aeu{vl:Value}{l:List dM}(hl:aS 2 dO B w vl l)(x:dM):Calls Tryz.prog 293 #[vl,.agg #[.string x.name,.string x.value]] w fun e w'=>e= .returned (.bool (l.any fun t=>rH t x))/\O0 w w':=by
 obtain⟨a_l,kH,CO,rfl,Ym,JK,tZ,EL⟩:=tY hl;clear hl;obtain⟨W0,hW0,aV,jK,aF⟩:=LW w (.string x.name) (.string x.value) 117;have nO:=EL W0 aV.out;clear EL;obtain⟨r,hr⟩:∃r,(l.any fun t=>rH t x)=r:=⟨_,rfl⟩;rw[hr];have DF:=zh hr;clear hr;have HRx:Hid (∀W,O0 W0 W->W.rangeAt w.heap.size 0 [.string x.name,.string x.value]):=fun W hW i u hu=>by exact zFk
 go_enter Tryz.func293,Tryz.ntmps293;go_wp2_with fail;rw[<-hW0];clear hW0;have fQ:Hid (O0 W0 W0):=Only.refl _ _;go_wp2_with fail;go_loopw [8] (fun vi bD=>Hid (O0 W0 bD)/\∃i:Nat,vi= .int .i64 i/\i<=kH/\Hid ((l.take i).any (fun t=>rH t x)=false)) (fun v _=>kH-(RowKit.intOf v).toNat);case atStart=>exact⟨fQ,0,rfl,qE _,show Hid _ from rfl⟩
 case round=>
  obtain⟨bD,rfl⟩:=zB wr;clear fQ;obtain⟨gK,i,rfl,hi,HQ⟩:=hrel;by_cases ci:i<kH
  ·have iE:=zw (i+1);obtain⟨ys,hxs⟩:=zG l i zAy;obtain⟨X5,Gv,hes,Iy,Yn,uS⟩:=uO (nO.out W0 zr) hxs;first|subst hes| (simp only[qG,qO,and_true]at hes;obtain⟨rfl,rfl⟩:=hes)
   have x9:=zh uS;have AV:=zh hxs;clear uS hxs;obtain⟨bb,hbb⟩:=ze (rH ys x);have D6:=zh hbb;have HBc:Hid ((decide (ys.name.toList=x.name.toList)&&decide (ys.value.toList=x.value.toList))=bb):=by rw[Hid,<-Ls];exact hbb
   clear hbb;go_wp2_with fail;refine aU (fun w'=>O0 W0 w') zk zk (by exact gK.out.drew) ?_;iterate 3 refine qV ?_
   refine bM (by rfl) rfl rfl (fun w hSw=>(x9.out w hSw).1) Tryz.underlying117 rfl zk ?_;try simp only[Act.put,fA,fD,fB,dW,dX,dY]
   refine bM (b:=w.heap.size) (off:=0) (cs:=[.string x.name,.string x.value]) (by rfl) rfl rfl (fun w hSw=>HRx.out w hSw) Tryz.underlying117 rfl zk ?_;try simp only[Act.put,fA,fD,fB,dW,dX,dY]
   refine MP (v:=.bool bb) (by rfl) (fun w hSw=>by have h1:=HBc.out;go_simp;split<;>(try split)<;>simp_all) ?_;try simp only[Act.put,fA,fD,fB,dW,dX,dY]
   refine wpQuiet_nil ?_;(intro w9 dR;have fK:=zh dR;clear dR);cases bb with
   |true=>
    obtain rfl:r=true:=by rw[<-DF.out];exact yU.2 ⟨ys,qT AV.out,D6.out⟩
    exact zDk
   |false=>
    have pI:Hid ((l.take (i+1)).any (fun t=>rH t x)=false):=by rw[Hid,iZ AV.out,HQ.out,D6.out];rfl
    exact zF1
  obtain rfl:kH=i:=by omega
  obtain rfl:r=false:=by have h1:=HQ.out;rw[qI (yG tZ.out)]at h1;rw[<-DF.out];exact h1
  exact zDv
theorem aev{vl:Value}{l:List dM}(hl:aS 2 dO B w vl l){vz:Value}{z:List dM}(hz:aS 2 dO B w vz z):Calls Tryz.prog 214 #[vl,vz] w fun e w'=>e= .returned (.bool (Dw l z))/\O0 w w':=by
 obtain⟨a_l,kH,CO,rfl,Ym,JK,tZ,EL⟩:=tY hl;clear hl;obtain⟨a_z,n_z,c_z,rfl,g_z,asz,N_z,F_z⟩:=tY hz;clear hz;obtain⟨W0,hW0⟩:=zB w;have aV:Hid (O0 w W0):=zBU;have nO:=EL W0 aV.out;clear EL;have aok:=F_z W0 aV.out;clear F_z;obtain⟨r,hr⟩:=ze (Dw l z);rw[hr];have DF:=zh hr;clear hr;subst hW0;go_enter Tryz.func214,Tryz.ntmps214;go_wp2_with fail;have fQ:Hid (O0 W0 W0):=Only.refl _ _;go_loopw [8] (fun vi bD=>Hid (O0 W0 bD)/\∃i:Nat,vi= .int .i64 i/\i<=n_z/\Hid (∀s∈z.take i,(l.any fun t=>rH t s)=true)) (fun v _=>n_z-(RowKit.intOf v).toNat);case atStart=>exact⟨fQ,0,rfl,qE _,show Hid _ from fun v hv=>by simp at hv⟩
 case round=>
  obtain⟨bD,rfl⟩:=zB wr;clear fQ;obtain⟨gK,i,rfl,hi,HZ⟩:=hrel;by_cases ci:i<n_z
  ·have iE:=zw (i+1);obtain⟨ys,hxs⟩:=zG z i (by rw[N_z.out];omega);obtain⟨X5,Gv,hes,Iy,Yn,uS⟩:=uO (aok.out W0 zr) hxs;first|subst hes| (simp only[qG,qO,and_true]at hes;obtain⟨rfl,rfl⟩:=hes)
   have x9:=zh uS;have AV:=zh hxs;clear uS hxs;obtain⟨bb,hbb⟩:∃b,(l.any fun t=>rH t ys)=b:=⟨_,rfl⟩;have D6:=zh hbb;have L9:Hid (Calls Tryz.prog 293 #[.slice a_l kH CO,.agg #[.string ys.name,.string ys.value]] bD fun e w'=>e= .returned (.bool bb)/\O0 bD w'):=by rw[<-hbb];exact aeu (nO.out bD gK.out) ys
   have hrs:=zh (x9.out bD gK.out).1;clear hbb;go_wp2_with (refine wpList_load_mid rfl 117 (.tmp 14) rfl X5 (Gv+i*2) rfl _ _ hrs.out Tryz.underlying117 rfl zk ?_);refine L9.out.mono ?_;rintro e w1 ⟨rfl,O1⟩;have aI:=zh (gK.out.same O1);clear O1 L9 hrs;cases bb with
   |false=>
    obtain rfl:r=false:=by rw[<-DF.out];unfold Dw;exact List.all_eq_false.2 ⟨ys,qT AV.out,by rw[D6.out];simp⟩
    exact zER
   |true=>
    have HZ2:Hid (∀s∈z.take (i+1),(l.any fun t=>rH t s)=true):=fun v hv=>by
     rcases bH AV.out hv with h|rfl;·exact HZ.out v h
     exact D6.out
    go_wp2_with fail;go_roundw;case rel=>exact⟨aI,i+1,by first|rfl|go_num,by omega,HZ2⟩
    case measure=>simp[RowKit.intOf]<;>omega
  obtain rfl:n_z=i:=by omega
  obtain rfl:r=true:=by have h1:=HZ.out;rw[qI (yG N_z.out)]at h1;rw[<-DF.out];exact List.all_eq_true.2 h1
  exact zDv
theorem Fh{zQ:List Value}{n:aC}(hn:dH B w zQ n){css:List Value}{s:iW}(hs:dJ B w css s):Calls Tryz.prog 140 #[.agg zQ.toArray,.agg css.toArray] w fun e w'=>e= .returned (.bool (jr n s))/\O0 w w':=by
 have hkv:okS n.version:=by obtain⟨_,_,-,-,h,-⟩:=hn;exact h
 obtain⟨zS,zT,zU,y9,zf,zi,rfl,aew,aex,abL,abM,aey,abN,F_n⟩:=open_node hn;clear hn;obtain⟨lJ,jk,lK,lV,jB,lW,rfl,JM,JO,Nu,Nv,oP,EM,F_s⟩:=FX hs;clear hs;obtain⟨W0,hW0,aV,jK,aF⟩:=aen w (.string n.name) (.string n.version) (.slice zS zT zU) (.slice y9 zf zi) (.string s.name) (.slice lJ jk lK) (.slice lV jB lW) 83 108;obtain⟨ajp,Sm,Y9⟩:=F_n W0 aV.out;clear F_n;obtain⟨agu,wE,yZ⟩:=F_s W0 aV.out;clear F_s;obtain⟨r1,hr1⟩:=ze (vC s.spans n.version);obtain⟨r2,hr2⟩:=ze (Dw n.sets s.sets);have e1:jr n s=(r1&&r2):=by unfold jr;rw[hr1,hr2]
 rw[e1];have L9:Hid (∀W,O0 W0 W->Calls Tryz.prog 213 #[.slice lJ jk lK,.string n.version] W fun e w'=>e= .returned (.bool r1)/\O0 W w'):=fun W hW=>adW (wE.out W hW) n.version hkv r1 hr1;have HMe:Hid (∀W,O0 W0 W->Calls Tryz.prog 214 #[.slice zS zT zU,.slice lV jB lW] W fun e w'=>e= .returned (.bool r2)/\O0 W w'):=fun W hW=>by rw[<-hr2];exact aev (Sm.out W hW) (yZ.out W hW)
 clear hr1 hr2 e1 hkv;obtain⟨k0,k1,k2,k3,k4,k5,k6⟩:=aF.out W0 zr;rw[hW0]at k0 k1 k2 k3 k4 k5 k6;go_enter Tryz.func140,Tryz.ntmps140;go_wp2_with fail;rw[<-hW0]at k0 k1 k2 k3 k4 k5 k6⊢;clear hW0;refine(L9.out W0 zr).mono ?_;rintro e w1 ⟨rfl,O1⟩;have aI:=zh O1;clear O1 k0 k1 k2 k3 k4 k5 k6;obtain⟨k0,k1,k2,k3,k4,k5,k6⟩:=aF.out w1 aI.out;cases r1 with
 |false=>exact zER
 |true=>go_wp2_with fail;refine(HMe.out w1 aI.out).mono ?_;rintro e w2 ⟨rfl,O2⟩;have eF:=zh (aI.out.same O2);clear O2 k0 k1 k2 k3 k4 k5 k6;exact zD7
end
end Go.Proofs.YtdmmebjjojimiaaGreatDoor
namespace Go.Proofs
theorem zB2{p:Prop}(h:p:=by rw[Kq.out];omega):p:=h
theorem zGR{p:Prop}(h:p:=by
 obtain rfl:r=false:=by rw[<-DF.out];exact y8 xR.out (Sr (fun h=>by have:=Kq.out;omega))
 exact zER):p:=h
end Go.Proofs
namespace Go.Proofs.YtdmmebjjojimiaaGreatDoor
open Go.RowKit
section
variable {w w':World} {B:Nat}
theorem Ku{l:List Str}{k:Nat}{t s:Str}(ht:l[k]? =some t)(h:iC (l.take k) s=false)(hn:decide (t=s)=false):iC (l.take (k+1)) s=false:=by have e:=iZ (g:=fun u=>decide (u=s)) ht;show(l.take (k+1)).any (fun u=>decide (u=s))=false;rw[e,hn,Bool.or_false];exact h
theorem Oz{l:List Str}{k i:Nat}{t s:Str}(hs:l[i]? =some s)(ht:l[k]? =some t)(hk:k<i)(he:decide (t=s)=true):eu l=false:=by rw[Bool.eq_false_iff,Ne,wF];intro hn;obtain⟨hi,es⟩:=qJ.1 hs;obtain⟨hj,et⟩:=qJ.1 ht;have h1:=List.pairwise_iff_getElem.1 hn k i hj hi hk;rw[es,et]at h1;exact h1 (of_decide_eq_true he)
theorem Fj{l:List Str}{i:Nat}{s:Str}(hs:l[i]? =some s)(h:eu (l.take i)=true)(h2:iC (l.take i) s=false):eu (l.take (i+1))=true:=by rw[Ld hs h,h2];rfl
theorem Za{v:jm}(h:Lk.nameB v.name.toList=false):qj v=false:=by unfold qj;rw[h];rfl
theorem Sr{v:jm}(h:¬(0<v.values.length/\v.values.length<=4)):qj v=false:=by
 unfold qj;by_cases h1:0<v.values.length;·rw[qP (show¬v.values.length<=4 from fun h2=>h ⟨h1,h2⟩)];simp
 rw[qP h1];simp
theorem abO{v:jm}{k:Nat}{s:Str}(hs:v.values[k]? =some s)(h:Lk.gW s.toList=false):qj v=false:=by unfold qj;have:(v.values.all fun s=>Lk.gW s.toList)=false:=List.all_eq_false.2 ⟨s,qT hs,by rw[h];simp⟩;rw[this];simp
theorem Zb{v:jm}(h:eu v.values=false):qj v=false:=by unfold qj;rw[h];simp
theorem abP{v:jm}(h1:Lk.nameB v.name.toList=true)(h2:0<v.values.length)(h3:v.values.length<=4)(h4:∀s∈v.values,Lk.gW s.toList=true)(h5:eu v.values=true):qj v=true:=by unfold qj;rw[h1,qX h2,qX h3,List.all_eq_true.2 h4,h5];rfl
theorem Xf{l:List jm}(h:4<l.length):ql l=false:=by unfold ql;rw[qP (show¬l.length<=4 by omega)];simp
theorem Xg{l:List jm}(h:eu (l.map jm.name)=false):ql l=false:=by unfold ql;rw[h];simp
theorem Zc{l:List jm}(h1:∀v∈l,qj v=true)(h2:l.length<=4)(h3:eu (l.map jm.name)=true):ql l=true:=by unfold ql;rw[List.all_eq_true.2 h1,qX h2,h3];rfl
theorem Jb{l:List jm}{i:Nat}{y:jm}(h:l[i]? =some y):(l.map jm.name)[i]? =some y.name:=by rw[List.getElem?_map,h];rfl
theorem Jc{vl:Value}{l:List Str}(hl:aS 1 bU B w vl l):Calls Tryz.prog 125 #[vl] w fun e w'=>e= .returned (.bool (!eu l))/\O0 w w':=by
 obtain⟨a_l,kH,CO,rfl,Ym,JK,tZ,EL⟩:=open_strs hl;clear hl;obtain⟨W0,hW0⟩:=zB w;have aV:Hid (O0 w W0):=zBU;have nO:=EL W0 aV.out;clear EL;obtain⟨r,hr⟩:=ze (!eu l);rw[hr];have DF:=zh hr;clear hr;subst hW0;go_enter Tryz.func125,Tryz.ntmps125;go_wp2_with fail;have fQ:Hid (O0 W0 W0):=Only.refl _ _;go_loopw [7] (fun vi bD=>Hid (O0 W0 bD)/\∃i:Nat,vi= .int .i64 i/\i<=kH/\Hid (eu (l.take i)=true)) (fun v _=>kH-(RowKit.intOf v).toNat);case atStart=>exact⟨fQ,0,rfl,qE _,show Hid _ from rfl⟩
 case round=>
  obtain⟨bD,rfl⟩:=zB wr;clear fQ;obtain⟨gK,i,rfl,hi,HTi⟩:=hrel;by_cases ci:i<kH
  ·have iE:=zw (i+1);obtain⟨ys,hxs⟩:=zG l i zAy;obtain⟨X5,Gv,hes,Iy,uS⟩:=iR (nO.out W0 zr) hxs;first|subst hes| (simp only[qG,qO,and_true]at hes;obtain⟨rfl,rfl⟩:=hes)
   have x9:=zh uS;have AV:=zh hxs;clear uS hxs;have fQ:=gK;go_wp2_with fail;go_loopw [4] (fun vk iJ=>Hid (O0 W0 iJ)/\∃k:Nat,vk= .int .i64 k/\k<=i/\Hid (iC (l.take k) ys=false)) (fun v _=>i-(RowKit.intOf v).toNat);case atStart=>exact⟨fQ,0,rfl,qE _,show Hid _ from rfl⟩
   case round=>
    obtain⟨iJ,rfl⟩:=zB wr;clear fQ;obtain⟨kU,k,rfl,hk,oZ⟩:=hrel;by_cases ck:k<i
    ·have ewk:=zw (k+1);obtain⟨yt,hxt⟩:=zG l k zAy;obtain⟨bkt,aol,het,aom,aez⟩:=iR (nO.out W0 zr) hxt;first|subst het| (simp only[qG,qO,and_true]at het;obtain⟨rfl,rfl⟩:=het)
     have HEt:=zh aez;have HXt:=zh hxt;clear aez hxt;have hrs:=(x9.out iJ kU.out).1;have gs0:=hrs 0 _ rfl;rw[qF]at gs0;rw[yH]at gs0;clear hrs;have hrt:=(HEt.out iJ kU.out).1;have gt0:=hrt 0 _ rfl;rw[qF]at gt0;rw[yH]at gt0;clear hrt;have hbd:=fP ys yt;obtain⟨bb,hbb⟩:∃b,decide (ys=yt)=b:=⟨_,rfl⟩;have alH:decide (yt=ys)=bb:=by rw[<-hbb];exact decide_eq_decide.2 ⟨Eq.symm,Eq.symm⟩
     have D6:=zh alH;rw[hbb]at hbd;clear hbb alH;go_wp2_with fail;go_quiet (fail);cases bb with
     |true=>
      obtain rfl:r=true:=by rw[<-DF.out];show(!eu l)=true;rw[Oz AV.out HXt.out ck D6.out];rfl
      go_wp2_with fail;go_ret;exact⟨rfl,aV.out.same (kU.out.drewN _)⟩
     |false=>
      have HC2:Hid (iC (l.take (k+1)) ys=false):=Ku HXt.out oZ.out D6.out;go_wp2_with fail;go_roundw;case rel=>exact⟨show Hid _ from(kU.out.drewN _),k+1,by first|rfl|go_num,by omega,HC2⟩
      case measure=>simp[RowKit.intOf]<;>omega
    obtain rfl:i=k:=by omega
    have HT2:Hid (eu (l.take (i+1))=true):=Fj AV.out HTi.out oZ.out;go_wp2_with fail;go_roundw;case rel=>exact⟨kU,i+1,by first|rfl|go_num,by omega,HT2⟩
    case measure=>simp[RowKit.intOf]<;>omega
  obtain rfl:kH=i:=by omega
  obtain rfl:r=false:=by rw[<-DF.out];show(!eu l)=false;have h1:=HTi.out;rw[qI (yG tZ.out)]at h1;rw[h1];rfl
  exact zDv
theorem ajr{vl:Value}{l:List jm}(hl:aS 2 l9 B w vl l):Calls Tryz.prog 126 #[vl] w fun e w'=>e= .returned (.bool (ql l))/\O0 w w':=by
 obtain⟨a_l,kH,CO,rfl,Ym,JK,tZ,EL⟩:=JI hl;clear hl;obtain⟨W0,hW0⟩:=zB w;have aV:Hid (O0 w W0):=zBU;have nO:=EL W0 aV.out;clear EL;obtain⟨r,hr⟩:=ze (ql l);rw[hr];have DF:=zh hr;clear hr;by_cases c4:4<kH
 ·obtain rfl:r=false:=by rw[<-DF.out];exact Xf (by rw[tZ.out];exact c4)
  subst hW0;go_enter Tryz.func126,Tryz.ntmps126;go_wp2_with fail;go_ret;exact⟨rfl,aV.out.same zr⟩
 subst hW0;go_enter Tryz.func126,Tryz.ntmps126;go_wp2_with fail;have fQ:Hid (O0 W0 W0):=Only.refl _ _;go_loopw [12] (fun vi bD=>Hid (O0 W0 bD)/\∃i:Nat,vi= .int .i64 i/\i<=kH/\Hid (∀v∈l.take i,qj v=true)/\Hid (eu ((l.map jm.name).take i)=true)) (fun v _=>kH-(RowKit.intOf v).toNat);case atStart=>exact⟨fQ,0,rfl,qE _,(show Hid _ from fun v hv=>by simp at hv),(show Hid _ from rfl)⟩
 case round=>
  obtain⟨bD,rfl⟩:=zB wr;clear fQ;obtain⟨gK,i,rfl,hi,HZ,HTn⟩:=hrel;by_cases ci:i<kH
  ·have iE:=zw (i+1);obtain⟨yy,hxy⟩:=zG l i zAy;obtain⟨AY,mF,og,jo,oh,oq,kF,yh,je⟩:=FY (nO.out W0 zr) hxy;first|subst oq| (simp only[qG,qO,and_true]at oq;obtain⟨rfl,rfl⟩:=oq)
   have Kq:=zh kF;have jq:=zh je;have xR:=zh hxy;clear je hxy kF;have xH:Hid (∀W,O0 W0 W->aS 1 bU B W (.slice og jo oh) yy.values):=fun W ho=>(jq.out W ho).2.1;have fJ:=(jq.out bD gK.out).1;have Bv:=fJ 0 _ rfl;have Qr:=fJ 1 _ rfl;rw[qF]at Bv;clear fJ;obtain⟨bb,hnb⟩:=ze (Lk.nameB yy.name.toList);have HNb:=zh hnb;have En:=zh (Ja (w:=bD) yy.name yh bb hnb);clear hnb;go_wp2_with fail;refine En.out.mono ?_;rintro e w1 ⟨rfl,O1⟩;have aI:=zh (gK.out.same O1);clear O1 En Bv Qr;have fJ:=(jq.out w1 aI.out).1;have Bv:=fJ 0 _ rfl;have Qr:=fJ 1 _ rfl;rw[qF]at Bv;clear fJ;cases bb with
   |false=>
    obtain rfl:r=false:=by rw[<-DF.out];exact y8 xR.out (Za HNb.out)
    exact zER
   |true=>
    by_cases z1:jo=0;·subst z1;exact zGR
    have z3:((jo:Int)==0)=false:=by rw[yC];omega
    by_cases z2:4<jo;·exact zGR
    go_wp2_with fail;have fQ:=aI;clear Bv Qr z3;go_loopw [4] (fun vm CQ=>Hid (O0 W0 CQ)/\∃m:Nat,vm= .int .i64 m/\m<=i/\Hid (iC ((l.map jm.name).take m) yy.name=false)) (fun v _=>i-(RowKit.intOf v).toNat);case atStart=>exact⟨fQ,0,rfl,qE _,show Hid _ from rfl⟩
    case round=>
     obtain⟨CQ,rfl⟩:=zB wr;clear fQ;obtain⟨HOm,m,rfl,hm,HCm⟩:=hrel;by_cases cm:m<i
     ·have ewm:=zw (m+1);obtain⟨yz,hxz⟩:=zG l m zAy;obtain⟨JD,vP,vW,vX,vY,qc,wC,AX,jM⟩:=FY (nO.out W0 zr) hxz;first|subst qc| (simp only[qG,qO,and_true]at qc;obtain⟨rfl,rfl⟩:=qc)
      have jd:=zh jM;have vS:=zh hxz;clear jM hxz wC;have fJ:=(jq.out CQ HOm.out).1;have Bv:=fJ 0 _ rfl;rw[qF]at Bv;clear fJ;have hrz:=(jd.out CQ HOm.out).1;have nY:=hrz 0 _ rfl;rw[qF]at nY;clear hrz;have hbd:=fP yz.name yy.name;obtain⟨bb,hbb⟩:∃b,decide (yz.name=yy.name)=b:=⟨_,rfl⟩;have D6:=zh hbb;rw[hbb]at hbd;clear hbb;go_wp2_with fail;go_quiet (fail);cases bb with
      |true=>
       obtain rfl:r=false:=by rw[<-DF.out];exact Xg (Oz (Jb xR.out) (Jb vS.out) cm D6.out)
       go_wp2_with fail;go_ret;exact⟨rfl,aV.out.same (HOm.out.drewN _)⟩
      |false=>
       have HC2:Hid (iC ((l.map jm.name).take (m+1)) yy.name=false):=Ku (Jb vS.out) HCm.out D6.out;go_wp2_with fail;go_roundw;case rel=>exact⟨show Hid _ from(HOm.out.drewN _),m+1,by first|rfl|go_num,by omega,HC2⟩
       case measure=>simp[RowKit.intOf]<;>omega
     obtain rfl:i=m:=by omega
     have fJ:=(jq.out CQ HOm.out).1;have Qr:=fJ 1 _ rfl;clear fJ;have fQ:=HOm;go_wp2_with fail;clear Qr;go_loopw [62] (fun vk iJ=>Hid (O0 W0 iJ)/\∃k:Nat,vk= .int .i64 k/\k<=jo/\Hid (∀s∈yy.values.take k,Lk.gW s.toList=true)/\Hid (eu (yy.values.take k)=true)) (fun v _=>jo-(RowKit.intOf v).toNat);case atStart=>exact⟨fQ,0,rfl,qE _,(show Hid _ from fun v hv=>by simp at hv),(show Hid _ from rfl)⟩
     case round=>
      obtain⟨iJ,rfl⟩:=zB wr;clear fQ;obtain⟨kU,k,rfl,hk,HVk,HTk⟩:=hrel;by_cases ck:k<jo
      ·have ewk:=zw (k+1);obtain⟨ys,hxs⟩:=zG yy.values k zB2;obtain⟨X5,Gv,hes,Iy,uS⟩:=iR (xH.out W0 zr) hxs;first|subst hes| (simp only[qG,qO,and_true]at hes;obtain⟨rfl,rfl⟩:=hes)
       have x9:=zh uS;have AV:=zh hxs;clear uS hxs;have fJ:=(jq.out iJ kU.out).1;have Qr:=fJ 1 _ rfl;clear fJ;have hrs:=(x9.out iJ kU.out).1;have gs0:=hrs 0 _ rfl;rw[qF]at gs0;rw[yH]at gs0;clear hrs;obtain⟨bb,hvb⟩:=ze (Lk.gW ys.toList);have HVb:=zh hvb;have HVl:=zh (Xe (w:=iJ) ys Iy bb hvb);clear hvb;go_wp2_with fail;refine HVl.out.mono ?_;rintro e w2 ⟨rfl,O2⟩;have eF:=zh (kU.out.same O2);clear O2 HVl Qr gs0;cases bb with
       |false=>
        obtain rfl:r=false:=by rw[<-DF.out];exact y8 xR.out (abO AV.out HVb.out)
        exact zD7
       |true=>
        have aon:Hid (∀s∈yy.values.take (k+1),Lk.gW s.toList=true):=fun v hv=>by
         rcases bH AV.out hv with h|rfl;·exact HVk.out v h
         exact HVb.out
        have fQ:=eF;clear ewk;go_wp2_with fail;go_loopw [6] (fun vn Oi=>Hid (O0 W0 Oi)/\∃n:Nat,vn= .int .i64 n/\n<=k/\Hid (iC (yy.values.take n) ys=false)) (fun v _=>k-(RowKit.intOf v).toNat);case atStart=>exact⟨fQ,0,rfl,qE _,show Hid _ from rfl⟩
        case round=>
         obtain⟨Oi,rfl⟩:=zB wr;clear fQ;obtain⟨Ik,n,rfl,hn,vG⟩:=hrel;by_cases cn:n<k
         ·have ewn:=zw (n+1);obtain⟨yt,hxt⟩:=zG yy.values n zB2;obtain⟨bkt,aol,het,aom,aez⟩:=iR (xH.out W0 zr) hxt;first|subst het| (simp only[qG,qO,and_true]at het;obtain⟨rfl,rfl⟩:=het)
          have HEt:=zh aez;have HXt:=zh hxt;clear aez hxt;have fJ:=(jq.out Oi Ik.out).1;have Qr:=fJ 1 _ rfl;clear fJ;have hrs:=(x9.out Oi Ik.out).1;have gs0:=hrs 0 _ rfl;rw[qF]at gs0;rw[yH]at gs0;clear hrs;have hrt:=(HEt.out Oi Ik.out).1;have gt0:=hrt 0 _ rfl;rw[qF]at gt0;rw[yH]at gt0;clear hrt;have hbd:=fP yt ys;obtain⟨bb,hbb⟩:∃b,decide (yt=ys)=b:=⟨_,rfl⟩;have D6:=zh hbb;rw[hbb]at hbd;clear hbb;go_wp2_with fail;go_quiet (fail);cases bb with
          |true=>
           obtain rfl:r=false:=by rw[<-DF.out];exact y8 xR.out (Zb (Oz AV.out HXt.out cn D6.out))
           go_wp2_with fail;go_ret;exact⟨rfl,aV.out.same (Ik.out.drewN _)⟩
          |false=>
           have HC2:Hid (iC (yy.values.take (n+1)) ys=false):=Ku HXt.out vG.out D6.out;go_wp2_with fail;go_roundw;case rel=>exact⟨show Hid _ from(Ik.out.drewN _),n+1,by first|rfl|go_num,by omega,HC2⟩
           case measure=>simp[RowKit.intOf]<;>omega
         obtain rfl:k=n:=by omega
         have HT2:Hid (eu (yy.values.take (k+1))=true):=Fj AV.out HTk.out vG.out;go_wp2_with fail;go_roundw;case rel=>exact⟨Ik,k+1,by first|rfl|go_num,by omega,aon,HT2⟩
         case measure=>simp[RowKit.intOf]<;>omega
      obtain rfl:jo=k:=by omega
      have HZ2:Hid (∀v∈l.take (i+1),qj v=true):=fun v hv=>by
       rcases bH xR.out hv with h|rfl;·exact HZ.out v h
       have h1:=HVk.out;have h2:=HTk.out;rw[qI (yG Kq.out)]at h1 h2;exact abP HNb.out (by rw[Kq.out];omega) zB2 h1 h2
      have aoo:Hid (eu ((l.map jm.name).take (i+1))=true):=Fj (Jb xR.out) HTn.out HCm.out;go_wp2_with fail;go_roundw;case rel=>exact⟨kU,i+1,by first|rfl|go_num,by omega,HZ2,aoo⟩
      case measure=>simp[RowKit.intOf]<;>omega
  obtain rfl:kH=i:=by omega
  have hyes:ql l=true:=by have h1:=HZ.out;have h2:=HTn.out;rw[qI (yG tZ.out)]at h1;rw[qI (by rw[qM,tZ.out];exact qH _)]at h2;exact Zc h1 zAy h2
  obtain rfl:r=true:=by rw[<-DF.out];exact hyes
  exact zDv
end
end Go.Proofs.YtdmmebjjojimiaaGreatDoor
