/- The document's spans, exact: bound, May, Has; a set's Has.; Rows of other types lie in other blocks. -/
import Derived.Test.YtdmmebjjojimiaaGreatDoorG12
set_option maxRecDepth 100000
set_option maxHeartbeats 8000000
set_option linter.all false
namespace Go.Proofs
theorem zEP{p:Prop}(h:p:=by
 go_wp2_with fail
 go_ret
 exact⟨by rw[<-HR.out];(first|rfl|simp),(aV.out.same kD.out)⟩):p:=h
theorem zEQ{p:Prop}(h:p:=by
 go_wp2_with fail
 go_ret
 exact⟨by rw[<-HR.out];(first|rfl|simp),(aV.out.same eF.out)⟩):p:=h
theorem zGn{p:Prop}(h:p:=by
 go_wp2_with fail
 go_ret
 exact⟨by rw[<-HR.out];(first|rfl|simp),(aV.out.same aI.out)⟩):p:=h
end Go.Proofs
namespace Go.Proofs.YtdmmebjjojimiaaGreatDoor
open Go.RowKit
theorem adU(a b:List UInt8):decide (BM a b<0)=pJ a b:=by
 rw[Wy];by_cases ha:iV a=true
 ·by_cases hb:iV b=true;·rw[decide_eq_decide,Oa ha hb,Wx hb ha]
  unfold BM;simp[ha,hb]
 by_cases hb:iV b=true;·unfold BM;simp[ha,hb]
 unfold BM;simp[ha,hb]
theorem BN(s:Str):decide (s=ByteArray.empty)=s.toList.isEmpty:=by rw[Bool.eq_iff_iff,yP,List.isEmpty_iff,Dp]
theorem Hf(a b:Str):A8 a b=(!a.toList.isEmpty&& !b.toList.isEmpty&&pJ a.toList b.toList):=by unfold A8;rw[BN,BN,adU]
theorem abn(s:rE):Dn s=(xO s.lo&&xO s.hi&&(s.lo.toList.isEmpty||s.hi.toList.isEmpty|| !pJ s.hi.toList s.lo.toList)):=by unfold Dn;rw[Hf];cases s.lo.toList.isEmpty<;>cases s.hi.toList.isEmpty<;>simp
theorem adV{v:List UInt8}(h:iV v=true):v.isEmpty=false:=by
 cases v with
 |nil=>exact absurd h zAH
 |cons a r=>rfl
theorem YT(s:rE)(v:Str):pK s v=(Dn s&&iV v.toList&&((s.lo.toList.isEmpty|| !pJ v.toList s.lo.toList)&&(s.hi.toList.isEmpty|| !pJ s.hi.toList v.toList))):=by
 unfold pK;rw[Hf,Hf];cases hm:iV v.toList with
 |false=>simp
 |true=>rw[adV hm];cases s.lo.toList.isEmpty<;>cases s.hi.toList.isEmpty<;>simp[Bool.and_assoc]
section
variable {w w':World} {B:Nat}
theorem WA(s:Str)(hs:okS s)(r:Bool)(hr:xO s=r):Calls Tryz.prog 378 #[.string s] w (fun e w'=>e= .returned (.bool r)/\O0 w w'):=by
 obtain⟨m,hm⟩:=ze (iV s.toList);have HM:=zh (VY (w:=w) s hs m hm);unfold xO at hr;rw[BN,hm]at hr;obtain⟨es,hes⟩:=ze s.toList.isEmpty;rw[hes]at hr;have HR:=zh hr;clear hs hr hm;go_enter Tryz.func378,Tryz.ntmps378;cases es with
 |true=>go_wp2_with fail;go_ret;exact⟨by rw[<-HR.out];rfl,Only.refl _ _⟩
 |false=>go_wp2_with fail;refine HM.out.mono ?_;rintro e w1 ⟨rfl,O1⟩;have aI:=zh O1;clear O1 HM;go_wp2_with fail;go_ret;exact⟨by rw[<-HR.out];rfl,aI.out⟩
theorem RP{W0:World}{lo hi:Str}(h:W0=w.alloc (.cells #[.string lo,.string hi] 128)):∀W,O0 W0 W->W.cell? ⟨w.heap.size,0,none⟩=some (.string lo)/\W.cell? ⟨w.heap.size,1,none⟩=some (.string hi):=fun W ho=>by
 have b0:W0.heap[w.heap.size]? =some (.cells #[.string lo,.string hi] 128):=by rw[h];exact qL w _
 have b1:=aA b0 ho (fun f=>f)
 exact⟨by rw[aj b1];rfl,by rw[aj b1];rfl⟩
theorem agL(lo hi:Str)(hl:okS lo)(hh:okS hi)(r:Bool)(hr:Dn ⟨lo,hi⟩=r):Calls Tryz.prog 345 #[.agg #[.string lo,.string hi]] w (fun e w'=>e= .returned (.bool r)/\O0 w w'):=by
 rw[abn]at hr;obtain⟨v1,hv1⟩:=ze (xO lo);obtain⟨v2,hv2⟩:=ze (xO hi);obtain⟨v3,hv3⟩:=ze (pJ hi.toList lo.toList);obtain⟨W0,hW0⟩:=zB (w.alloc (.cells #[.string lo,.string hi] 128));have aV:Hid (O0 w W0):=by rw[hW0];exact zr.alloc _
 have aF:=zh (RP hW0);have HB1:Hid (∀W,Calls Tryz.prog 378 #[.string lo] W (fun e w'=>e= .returned (.bool v1)/\O0 W w')):=fun W=>WA lo hl v1 hv1;have HB2:Hid (∀W,Calls Tryz.prog 378 #[.string hi] W (fun e w'=>e= .returned (.bool v2)/\O0 W w')):=fun W=>WA hi hh v2 hv2;have YU:Hid (∀W,Calls Tryz.prog 211 #[.string hi,.string lo] W (fun e w'=>e= .returned (.bool v3)/\O0 W w')):=fun W=>TW hi lo hh hl v3 hv3;obtain⟨el,hel⟩:=ze lo.toList.isEmpty;obtain⟨eh,heh⟩:=ze hi.toList.isEmpty;dsimp only at hr;rw[hv1,hv2,hv3,hel,heh]at hr;have HR:=zh hr;clear hl hh hr hv1 hv2 hv3;go_enter Tryz.func345,Tryz.ntmps345;go_wp2_with fail;rw[<-hW0];clear hW0;refine(HB1.out _).mono ?_;rintro e w1 ⟨rfl,O1⟩;have aI:=zh O1;clear O1;obtain⟨k0,k1⟩:=aF.out w1 aI.out;cases v1 with
 |false=>exact zGn
 |true=>
  go_wp2_with fail;refine(HB2.out _).mono ?_;rintro e w2 ⟨rfl,O2⟩;have eF:=zh (aI.out.same O2);clear O2 k0 k1;obtain⟨k0,k1⟩:=aF.out w2 eF.out;cases v2 with
  |false=>exact zEQ
  |true=>
   cases el with
   |true=>exact zEQ
   |false=>
    cases eh with
    |true=>exact zEQ
    |false=>
     go_wp2_with fail;refine(YU.out _).mono ?_;rintro e w3 ⟨rfl,O3⟩;have kD:=zh (eF.out.same O3);clear O3 k0 k1;cases v3 with
     |false=>exact zEP
     |true=>exact zEP
theorem agM(lo hi v:Str)(hl:okS lo)(hh:okS hi)(hv:okS v)(r:Bool)(hr:pK ⟨lo,hi⟩ v=r):Calls Tryz.prog 292 #[.agg #[.string lo,.string hi],.string v] w (fun e w'=>e= .returned (.bool r)/\O0 w w'):=by
 rw[YT]at hr;obtain⟨v1,hv1⟩:=ze (Dn ⟨lo,hi⟩);obtain⟨v2,hv2⟩:=ze (iV v.toList);obtain⟨v3,hv3⟩:=ze (pJ v.toList lo.toList);obtain⟨v4,hv4⟩:=ze (pJ hi.toList v.toList);obtain⟨W0,hW0⟩:=zB (w.alloc (.cells #[.string lo,.string hi] 128));have aV:Hid (O0 w W0):=by rw[hW0];exact zr.alloc _
 have aF:=zh (RP hW0);have HMs:Hid (∀W,Calls Tryz.prog 345 #[.agg #[.string lo,.string hi]] W (fun e w'=>e= .returned (.bool v1)/\O0 W w')):=fun W=>agL lo hi hl hh v1 hv1;have HMv:Hid (∀W,Calls Tryz.prog 131 #[.string v] W (fun e w'=>e= .returned (.bool v2)/\O0 W w')):=fun W=>VY v hv v2 hv2;have HL1:Hid (∀W,Calls Tryz.prog 211 #[.string v,.string lo] W (fun e w'=>e= .returned (.bool v3)/\O0 W w')):=fun W=>TW v lo hv hl v3 hv3;have HL2:Hid (∀W,Calls Tryz.prog 211 #[.string hi,.string v] W (fun e w'=>e= .returned (.bool v4)/\O0 W w')):=fun W=>TW hi v hh hv v4 hv4;obtain⟨el,hel⟩:=ze lo.toList.isEmpty;obtain⟨eh,heh⟩:=ze hi.toList.isEmpty;dsimp only at hr;rw[hv1,hv2,hv3,hv4,hel,heh]at hr;have HR:=zh hr;clear hl hh hv hr hv1 hv2 hv3 hv4;have k0:=(aF.out W0 zr).1;have k1:=(aF.out W0 zr).2;rw[hW0]at k0 k1;go_enter Tryz.func292,Tryz.ntmps292;go_wp2_with fail;rw[<-hW0];clear hW0 k0 k1;refine(HMs.out _).mono ?_;rintro e w1 ⟨rfl,O1⟩;have aI:=zh O1;clear O1;cases v1 with
 |false=>exact zGn
 |true=>
  go_wp2_with fail;refine(HMv.out _).mono ?_;rintro e w2 ⟨rfl,O2⟩;have eF:=zh (aI.out.same O2);clear O2;cases v2 with
  |false=>exact zEQ
  |true=>
   obtain⟨k0,k1⟩:=aF.out w2 eF.out;cases el with
   |true=>
    cases eh with
    |true=>exact zEQ
    |false=>go_wp2_with fail;refine(HL2.out _).mono ?_;rintro e w3 ⟨rfl,O3⟩;have kD:=zh (eF.out.same O3);clear O3 k0 k1;exact zEP
   |false=>
    go_wp2_with fail;refine(HL1.out _).mono ?_;rintro e w3 ⟨rfl,O3⟩;have kD:=zh (eF.out.same O3);clear O3 k0 k1;obtain⟨k0,k1⟩:=aF.out w3 kD.out;cases v3 with
    |true=>exact zEP
    |false=>
     cases eh with
     |true=>exact zEP
     |false=>go_wp2_with fail;refine(HL2.out _).mono ?_;rintro e w4 ⟨rfl,O4⟩;have Ej:=zh (kD.out.same O4);clear O4 k0 k1;go_wp2_with fail;go_ret;exact⟨by rw[<-HR.out];(first|rfl|simp),(aV.out.same Ej.out)⟩
theorem adW{vl:Value}{l:List rE}(h:aS 2 fE B w vl l)(v:Str)(hv:okS v)(r:Bool)(hr:vC l v=r):Calls Tryz.prog 213 #[vl,.string v] w (fun e w'=>e= .returned (.bool r)/\O0 w w'):=by
 have aZ:=zh hr;clear hr;obtain⟨ao,cap,rfl,g1,g2⟩:=h.shape;obtain⟨n,hn⟩:=ze l.length;rw[hn]at h g1⊢;have HN:=zh hn;have HR:Hid (∀W,O0 w W->aS 2 fE B W (.slice ao n cap) l):=fun W ho=>h.keep fE.keep (Kp.dV ho);have HV:=zh hv;clear hn h hv;go_enter Tryz.func213,Tryz.ntmps213;go_wp2_with fail;go_loopw [8] (fun vi bD=>Hid (O0 w bD)/\∃i:Nat,vi= .int .i64 i/\i<=n/\Hid ((l.take i).any (fun s=>pK s v)=false)) (fun v _=>n-(RowKit.intOf v).toNat);case atStart=>exact⟨show Hid _ from Only.refl _ _,0,rfl,qE _,show Hid _ from rfl⟩
 case round=>
  obtain⟨bD,rfl⟩:=zB wr;obtain⟨gK,i,rfl,hi,HQ⟩:=hrel;by_cases ci:i<n
  ·have iE:=zw (i+1);obtain⟨y,hx⟩:=zG l i zAe;obtain⟨b,off,he,k1,k2,hE⟩:=VL (HR.out bD gK.out) hx;subst he;have oG:=zh (hE bD zr).1;have HX:=zh hx;obtain⟨b2,hb2⟩:=ze (pK y v);have HB2:=zh hb2;have HH:=zh (agM (w:=bD) y.lo y.hi v k1 k2 HV.out b2 hb2);clear hb2;clear hE hx k1 k2;go_wp2_with (refine wpList_load_mid rfl 128 (.tmp 13) rfl b (off+i*2) rfl _ _ oG.out Tryz.underlying128 rfl zk ?_);refine HH.out.mono ?_;rintro e w2 ⟨rfl,O2⟩;have eF:=zh (gK.out.same O2);clear O2 HH oG;cases b2 with
   |true=>go_wp2_with fail;go_ret;exact⟨by rw[<-aZ.out];unfold vC;rw[yU.2 ⟨y,qT HX.out,HB2.out⟩];rfl,eF.out⟩
   |false=>
    have pI:Hid ((l.take (i+1)).any (fun s=>pK s v)=false):=by rw[Hid,iZ HX.out,HQ.out,HB2.out];rfl
    go_wp2_with fail;go_roundw;case rel=>exact⟨eF,i+1,by first|rfl|go_num,by omega,pI⟩
    case measure=>simp[RowKit.intOf]<;>omega
  obtain rfl:n=i:=by omega
  go_wp2_with fail;go_ret;have h1:=HQ.out;rw[qI (yG HN.out)]at h1;exact⟨by rw[<-aZ.out];unfold vC;rw[h1];rfl,gK.out⟩
end
end Go.Proofs.YtdmmebjjojimiaaGreatDoor
namespace Go.Proofs
theorem zEU{p:Prop}(h:p:=by
 intro h2
 rcases h.2 with⟨rfl,_⟩| ⟨g,cap,cur,rfl,-,hg,-⟩
 ·cases hk
 ·rcases h'.2 with⟨rfl,_⟩| ⟨g',cap',cur',rfl,-,hg',-⟩
  ·cases h2
  ·simp only[Value.ownBlock,qG]at hk h2
   subst hk
   subst h2
   rw[hg]at hg'
   simp only[qG,Obj.cells.injEq]at hg'
   exact hne hg'.2.1):p:=h
end Go.Proofs
namespace Go.Proofs.YtdmmebjjojimiaaGreatDoor
open Go.RowKit
theorem Dq{w:World}{e e':TypeId}{s s' n n':Nat}{v v':Value}{xs xs':List Value}(hne:e≠e')(h:w.ownsRow 0 e s v n xs)(h':w.ownsRow 0 e' s' v' n' xs'){k:Nat}(hk:v.ownBlock=some k):v'.ownBlock≠some k:=by exact zEU
theorem jw{w:World}{e t:TypeId}{s n b:Nat}{v:Value}{xs:List Value}{c:Array Value}{f:Nat×Nat}(hne:e≠t)(h:w.ownsRow 0 e s v n xs)(hb:w.heap[b]? =some (.cells c t f)):v.ownBlock≠some b:=by
 intro h2;rcases h.2 with⟨rfl,_⟩| ⟨g,cap,cur,rfl,-,hg,-⟩;·cases h2
 simp only[Value.ownBlock,qG]at h2;subst h2;rw[hb]at hg;simp only[qG,Obj.cells.injEq]at hg;exact hne hg.2.1.symm
end Go.Proofs.YtdmmebjjojimiaaGreatDoor
namespace Go.Proofs
theorem zFL{p:Prop}(h:p:=by
 refine aS.xC (cs:=gJ L) (e:=83) (by rw[qM];exact h.own) fun i hi=>?_
 rw[qM]at hi
 exact⟨L[i].cells,rfl,fun j u hu=>zK L i _ (qA hi) j u hu,by rw[List.getElem_map];exact(h.each _ (qZ hi)).read⟩):p:=h
end Go.Proofs
namespace Go.Proofs.YtdmmebjjojimiaaGreatDoor
open Go.RowKit
open Lk (NB)
structure aC where
 name:Str
 version:Str
 sets:List dM
 needs:List Str
instance:Inhabited aC:=⟨⟨.empty,.empty,[],[]⟩⟩
def dM.toB(s:dM):List UInt8×List UInt8:=(s.name.toList,s.value.toList)
def aC.toB(n:aC):NB:=⟨n.name.toList,n.version.toList,n.sets.map dM.toB,n.needs.map ByteArray.toList⟩
abbrev fM(g:List aC):List NB:=g.map aC.toB
theorem EX{α β:Type}{f:α->β}(hf:∀a b,f a=f b->a=b):∀{l m:List α},l.map f=m.map f->l=m
 | [],[],_=>rfl
 | [],_::_,h=>by cases h
 |_::_,[],h=>by cases h
 |a::l,b::m,h=>by
  simp only[List.map_cons,List.cons.injEq]at h
  rw[hf a b h.1,EX hf h.2]
theorem dM.Us(a b:dM)(h:a.toB=b.toB):a=b:=by obtain⟨a1,a2⟩:=a;obtain⟨b1,b2⟩:=b;simp only[dM.toB,Prod.mk.injEq]at h;rw[toList_inj h.1,toList_inj h.2]
theorem aC.Us(a b:aC)(h:a.toB=b.toB):a=b:=by obtain⟨a1,a2,a3,a4⟩:=a;obtain⟨b1,b2,b3,b4⟩:=b;simp only[aC.toB,NB.mk.injEq]at h;rw[toList_inj h.1,toList_inj h.2.1,EX dM.Us h.2.2.1,EX (fun _ _=>toList_inj) h.2.2.2]
theorem IX{g h:List aC}(e:fM g=fM h):g=h:=EX aC.Us e
def dH(B:Nat)(w:World)(cs:List Value)(x:aC):Prop:= ∃v1 v2,cs=[.string x.name,.string x.version,v1,v2]/\okS x.name/\okS x.version/\aS 2 dO B w v1 x.sets/\aS 1 bU B w v2 x.needs
theorem dH.keep:Keeps dH:=fun _ _ _ _ _ ⟨v1,v2,h,a,b,c,d⟩ k=>⟨v1,v2,h,a,b,c.keep dO.keep k,d.keep bU.keep k⟩
theorem dH.lift:Lifts dH:=fun _ _ _ _ _ ⟨v1,v2,h,a,b,c,d⟩ k l=>⟨v1,v2,h,a,b,c.lift dO.lift k l,d.lift bU.lift k l⟩
def rU(B:Nat)(w:World)(cs:List Value)(g:List aC):Prop:= ∃v,cs=[v]/\aS 4 dH B w v g
theorem rU.keep:Keeps rU:=fun _ _ _ _ _ ⟨v,h,a⟩ k=>⟨v,h,a.keep dH.keep k⟩
theorem rU.lift:Lifts rU:=fun _ _ _ _ _ ⟨v,h,a⟩ k l=>⟨v,h,a.lift dH.lift k l⟩
theorem Dt{w:World}{B:Nat}{v:Value}{xs:List aC}(h:aS 4 dH B w v xs){i:Nat}{x:aC}(hx:xs[i]? =some x):∃b off len cap a1 c1 a2 c2,v= .slice (some ⟨b,off,none⟩) len cap/\okS x.name/\okS x.version/\x.sets.length<=c1/\c1<=9223372036854775807/\x.needs.length<=c2/\c2<=9223372036854775807/\b<w.heap.size/\(∀W,O0 w W->W.rangeAt b (off+i*4) [.string x.name,.string x.version,.slice a1 x.sets.length c1,.slice a2 x.needs.length c2]/\aS 2 dO B W (.slice a1 x.sets.length c1) x.sets/\aS 1 bU B W (.slice a2 x.needs.length c2) x.needs):=by obtain⟨hi,he⟩:=qJ.1 hx;obtain⟨ao,cap,rfl,-,-⟩:=h.shape;obtain⟨b,off,rfl,hb,hB,hc⟩:=h.cells _ _ _ rfl zAA;obtain⟨cs,hl,hr,hC⟩:=hc i hi;rw[he]at hC;obtain⟨v1,v2,rfl,k1,k2,r1,r2⟩:=hC;obtain⟨a1,c1,rfl,g1,g2⟩:=r1.shape;obtain⟨a2,c2,rfl,g3,g4⟩:=r2.shape;exact⟨b,off,_,cap,a1,c1,a2,c2,rfl,k1,k2,g1,g2,g3,g4,by omega,fun W ho=>⟨gq hr hb hB (Kp.dV ho),r1.keep dO.keep (Kp.dV ho),r2.keep bU.keep (Kp.dV ho)⟩⟩
theorem cZ(w:World)(g:Nat)(cs:Array Value):Only (fun k=>k=g) w (w.setRow g cs):=
 ⟨rfl,rfl,rfl,by simp[World.setRow],fun k hk hn=>by
  unfold World.setRow
  simp only[Array.getElem?_modify]
  rw[if_neg (fun e=>hn e.symm)]⟩
structure LN where
 x:aC
 v1:Value
 v2:Value
def LN.cells(n:LN):List Value:=[.string n.x.name,.string n.x.version,n.v1,n.v2]
def gJ(L:List LN):List Value:=L.flatMap LN.cells
def xU(l:List dM):List Value:=l.flatMap fun s=>[.string s.name,.string s.value]
theorem J4(L:List LN):(gJ L).length=L.length*4:=by
 induction L with
 |nil=>rfl
 |cons n L ih=>have e:gJ (n::L)=n.cells++gJ L:=rfl;rw[e,qK,ih,qN];simp[LN.cells];omega
theorem zK:∀(L:List LN) (i:Nat) (n:LN),L[i]? =some n->∀(j:Nat) (u:Value),n.cells[j]? =some u->(gJ L)[i*4+j]? =some u
 | [],i,n,h,_,_,_=>by simp at h
 |m::L,0,n,h,j,u,hu=>by
  simp only[List.getElem?_cons_zero,qG]at h
  subst h
  have e:gJ (m::L)=m.cells++gJ L:=rfl
  have hj:j<4:=by have:=(qJ.1 hu).1;simpa[LN.cells]using this
  rw[e,yM (by simp[LN.cells];omega),Nat.zero_mul,Nat.zero_add]
  exact hu
 |m::L,i+1,n,h,j,u,hu=>by
  have e:gJ (m::L)=m.cells++gJ L:=rfl
  have ih:=zK L i n zBy j u hu
  have hl:m.cells.length=4:=rfl
  rw[e,yN zAA,hl,show(i+1)*4+j-4=i*4+j by omega]
  exact ih
theorem WE:∀(L:List dM) (i:Nat) (h:i<L.length) (j:Nat) (u:Value),[Value.string L[i].name,.string L[i].value][j]? =some u->(xU L)[i*2+j]? =some u
 | [],i,h,_,_,_=>by simp at h
 |m::L,0,h,j,u,hu=>by
  have e:xU (m::L)=[Value.string m.name,.string m.value]++xU L:=rfl
  have hj:j<2:=by have:=(qJ.1 hu).1;simpa using this
  rw[e,yM (by simp;omega),Nat.zero_mul,Nat.zero_add]
  exact hu
 |m::L,i+1,h,j,u,hu=>by
  have e:xU (m::L)=[Value.string m.name,.string m.value]++xU L:=rfl
  have ih:=WE L i zBy j u (by simpa using hu)
  rw[e,yN (by simp;omega),show(i+1)*2+j-[Value.string m.name,Value.string m.value].length=i*2+j by simp;omega]
  exact ih
theorem wG(L:List LN)(n:LN):gJ (L++[n])=gJ L++n.cells:=by simp[gJ]
theorem YV(L:List dM)(n:dM):xU (L++[n])=xU L++[.string n.name,.string n.value]:=by simp[xU]
structure BO (B:Nat) (w:World) (n:LN):Prop where
 k1:okS n.x.name
 k2:okS n.x.version
 sets:w.ownsRow 0 117 2 n.v1 n.x.sets.length (xU n.x.sets)
 needs:w.ownsRow 0 9 1 n.v2 n.x.needs.length (bZ n.x.needs)
 k3:∀s∈n.x.sets,okS s.name/\okS s.value
 k4:∀s∈n.x.needs,okS s
 new1:∀k,n.v1.ownBlock=some k->B<=k
 new2:∀k,n.v2.ownBlock=some k->B<=k
theorem BO.only{B:Nat}{w w':World}{n:LN}{F:Nat->Prop}(h:BO B w n)(ho:Only F w w')(h1:∀k,n.v1.ownBlock=some k->¬F k)(h2:∀k,n.v2.ownBlock=some k->¬F k):BO B w' n:=⟨h.k1,h.k2,aW h.sets ho h1,aW h.needs ho h2,h.k3,h.k4,h.new1,h.new2⟩
theorem abo{w:World}{v:Value}{l:List dM}{n:Nat}(hn:l.length=n)(h:w.ownsRow 0 117 2 v n (xU l))(hk:∀s∈l,okS s.name/\okS s.value):aS 2 dO w.heap.size w v l:=by subst hn;refine aS.xC h fun i hi=>⟨[.string l[i].name,.string l[i].value],rfl,fun j u hu=>WE l i hi j u hu,rfl,hk _ (qZ hi)⟩
theorem BO.read{B:Nat}{w:World}{n:LN}(h:BO B w n):dH w.heap.size w n.cells n.x:=⟨n.v1,n.v2,rfl,h.k1,h.k2,abo rfl h.sets h.k3,oO rfl h.needs h.k4⟩
structure vU (B:Nat) (w:World) (rv:Value) (L:List LN):Prop where
 own:w.ownsRow 0 83 4 rv L.length (gJ L)
 new:∀k,rv.ownBlock=some k->B<=k
 each:∀n∈L,BO B w n
 apart:L.Pairwise fun a b=> ∀k,a.v2.ownBlock=some k->b.v2.ownBlock≠some k
theorem vU.nil{B:Nat}{w:World}:vU B w (.slice none 0 0) []:=⟨World.ownsRow_nil _ _ _ _,fun k hk=>by simp[Value.ownBlock]at hk,fun _ h=>by(cases h),List.Pairwise.nil⟩
theorem vU.only{B:Nat}{w w':World}{rv:Value}{L:List LN}{F:Nat->Prop}(h:vU B w rv L)(ho:Only F w w')(h0:∀k,rv.ownBlock=some k->¬F k)(h1:∀n∈L,∀k,n.v1.ownBlock=some k->¬F k)(h2:∀n∈L,∀k,n.v2.ownBlock=some k->¬F k):vU B w' rv L:=⟨aW h.own ho h0,h.new,fun n hn=>(h.each n hn).only ho (h1 n hn) (h2 n hn),h.apart⟩
theorem vU.dK{B:Nat}{w w':World}{rv:Value}{L:List LN}(h:vU B w rv L)(ho:O0 w w'):vU B w' rv L:=h.only ho (fun _ _ f=>f) (fun _ _ _ _ f=>f) (fun _ _ _ _ f=>f)
theorem vU.read{B:Nat}{w:World}{rv:Value}{L:List LN}(h:vU B w rv L):aS 4 dH w.heap.size w rv (L.map LN.x):=by exact zFL
theorem vU.free{B:Nat}{w:World}{rv:Value}{L:List LN}(h:vU B w rv L){P:Nat}{c:Array Value}{t:TypeId}{f:Nat×Nat}(hb:w.heap[P]? =some (.cells c t f))(h1:83≠t)(h2:117≠t)(h3:9≠t):(∀k,rv.ownBlock=some k->k≠P)/\(∀n∈L,∀k,n.v1.ownBlock=some k->k≠P)/\(∀n∈L,∀k,n.v2.ownBlock=some k->k≠P):=⟨fun k hk e=>jw h1 h.own hb (e▸hk),fun n hn k hk e=>jw h2 (h.each n hn).sets hb (e▸hk),fun n hn k hk e=>jw h3 (h.each n hn).needs hb (e▸hk)⟩
theorem vU.snoc{B:Nat}{w w':World}{rv rv':Value}{L:List LN}{n:LN}(h:vU B w rv L)(hn:BO B w n)(hap:∀m∈L,∀k,m.v2.ownBlock=some k->n.v2.ownBlock≠some k)(r1:w'.ownsRow 0 83 4 rv' (L.length+1) (gJ L++n.cells))(o:Only (fun k=>rv.ownBlock=some k) w w')(r3:∀k,rv'.ownBlock=some k->rv.ownBlock=some k\/w.heap.size<=k)(hB:B<=w.heap.size):vU B w' rv' (L++[n]):=by
 have f1:∀m,BO B w m->BO B w' m:=fun m hm=>hm.only o (fun k hk e=>Dq zHZ hm.sets h.own hk e) (fun k hk e=>Dq zAH hm.needs h.own hk e);refine⟨by rw[qK,List.length_singleton,wG];exact r1,fun k hk=>?_,fun m hm=>?_,?_⟩
 ·rcases r3 k hk with g|g;·exact h.new k g
  omega
 ·rcases qW.1 hm with g|g;·exact f1 m (h.each m g)
  rw[yJ.1 g];exact f1 n hn
 rw[List.pairwise_append];exact⟨h.apart,List.pairwise_singleton _ _,fun a ha b hb=>by rw[yJ.1 hb];exact hap a ha⟩
end Go.Proofs.YtdmmebjjojimiaaGreatDoor
namespace Go.Proofs.YtdmmebjjojimiaaGreatDoor
open Go.RowKit
section
variable {w:World} {B:Nat}
theorem nH{cs:List Value}{x:List aC}(h:rU B w cs x):∃(a1:Option Addr) (n1 c1:Nat),cs=[.slice a1 n1 c1]/\n1<=c1/\c1<=9223372036854775807/\Hid (x.length=n1)/\∀W0,O0 w W0->Hid (∀W,O0 W0 W->rU B W [.slice a1 n1 c1] x)/\Hid (∀W,O0 W0 W->aS 4 dH B W (.slice a1 n1 c1) x):=by have h0:=h;obtain⟨u1,rfl,r1⟩:=h;obtain⟨a1,c1,rfl,g1,h1⟩:=r1.shape;exact⟨a1,_,c1,rfl,g1,h1,rfl,fun W0 ho=>⟨fun W hW=>rU.keep h0 (Kp.dV (ho.same hW):Kp B w W),fun W hW=>r1.keep dH.keep (Kp.dV (ho.same hW))⟩⟩
theorem open_node{cs:List Value}{x:aC}(h:dH B w cs x):∃(a1:Option Addr) (n1 c1:Nat) (a2:Option Addr) (n2 c2:Nat),cs=[.string x.name,.string x.version,.slice a1 n1 c1,.slice a2 n2 c2]/\n1<=c1/\c1<=9223372036854775807/\n2<=c2/\c2<=9223372036854775807/\Hid (x.sets.length=n1)/\Hid (x.needs.length=n2)/\∀W0,O0 w W0->Hid (∀W,O0 W0 W->dH B W [.string x.name,.string x.version,.slice a1 n1 c1,.slice a2 n2 c2] x)/\Hid (∀W,O0 W0 W->aS 2 dO B W (.slice a1 n1 c1) x.sets)/\Hid (∀W,O0 W0 W->aS 1 bU B W (.slice a2 n2 c2) x.needs):=by have h0:=h;obtain⟨u1,u2,rfl,-,-,r1,r2⟩:=h;obtain⟨a1,c1,rfl,g1,h1⟩:=r1.shape;obtain⟨a2,c2,rfl,g2,h2⟩:=r2.shape;exact⟨a1,_,c1,a2,_,c2,rfl,g1,h1,g2,h2,rfl,rfl,fun W0 ho=>⟨fun W hW=>dH.keep h0 (Kp.dV (ho.same hW):Kp B w W),fun W hW=>r1.keep dO.keep (Kp.dV (ho.same hW)),fun W hW=>r2.keep bU.keep (Kp.dV (ho.same hW))⟩⟩
theorem jf{ao:Option Addr}{len cap i:Nat}{xs:List aC}{y:aC}(h:aS 4 dH B w (.slice ao len cap) xs)(hx:xs[i]? =some y):∃(b off:Nat) (a1:Option Addr) (n1 c1:Nat) (a2:Option Addr) (n2 c2:Nat),ao=some ⟨b,off,none⟩/\y.sets.length=n1/\y.needs.length=n2/\okS y.name/\okS y.version/\∀W,O0 w W->W.rangeAt b (off+i*4) [.string y.name,.string y.version,.slice a1 n1 c1,.slice a2 n2 c2]/\aS 2 dO B W (.slice a1 n1 c1) y.sets/\aS 1 bU B W (.slice a2 n2 c2) y.needs/\dH B W [.string y.name,.string y.version,.slice a1 n1 c1,.slice a2 n2 c2] y:=by obtain⟨b,off,cs,rfl,hb,hB,-,hr,hC⟩:=h.placed hx;have hC0:=hC;obtain⟨v1,v2,rfl,ok1,ok2,r1,r2⟩:=hC;obtain⟨a1,c1,rfl,-,-⟩:=r1.shape;obtain⟨a2,c2,rfl,-,-⟩:=r2.shape;exact⟨b,off,a1,_,c1,a2,_,c2,rfl,rfl,rfl,ok1,ok2,fun W ho=>⟨gq hr hb hB (Kp.dV ho),r1.keep dO.keep (Kp.dV ho),r2.keep bU.keep (Kp.dV ho),dH.keep hC0 (Kp.dV ho)⟩⟩
theorem agW(w:World)(v0:Value)(t0:TypeId):∃W0,W0=(w.alloc (.cells #[v0] t0))/\Hid (O0 w W0)/\Hid (W0.heap.size=w.heap.size+1)/\Hid (∀W,O0 W0 W->W.cell? ⟨w.heap.size,0,none⟩=some v0):=by obtain⟨W0,hW0⟩:=zB (w.alloc (.cells #[v0] t0));refine⟨W0,hW0,by rw[hW0];exact zr.alloc _,by rw[hW0];simp[Hid],fun W ho=>?_⟩;have b0:W0.heap[w.heap.size]? =some (.cells #[v0] t0):=zBf;have d0:=aA b0 ho (fun f=>f);exact(by rw[aj d0];rfl)
theorem ajn(w:World)(v0 v1 v2 v3:Value)(t0 t1:TypeId):∃W0,W0=((w.alloc (.cells #[v0] t0)).alloc (.cells #[v1,v2,v3] t1))/\Hid (O0 w W0)/\Hid (W0.heap.size=w.heap.size+2)/\Hid (∀W,O0 W0 W->W.cell? ⟨w.heap.size,0,none⟩=some v0/\W.cell? ⟨w.heap.size+1,0,none⟩=some v1/\W.cell? ⟨w.heap.size+1,1,none⟩=some v2/\W.cell? ⟨w.heap.size+1,2,none⟩=some v3):=by obtain⟨W0,hW0⟩:=zB ((w.alloc (.cells #[v0] t0)).alloc (.cells #[v1,v2,v3] t1));refine⟨W0,hW0,by rw[hW0];exact(zr.alloc _).alloc _,by rw[hW0];simp[Hid],fun W ho=>?_⟩;have b0:W0.heap[w.heap.size]? =some (.cells #[v0] t0):=zBG;have d0:=aA b0 ho (fun f=>f);have b1:W0.heap[w.heap.size+1]? =some (.cells #[v1,v2,v3] t1):=zCo;have d1:=aA b1 ho (fun f=>f);exact⟨by rw[aj d0];rfl,by rw[aj d1];rfl,by rw[aj d1];rfl,by rw[aj d1];rfl⟩
theorem zO(w:World)(v0 v1 v2 v3:Value)(t0 t1 t2:TypeId):∃W0,W0=(((w.alloc (.cells #[v0,v1] t0)).alloc (.cells #[v2] t1)).alloc (.cells #[v3] t2))/\Hid (O0 w W0)/\Hid (W0.heap.size=w.heap.size+3)/\Hid (∀W,O0 W0 W->W.cell? ⟨w.heap.size,0,none⟩=some v0/\W.cell? ⟨w.heap.size,1,none⟩=some v1/\W.cell? ⟨w.heap.size+1,0,none⟩=some v2/\W.cell? ⟨w.heap.size+1+1,0,none⟩=some v3):=by
 obtain⟨W0,hW0⟩:=zB (((w.alloc (.cells #[v0,v1] t0)).alloc (.cells #[v2] t1)).alloc (.cells #[v3] t2));refine⟨W0,hW0,by rw[hW0];exact((zr.alloc _).alloc _).alloc _,by rw[hW0];simp[Hid],fun W ho=>?_⟩;have b0:W0.heap[w.heap.size]? =some (.cells #[v0,v1] t0):=by rw[hW0];exact dF (dF (alloc_at rfl) _) _
 have d0:=aA b0 ho (fun f=>f);have b1:W0.heap[w.heap.size+1]? =some (.cells #[v2] t1):=by rw[hW0];exact dF (alloc_at zAP) _
 have d1:=aA b1 ho (fun f=>f);have b2:W0.heap[w.heap.size+1+1]? =some (.cells #[v3] t2):=zCo;have d2:=aA b2 ho (fun f=>f);exact⟨by rw[aj d0];rfl,by rw[aj d0];rfl,by rw[aj d1];rfl,by rw[aj d2];rfl⟩
theorem ajo(w:World)(v0 v1 v2 v3 v4 v5:Value)(t0 t1:TypeId):∃W0,W0=((w.alloc (.cells #[v0,v1] t0)).alloc (.cells #[v2,v3,v4,v5] t1))/\Hid (O0 w W0)/\Hid (W0.heap.size=w.heap.size+2)/\Hid (∀W,O0 W0 W->W.cell? ⟨w.heap.size,0,none⟩=some v0/\W.cell? ⟨w.heap.size,1,none⟩=some v1/\W.cell? ⟨w.heap.size+1,0,none⟩=some v2/\W.cell? ⟨w.heap.size+1,1,none⟩=some v3/\W.cell? ⟨w.heap.size+1,2,none⟩=some v4/\W.cell? ⟨w.heap.size+1,3,none⟩=some v5):=by obtain⟨W0,hW0⟩:=zB ((w.alloc (.cells #[v0,v1] t0)).alloc (.cells #[v2,v3,v4,v5] t1));refine⟨W0,hW0,by rw[hW0];exact(zr.alloc _).alloc _,by rw[hW0];simp[Hid],fun W ho=>?_⟩;have b0:W0.heap[w.heap.size]? =some (.cells #[v0,v1] t0):=zBG;have d0:=aA b0 ho (fun f=>f);have b1:W0.heap[w.heap.size+1]? =some (.cells #[v2,v3,v4,v5] t1):=zCo;have d1:=aA b1 ho (fun f=>f);exact⟨by rw[aj d0];rfl,by rw[aj d0];rfl,by rw[aj d1];rfl,by rw[aj d1];rfl,by rw[aj d1];rfl,by rw[aj d1];rfl⟩
theorem aem(w:World)(v0 v1 v2 v3 v4 v5 v6 v7 v8 v9:Value)(t0 t1 t2:TypeId):∃W0,W0=(((w.alloc (.cells #[v0,v1] t0)).alloc (.cells #[v2,v3,v4,v5] t1)).alloc (.cells #[v6,v7,v8,v9] t2))/\Hid (O0 w W0)/\Hid (W0.heap.size=w.heap.size+3)/\Hid (∀W,O0 W0 W->W.cell? ⟨w.heap.size,0,none⟩=some v0/\W.cell? ⟨w.heap.size,1,none⟩=some v1/\W.cell? ⟨w.heap.size+1,0,none⟩=some v2/\W.cell? ⟨w.heap.size+1,1,none⟩=some v3/\W.cell? ⟨w.heap.size+1,2,none⟩=some v4/\W.cell? ⟨w.heap.size+1,3,none⟩=some v5/\W.cell? ⟨w.heap.size+1+1,0,none⟩=some v6/\W.cell? ⟨w.heap.size+1+1,1,none⟩=some v7/\W.cell? ⟨w.heap.size+1+1,2,none⟩=some v8/\W.cell? ⟨w.heap.size+1+1,3,none⟩=some v9):=by
 obtain⟨W0,hW0⟩:=zB (((w.alloc (.cells #[v0,v1] t0)).alloc (.cells #[v2,v3,v4,v5] t1)).alloc (.cells #[v6,v7,v8,v9] t2));refine⟨W0,hW0,by rw[hW0];exact((zr.alloc _).alloc _).alloc _,by rw[hW0];simp[Hid],fun W ho=>?_⟩;have b0:W0.heap[w.heap.size]? =some (.cells #[v0,v1] t0):=by rw[hW0];exact dF (dF (alloc_at rfl) _) _
 have d0:=aA b0 ho (fun f=>f);have b1:W0.heap[w.heap.size+1]? =some (.cells #[v2,v3,v4,v5] t1):=by rw[hW0];exact dF (alloc_at zAP) _
 have d1:=aA b1 ho (fun f=>f);have b2:W0.heap[w.heap.size+1+1]? =some (.cells #[v6,v7,v8,v9] t2):=zCo;have d2:=aA b2 ho (fun f=>f);exact⟨by rw[aj d0];rfl,by rw[aj d0];rfl,by rw[aj d1];rfl,by rw[aj d1];rfl,by rw[aj d1];rfl,by rw[aj d1];rfl,by rw[aj d2];rfl,by rw[aj d2];rfl,by rw[aj d2];rfl,by rw[aj d2];rfl⟩
theorem aen(w:World)(v0 v1 v2 v3 v4 v5 v6:Value)(t0 t1:TypeId):∃W0,W0=((w.alloc (.cells #[v0,v1,v2,v3] t0)).alloc (.cells #[v4,v5,v6] t1))/\Hid (O0 w W0)/\Hid (W0.heap.size=w.heap.size+2)/\Hid (∀W,O0 W0 W->W.cell? ⟨w.heap.size,0,none⟩=some v0/\W.cell? ⟨w.heap.size,1,none⟩=some v1/\W.cell? ⟨w.heap.size,2,none⟩=some v2/\W.cell? ⟨w.heap.size,3,none⟩=some v3/\W.cell? ⟨w.heap.size+1,0,none⟩=some v4/\W.cell? ⟨w.heap.size+1,1,none⟩=some v5/\W.cell? ⟨w.heap.size+1,2,none⟩=some v6):=by obtain⟨W0,hW0⟩:=zB ((w.alloc (.cells #[v0,v1,v2,v3] t0)).alloc (.cells #[v4,v5,v6] t1));refine⟨W0,hW0,by rw[hW0];exact(zr.alloc _).alloc _,by rw[hW0];simp[Hid],fun W ho=>?_⟩;have b0:W0.heap[w.heap.size]? =some (.cells #[v0,v1,v2,v3] t0):=zBG;have d0:=aA b0 ho (fun f=>f);have b1:W0.heap[w.heap.size+1]? =some (.cells #[v4,v5,v6] t1):=zCo;have d1:=aA b1 ho (fun f=>f);exact⟨by rw[aj d0];rfl,by rw[aj d0];rfl,by rw[aj d0];rfl,by rw[aj d0];rfl,by rw[aj d1];rfl,by rw[aj d1];rfl,by rw[aj d1];rfl⟩
end
end Go.Proofs.YtdmmebjjojimiaaGreatDoor
