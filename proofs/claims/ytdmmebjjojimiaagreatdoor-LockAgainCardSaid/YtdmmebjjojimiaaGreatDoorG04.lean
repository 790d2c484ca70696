/- One of a row's structs: where it lies, and its cells at each later world. Printed by rowb.; Strings: rows of them, and of their bytes. -/
import Derived.Test.YtdmmebjjojimiaaGreatDoorG03
set_option maxRecDepth 100000
set_option maxHeartbeats 8000000
set_option linter.all false
namespace Go.Proofs.YtdmmebjjojimiaaGreatDoor
open Go.RowKit
section
variable {w w':World} {B:Nat}
theorem aS.placed{α:Type}{n:Nat}{C:Nat->World->List Value->α->Prop}{ao:Option Addr}{len cap i:Nat}{xs:List α}{y:α}(h:aS n C B w (.slice ao len cap) xs)(hx:xs[i]? =some y):∃b off cs,ao=some ⟨b,off,none⟩/\b<B/\B<=w.heap.size/\cs.length=n/\w.rangeAt b (off+i*n) cs/\C B w cs y:=by obtain⟨hlt,rfl⟩:=qJ.1 hx;obtain⟨b,off,rfl,h1,h2,hc⟩:=h.cells _ _ _ rfl zAA;obtain⟨cs,g1,g2,g3⟩:=hc i hlt;exact⟨b,off,cs,rfl,h1,h2,g1,g2,g3⟩
theorem iR{ao:Option Addr}{len cap i:Nat}{xs:List Str}{y:Str}(h:aS 1 bU B w (.slice ao len cap) xs)(hx:xs[i]? =some y):∃(b off:Nat),ao=some ⟨b,off,none⟩/\okS y/\∀W,O0 w W->W.rangeAt b (off+i*1) [.string y]/\bU B W [.string y] y:=by obtain⟨b,off,cs,rfl,hb,hB,-,hr,hC⟩:=h.placed hx;have hC0:=hC;obtain⟨rfl,ok1⟩:=hC;exact⟨b,off,rfl,ok1,fun W ho=>⟨gq hr hb hB (Kp.dV ho),bU.keep hC0 (Kp.dV ho)⟩⟩
theorem VL{ao:Option Addr}{len cap i:Nat}{xs:List rE}{y:rE}(h:aS 2 fE B w (.slice ao len cap) xs)(hx:xs[i]? =some y):∃(b off:Nat),ao=some ⟨b,off,none⟩/\okS y.lo/\okS y.hi/\∀W,O0 w W->W.rangeAt b (off+i*2) [.string y.lo,.string y.hi]/\fE B W [.string y.lo,.string y.hi] y:=by obtain⟨b,off,cs,rfl,hb,hB,-,hr,hC⟩:=h.placed hx;have hC0:=hC;obtain⟨rfl,ok1,ok2⟩:=hC;exact⟨b,off,rfl,ok1,ok2,fun W ho=>⟨gq hr hb hB (Kp.dV ho),fE.keep hC0 (Kp.dV ho)⟩⟩
theorem uO{ao:Option Addr}{len cap i:Nat}{xs:List dM}{y:dM}(h:aS 2 dO B w (.slice ao len cap) xs)(hx:xs[i]? =some y):∃(b off:Nat),ao=some ⟨b,off,none⟩/\okS y.name/\okS y.value/\∀W,O0 w W->W.rangeAt b (off+i*2) [.string y.name,.string y.value]/\dO B W [.string y.name,.string y.value] y:=by obtain⟨b,off,cs,rfl,hb,hB,-,hr,hC⟩:=h.placed hx;have hC0:=hC;obtain⟨rfl,ok1,ok2⟩:=hC;exact⟨b,off,rfl,ok1,ok2,fun W ho=>⟨gq hr hb hB (Kp.dV ho),dO.keep hC0 (Kp.dV ho)⟩⟩
theorem MQ{ao:Option Addr}{len cap i:Nat}{xs:List wu}{y:wu}(h:aS 2 pR B w (.slice ao len cap) xs)(hx:xs[i]? =some y):∃(b off:Nat),ao=some ⟨b,off,none⟩/\okS y.version/\∀W,O0 w W->W.rangeAt b (off+i*2) [.string y.version,.bool y.old]/\pR B W [.string y.version,.bool y.old] y:=by obtain⟨b,off,cs,rfl,hb,hB,-,hr,hC⟩:=h.placed hx;have hC0:=hC;obtain⟨rfl,ok1⟩:=hC;exact⟨b,off,rfl,ok1,fun W ho=>⟨gq hr hb hB (Kp.dV ho),pR.keep hC0 (Kp.dV ho)⟩⟩
theorem FY{ao:Option Addr}{len cap i:Nat}{xs:List jm}{y:jm}(h:aS 2 l9 B w (.slice ao len cap) xs)(hx:xs[i]? =some y):∃(b off:Nat) (a1:Option Addr) (n1 c1:Nat),ao=some ⟨b,off,none⟩/\y.values.length=n1/\okS y.name/\∀W,O0 w W->W.rangeAt b (off+i*2) [.string y.name,.slice a1 n1 c1]/\aS 1 bU B W (.slice a1 n1 c1) y.values/\l9 B W [.string y.name,.slice a1 n1 c1] y:=by obtain⟨b,off,cs,rfl,hb,hB,-,hr,hC⟩:=h.placed hx;have hC0:=hC;obtain⟨v1,rfl,ok1,r1⟩:=hC;obtain⟨a1,c1,rfl,-,-⟩:=r1.shape;exact⟨b,off,a1,_,c1,rfl,rfl,ok1,fun W ho=>⟨gq hr hb hB (Kp.dV ho),r1.keep bU.keep (Kp.dV ho),l9.keep hC0 (Kp.dV ho)⟩⟩
theorem Aq{ao:Option Addr}{len cap i:Nat}{xs:List Aj}{y:Aj}(h:aS 7 wz B w (.slice ao len cap) xs)(hx:xs[i]? =some y):∃(b off:Nat) (a1:Option Addr) (n1 c1:Nat) (a2:Option Addr) (n2 c2:Nat) (a3:Option Addr) (n3 c3:Nat) (a4:Option Addr) (n4 c4:Nat),ao=some ⟨b,off,none⟩/\y.on.spans.length=n1/\y.on.sets.length=n2/\y.cond.spans.length=n3/\y.cond.sets.length=n4/\okS y.on.name/\okS y.cond.name/\jF y.line/\∀W,O0 w W->W.rangeAt b (off+i*7) [.string y.on.name,.slice a1 n1 c1,.slice a2 n2 c2,.string y.cond.name,.slice a3 n3 c3,.slice a4 n4 c4,.int .i64 y.line]/\aS 2 fE B W (.slice a1 n1 c1) y.on.spans/\aS 2 dO B W (.slice a2 n2 c2) y.on.sets/\aS 2 fE B W (.slice a3 n3 c3) y.cond.spans/\aS 2 dO B W (.slice a4 n4 c4) y.cond.sets/\wz B W [.string y.on.name,.slice a1 n1 c1,.slice a2 n2 c2,.string y.cond.name,.slice a3 n3 c3,.slice a4 n4 c4,.int .i64 y.line] y:=by obtain⟨b,off,cs,rfl,hb,hB,-,hr,hC⟩:=h.placed hx;have hC0:=hC;obtain⟨q1,q2,rfl,⟨v1,v2,rfl,ok1,r1,r2⟩,⟨v3,v4,rfl,ok2,r3,r4⟩,in1⟩:=hC;obtain⟨a1,c1,rfl,-,-⟩:=r1.shape;obtain⟨a2,c2,rfl,-,-⟩:=r2.shape;obtain⟨a3,c3,rfl,-,-⟩:=r3.shape;obtain⟨a4,c4,rfl,-,-⟩:=r4.shape;exact⟨b,off,a1,_,c1,a2,_,c2,a3,_,c3,a4,_,c4,rfl,rfl,rfl,rfl,rfl,ok1,ok2,in1,fun W ho=>⟨gq hr hb hB (Kp.dV ho),r1.keep fE.keep (Kp.dV ho),r2.keep dO.keep (Kp.dV ho),r3.keep fE.keep (Kp.dV ho),r4.keep dO.keep (Kp.dV ho),wz.keep hC0 (Kp.dV ho)⟩⟩
theorem TN{ao:Option Addr}{len cap i:Nat}{xs:List Iq}{y:Iq}(h:aS 7 vO B w (.slice ao len cap) xs)(hx:xs[i]? =some y):∃(b off:Nat) (a1:Option Addr) (n1 c1:Nat) (a2:Option Addr) (n2 c2:Nat) (a3:Option Addr) (n3 c3:Nat) (a4:Option Addr) (n4 c4:Nat),ao=some ⟨b,off,none⟩/\y.cond.spans.length=n1/\y.cond.sets.length=n2/\y.with'.spans.length=n3/\y.with'.sets.length=n4/\okS y.cond.name/\okS y.with'.name/\jF y.line/\∀W,O0 w W->W.rangeAt b (off+i*7) [.string y.cond.name,.slice a1 n1 c1,.slice a2 n2 c2,.string y.with'.name,.slice a3 n3 c3,.slice a4 n4 c4,.int .i64 y.line]/\aS 2 fE B W (.slice a1 n1 c1) y.cond.spans/\aS 2 dO B W (.slice a2 n2 c2) y.cond.sets/\aS 2 fE B W (.slice a3 n3 c3) y.with'.spans/\aS 2 dO B W (.slice a4 n4 c4) y.with'.sets/\vO B W [.string y.cond.name,.slice a1 n1 c1,.slice a2 n2 c2,.string y.with'.name,.slice a3 n3 c3,.slice a4 n4 c4,.int .i64 y.line] y:=by obtain⟨b,off,cs,rfl,hb,hB,-,hr,hC⟩:=h.placed hx;have hC0:=hC;obtain⟨q1,q2,rfl,⟨v1,v2,rfl,ok1,r1,r2⟩,⟨v3,v4,rfl,ok2,r3,r4⟩,in1⟩:=hC;obtain⟨a1,c1,rfl,-,-⟩:=r1.shape;obtain⟨a2,c2,rfl,-,-⟩:=r2.shape;obtain⟨a3,c3,rfl,-,-⟩:=r3.shape;obtain⟨a4,c4,rfl,-,-⟩:=r4.shape;exact⟨b,off,a1,_,c1,a2,_,c2,a3,_,c3,a4,_,c4,rfl,rfl,rfl,rfl,rfl,ok1,ok2,in1,fun W ho=>⟨gq hr hb hB (Kp.dV ho),r1.keep fE.keep (Kp.dV ho),r2.keep dO.keep (Kp.dV ho),r3.keep fE.keep (Kp.dV ho),r4.keep dO.keep (Kp.dV ho),vO.keep hC0 (Kp.dV ho)⟩⟩
theorem jy{ao:Option Addr}{len cap i:Nat}{xs:List iI}{y:iI}(h:aS 8 gY B w (.slice ao len cap) xs)(hx:xs[i]? =some y):∃(b off:Nat) (a1:Option Addr) (n1 c1:Nat) (a2:Option Addr) (n2 c2:Nat) (a3:Option Addr) (n3 c3:Nat) (a4:Option Addr) (n4 c4:Nat) (a5:Option Addr) (n5 c5:Nat) (a6:Option Addr) (n6 c6:Nat),ao=some ⟨b,off,none⟩/\y.jc.length=n1/\y.vars.length=n2/\y.provides.length=n3/\y.deps.length=n4/\y.cons.length=n5/\y.files.length=n6/\okS y.name/\jF y.line/\∀W,O0 w W->W.rangeAt b (off+i*8) [.string y.name,.int .i64 y.line,.slice a1 n1 c1,.slice a2 n2 c2,.slice a3 n3 c3,.slice a4 n4 c4,.slice a5 n5 c5,.slice a6 n6 c6]/\aS 2 pR B W (.slice a1 n1 c1) y.jc/\aS 2 l9 B W (.slice a2 n2 c2) y.vars/\aS 1 bU B W (.slice a3 n3 c3) y.provides/\aS 7 wz B W (.slice a4 n4 c4) y.deps/\aS 7 vO B W (.slice a5 n5 c5) y.cons/\aS 1 bU B W (.slice a6 n6 c6) y.files/\gY B W [.string y.name,.int .i64 y.line,.slice a1 n1 c1,.slice a2 n2 c2,.slice a3 n3 c3,.slice a4 n4 c4,.slice a5 n5 c5,.slice a6 n6 c6] y:=by obtain⟨b,off,cs,rfl,hb,hB,-,hr,hC⟩:=h.placed hx;have hC0:=hC;obtain⟨v1,v2,v3,v4,v5,v6,rfl,ok1,in1,r1,r2,r3,r4,r5,r6⟩:=hC;obtain⟨a1,c1,rfl,-,-⟩:=r1.shape;obtain⟨a2,c2,rfl,-,-⟩:=r2.shape;obtain⟨a3,c3,rfl,-,-⟩:=r3.shape;obtain⟨a4,c4,rfl,-,-⟩:=r4.shape;obtain⟨a5,c5,rfl,-,-⟩:=r5.shape;obtain⟨a6,c6,rfl,-,-⟩:=r6.shape;exact⟨b,off,a1,_,c1,a2,_,c2,a3,_,c3,a4,_,c4,a5,_,c5,a6,_,c6,rfl,rfl,rfl,rfl,rfl,rfl,rfl,ok1,in1,fun W ho=>⟨gq hr hb hB (Kp.dV ho),r1.keep pR.keep (Kp.dV ho),r2.keep l9.keep (Kp.dV ho),r3.keep bU.keep (Kp.dV ho),r4.keep wz.keep (Kp.dV ho),r5.keep vO.keep (Kp.dV ho),r6.keep bU.keep (Kp.dV ho),gY.keep hC0 (Kp.dV ho)⟩⟩
theorem zl{ao:Option Addr}{len cap i:Nat}{xs:List xQ}{y:xQ}(h:aS 3 tV B w (.slice ao len cap) xs)(hx:xs[i]? =some y):∃(b off:Nat) (a1:Option Addr) (n1 c1:Nat),ao=some ⟨b,off,none⟩/\y.names.length=n1/\okS y.virtual/\jF y.line/\∀W,O0 w W->W.rangeAt b (off+i*3) [.string y.virtual,.slice a1 n1 c1,.int .i64 y.line]/\aS 1 bU B W (.slice a1 n1 c1) y.names/\tV B W [.string y.virtual,.slice a1 n1 c1,.int .i64 y.line] y:=by obtain⟨b,off,cs,rfl,hb,hB,-,hr,hC⟩:=h.placed hx;have hC0:=hC;obtain⟨v1,rfl,ok1,in1,r1⟩:=hC;obtain⟨a1,c1,rfl,-,-⟩:=r1.shape;exact⟨b,off,a1,_,c1,rfl,rfl,ok1,in1,fun W ho=>⟨gq hr hb hB (Kp.dV ho),r1.keep bU.keep (Kp.dV ho),tV.keep hC0 (Kp.dV ho)⟩⟩
theorem pU{ao:Option Addr}{len cap i:Nat}{xs:List tN}{y:tN}(h:aS 4 mM B w (.slice ao len cap) xs)(hx:xs[i]? =some y):∃(b off:Nat) (a1:Option Addr) (n1 c1:Nat) (a2:Option Addr) (n2 c2:Nat),ao=some ⟨b,off,none⟩/\y.spec.spans.length=n1/\y.spec.sets.length=n2/\okS y.spec.name/\jF y.line/\∀W,O0 w W->W.rangeAt b (off+i*4) [.string y.spec.name,.slice a1 n1 c1,.slice a2 n2 c2,.int .i64 y.line]/\aS 2 fE B W (.slice a1 n1 c1) y.spec.spans/\aS 2 dO B W (.slice a2 n2 c2) y.spec.sets/\mM B W [.string y.spec.name,.slice a1 n1 c1,.slice a2 n2 c2,.int .i64 y.line] y:=by obtain⟨b,off,cs,rfl,hb,hB,-,hr,hC⟩:=h.placed hx;have hC0:=hC;obtain⟨q1,rfl,⟨v1,v2,rfl,ok1,r1,r2⟩,in1⟩:=hC;obtain⟨a1,c1,rfl,-,-⟩:=r1.shape;obtain⟨a2,c2,rfl,-,-⟩:=r2.shape;exact⟨b,off,a1,_,c1,a2,_,c2,rfl,rfl,rfl,ok1,in1,fun W ho=>⟨gq hr hb hB (Kp.dV ho),r1.keep fE.keep (Kp.dV ho),r2.keep dO.keep (Kp.dV ho),mM.keep hC0 (Kp.dV ho)⟩⟩
end
section
variable {w w':World} {B:Nat}
def bZ(l:List Str):List Value:=l.map Value.string
theorem iU:Gu Tryz.prog 81 9 1 16:=Gu.mk' (z:=.string .empty) Tryz.underlying81 zk rfl zAH
theorem zn(w:World):(w.alloc (.cells #[] 9)).ownsRow 0 9 1 (.slice (some ⟨w.heap.size,0,none⟩) 0 0) 0 []:=World.ownsRow_lit (base:=0) (e:=9) (size:=1) w #[] 0 (qE _) zCn zAP
theorem oO{v:Value}{l:List Str}{n:Nat}(hn:l.length=n)(h:w.ownsRow 0 9 1 v n (bZ l))(hk:∀s∈l,okS s):aS 1 bU w.heap.size w v l:=by
 subst hn;refine aS.xC h fun i hi=>⟨[.string l[i]],rfl,fun j u hu=>?_,rfl,hk _ (qZ hi)⟩;obtain rfl:j=0:=by have:=(qJ.1 hu).1;simpa using this
 simp at hu;subst hu;simp[bZ,hi]
theorem BA{s:Str}(hs:okS s)(i j:Nat):okS (s.extract i j):=by unfold okS at hs⊢;rw[ByteArray.size_extract];omega
theorem wB{s:Str}(h:s.size=0):s=⟨#[]⟩:=by have:s.data.size=0:=h;cases s with|mk d=>simp at this;rw[this]
theorem Ro{s:Str}(h:0<s.size):s.toList≠[]:=fun e=>by
 have h1:s.data.toList=[]:=by rw[<-ByteArray.toList_eq];exact e
 have:s.data.size=0:=by rw[<-Array.length_toList,h1];rfl
 have h2:s.size=0:=this
 omega
def adf(w:World)(n:Nat)(v:Value)(wr:World):Prop:=Hid (O0 w wr)/\∃i:Nat,v= .int .i64 i/\i<=n
end
end Go.Proofs.YtdmmebjjojimiaaGreatDoor
namespace Go.Proofs
theorem zAg{p:Prop}(h:p:=by rw[aB.out];exact hlen):p:=h
theorem zAt{p:Prop}(h:p:=by rw[aB.out];omega):p:=h
theorem zAy{p:Prop}(h:p:=by rw[tZ.out];omega):p:=h
theorem zBU{p:Prop}(h:p:=by rw[hW0];exact Only.refl _ _):p:=h
theorem zER{p:Prop}(h:p:=by
 go_wp2_with fail
 go_ret
 exact⟨rfl,aV.out.same aI.out⟩):p:=h
theorem zEr{p:Prop}(h:p:=by
 go_wp2_with fail
 go_ret
 exact⟨rfl,aV.out.same HO.out⟩):p:=h
theorem zFm{p:Prop}(h:p:=by
 clear hd hy
 go_wp2_with fail
 go_roundw
 case rel=>exact⟨HO,i+1,by first|rfl|go_num,by omega,HZ2⟩
 case measure=>simp[RowKit.intOf]<;>omega):p:=h
end Go.Proofs
namespace Go.Proofs.YtdmmebjjojimiaaGreatDoor
open Go.RowKit
section
variable {w w':World} {B:Nat}
theorem EK{vl:Value}{l:List Str}(hl:aS 1 bU B w vl l)(s:Str):Calls Tryz.prog 128 #[vl,.string s] w fun e w'=>e= .returned (.bool (iC l s))/\O0 w w':=by
 obtain⟨a_l,kH,CO,rfl,Ym,JK,tZ,EL⟩:=open_strs hl;clear hl;obtain⟨W0,hW0⟩:=zB w;have aV:Hid (O0 w W0):=zBU;have nO:=EL W0 aV.out;clear EL;obtain⟨r,hr⟩:=ze (iC l s);rw[hr];have aZ:=zh hr;clear hr;subst hW0;go_enter Tryz.func128,Tryz.ntmps128;go_wp2_with fail;go_loopw [8] (fun vi wr=>Hid (O0 W0 wr)/\∃i:Nat,vi= .int .i64 i/\i<=kH/\Hid (s∉l.take i)) (fun v _=>kH-(RowKit.intOf v).toNat);case atStart=>exact⟨show Hid _ from Only.refl _ _,0,rfl,qE _,show Hid _ from by simp[Hid]⟩
 case round=>
  obtain⟨HO,i,rfl,hi,HZ⟩:=hrel;by_cases ci:i<kH
  ·have hrow:=nO.out wr HO.out;have hrow0:=hrow;rw[<-tZ.out]at hrow0;obtain⟨b,off,he,-,-⟩:=hrow0.at (by have:=tZ.out;omega);subst he;obtain⟨y,hx⟩:=zG l i zAy;obtain⟨cs,hl,hr,hC⟩:=hrow.get hx;clear hrow hrow0;obtain⟨rfl,-⟩:=hC;have hcell:=hr 0 _ rfl;simp only[yH,qF]at hcell;have iE:=zw (i+1);have hbd:=fP y s;have HX:=zh hx;clear hx hr hl;by_cases hy:y=s
   ·have hd:decide (y=s)=true:=qX hy;have hrt:r=true:=by rw[<-aZ.out,EH,<-hy];exact qT HX.out
    subst hrt;rw[hd]at hbd;clear hd hy;exact zEr
   have hd:decide (y=s)=false:=qP hy;rw[hd]at hbd;have HZ2:Hid (s∉l.take (i+1)):=fun hm=>by
    rcases bH HX.out hm with h|h;·exact HZ.out h
    exact hy h.symm
   exact zFm
  obtain rfl:kH=i:=by omega
  have hrf:r=false:=by rw[<-aZ.out,Bool.eq_false_iff];intro h;have:=HZ.out;rw[qI (yG tZ.out)]at this;exact this (EH.1 h)
  subst hrf;exact zEr
theorem lI{lC:List Value}{x:aQ}(hx:fO B w lC x)(s:Str):Calls Tryz.prog 38 #[.agg lC.toArray,.string s] w fun e w'=>e= .returned (.int .i64 (x.find s))/\O0 w w':=by
 obtain⟨aP,ak,aJ,aO,aG,aH,rfl,fF,fG,dP,dQ,aB,bJ,mY⟩:=open_rec hx;clear hx;try rw[aB.out]
 obtain⟨W0,hW0,aV,jK,aF⟩:=LW w (.slice aP ak aJ) (.slice aO aG aH) 25;obtain⟨eX,bK,bT⟩:=mY W0 aV.out;clear mY;obtain⟨r,hr⟩:=ze (x.find s);rw[hr];have aZ:=zh hr;clear hr;go_enter Tryz.func38,Tryz.ntmps38;go_wp2_with fail;rw[<-hW0];clear hW0;obtain⟨k0,k1⟩:=aF.out W0 zr;go_wp2_with fail;go_loopw [9] (fun vi wr=>Hid (O0 W0 wr)/\∃i:Nat,vi= .int .i64 i/\i<=ak/\Hid (∀y∈x.packs.take i,decide (y.name=s)=false)) (fun v _=>ak-(RowKit.intOf v).toNat);case atStart=>exact⟨show Hid _ from Only.refl _ _,0,rfl,qE _,show Hid _ from fun y hy=>by simp at hy⟩
 case round=>
  clear k0 k1;obtain⟨HO,i,rfl,hi,HZ⟩:=hrel;obtain⟨k0,k1⟩:=aF.out wr HO.out;by_cases ci:i<ak
  ·have hrow:=bK.out wr HO.out;have hrow0:=hrow;rw[<-aB.out]at hrow0;obtain⟨b,off,he,-,-⟩:=hrow0.at (by have:=aB.out;omega);subst he;obtain⟨y,hx⟩:=zG x.packs i zAt;obtain⟨cs,hl,hr,hC⟩:=hrow.get hx;clear hrow hrow0;obtain⟨v1,v2,v3,v4,v5,v6,rfl,-⟩:=hC;have hcell:=hr 0 _ rfl;simp only[qF]at hcell;have iE:=zw (i+1);have hbd:=fP y.name s;have HX:=zh hx;clear hx hr hl;by_cases hy:y.name=s
   ·have hd:decide (y.name=s)=true:=qX hy;have hri:r=i:=by rw[<-aZ.out];exact kW HX.out hd HZ.out
    subst hri;rw[hd]at hbd;clear hd hy;exact zEr
   have hd:decide (y.name=s)=false:=qP hy;have HD:=zh hd;rw[hd]at hbd;have HZ2:Hid (∀y∈x.packs.take (i+1),decide (y.name=s)=false):=fun z hz=>by
    rcases bH HX.out hz with h|rfl;·exact HZ.out z h
    exact HD.out
   exact zFm
  obtain rfl:ak=i:=by omega
  have hri:r= -1:=by rw[<-aZ.out];have:=HZ.out;rw[qI (yG aB.out)]at this;exact jR this
  subst hri;exact zEr
theorem zo{lC:List Value}{x:aQ}(hx:fO B w lC x)(hlen:x.packs.length<=1000000)(s:Str):Calls Tryz.prog 124 #[.agg lC.toArray,.string s] w fun e w'=> ∃v,e= .returned v/\w'.ownsRow 0 3 1 v (x.oH s).length (eP (x.oH s))/\(∀k,v.ownBlock=some k->w.heap.size<=k)/\O0 w w':=by
 obtain⟨aP,ak,aJ,aO,aG,aH,rfl,fF,fG,dP,dQ,aB,bJ,mY⟩:=open_rec hx;clear hx;try rw[aB.out]
 obtain⟨W0,hW0,aV,jK,aF⟩:=LW w (.slice aP ak aJ) (.slice aO aG aH) 25;obtain⟨eX,bK,bT⟩:=mY W0 aV.out;clear mY;rw[aB.out]at hlen;go_enter Tryz.func124,Tryz.ntmps124;go_wp2_with fail;rw[<-hW0];clear hW0;have aI:Hid (O0 W0 (W0.alloc (.cells #[] 3))):=zr.alloc _;have GU:Hid ((W0.alloc (.cells #[] 3)).ownsRow 0 3 1 (.slice (some ⟨w.heap.size+1,0,none⟩) 0 0) (x.kE s 0).length (eP (x.kE s 0))):=by rw[<-jK.out];exact VH W0
 have HB1:Hid (∀k,(Value.slice (some ⟨w.heap.size+1,0,none⟩) 0 0).ownBlock=some k->W0.heap.size<=k):=fun k hk=>by simp[Value.ownBlock]at hk;have:=jK.out;omega
 obtain⟨k0,k1⟩:=aF.out _ aI.out;go_wp2_with fail;go_loopw [5,11] (fun vo vi wr=>Hid (O0 W0 wr)/\∃i:Nat,vi= .int .i64 i/\i<=ak/\Hid (wr.ownsRow 0 3 1 vo (x.kE s i).length (eP (x.kE s i)))/\Hid (∀k,vo.ownBlock=some k->W0.heap.size<=k)) (fun _ v _=>ak-(RowKit.intOf v).toNat);case atStart=>exact⟨aI,0,rfl,qE _,GU,HB1⟩
 case round=>
  clear aI GU HB1 k0 k1;obtain⟨HO,i,rfl,hi,HV,HB⟩:=hrel;obtain⟨k0,k1⟩:=aF.out wr HO.out;by_cases ci:i<ak
  ·have hrow:=bK.out wr HO.out;have hrow0:=hrow;rw[<-aB.out]at hrow0;obtain⟨b,off,he,-,-⟩:=hrow0.at (by have:=aB.out;omega);subst he;obtain⟨y,hx⟩:=zG x.packs i zAt;obtain⟨cs,hl,hr,hC⟩:=hrow.get hx;clear hrow hrow0;obtain⟨o1,o2,o3,o4,o5,o6,c1,c2,c3,c4,c5,c6,rfl,-,-,-,-,b5,-,-,-⟩:=hC.cells;have hcell:=hr 4 _ rfl;have iE:=zw (i+1);have adg:=zh (EK b5 s);have hpk:x.pack i=y:=by unfold aQ.pack;rw[qC,hx];rfl
   have hsu:=x.KR s i;rw[hpk]at hsu;have HSu:=zh hsu;have hpl:(x.kE s i).length<=i:=by exact zGr
   obtain⟨bb,hbb⟩:=ze (iC y.provides s);rw[hbb]at HSu adg;clear hx hr hl hC b5 hsu hpk hbb;go_wp2_with fail;refine adg.out.mono ?_;rintro e w1 ⟨rfl,O1⟩;have aI:=zh (HO.out.same O1);have GU:=zh (aW HV.out O1 (fun _ _ f=>f));clear O1 adg;cases bb with
   |false=>
    have uN:Hid (w1.ownsRow 0 3 1 u5 (x.kE s (i+1)).length (eP (x.kE s (i+1)))):=by have h1:=HSu.out;simp at h1;rw[h1];exact GU.out
    go_wp2_with fail;go_roundw;case rel=>exact⟨aI,i+1,by first|rfl|go_num,by omega,uN,HB⟩
    case measure=>simp[RowKit.intOf]<;>omega
   |true=>
    obtain⟨au,cu,rfl,-,-⟩:=bg GU.out;go_wp2_with (at_builtin;go_must (refine Ai (u:=.int .i64 (i:Int)) ac7 rfl (.tmp 22) (.tmp 24) rfl rfl rfl (cell_new0 _ _ _) rfl (aW GU.out ((Only.refl (fun _=>False) _).alloc _) (fun _ _ f=>f)) zAA zC6 ?_));intro v' w2 r1 r2 r3;have uN:Hid (w2.ownsRow 0 3 1 v' (x.kE s (i+1)).length (eP (x.kE s (i+1)))):=by have h1:=HSu.out;simp at h1;rw[h1];simpa[eP,Hid]using r1
    have eF:=zh (((aI.out.alloc _).trans r2 fun k hk=>.inr (HB.out k hk)));have HB2:Hid (∀k,v'.ownBlock=some k->W0.heap.size<=k):=by
     intro k hk;obtain⟨g,cap',rfl,-,-,h|h⟩:=r3;·exact zFy
     exact zFM
    obtain⟨g,cap',rfl,-,-,-⟩:=r3;clear r1 r2;go_wp2_with fail;go_roundw;case rel=>exact⟨eF,i+1,by first|rfl|go_num,by omega,uN,HB2⟩
    case measure=>simp[RowKit.intOf]<;>omega
  obtain rfl:ak=i:=by omega
  go_wp2_with fail;go_ret;refine⟨_,rfl,?_,fun k hk=>by have:=HB.out k hk;have:=aV.out.size;omega,aV.out.same HO.out⟩;have:=HV.out;unfold aQ.oH;rw[aB.out];exact this
def aQ.nZ(x:aQ)(s:Str):Bool:=decide (x.find s<0)&&decide (0<(x.oH s).length)
theorem xZ{lC:List Value}{x:aQ}(hx:fO B w lC x)(hlen:x.packs.length<=1000000)(s:Str):Calls Tryz.prog 129 #[.agg lC.toArray,.string s] w fun e w'=>e= .returned (.bool (x.nZ s))/\O0 w w':=by
 obtain⟨aP,ak,aJ,aO,aG,aH,rfl,fF,fG,dP,dQ,aB,bJ,mY⟩:=open_rec hx;clear hx;try rw[aB.out]
 obtain⟨W0,hW0,aV,jK,aF⟩:=LW w (.slice aP ak aJ) (.slice aO aG aH) 25;obtain⟨eX,bK,bT⟩:=mY W0 aV.out;clear mY;rw[aB.out]at hlen;obtain⟨f,hf⟩:=ze (x.find s);obtain⟨np,hnp⟩:=ze ((x.oH s).length);have aZ:Hid (x.nZ s=(decide (f<0)&&decide (0<np))):=by unfold aQ.nZ;rw[hf,hnp];exact rfl
 have HF:Hid (∀W,O0 W0 W->Calls Tryz.prog 38 #[.agg #[.slice aP ak aJ,.slice aO aG aH],.string s] W fun e w'=>e= .returned (.int .i64 f)/\O0 W w'):=fun W hW=>by rw[<-hf];exact lI (eX.out W hW) s
 have LV:Hid (∀W,O0 W0 W->Calls Tryz.prog 124 #[.agg #[.slice aP ak aJ,.slice aO aG aH],.string s] W fun e w'=> ∃a c,e= .returned (.slice a np c)/\O0 W w'):=fun W hW=>by refine(zo (eX.out W hW) zAg s).mono ?_;rintro e w' ⟨v,rfl,r1,-,r3⟩;obtain⟨a,c,rfl,-,-⟩:=bg r1;exact⟨a,c,by rw[hnp],r3⟩
 obtain⟨r,hr⟩:=ze (x.nZ s);rw[hr];have HR0:=zh hr;clear hf hnp hr;go_enter Tryz.func129,Tryz.ntmps129;go_wp2_with fail;rw[<-hW0];clear hW0;obtain⟨k0,k1⟩:=aF.out W0 zr;go_wp2_with fail;refine(HF.out W0 zr).mono ?_;rintro e w1 ⟨rfl,O1⟩;have aI:=zh O1;clear O1 k0 k1;obtain⟨k0,k1⟩:=aF.out w1 aI.out;by_cases hf:f<0
 ·have hrr:r=decide (0<np):=by rw[<-HR0.out,aZ.out,qX hf];simp
  subst hrr;go_wp2_with fail;refine(LV.out w1 aI.out).mono ?_;rintro e w2 ⟨ap,cp,rfl,O2⟩;have eF:=zh (aI.out.same O2);clear O2;by_cases hp:0<np;·go_wp2_with fail;go_ret;exact⟨by rw[qX hp];first|rfl|simp,aV.out.same eF.out⟩
  go_wp2_with fail;go_ret;exact⟨by rw[qP hp];first|rfl|simp,aV.out.same eF.out⟩
 have hrr:r=false:=by rw[<-HR0.out,aZ.out,qP hf];simp
 subst hrr;exact zER
end
end Go.Proofs.YtdmmebjjojimiaaGreatDoor
namespace Go.Proofs
theorem zAD{p:Prop}(h:p:=by(intro w hSw;(try dsimp only at hSw);have q0:=HBV.out w hSw;have hrs:=(x9.out w hSw).1;have gs0:=hrs 0 _ rfl;have gs1:=hrs 1 _ rfl;rw[qF]at gs0;clear hrs;have hrz:=(jd.out w hSw).1;have nY:=hrz 0 _ rfl;have gz1:=hrz 1 _ rfl;rw[qF]at nY;clear hrz;go_simp<;>(try with_reducible rfl))):p:=h
theorem zDv{p:Prop}(h:p:=by
 go_wp2_with fail
 go_ret
 exact⟨rfl,aV.out.same gK.out⟩):p:=h
theorem zFa{p:Prop}(h:p:=by
 go_wp2_with fail
 go_roundw
 case rel=>exact⟨fK,k+1,true,by first|rfl|go_num,by omega,by first|rfl|simp,HA2⟩
 case measure=>simp[RowKit.intOf]<;>omega):p:=h
end Go.Proofs
namespace Go.Proofs.YtdmmebjjojimiaaGreatDoor
open Go.RowKit
section
variable {w w':World} {B:Nat}
attribute [local irreducible] wpQuiet
def LX(s:dM)(v:jm):Bool:=decide (v.name=s.name)&&iC v.values s.value
def KW(p:iI)(s:dM):Bool:=p.vars.any (LX s)
def gU(p:iI)(l:List dM):Bool:=l.all (KW p)
theorem iZ{α:Type}{g:α->Bool}{xs:List α}{k:Nat}{x:α}(hx:xs[k]? =some x):(xs.take (k+1)).any g=((xs.take k).any g||g x):=by rw[List.take_add_one,hx];simp[List.any_append]
theorem CU{LY:List Value}{p:iI}(hp:gY B w LY p){vl:Value}{l:List dM}(hl:aS 2 dO B w vl l):Calls Tryz.prog 127 #[.agg LY.toArray,vl] w fun e w'=>e= .returned (.bool (gU p l))/\O0 w w':=by
 obtain⟨mZ,jL,ng,lN,jA,lQ,gZ,ig,iq,pV,iF,ni,pW,iG,ny,kP,kQ,kR,rfl,zq,zu,zx,zy,lS,lT,BD,BF,BG,BH,uf,ug,pX,uQ,lU,rZ,su,uh,Z5⟩:=iO hp;clear hp;obtain⟨a_l,kH,CO,rfl,Ym,JK,tZ,EL⟩:=tY hl;clear hl;obtain⟨W0,hW0,aV,jK,aF⟩:=aiv w (.string p.name) (.int .i64 p.line) (.slice mZ jL ng) (.slice lN jA lQ) (.slice gZ ig iq) (.slice pV iF ni) (.slice pW iG ny) (.slice kP kQ kR) 101;obtain⟨VO,uj,qy,kJ,um,uo,pY⟩:=Z5 W0 aV.out;clear Z5;have nO:=EL W0 aV.out;clear EL;clear zq zu pX uj lS lT lU kJ BD BF rZ um BG BH su uo uf ug uh pY;obtain⟨r,hr⟩:=ze (gU p l);rw[hr];have aZ:=zh hr;clear hr;go_enter Tryz.func127,Tryz.ntmps127;go_wp2_with fail;rw[<-hW0];clear hW0;have HBV:Hid (∀W,O0 W0 W->W.cell? ⟨w.heap.size,3,none⟩=some (.slice lN jA lQ)):=fun W ho=>(aF.out W ho).2.2.2.1;clear aF;have fQ:Hid (O0 W0 W0):=Only.refl _ _;go_wp2_with fail;go_loopw [10] (fun vi bD=>Hid (O0 W0 bD)/\∃i:Nat,vi= .int .i64 i/\i<=kH/\Hid (∀s∈l.take i,KW p s=true)) (fun v _=>kH-(RowKit.intOf v).toNat);case atStart=>exact⟨fQ,0,rfl,qE _,show Hid _ from fun v hv=>by simp at hv⟩
 case round=>
  obtain⟨bD,rfl⟩:=zB wr;clear fQ;obtain⟨gK,i,rfl,hi,HZ⟩:=hrel;by_cases ci:i<kH
  ·have iE:=zw (i+1);obtain⟨ys,hxs⟩:=zG l i zAy;obtain⟨X5,Gv,hes,Iy,Yn,uS⟩:=uO (nO.out W0 zr) hxs;first|subst hes| (simp only[qG,qO,and_true]at hes;obtain⟨rfl,rfl⟩:=hes)
   have x9:=zh uS;have AV:=zh hxs;clear uS hxs;have fQ:=gK;have q0:=HBV.out bD gK.out;go_wp2_with fail;clear q0;go_loopw [16,6] (fun vk vf iJ=>Hid (O0 W0 iJ)/\∃(k:Nat) (f:Bool),vk= .int .i64 k/\k<=jA/\vf= .bool f/\Hid ((p.vars.take k).any (LX ys)=f)) (fun v _ _=>jA-(RowKit.intOf v).toNat);case atStart=>exact⟨fQ,0,false,rfl,qE _,rfl,show Hid _ from rfl⟩
   case round=>
    obtain⟨iJ,rfl⟩:=zB wr;clear fQ;obtain⟨kU,k,f,rfl,hk,rfl,HA⟩:=hrel;by_cases ck:k<jA
    ·have ewk:=zw (k+1);obtain⟨yz,hxz⟩:=zG p.vars k (by rw[uQ.out];omega);obtain⟨JD,vP,vW,vX,vY,qc,wC,AX,jM⟩:=FY (qy.out W0 zr) hxz;first|subst qc| (simp only[qG,qO,and_true]at qc;obtain⟨rfl,rfl⟩:=qc)
     have jd:=zh jM;have vS:=zh hxz;clear jM hxz wC;have Yo:Hid (∀W,O0 W0 W->aS 1 bU B W (.slice vW vX vY) yz.values):=fun W ho=>(jd.out W ho).2.1;have hrs:=(x9.out iJ kU.out).1;have gs0:=hrs 0 _ rfl;have gs1:=hrs 1 _ rfl;rw[qF]at gs0;clear hrs;have hrz:=(jd.out iJ kU.out).1;have nY:=hrz 0 _ rfl;have gz1:=hrz 1 _ rfl;rw[qF]at nY;clear hrz;have q0:=HBV.out iJ kU.out;have hbd:=fP yz.name ys.name;obtain⟨bb,hbb⟩:∃b,decide (yz.name=ys.name)=b:=⟨_,rfl⟩;rw[hbb]at hbd;have HBB:=zh hbb;clear hbb;cases f with
     |true=>
      go_wp2_with fail;refine aU (fun w'=>O0 W0 w') zk zk (by exact kU.out.drew) ?_;iterate 2 refine qV ?_
      iterate 26 refine qS ?_
      iterate 2 refine qV ?_
      refine wpQuiet_nil ?_;(intro w9 dR;have fK:=zh dR;clear dR);have HA2:Hid ((p.vars.take (k+1)).any (LX ys)=true):=by have h1:=iZ (g:=LX ys) vS.out;rw[HA.out]at h1;rw[Hid,h1];simp
      exact zFa
     |false=>
      cases bb with
      |false=>
       go_wp2_with fail;refine aU (fun w'=>O0 W0 w') zk zk (by exact kU.out.drew) ?_;iterate 3 refine qV ?_
       refine qV ?_ (hy:=zAD);iterate 3 refine qV ?_
       refine qV ?_ (hy:=zAD);iterate 4 refine qV ?_
       refine qV ?_ (hy:=zAD);iterate 2 refine qV ?_
       iterate 12 refine qS ?_
       iterate 3 refine qV ?_
       refine wpQuiet_nil ?_;(intro w9 dR;have fK:=zh dR;clear dR);have HA2:Hid ((p.vars.take (k+1)).any (LX ys)=false):=by have h1:=iZ (g:=LX ys) vS.out;rw[HA.out]at h1;rw[Hid,h1];simp only[LX,HBB.out];rfl
       go_wp2_with fail;go_roundw;case rel=>exact⟨fK,k+1,false,by first|rfl|go_num,by omega,by first|rfl|simp,HA2⟩
       case measure=>simp[RowKit.intOf]<;>omega
      |true=>
       go_wp2_with fail;refine aU (fun w'=>O0 W0 w') zk zk (by exact kU.out.drew) ?_;iterate 3 refine qV ?_
       refine qV ?_ (hy:=zAD);iterate 3 refine qV ?_
       refine qV ?_ (hy:=zAD);iterate 4 refine qV ?_
       refine qV ?_ (hy:=zAD);iterate 3 refine qV ?_
       refine qV ?_ (hy:=zAD);iterate 3 refine qV ?_
       refine qV ?_ (hy:=zAD);iterate 4 refine qV ?_
       refine qV ?_ (hy:=zAD);refine bF (v:=.bool (iC yz.values ys.value)) (f:=128) (args:= #[.slice vW vX vY,.string ys.value]) (by rfl) ?_ ?_ ?_;·(intro w;go_simp<;>(try with_reducible rfl))
       ·(intro w hSw;exact(EK (Yo.out w hSw) _).mono fun _ _ ⟨he,ho⟩=>⟨he,hSw.same ho⟩)
       try simp only[Act.put,dW,dX,dY]
       iterate 3 refine qV ?_
       refine wpQuiet_nil ?_;(intro w9 dR;have fK:=zh dR;clear dR);have HA2:Hid ((p.vars.take (k+1)).any (LX ys)=(iC yz.values ys.value)):=by have h1:=iZ (g:=LX ys) vS.out;rw[HA.out]at h1;rw[Hid,h1];simp only[LX,HBB.out];simp
       go_wp2_with fail;go_roundw;case rel=>exact⟨fK,k+1,(iC yz.values ys.value),by first|rfl|go_num,by omega,by first|rfl|simp,HA2⟩
       case measure=>simp[RowKit.intOf]<;>omega
    obtain rfl:jA=k:=by omega
    have HS:Hid (KW p ys=f):=by have h1:=HA.out;rw[qI (yG uQ.out)]at h1;exact h1
    cases f with
    |false=>
     have hrf:r=false:=by rw[<-aZ.out,Bool.eq_false_iff];intro h;have:=List.all_eq_true.1 h ys (qT AV.out);rw[HS.out]at this;cases this
     subst hrf;go_wp2_with fail;go_ret;exact⟨rfl,aV.out.same kU.out⟩
    |true=>
     have HZ2:Hid (∀s∈l.take (i+1),KW p s=true):=fun v hv=>by
      rcases bH AV.out hv with h|rfl;·exact HZ.out v h
      exact HS.out
     go_wp2_with fail;go_roundw;case rel=>exact⟨kU,i+1,by first|rfl|go_num,by omega,HZ2⟩
     case measure=>simp[RowKit.intOf]<;>omega
  obtain rfl:kH=i:=by omega
  have hrt:r=true:=by rw[<-aZ.out];refine List.all_eq_true.2 fun v hv=>HZ.out v ?_;rw[qI (yG tZ.out)];exact hv
  subst hrt;exact zDv
end
end Go.Proofs.YtdmmebjjojimiaaGreatDoor
namespace Go.Proofs
theorem zAW{p:Prop}(h:p:=by(intro w hSw;(try dsimp only at hSw);obtain⟨k0,k1,k2,k3,k4⟩:=aF.out w hSw;have fJ:=(jq.out w hSw).1;have Bv:=fJ 0 _ rfl;have Qr:=fJ 1 _ rfl;have gy2:=fJ 2 _ rfl;have gy3:=fJ 3 _ rfl;have gy4:=fJ 4 _ rfl;have gy5:=fJ 5 _ rfl;have gy6:=fJ 6 _ rfl;have gy7:=fJ 7 _ rfl;rw[qF]at Bv;clear fJ;go_simp<;>(try with_reducible rfl))):p:=h
theorem zA6{p:Prop}(h:p:=by unfold aQ.pack;rw[qC,xR.out];rfl):p:=h
theorem zDk{p:Prop}(h:p:=by
 go_wp2_with fail
 go_ret
 exact⟨rfl,aV.out.same fK.out⟩):p:=h
theorem zD7{p:Prop}(h:p:=by
 go_wp2_with fail
 go_ret
 exact⟨rfl,aV.out.same eF.out⟩):p:=h
theorem zGP{p:Prop}(h:p:=by
 subst hres
 clear aZ
 exact zD7):p:=h
end Go.Proofs
namespace Go.Proofs.YtdmmebjjojimiaaGreatDoor
open Go.RowKit
section
variable {w w':World} {B:Nat}
attribute [local irreducible] wpQuiet
def JL:List rE->Bool
 | [a]=>a.lo.toList.isEmpty&&a.hi.toList.isEmpty
 |_=>false
def aQ.wish(x:aQ)(s:iW):Int:=
 if 0<=x.find s.name then (if gU (x.pack (x.find s.name).toNat) s.sets then 0 else 8)
 else if x.nZ s.name then (if 0<s.sets.length then 9 else if JL s.spans then 0 else 9)else 7
theorem Ns{lC:List Value}{x:aQ}(hx:fO B w lC x){css:List Value}{s:iW}(hs:dJ B w css s)(hlen:x.packs.length<=1000000):Calls Tryz.prog 56 #[.agg lC.toArray,.agg css.toArray] w fun e w'=>e= .returned (.int .u8 (x.wish s))/\O0 w w':=by
 obtain⟨aP,ak,aJ,aO,aG,aH,rfl,fF,fG,dP,dQ,aB,bJ,mY⟩:=open_rec hx;clear hx;try rw[aB.out]
 obtain⟨lJ,jk,lK,lV,jB,lW,rfl,JM,JO,Nu,Nv,oP,EM,F_s⟩:=FX hs;clear hs;obtain⟨W0,hW0,aV,jK,aF⟩:=ac9 w (.slice aP ak aJ) (.slice aO aG aH) (.string s.name) (.slice lJ jk lK) (.slice lV jB lW) 25 108;obtain⟨eX,bK,bT⟩:=mY W0 aV.out;clear mY;obtain⟨agu,wE,yZ⟩:=F_s W0 aV.out;clear F_s;rw[aB.out]at hlen;obtain⟨f,hf⟩:=ze (x.find s.name);obtain⟨vb,hvb⟩:=ze (x.nZ s.name);have Gw:=x.uM s.name;rw[hf,aB.out]at Gw;have HF:Hid (∀W,O0 W0 W->Calls Tryz.prog 38 #[.agg #[.slice aP ak aJ,.slice aO aG aH],.string s.name] W fun e w'=>e= .returned (.int .i64 f)/\O0 W w'):=fun W hW=>by rw[<-hf];exact lI (eX.out W hW) s.name
 have HVt:Hid (∀W,O0 W0 W->Calls Tryz.prog 129 #[.agg #[.slice aP ak aJ,.slice aO aG aH],.string s.name] W fun e w'=>e= .returned (.bool vb)/\O0 W w'):=fun W hW=>by rw[<-hvb];exact xZ (eX.out W hW) zAg s.name
 obtain⟨r,hr⟩:=ze (x.wish s);rw[hr];have aZ:Hid (r=if 0<=f then (if gU (x.pack f.toNat) s.sets then 0 else 8)
  else if vb then (if 0<jB then 9 else if JL s.spans then 0 else 9)else 7):=by
  rw[<-hr,aQ.wish,hf,hvb,EM.out]
  exact rfl
 clear hf hvb hr;go_enter Tryz.func56,Tryz.ntmps56;go_wp2_with fail;rw[<-hW0];clear hW0;obtain⟨k0,k1,k2,k3,k4⟩:=aF.out W0 zr;go_wp2_with fail;refine(HF.out W0 zr).mono ?_;rintro e w1 ⟨rfl,O1⟩;have aI:=zh O1;clear O1 k0 k1 k2 k3 k4;obtain⟨k0,k1,k2,k3,k4⟩:=aF.out w1 aI.out;by_cases hf:0<=f
 ·obtain⟨i,rfl⟩:∃i:Nat,f=i:=⟨f.toNat,by omega⟩;have ci:i<ak:=zAA;obtain⟨yy,hxy⟩:=zG x.packs i zAt;obtain⟨AY,mF,og,jo,oh,sO,sQ,sS,xE,uT,xG,yc,uG,yg,EN,AZ,EO,CV,zA,CW,oq,kF,nP,rQ,qB,uU,uV,yh,Ef,je⟩:=jy (bK.out W0 zr) hxy;first|subst oq| (simp only[qG,qO,and_true]at oq;obtain⟨rfl,rfl⟩:=oq)
  have jq:=zh je;have xR:=zh hxy;clear je hxy kF nP rQ qB uU uV;have Z7:Hid (∀W,O0 W0 W->gY B W [.string yy.name,.int .i64 yy.line,.slice og jo oh,.slice sO sQ sS,.slice xE uT xG,.slice yc uG yg,.slice EN AZ EO,.slice CV zA CW] yy):=fun W ho=>(jq.out W ho).2.2.2.2.2.2.2;have hpk:x.pack i=yy:=zA6;obtain⟨sb,hsb⟩:=ze (gU yy s.sets);have hres:=aZ.out;rw[if_pos hf,yT,hpk,hsb]at hres;have Ij:Hid (∀W,O0 W0 W->Calls Tryz.prog 127 #[.agg #[.string yy.name,.int .i64 yy.line,.slice og jo oh,.slice sO sQ sS,.slice xE uT xG,.slice yc uG yg,.slice EN AZ EO,.slice CV zA CW],.slice lV jB lW] W fun e w'=>e= .returned (.bool sb)/\O0 W w'):=fun W hW=>by rw[<-hsb];exact CU (Z7.out W hW) (yZ.out W hW)
  clear hpk hsb;go_wp2_with fail;refine aU (fun w'=>O0 W0 w') zk zk (by exact(aI.out).drew) ?_;refine qV ?_;refine qV ?_ (hy:=zAW);iterate 2 refine qV ?_
  refine qV ?_ (hy:=zAW);refine qV ?_;refine qV ?_ (hy:=zAW);refine bF (v:=.bool sb) (f:=127) (args:= #[.agg #[.string yy.name,.int .i64 yy.line,.slice og jo oh,.slice sO sQ sS,.slice xE uT xG,.slice yc uG yg,.slice EN AZ EO,.slice CV zA CW],.slice lV jB lW]) (by rfl) ?_ ?_ ?_;·(intro w;go_simp<;>(try with_reducible rfl))
  ·(intro w hSw;exact(Ij.out w hSw).mono fun _ _ ⟨he,ho⟩=>⟨he,hSw.same ho⟩)
  try simp only[Act.put,dW,dX,dY]
  refine qV ?_;refine wpQuiet_nil ?_;(intro w9 dR;have fK:=zh dR;clear dR);cases sb with
  |true=>rw[if_pos rfl]at hres;subst hres;clear aZ;exact zDk
  |false=>rw[if_neg zAP]at hres;subst hres;clear aZ;exact zDk
 have hf2:f<0:=by omega
 go_wp2_with fail;refine(HVt.out w1 aI.out).mono ?_;rintro e w2 ⟨rfl,O2⟩;have eF:=zh (aI.out.same O2);clear O2 HF HVt;clear k0 k1 k2 k3 k4;obtain⟨k0,k1,k2,k3,k4⟩:=aF.out w2 eF.out;have hres:=aZ.out;rw[if_neg (by omega:¬(0<=f))]at hres;cases vb with
 |false=>
  replace hres:r=7:=by simpa using hres
  exact zGP
 |true=>
  rw[if_pos rfl]at hres;by_cases c1:0<jB;·rw[if_pos c1]at hres;exact zGP
  rw[if_neg c1]at hres;by_cases c2:jk=1
  ·have c3:0<jk:=by omega
   subst c2;obtain⟨yz,hxz⟩:=zG s.spans 0 (by rw[oP.out];omega);obtain⟨JD,vP,qc,AX,He,jM⟩:=VL (wE.out W0 zr) hxz;first|subst qc| (simp only[qG,qO,and_true]at qc;obtain⟨rfl,rfl⟩:=qc)
   have jd:=zh jM;have vS:=zh hxz;clear jM hxz;obtain⟨za,hza⟩:=List.length_eq_one_iff.1 oP.out;have hzz:za=yz:=by have:=vS.out;rw[hza]at this;simpa using this
   subst hzz;rw[hza]at hres;clear hza;obtain⟨b1,hb1⟩:=ze za.lo.toList.isEmpty;obtain⟨b2,hb2⟩:=ze za.hi.toList.isEmpty;simp only[JL,hb1,hb2]at hres;have hrz:=(jd.out w2 eF.out).1;have nY:=hrz 0 _ rfl;have gz1:=hrz 1 _ rfl;rw[qF]at nY;clear hrz;simp only[Nat.zero_mul,qF]at nY gz1;cases b1 with
   |false=>
    replace hres:r=9:=by simpa using hres
    exact zGP
   |true=>
    cases b2 with
    |false=>
     replace hres:r=9:=by simpa using hres
     exact zGP
    |true=>
     replace hres:r=0:=by simpa using hres
     subst hres;clear aZ;go_wp2_with fail;exact zD7
  have c3:((jk:Int)==1)=false:=by rw[yC];omega
  replace hres:r=9:=by
   rw[hres,if_neg];intro h;have:=oP.out;unfold JL at h;split at h;·next h2=>rw[h2]at this;simp at this;omega
   cases h
  exact zGP
end
end Go.Proofs.YtdmmebjjojimiaaGreatDoor
