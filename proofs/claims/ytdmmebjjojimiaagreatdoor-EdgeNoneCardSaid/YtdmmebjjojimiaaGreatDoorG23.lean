/- The document's virtual names, weak: some texts. Printed by gen_so1.py.; Maps from a key to a row of numbers that a call makes: what they hold, in plain words. -/
import Derived.Test.YtdmmebjjojimiaaGreatDoorG22
import Derived.Test.YtdmmebjjojimiaaGreatDoorG17
import Derived.DeepKeys5
set_option maxRecDepth 100000
set_option maxHeartbeats 8000000
set_option linter.all false
namespace Go.Proofs
theorem zAZ{p:Prop}(h:p:=by(intro w hSw;(try dsimp only at hSw);obtain⟨k0,k1,k2⟩:=aG.out w (gV.out.same hSw);have gl0:=U6.out w (adh.out.same hSw);have dM:=(je.out w (gV.out.same hSw)).1;have Ag:=dM 5 _ rfl;clear dM;go_simp<;>(try with_reducible rfl))):p:=h
theorem zAf{p:Prop}(h:p:=by(intro w hSw;(try dsimp only at hSw);obtain⟨k0,k1,k2⟩:=aG.out w (gV.out.same hSw);have hrr:=(Qh.out w (gV.out.same hSw)).1;have RQ:=hrr 0 _ rfl;rw[qF]at RQ;clear hrr;go_simp<;>(try with_reducible rfl))):p:=h
theorem zAq{p:Prop}(h:p:=by(intro w hSw;(try dsimp only at hSw);obtain⟨k0,k1,k2⟩:=aG.out w (mX.out.same hSw);have hrz:=(nV.out w (mX.out.same hSw)).1;have yY:=hrz 0 _ rfl;rw[qF]at yY;clear hrz;go_simp<;>(try with_reducible rfl))):p:=h
theorem zB0{p:Prop}(h:p:=by intro u hu;unfold fD at hu;obtain⟨s2,-,rfl⟩:=yD.1 hu;rfl):p:=h
theorem zEF{p:Prop}(h:p:=by
 rcases qW.1 h with h|h
 ·exact mX.out t (List.mem_of_mem_take h)
 ·simp at h;rw[h];exact HSk.out):p:=h
theorem zEL{p:Prop}(h:p:=by
 rcases s1 k hk with h|h
 ·simp[Value.ownBlock]at h;subst h;exact qH _
 ·simp at h;omega):p:=h
theorem zEW{p:Prop}(h:p:=by
 have:=DX.out
 simp[fD,Hid]
 omega):p:=h
end Go.Proofs
namespace Go.Proofs.YtdmmebjjojimiaaGreatDoor
open Go.RowKit
section
variable {w w':World} {B:Nat}
theorem EI{P:Program}{t e:TypeId}{i:TypeInfo}(ht:P.underlying t=some (.slice e))(hi:P.info? e=some i)(hs:i.size=1)(ao:Option Addr)(m k cap:Nat)(hk:k<=cap)(W:World):(Instr.slice t (.slice ao m cap) none (some (.int .i64 (k:Int))) none).run P W= .ok (.slice ao k cap) W:=by
 have h1:(0:Int)<=(k:Int)/\(k:Int)<=(cap:Int):=⟨by omega,by omega⟩;cases ao with
 |none=>simp[Instr.slice,Instr.sliceBounds,Instr.sliceBound,run_underlying ht,sizeOf,typeInfo,hi,hs,asIntOf,Addr.add,hk,h1]
 |some a=>simp[Instr.slice,Instr.sliceBounds,Instr.sliceBound,run_underlying ht,sizeOf,typeInfo,hi,hs,asIntOf,Addr.add,hk,h1]
def Dl(ao:Option Addr)(k cap:Nat):Option Addr:=ao.map fun a=>if cap=k then a else a.add k
theorem Va{ao:Option Addr}{k cap:Nat}(h:(if cap=k then ao else Option.map (fun x=>x.add k) ao)=none):ao=none:=by
 cases ao with
 |none=>rfl
 |some a=>split at h<;>simp at h
theorem Bv{P:Program}{t e:TypeId}{i:TypeInfo}(ht:P.underlying t=some (.slice e))(hi:P.info? e=some i)(hs:i.size=1)(ao:Option Addr)(m k cap:Nat)(hk:k<=m)(hm:m<=cap)(W:World):(Instr.slice t (.slice ao m cap) (some (.int .i64 (k:Int))) none none).run P W= .ok (.slice (Dl ao k cap) (m-k) (cap-k)) W:=by
 have h1:(0:Int)<=(k:Int)/\(k:Int)<=(m:Int):=⟨by omega,by omega⟩;cases ao with
 |none=>simp[Dl,Instr.slice,Instr.sliceBounds,Instr.sliceBound,run_underlying ht,sizeOf,typeInfo,hi,hs,asIntOf,Addr.add,hk,h1]
 |some a=>
  simp[Dl,Instr.slice,Instr.sliceBounds,Instr.sliceBound,run_underlying ht,sizeOf,typeInfo,hi,hs,asIntOf,Addr.add,hk,h1];by_cases hc:cap=k;·simp[hc]
  simp[hc]
theorem uq{ao:Option Addr}{n cap:Nat}{l:List Str}(h:aQ 1 fM B w (.slice ao n cap) l):(∀ad,ao=some ad->∀j u,(fD l)[j]? =some u->w.cell? (ad.add j)=some u)/\(ao=none->n=0/\cap=0)/\l.length=n/\n<=cap:=by
 obtain⟨a2,c2,e,h1,h2⟩:=h.shape;simp only[qU]at e;obtain⟨rfl,rfl,rfl⟩:=e;refine⟨fun ad had j u hu=>?_,fun e=>h.nil _ _ zB6,rfl,h1⟩;have hj:j<l.length:=by have:=(qJ.1 hu).1;simpa[fD]using this
 obtain⟨b,off,he,hb,hB,hc⟩:=h.cells _ _ _ rfl zBk;rw[had]at he;obtain rfl:=Option.some.inj he;obtain⟨cs,hl,hr,hC⟩:=hc j hj;obtain⟨rfl,-⟩:=hC;have h0:=hr 0 _ rfl;rw[yH,qF]at h0;rw[Go.WideShapes.add_plain,h0,<-hu];simp[fD,hj]
theorem Ho{ao:Option Addr}{n cap:Nat}{l:List Str}(h:aQ 1 fM B w (.slice ao n cap) l)(k:Nat):∀ad,ao=some ad->∀j u,(fD (l.take k))[j]? =some u->w.cell? (ad.add j)=some u:=fun ad had j u hu=>
 (uq h).1 ad had j u (by
  unfold fD at hu⊢
  rw[List.map_take,List.getElem?_take]at hu
  split at hu
  ·exact hu
  ·cases hu)
theorem MW{ao:Option Addr}{n cap:Nat}{l:List Str}(h:aQ 1 fM B w (.slice ao n cap) l){k:Nat}:∀ad,Dl ao k cap=some ad->∀j u,(fD (l.drop k))[j]? =some u->w.cell? (ad.add j)=some u:=fun ad had j u hu=>by
 obtain⟨h1,h2,h3,h4⟩:=uq h
 have hj:j<l.length-k:=by
  have:=(qJ.1 hu).1
  simpa[fD]using this
 obtain⟨b,off,he,-,-,-⟩:=h.cells _ _ _ rfl zBk
 subst he
 unfold Dl at had
 simp only[Option.map_some,qG]at had
 rw[if_neg zBk]at had
 subst had
 have hu2:(fD l)[k+j]? =some u:=by
  unfold fD at hu⊢
  rw[List.map_drop,List.getElem?_drop]at hu
  exact hu
 have:=h1 _ rfl (k+j) u hu2
 rw[Go.WideShapes.add_plain]at this
 rw[Go.WideShapes.add_plain,Go.WideShapes.add_plain,Nat.add_assoc]
 exact this
def FQ(n:Nat)(w w':World)(e:Ending):Prop:= ∃v l,e= .returned v/\aQ 1 fM w'.heap.size w' v l/\l.length<=n/\O0 w w'
theorem FQ.own{n:Nat}{v:Value}{m:Nat}{l:List Str}{e:Ending}(he:e= .returned v)(hl:l.length=m)(h:w'.ownsRow 0 9 1 v m (fD l))(hk:∀s∈l,okS s)(hn:m<=n)(ho:O0 w w'):FQ n w w' e:=
 ⟨v,l,he,vZ hl h hk,by omega,ho⟩
theorem MX{vl:Value}{l:List Str}(hl:aQ 1 fM B w vl l)(hBw:B<=w.heap.size)(hlen:l.length<=2000000)(s:Str)(hs:okS s):Calls Tryz.prog 215 #[vl,.string s] w fun e w'=>FQ (l.length+1) w w' e:=by
 obtain⟨a_l,wu,IG,rfl,g_l,aby,DX,Yu⟩:=open_strs hl;clear hl;obtain⟨W0,hW0⟩:=zB w;have bW:Hid (O0 w W0):=zA6;have wM:=Yu W0 bW.out;clear Yu;have HSk:=zh hs;have HBw:=zh hBw;have mX:Hid (∀t∈l,okS t):=fun t ht=>by obtain⟨cs,hC⟩:=(wM.out W0 zr).all t ht;exact hC.2
 rw[DX.out]at hlen;subst hW0;go_enter Tryz.func215,Tryz.ntmps215;go_wp2_with fail;go_loopw [5] (fun vi dG=>Hid (O0 W0 dG)/\∃i:Nat,vi= .int .i64 i/\i<=wu) (fun v _=>wu-(RowKit.intOf v).toNat);case atStart=>exact⟨show Hid _ from Only.refl _ _,0,rfl,qE _⟩
 case round=>
  obtain⟨dG,rfl⟩:=zB wr;obtain⟨gV,i,rfl,hi⟩:=hrel;by_cases ci:i<wu
  ·have jh:=zw (i+1);obtain⟨yu,hxu⟩:=zG l i zA1;obtain⟨Wh,Ea,heu,ac3,Hf⟩:=uy (wM.out W0 zr) hxu;first|subst heu| (simp only[qG,qO,and_true]at heu;obtain⟨rfl,rfl⟩:=heu)
   have FK:=zh Hf;clear Hf hxu;have mM:=(FK.out dG gV.out).1;have vU:=mM 0 _ rfl;rw[qF]at vU;rw[yH]at vU;clear mM;have hbd:=jZ yu s;obtain⟨b1,e1⟩:=ze (Op.bytesLess yu.toList s.toList);cases b1 with
   |true=>exact zCY
   |false=>
    by_cases hy:yu=s;·rw[qX hy]at hbd;clear hy;go_wp2_with fail;go_ret;exact⟨_,l,rfl,(wM.out dG gV.out).lift fM.lift (qR HBw.out (bW.out.same gV.out).size) (qH _),by have:=DX.out;omega,bW.out.same gV.out⟩
    rw[qP hy]at hbd;clear hy;have ah8:∀W,(Instr.slice 81 (.slice (some ⟨Wh,Ea,none⟩:Option Addr) wu IG) none (some (.int .i64 (i:Int))) none).run Tryz.prog W= .ok (.slice (some ⟨Wh,Ea,none⟩:Option Addr) i IG) W:=fun W=>by obtain⟨ii,zz,t1,t2,t3,-,-⟩:=nH.info;exact EI (P:=Tryz.prog) nH.und t1 t3 (some ⟨Wh,Ea,none⟩:Option Addr) wu i IG zBk W
    have ap5:∀W,(Instr.slice 81 (.slice (some ⟨Wh,Ea,none⟩:Option Addr) wu IG) (some (.int .i64 (i:Int))) none none).run Tryz.prog W= .ok (.slice (Dl (some ⟨Wh,Ea,none⟩:Option Addr) i IG) (wu-i) (IG-i)) W:=fun W=>by obtain⟨ii,zz,t1,t2,t3,-,-⟩:=nH.info;exact Bv (P:=Tryz.prog) nH.und t1 t3 (some ⟨Wh,Ea,none⟩:Option Addr) wu i IG zAC zBk W
    have XH:Hid ((some ⟨Wh,Ea,none⟩:Option Addr)=none->i=0/\IG=0):=fun e=>by have h:=(uq (wM.out W0 zr)).2.1 e;omega
    have FB:Hid (Dl (some ⟨Wh,Ea,none⟩:Option Addr) i IG=none->wu-i=0/\IG-i=0):=fun e=>by
     have e2:(some ⟨Wh,Ea,none⟩:Option Addr)=none:=by
      unfold Dl at e
      cases(some ⟨Wh,Ea,none⟩:Option Addr)with
      |none=>rfl
      |some a=>simp at e
     have h:=(uq (wM.out W0 zr)).2.1 e2;omega
    have Tj:Hid ((fD (l.take i)).length=i):=by exact zEW
    have HLd:Hid ((fD (l.drop i)).length=wu-i):=by exact zEW
    go_wp2_with (at_builtin;go_must (first
     | (refine KO nH rfl (.tmp 35) (.tmp 38) rfl rfl (BQ dG) rfl Tj.out XH.out (Ho (wM.out _ (gV.out.alloc _)) i) zB0 zBk zBl ?_)))
    intro v1 w1 r1 o1 s1;have bM:Hid (O0 dG w1):=(zr.alloc _).trans o1 fun k hk=>.inr (by simp[Value.ownBlock]at hk;subst hk;exact qH _);have HB1:Hid (∀k,v1.ownBlock=some k->dG.heap.size<=k):=fun k hk=>by exact zEL
    have BJ:Hid (w1.ownsRow 0 9 1 v1 i (fD (l.take i))):=by simpa[Hid]using r1
    try rw[Nat.zero_add]at r1
    obtain⟨a1,c1,rfl,-,-⟩:=aC r1;clear r1 o1 s1 Tj XH ah8;go_wp2_with (at_builtin;go_must (refine tC (u:=.string s) nH rfl (.tmp 40) (.tmp 42) rfl rfl rfl (cell_new0 _ _ _) rfl (aI BJ.out ((Only.refl (fun _=>False) _).alloc _) (fun _ _ f=>f)) zBk zBl ?_));intro v2 w2 r2 o2 s2;have fK:Hid (O0 dG w2):=(bM.out.alloc _).trans o2 fun k hk=>.inr (HB1.out k hk);have HB2:Hid (∀k,v2.ownBlock=some k->dG.heap.size<=k):=by
     intro k hk;obtain⟨g,cap',rfl,-,-,h|h⟩:=s2;·simp[Value.ownBlock]at hk;subst hk;exact HB1.out _ h
     exact zC9
    have Ae:Hid (w2.ownsRow 0 9 1 v2 (i+1) (fD (l.take i)++[.string s])):=r2;obtain⟨a2,c2,rfl,-,-⟩:=aC r2;clear r2 o2 s2 BJ HB1 bM;go_wp2_with (at_builtin;go_must (refine KO nH rfl (.tmp 44) (.tmp 47) rfl rfl Ae.out rfl HLd.out FB.out (MW (wM.out _ (gV.out.same fK.out))) zB0 zBk zBl ?_));intro v3 w3 r3 o3 s3;have mO:Hid (O0 dG w3):=fK.out.trans o3 fun k hk=>.inr (HB2.out k hk);have Tq:Hid (w3.ownsRow 0 9 1 v3 (i+1+(wu-i)) (fD (l.take i++[s]++l.drop i))):=by simpa[fD,Hid]using r3
    clear r3 o3 s3;obtain⟨a3,c3,rfl,-,-⟩:=aC Tq.out;go_wp2_with fail;go_ret;refine FQ.own rfl (by have:=DX.out;simp;omega) Tq.out (fun t ht=>?_) zBH (bW.out.same (gV.out.same mO.out));rcases qW.1 ht with h|h;·exact zEF
    exact mX.out t (List.mem_of_mem_drop h)
  have ci0:wu=i:=by omega
  have ci1:decide ((i:Int)<(wu:Int))=false:=qP zBk;have hin:¬(i:Int)<(wu:Int):=zBk;have HDr:Hid (l.drop i=[]):=List.drop_eq_nil_of_le zBH;have HDl:Hid ((fD (l.drop i)).length=0):=by rw[HDr.out];rfl
  have HNz:Hid (a_l=none->IG=0):=fun e=>((uq (wM.out W0 zr)).2.1 e).2;have ah8:∀W,(Instr.slice 81 (.slice a_l wu IG) none (some (.int .i64 (i:Int))) none).run Tryz.prog W= .ok (.slice a_l i IG) W:=fun W=>by obtain⟨ii,zz,t1,t2,t3,-,-⟩:=nH.info;exact EI (P:=Tryz.prog) nH.und t1 t3 a_l wu i IG zBk W
  have ap5:∀W,(Instr.slice 81 (.slice a_l wu IG) (some (.int .i64 (i:Int))) none none).run Tryz.prog W= .ok (.slice (Dl a_l i IG) (wu-i) (IG-i)) W:=fun W=>by obtain⟨ii,zz,t1,t2,t3,-,-⟩:=nH.info;exact Bv (P:=Tryz.prog) nH.und t1 t3 a_l wu i IG zAC zBk W
  have XH:Hid (a_l=none->i=0/\IG=0):=fun e=>by have h:=(uq (wM.out W0 zr)).2.1 e;omega
  have FB:Hid (Dl a_l i IG=none->wu-i=0/\IG-i=0):=fun e=>by
   have e2:a_l=none:=by
    unfold Dl at e
    cases a_l with
    |none=>rfl
    |some a=>simp at e
   have h:=(uq (wM.out W0 zr)).2.1 e2;omega
  have Tj:Hid ((fD (l.take i)).length=i):=by exact zEW
  have HLd:Hid ((fD (l.drop i)).length=wu-i):=by exact zEW
  go_wp2_with (at_builtin;go_must (first
   | (refine KO nH rfl (.tmp 35) (.tmp 38) rfl rfl (BQ dG) rfl Tj.out XH.out (Ho (wM.out _ (gV.out.alloc _)) i) zB0 zBk zBl ?_)))
  intro v1 w1 r1 o1 s1;have bM:Hid (O0 dG w1):=(zr.alloc _).trans o1 fun k hk=>.inr (by simp[Value.ownBlock]at hk;subst hk;exact qH _);have HB1:Hid (∀k,v1.ownBlock=some k->dG.heap.size<=k):=fun k hk=>by exact zEL
  have BJ:Hid (w1.ownsRow 0 9 1 v1 i (fD (l.take i))):=by simpa[Hid]using r1
  try rw[Nat.zero_add]at r1
  obtain⟨a1,c1,rfl,-,-⟩:=aC r1;clear r1 o1 s1 Tj XH ah8;go_wp2_with (at_builtin;go_must (refine tC (u:=.string s) nH rfl (.tmp 40) (.tmp 42) rfl rfl rfl (cell_new0 _ _ _) rfl (aI BJ.out ((Only.refl (fun _=>False) _).alloc _) (fun _ _ f=>f)) zBk zBl ?_));intro v2 w2 r2 o2 s2;have fK:Hid (O0 dG w2):=(bM.out.alloc _).trans o2 fun k hk=>.inr (HB1.out k hk);have HB2:Hid (∀k,v2.ownBlock=some k->dG.heap.size<=k):=by
   intro k hk;obtain⟨g,cap',rfl,-,-,h|h⟩:=s2;·simp[Value.ownBlock]at hk;subst hk;exact HB1.out _ h
   exact zC9
  have Ae:Hid (w2.ownsRow 0 9 1 v2 (i+1) (fD (l.take i)++[.string s])):=r2;obtain⟨a2,c2,rfl,-,-⟩:=aC r2;clear r2 o2 s2 BJ HB1 bM;go_wp2_with (at_builtin;go_must (refine KO nH rfl (.tmp 44) (.tmp 47) rfl rfl Ae.out rfl HDl.out (by intro h9;have h7:=HNz.out (Va h9);omega) (fun ad _ j u hu=>by rw[HDr.out]at hu;simp[fD]at hu) zB0 zBk zBl ?_));all_goals
   intro v3 w3 r3 o3 s3;have mO:Hid (O0 dG w3):=fK.out.trans o3 fun k hk=>.inr (HB2.out k hk);have Tq:Hid (w3.ownsRow 0 9 1 v3 (i+1) (fD (l.take i++[s]++l.drop i))):=by simpa[fD,Hid]using r3
   clear r3 o3 s3;obtain⟨a3,c3,rfl,-,-⟩:=aC Tq.out;go_wp2_with fail;go_ret;refine FQ.own rfl (by have:=DX.out;simp;omega) Tq.out (fun t ht=>?_) zBH (bW.out.same (gV.out.same mO.out));rcases qW.1 ht with h|h;·exact zEF
   exact mX.out t (List.mem_of_mem_drop h)
theorem ints_at{ao:Option Addr}{n cap:Nat}{xs:List Int}(h:Ints w (.slice ao n cap) xs){i:Nat}{z:Int}(hz:xs[i]? =some z):∃bl ol,ao=some ⟨bl,ol,none⟩/\Hid (∀W,O0 w W->W.cell? ⟨bl,ol+i,none⟩=some (.int .i64 z)):=by have hi:=(qJ.1 hz).1;obtain⟨b,off,he,-,hc⟩:=h.cells _ _ _ rfl zBk;refine⟨b,off,he,fun W ho=>?_⟩;have h0:=hc i hi;rw[qC,hz]at h0;exact dh h0 ho (fun f=>f)
theorem Vd{tZ:List Value}{x:aH}(hx:jl B w tZ x){Iy:List Value}{q:fV}(hq:mV B w Iy q)(ok:ZO x q (x.closure q.names)):Calls Tryz.prog 141 #[.agg tZ.toArray,.agg Iy.toArray] w fun e w'=>FQ 2000000 w w' e:=by
 obtain⟨bQ,aj,aT,bg,aP,aU,rfl,jm,jo,iO,iP,aB,fO,uK⟩:=open_rec hx;clear hx;try rw[aB.out]
 obtain⟨dJ,bF,dL,rfl,qy,qB,fC,JE⟩:=rH hq;clear hq;try rw[fC.out]
 obtain⟨W0,hW0,bW,nR,aG⟩:=Aj w (.slice bQ aj aT) (.slice bg aP aU) (.slice dJ bF dL) 25 28;obtain⟨kC,dP,eP⟩:=uK W0 bW.out;clear uK;obtain⟨zQ,jA⟩:=JE W0 bW.out;clear JE;have HDb:=zh ok.deps;have hpk:=ok.packs;rw[aB.out]at hpk;have hrb:=ok.roots;rw[fC.out]at hrb;obtain⟨L,hL⟩:=ze (x.closure q.names);obtain⟨nL,OL⟩:=ze L.length;have HLn:=zh OL;have hlb:=ok.len;rw[hL,OL]at hlb;have Tj:Hid (∀p∈L,p<aj):=by have:=ok.lt;rw[hL,aB.out]at this;exact this
 have Qi:Hid (∀W,O0 W0 W->Calls Tryz.prog 37 #[.agg #[.slice bQ aj aT,.slice bg aP aU],.agg #[.slice dJ bF dL]] W fun e w'=> ∃a c,e= .returned (.slice a nL c)/\Ints w' (.slice a nL c) (intsOf L)/\O0 W w'):=fun W hW=>by
  have h0:=zq (kC.out W hW) (zQ.out W hW) zAk;rw[hL]at h0;refine h0.mono ?_;rintro e w' ⟨v,he,hr,-,h3⟩;have hI:Ints w' v (intsOf L):=oq hr fun i hi=>by have:=Tj.out i hi;omega
  obtain⟨a,cp,rfl,-,-⟩:=aC hr;rw[HLn.out]at hI he;exact⟨a,cp,he,hI,h3⟩
 clear hL OL ok;obtain⟨k0,k1,k2⟩:=aG.out W0 zr;rw[hW0]at k0 k1 k2;go_enter Tryz.func141,Tryz.ntmps141;go_wp2_with fail;rw[<-hW0]at k0 k1 k2⊢;clear hW0;clear k0 k1 k2;go_loopw [5,15] (fun vo vi dG=>Hid (O0 W0 dG)/\∃i:Nat,vi= .int .i64 i/\i<=bF/\∃lo:List Str,Hid (aQ 1 fM dG.heap.size dG vo lo)/\Hid (lo.length<=i)) (fun _ v _=>bF-(RowKit.intOf v).toNat);case atStart=>exact⟨show Hid _ from zr.alloc _,0,rfl,qE _,[],(by have h:=BQ W0;rw[nR.out]at h;exact vZ rfl h (fun s h=>by cases h)),by simp[Hid]⟩
 case round=>
  obtain⟨dG,rfl⟩:=zB wr;obtain⟨gV,i,rfl,hi,lo,Iz,HLo⟩:=hrel;obtain⟨k0,k1,k2⟩:=aG.out dG gV.out;by_cases ci:i<bF
  ·have jh:=zw (i+1);obtain⟨yr,hxr⟩:=zG q.roots i zBM;obtain⟨bkr,MP,ar1,nr1,cr1,ar2,nr2,cr2,her,XA,XB,XC,ahX,Hg⟩:=wK (jA.out W0 zr) hxr;first|subst her| (simp only[qG,qO,and_true]at her;obtain⟨rfl,rfl⟩:=her)
   have Qh:=zh Hg;clear Hg hxr XA XB;obtain⟨bv,hbv⟩:=ze (x.rO yr.spec.name);have HVi:Hid (∀W,O0 W0 W->Calls Tryz.prog 129 #[.agg #[.slice bQ aj aT,.slice bg aP aU],.string yr.spec.name] W fun e w'=>e= .returned (.bool bv)/\O0 W w'):=fun W hW=>by rw[<-hbv];exact vS (kC.out W hW) zAk _
   have ah9:=zh XC;obtain⟨ao,co,hvo,-,-⟩:=Iz.out.shape;subst hvo;clear hbv;go_wp2_with fail;clear k0 k1 k2;refine eY (fun w'=>O0 dG w') zk zk (by exact zr.drew) ?_;refine qV ?_ (hy:=zAf);refine qV ?_;refine qV ?_ (hy:=zAf);iterate 4 refine qV ?_
   refine qV ?_ (hy:=zAf);refine kR (v:=.bool bv) (f:=129) (args:= #[.agg #[.slice bQ aj aT,.slice bg aP aU],.string yr.spec.name]) (by rfl) ?_ ?_ ?_;·exact zCM
   ·(intro w hSw;exact(HVi.out w (gV.out.same hSw)).mono fun _ _ ⟨he,ho⟩=>⟨he,hSw.same ho⟩)
   try simp only[Act.put,gJ,gU,gK,gu,gy,gG]
   refine wpQuiet_nil ?_;(intro w9 vH;have rY:=zh (gV.out.same vH);have RS:=zh vH;clear vH);have hs9:=RS.out;have HR9:Hid (aQ 1 fM w9.heap.size w9 (.slice ao lo.length co) lo):=(Iz.out.keep fM.keep (Kp.iI hs9)).lift fM.lift hs9.size (qH _);have XI:=HLo;cases bv with
   |false=>
    go_wp2_with fail;go_roundw;case rel=>exact⟨rY,i+1,by first|rfl|go_num,by omega,lo,HR9,by have:=XI.out;simp only[Hid];omega⟩
    case measure=>simp[RowKit.intOf]<;>omega
   |true=>
    obtain⟨k0,k1,k2⟩:=aG.out w9 rY.out;have hrr:=(Qh.out w9 rY.out).1;have RQ:=hrr 0 _ rfl;rw[qF]at RQ;clear hrr;go_wp2_with fail;clear k0 k1 k2;refine(MX HR9.out (qH _) (by have:=XI.out;omega) _ ah9.out).mono ?_;rintro e w8 ⟨v8,l8,rfl,hr8,hl8,O8⟩;have Iu:=zh (rY.out.same O8);have HR8:=zh hr8;have HL8:Hid (l8.length<=i+1):=by have:=XI.out;simp only[Hid];omega
    obtain⟨a8,c8,rfl,-,-⟩:=hr8.shape;have alC:=zh O8;clear hr8 hl8 O8;go_wp2_with fail;go_roundw;case rel=>exact⟨Iu,i+1,by first|rfl|go_num,by omega,l8,HR8,HL8⟩
    case measure=>simp[RowKit.intOf]<;>omega
  obtain rfl:bF=i:=by omega
  obtain⟨ao,co,hvo,-,-⟩:=Iz.out.shape;subst hvo;go_wp2_with fail;refine(Qi.out dG gV.out).mono ?_;rintro e w3 ⟨a3,c3,rfl,hI3,O3⟩;have mO:=zh (gV.out.same O3);have HR3:Hid (aQ 1 fM w3.heap.size w3 (.slice ao lo.length co) lo):=(Iz.out.keep fM.keep (Kp.iI O3)).lift fM.lift O3.size (qH _);have HIx:Hid (∀i p:Nat,L[i]? =some p->∃bl ol,a3=some ⟨bl,ol,none⟩/\Hid (∀W,O0 w3 W->W.cell? ⟨bl,ol+i,none⟩=some (.int .i64 (p:Int)))):=fun i p hp=>ints_at hI3 (by simp[intsOf,hp]);clear O3 hI3 Qi k0 k1 k2;obtain⟨k0,k1,k2⟩:=aG.out w3 mO.out;go_wp2_with fail;clear k0 k1 k2;go_loopw [5,42] (fun vo vi dG=>Hid (O0 W0 dG)/\Hid (O0 w3 dG)/\∃i:Nat,vi= .int .i64 i/\i<=nL/\∃lo:List Str,Hid (aQ 1 fM dG.heap.size dG vo lo)/\Hid (lo.length<=bF+i*1000)) (fun _ v _=>nL-(RowKit.intOf v).toNat);case atStart=>exact⟨mO,show Hid _ from Only.refl _ _,0,rfl,qE _,lo,HR3,by have:=HLo.out;simp only[Hid];omega⟩
  case round=>
   obtain⟨dG,rfl⟩:=zB wr;clear HR3 Iz HLo gV;obtain⟨gV,adh,i,rfl,hi,lo,Iz,HLo⟩:=hrel;obtain⟨k0,k1,k2⟩:=aG.out dG gV.out;by_cases ci:i<nL
   ·have jh:=zw (i+1);obtain⟨p,hp⟩:=zG L i (by rw[HLn.out];exact ci);have hpx:p<aj:=Tj.out p (qT hp);obtain⟨bl,ol,hbl,U6⟩:=HIx.out i p hp;subst hbl;clear hp;obtain⟨yy,hxy⟩:=zG x.packs p zAk;obtain⟨xO,lq,sW,mG,sZ,vI,mJ,vJ,Cj,BK,Cm,y7,oK,y8,DY,zK,DZ,EW,Eu,EX,mW,kM,l9,oQ,mY,oU,rZ,xP,BF,jw⟩:=jR (dP.out W0 zr) hxy;first|subst mW| (simp only[qG,qO,and_true]at mW;obtain⟨rfl,rfl⟩:=mW)
    have Gs:=zh mY;have je:=zh jw;have Af:=zh hxy;clear jw hxy kM l9 oQ mY oU rZ;have BG:Hid (∀W,O0 W0 W->aQ 7 nC B W (.slice y7 oK y8) yy.deps):=fun W ho=>(je.out W ho).2.2.2.2.1;have hdb:=HDb.out yy (qT Af.out);rw[Gs.out]at hdb;obtain⟨_,_,-,hb3,hb4⟩:=(BG.out W0 zr).shape;rw[Gs.out]at hb3;obtain⟨ao,co,hvo,-,-⟩:=Iz.out.shape;subst hvo;go_wp2_with fail;clear k0 k1 k2;refine eY (fun w'=>O0 dG w') zk zk (by exact zr.drew) ?_;refine qV ?_;refine qV ?_ (hy:=zAZ);iterate 3 refine qV ?_
    refine qV ?_ (hy:=zAZ);iterate 2 refine qV ?_
    refine qV ?_ (hy:=zAZ);refine qV ?_;refine wpQuiet_nil ?_;(intro w9 vH;have rY:=zh (gV.out.same vH);have RS:=zh vH;clear vH);have hs9:=RS.out;have HR9:Hid (aQ 1 fM w9.heap.size w9 (.slice ao lo.length co) lo):=(Iz.out.keep fM.keep (Kp.iI hs9)).lift fM.lift hs9.size (qH _);have XI:=HLo;clear hs9;obtain⟨k0,k1,k2⟩:=aG.out w9 rY.out;go_wp2_with fail;clear k0 k1 k2;go_loopw [5,56] (fun vo vk jJ=>Hid (O0 W0 jJ)/\Hid (O0 w3 jJ)/\∃k:Nat,vk= .int .i64 k/\k<=oK/\∃lo:List Str,Hid (aQ 1 fM jJ.heap.size jJ vo lo)/\Hid (lo.length<=bF+i*1000+k)) (fun _ v _=>oK-(RowKit.intOf v).toNat);case atStart=>exact⟨rY,show Hid _ from adh.out.same RS.out,0,rfl,qE _,lo,HR9,by have:=XI.out;simp only[Hid];omega⟩
    case round=>
     obtain⟨jJ,rfl⟩:=zB wr;clear rY HR9 XI Iz HLo RS gV adh;obtain⟨mX,aic,k,rfl,hk,lo,Iz,HLo⟩:=hrel;obtain⟨k0,k1,k2⟩:=aG.out jJ mX.out;by_cases ck:k<oK
     ·have jh:=zw (k+1);obtain⟨yz,hxz⟩:=zG yy.deps k zBD;obtain⟨NR,xQ,II,Et,Gj,VZ,V3,V4,PE,PG,PK,Og,J4,Oh,pV,rP,EZ,Fa,D5,BR,Oe,QM,kU⟩:=xY (BG.out W0 zr) hxz;first|subst pV| (simp only[qG,qO,and_true]at pV;obtain⟨rfl,rfl⟩:=pV)
      have nV:=zh kU;clear kU hxz rP EZ Fa D5;obtain⟨bv,hbv⟩:=ze (x.rO yz.on.name);have HVi:Hid (∀W,O0 W0 W->Calls Tryz.prog 129 #[.agg #[.slice (some ⟨xO,lq,none⟩) aj aT,.slice bg aP aU],.string yz.on.name] W fun e w'=>e= .returned (.bool bv)/\O0 W w'):=fun W hW=>by rw[<-hbv];exact vS (kC.out W hW) zAk _
      have ah9:=zh BR;obtain⟨ao,co,hvo,-,-⟩:=Iz.out.shape;subst hvo;clear hbv;go_wp2_with fail;clear k0 k1 k2;refine eY (fun w'=>O0 jJ w') zk zk (by exact zr.drew) ?_;refine qV ?_ (hy:=zAq);iterate 5 refine qV ?_
      refine qV ?_ (hy:=zAq);refine kR (v:=.bool bv) (f:=129) (args:= #[.agg #[.slice (some ⟨xO,lq,none⟩) aj aT,.slice bg aP aU],.string yz.on.name]) (by rfl) ?_ ?_ ?_;·exact zCM
      ·(intro w hSw;exact(HVi.out w (mX.out.same hSw)).mono fun _ _ ⟨he,ho⟩=>⟨he,hSw.same ho⟩)
      try simp only[Act.put,gJ,gU,gK,gu,gy,gG]
      refine wpQuiet_nil ?_;(intro w9 vH;have rY:=zh (mX.out.same vH);have RS:=zh vH;clear vH);have hs9:=RS.out;have HR9:Hid (aQ 1 fM w9.heap.size w9 (.slice ao lo.length co) lo):=(Iz.out.keep fM.keep (Kp.iI hs9)).lift fM.lift hs9.size (qH _);have XI:=HLo;cases bv with
      |false=>
       go_wp2_with fail;go_roundw;case rel=>exact⟨rY,show Hid _ from aic.out.same RS.out,k+1,by first|rfl|go_num,by omega,lo,HR9,by have:=XI.out;simp only[Hid];omega⟩
       case measure=>simp[RowKit.intOf]<;>omega
      |true=>
       obtain⟨k0,k1,k2⟩:=aG.out w9 rY.out;have hrz:=(nV.out w9 rY.out).1;have yY:=hrz 0 _ rfl;rw[qF]at yY;clear hrz;go_wp2_with fail;clear k0 k1 k2;refine(MX HR9.out (qH _) (by have:=XI.out;omega) _ ah9.out).mono ?_;rintro e w8 ⟨v8,l8,rfl,hr8,hl8,O8⟩;have Iu:=zh (rY.out.same O8);have HR8:=zh hr8;have HL8:Hid (l8.length<=bF+i*1000+(k+1)):=by have:=XI.out;simp only[Hid];omega
       obtain⟨a8,c8,rfl,-,-⟩:=hr8.shape;have alC:=zh O8;clear hr8 hl8 O8;go_wp2_with fail;go_roundw;case rel=>exact⟨Iu,show Hid _ from(aic.out.same RS.out).same alC.out,k+1,by first|rfl|go_num,by omega,l8,HR8,HL8⟩
       case measure=>simp[RowKit.intOf]<;>omega
     obtain rfl:oK=k:=by omega
     obtain⟨ao,co,hvo,-,-⟩:=Iz.out.shape;subst hvo;go_wp2_with fail;go_roundw;case rel=>exact⟨mX,aic,i+1,by first|rfl|go_num,by omega,lo,Iz,by have:=HLo.out;simp only[Hid];omega⟩
     case measure=>simp[RowKit.intOf]<;>omega
   obtain rfl:nL=i:=by omega
   obtain⟨ao,co,hvo,-,-⟩:=Iz.out.shape;subst hvo;go_wp2_with fail;go_ret;exact⟨_,lo,rfl,Iz.out,by have:=HLo.out;have:=HLn.out;omega,bW.out.same gV.out⟩
end
end Go.Proofs.YtdmmebjjojimiaaGreatDoor
namespace Go.Proofs
theorem zEB{p:Prop}(h:p:=by
 rw[h2 x hx]at hat
 have:v=val x:=by
  unfold Hq at hat
  simp at hat
  exact hat.1
 rw[<-this];exact hrun):p:=h
end Go.Proofs
namespace Go.Proofs.YtdmmebjjojimiaaGreatDoor
open Go.RowKit
def Hq(v:Value):Option (DataW Value×List MemPlace):=some (.held v,[])
structure FT (κ:Type) (t k:TypeId) where
 enc:κ->Value
 lit:κ->Lit
 ok:κ->Prop
 law:Maps.Keyed Tryz.prog k
 und:Tryz.prog.underlying t=some (.map k 78)
 key:∀x,ok x->keyOf Tryz.prog k (enc x)=some (lit x)
 inj:∀x y,ok x->ok y->enc x=enc y->x=y
theorem Y4(w:World):(zeroValue 78).run Tryz.prog w= .ok bP w:=by kernel_rfl
section
variable {κ:Type} [DecidableEq κ] {t k:TypeId} {K:FT κ t k}
theorem FT.isKey(K:FT κ t k){x:κ}(hx:K.ok x):WideAt.IsKeyLit (K.lit x):=K.law.key (K.key x hx)
theorem FT.ne(K:FT κ t k){x y:κ}(hx:K.ok x)(hy:K.ok y)(h:y≠x):K.lit y≠K.lit x:=fun e=>h (K.inj y x hy hx (K.law.inj (K.key y hy) (by rw[e];exact K.key x hx)))
abbrev keysOf(m:List (κ×List Int)):List κ:=m.map Prod.fst
def qh(m:List (κ×List Int))(x:κ):Nat:=(keysOf m).idxOf x
structure sO (K:FT κ t k) (w:World) (g:Tag) (τ B:Nat) (m:List (κ×List Int)) (val:κ->Value):Prop where
 own:∃D:DataW Value,w.ownsMap Tryz.prog k Hq B m.length D/\(∀x,K.ok x->D.atKey (K.lit x) (.held bP)= .held (val x))/\(∀x,K.ok x->Maps.has D (K.lit x)=decide (x∈keysOf m))/\Maps.size D=m.length
 row:∀x,x∈keysOf m->Row w g (τ,qh m x+1) 3 (val x) ((fA m x).map cI)
 out:∀x,x∉keysOf m->val x=bP
 tb:g B=(τ,0)
 nd:(keysOf m).Nodup
 ok:∀x∈keysOf m,K.ok x
 rng:∀e∈m,∀z∈e.2,bU z
theorem Qm{m:List (κ×List Int)}{x:κ}(h:x∉keysOf m):fA m x=[]:=by unfold fA;rw[List.find?_eq_none.2 (fun e he=>by simp;rintro rfl;exact h (List.mem_map_of_mem he))];rfl
theorem zW(m:List (κ×List Int))(x:κ)(z:Int):keysOf (gQ m x z)=if x∈keysOf m then keysOf m else keysOf m++[x]:=by
 unfold gQ keysOf;split
 ·rw[List.map_map];refine List.map_congr_left fun e _=>?_;simp only[Function.comp];split;·rename_i h;exact h.symm
  rfl
 simp
theorem mem_push{m:List (κ×List Int)}{x y:κ}{z:Int}:y∈keysOf (gQ m x z)↔y∈keysOf m\/y=x:=by
 rw[zW];split;·rename_i h;exact⟨.inl,fun h2=>h2.elim id (fun e=>e▸h)⟩
 simp
theorem Ve(m:List (κ×List Int))(x:κ)(z:Int):(gQ m x z).length=if x∈keysOf m then m.length else m.length+1:=by have h:=congrArg List.length (zW m x z);unfold keysOf at h;rw[qM]at h;rw[h];split<;>simp
theorem EJ(m:List (κ×List Int))(x y:κ)(z:Int):((m.map fun e=>if e.1=x then (x,e.2++[z])else e).find? fun e=>decide (e.1=y))=((m.find? fun e=>decide (e.1=y)).map fun e=>if e.1=x then (x,e.2++[z])else e):=by
 induction m with
 |nil=>rfl
 |cons e r ih=>
  simp only[List.map_cons,List.find?_cons];have e1:(if e.1=x then (x,e.2++[z])else e).1=e.1:=by split<;>simp_all
  rw[e1];by_cases h:e.1=y;·simp[h]
  simp[h,ih]
theorem Bz{m:List (κ×List Int)}{x:κ}{z:Int}:fA (gQ m x z) x=fA m x++[z]:=by
 by_cases h:x∈keysOf m
 ·unfold fA gQ;rw[if_pos h,EJ];obtain⟨e,he⟩:∃e,(m.find? fun e=>decide (e.1=x))=some e:=by rw[<-Option.isSome_iff_exists,List.find?_isSome];obtain⟨e,he,rfl⟩:=yD.1 h;exact⟨e,he,by simp⟩
  have h2:=List.find?_some he;rw[he];simp only[yP]at h2;simp[h2]
 rw[Qm h];unfold fA gQ;rw[if_neg h,List.find?_append,List.find?_eq_none.2 (fun e he=>by simp;rintro rfl;exact h (List.mem_map_of_mem he))];simp
theorem zX{m:List (κ×List Int)}{x y:κ}{z:Int}(h:y≠x):fA (gQ m x z) y=fA m y:=by
 by_cases hx:x∈keysOf m
 ·unfold fA gQ;rw[if_pos hx,EJ];cases he:(m.find? fun e=>decide (e.1=y))with
  |none=>rfl
  |some e=>have h2:=List.find?_some he;simp only[yP]at h2;simp[h2,h]
 unfold fA gQ;rw[if_neg hx,List.find?_append];simp[Ne.symm h]
section
variable {w w':World} {g g':Tag} {τ B:Nat} {m:List (κ×List Int)} {val:κ->Value}
theorem sO.lt(h:sO K w g τ B m val):B<w.heap.size:=by obtain⟨D,h1,_⟩:=h.own;exact h1.lt
theorem Ba{kk:TypeId}{R:Value->Option (DataW Value×List MemPlace)}{b n:Nat}{D:DataW Value}(h:w.ownsMap Tryz.prog kk R b n D){F:Nat->Prop}(ho:Only F w w')(hF:¬F b):w'.ownsMap Tryz.prog kk R b n D:=by have hlt:=h.lt;obtain⟨es,clock,hb,Ft,hs,hD⟩:=h;exact⟨es,clock,(ho.block b hlt hF).trans hb,Ft,hs,hD⟩
theorem sO.keep(h:sO K w g τ B m val){F:Nat->Prop}(ho:Only F w w')(hF:∀k,(g k).1=τ->¬F k)(hg:Agree w g g'):sO K w' g' τ B m val:=by obtain⟨D,h1,h2,h3,h4⟩:=h.own;exact⟨⟨D,Ba h1 ho (hF B (by rw[h.tb])),h2,h3,h4⟩,fun x hx=>(h.row x hx).keep ho (fun k hk=>hF k (by rw[hk])) hg,h.out,(hg B h.lt).trans h.tb,h.nd,h.ok,h.rng⟩
theorem sO.made(K:FT κ t k)(w:World)(g:Tag){τ:Nat}(hg:g w.heap.size=(τ,0)):sO K (w.alloc (.map #[] 0)) g τ w.heap.size [] (fun _=>bP):=
 ⟨⟨.map [],World.ownsMap_made _ _ _ _,fun x _=>rfl,fun x _=>by simp[Maps.has,keysOf],rfl⟩,fun x hx=>by simp[keysOf]at hx,fun _ _=>rfl,hg,by simp[keysOf],fun x hx=>by simp[keysOf]at hx,fun e he=>by cases he⟩
theorem sO.rowAt(h:sO K w g τ B m val)(x:κ):Row w g (τ,qh m x+1) 3 (val x) ((fA m x).map cI):=by
 by_cases hx:x∈keysOf m;·exact h.row x hx
 rw[h.out x hx,Qm hx];exact Row.nil _ _ _ _
theorem sO.look(h:sO K w g τ B m val){x:κ}(hx:K.ok x):(Instr.lookup t (.map (some B)) (K.enc x) false).run Tryz.prog w= .ok (val x) w:=by obtain⟨D,h1,h2,h3,h4⟩:=h.own;obtain⟨v,ps,hrun,hat⟩:=h1.lookup K.law K.und (Y4 w) (zd:=.held bP) (zp:=[]) rfl (K.key x hx);exact zEB
theorem Vf{x y:κ}{z:Int}(hy:y∈keysOf m):qh (gQ m x z) y=qh m y:=by
 unfold qh;rw[zW];split;·rfl
 rw[List.idxOf_append,if_pos hy]
theorem OO{x:κ}{z:Int}:qh (gQ m x z) x=qh m x:=by
 by_cases hx:x∈keysOf m;·exact Vf hx
 unfold qh;rw[zW,if_neg hx,List.idxOf_append,if_neg hx,List.idxOf_eq_length hx];simp
theorem aie{x y:κ}(hy:y∈keysOf m)(h:y≠x):qh m y≠qh m x:=fun e=>by
 unfold qh at e
 have h1:(keysOf m).idxOf y<(keysOf m).length:=List.idxOf_lt_length_of_mem hy
 have h2:=List.getElem_idxOf (xs:=keysOf m) h1
 have h3:(keysOf m).idxOf x<(keysOf m).length:=by rw[<-e];exact h1
 have h4:=List.getElem_idxOf (xs:=keysOf m) h3
 refine h ?_
 rw[<-h2,<-h4]
 simp only[e]
theorem sO.push(h:sO K w g τ B m val){x:κ}(hx:K.ok x){w1:World}{g1:Tag}(hA:Agree w g g1)(ho:Only (fun k=>g k=(τ,qh m x+1)) w w1){v':Value}{z:Int}(hz:bU z)(hr:Row w1 g1 (τ,qh m x+1) 3 v' ((fA m x).map cI++[cI z]))(hl:m.length<maxLen):∃w2,(Instr.mapUpdate t (.map (some B)) (K.enc x) v').run Tryz.prog w1= .ok () w2/\sO K w2 g1 τ B (gQ m x z) (fun y=>if y=x then v' else val y)/\Only (fun k=>k=B) w1 w2:=by
 obtain⟨D,h1,h2,h3,h4⟩:=h.own;have hB:¬g B=(τ,qh m x+1):=by rw[h.tb];simp
 have h1':=Ba h1 ho hB;obtain⟨w2,hrun,r1,r2⟩:=h1'.store K.law K.und hl (K.key x hx) (d:=.held v') (ps:=[]) (val:=v') rfl;have hkl:=K.isKey hx;have hsz:Maps.size (D.put (K.lit x) (.held v'))=(gQ m x z).length:=by
  rw[Maps.size_put (h1.tidy K.law),h3 x hx,h4,Ve];by_cases hm:x∈keysOf m;·simp[hm]
  simp[hm]
 have O2:Only (fun k=>k=B) w1 w2:=(Only.refl _ w1).grown r2.grown fun k hk=>.inl (Option.some.inj hk).symm;have gB:g1 B=(τ,0):=(hA B h1.lt).trans h.tb;have hF2:∀(i:Nat) (k:Nat),g1 k=(τ,i+1)->¬k=B:=fun i k hk e=>by rw[e,gB]at hk;simp at hk
 refine⟨w2,hrun,⟨⟨_,?_,fun y hy=>?_,fun y hy=>?_,hsz⟩,fun y hy=>?_,fun y hy=>?_,gB,?_,fun y hy=>?_,?_⟩,O2⟩;·exact zCv
 ·show _=DataW.held (if y=x then v' else val y);by_cases e:y=x;·subst e;rw[if_pos rfl,Maps.atKey_put_same h1.isMap hkl]
  rw[if_neg e,Maps.atKey_put_other (K.ne hx hy e),h2 y hy]
 ·by_cases e:y=x;·subst e;rw[Maps.has_put_same h1.isMap hkl,qX (mem_push.2 (.inr rfl))]
  rw[Maps.has_put_other (K.ne hx hy e),h3 y hy];exact decide_eq_decide.2 (by rw[mem_push];simp[e])
 ·show Row w2 g1 _ _ (if y=x then v' else val y) _;by_cases e:y=x;·subst e;rw[if_pos rfl,OO,Bz,List.map_append];exact hr.only O2 (hF2 _)
  have hy':y∈keysOf m:=(mem_push.1 hy).resolve_right e;rw[if_neg e,Vf hy',zX e];exact((h.row y hy').keep ho (fun k hk hk2=>aie hy' e (by rw[hk]at hk2;simpa using hk2)) hA).only O2 (hF2 _)
 ·rw[mem_push,not_or]at hy;show(if y=x then v' else val y)=bP;rw[if_neg hy.2];exact h.out y hy.1
 ·rw[zW];exact zDW
 ·rcases mem_push.1 hy with h5|rfl;·exact h.ok y h5
  exact hx
 intro e he;unfold gQ at he;split at he
 ·obtain⟨e0,h0,rfl⟩:=yD.1 he;split
  ·intro u hu;rcases qW.1 hu with hu|hu;·exact h.rng e0 h0 u hu
   simp at hu;subst hu;exact hz
  exact h.rng e0 h0
 rcases qW.1 he with he|he;·exact h.rng e he
 simp at he;subst he;intro u hu;simp at hu;subst hu;exact hz
end
end
theorem afr:Maps.Keyed Tryz.prog 3:=Maps.int_keyed Tryz.underlying3
def KI:FT Nat 151 3 where
 enc x:=.int .i64 x
 lit x:=.int .i64 x
 ok x:=bU (x:Int)
 law:=afr
 und:=Tryz.underlying151
 key x hx:=Maps.keyOf_int_mk Tryz.underlying3 (WalkArith.wf_i64 hx)
 inj x y _ _ h:=by simp at h;omega
theorem MZ:Maps.Keyed Tryz.prog 226:=Maps.Keyed.of_law (deep_law_laid zk (m:=3) zBk (of_decide_eq_true zk) zk (by rw[Tryz.underlying226]))
abbrev RU(x:Nat×Nat):Value:=.agg #[.int .i64 x.1,.int .i64 x.2]
theorem aas(x:Nat×Nat)(h1:bU (x.1:Int))(h2:bU (x.2:Int)):∃l,keyOf Tryz.prog 226 (RU x)=some l:=by
 have a1:=WalkArith.wf_i64 h1;have a2:=WalkArith.wf_i64 h2;unfold keyOf;rw[Tryz.underlying226];have hk:(Tryz.prog.keyType 226&&(RU x).formed Tryz.prog 226)=true:=by
  have e1:Tryz.prog.keyType 226=true:=by kernel_rfl
  have e2:(RU x).formed Tryz.prog 226=true:=by
   have e3:Tryz.prog.cellsOf 226=2:=by kernel_rfl
   simp[Value.formed,Tryz.underlying226,e3]
  rw[e1,e2];rfl
 dsimp only;rw[if_pos hk];have hl:∃ls,Tryz.prog.keyLits (Tryz.prog.types.size+1) 226 (RU x).cells.toList=some ls:=by
  obtain⟨n,hn⟩:∃n,Tryz.prog.types.size=n+1:=⟨Tryz.prog.types.size-1,by
   have:0<Tryz.prog.types.size:=of_decide_eq_true zk
   omega⟩
  rw[hn];have e3:Tryz.prog.cellsOf 226=2:=by kernel_rfl
  have e4:Tryz.prog.cellsOf 3=1:=by kernel_rfl
  simp[Program.keyLits,Tryz.underlying226,Value.cells,e3,e4,Tryz.underlying3,a1,a2]
 obtain⟨ls,hls⟩:=hl;rw[hls];exact⟨_,rfl⟩
noncomputable def KE:FT (Nat×Nat) 150 226 where
 enc:=RU
 lit x:=(keyOf Tryz.prog 226 (RU x)).getD (.bool false)
 ok x:=bU (x.1:Int)/\bU (x.2:Int)
 law:=MZ
 und:=Tryz.underlying150
 key x hx:=by obtain⟨l,hl⟩:=aas x hx.1 hx.2;rw[hl];rfl
 inj x y _ _ h:=by
  simp only[RU,Value.agg.injEq,Array.mk.injEq,List.cons.injEq,Value.int.injEq,true_and,and_true]at h
  exact Prod.ext zAC zBk
end Go.Proofs.YtdmmebjjojimiaaGreatDoor
