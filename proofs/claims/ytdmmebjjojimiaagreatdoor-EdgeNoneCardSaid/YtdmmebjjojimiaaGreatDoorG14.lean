/- The document's checks: Request; the guard of choice. Printed by gen_rfa.py.; ChP1 ChP2, in one text. -/
import Derived.Test.YtdmmebjjojimiaaGreatDoorG13
import Derived.Test.YtdmmebjjojimiaaGreatDoorG12
import Derived.Lib.AtoiAll
import Derived.Lib.ItoaNum
set_option maxRecDepth 100000
set_option maxHeartbeats 8000000
set_option linter.all false
namespace Go.Proofs
theorem zAX{p:Prop}(h:p:=by(intro w hSw;(try dsimp only at hSw);obtain⟨k0,k1,k2⟩:=aG.out w (bM.out.same hSw);have dM:=(je.out w (bM.out.same hSw)).1;have ER:=dM 0 _ rfl;have Pz:=dM 1 _ rfl;have gy2:=dM 2 _ rfl;rw[qF]at ER;clear dM;go_simp<;>(try with_reducible rfl))):p:=h
theorem zBM{p:Prop}(h:p:=by rw[fC.out];omega):p:=h
theorem zD8{p:Prop}(h:p:=by
 go_wp2_with fail
 go_ret
 exact dB.mk _ rfl (fun h=>by first|cases h| (simp at h;omega)) (bW.out.same mO.out)):p:=h
theorem zD9{p:Prop}(h:p:=by
 go_wp2_with fail
 go_ret
 exact dB.mk _ rfl (fun h=>by first|cases h| (simp at h;omega)) (bW.out.same fK.out)):p:=h
end Go.Proofs
namespace Go.Proofs.YtdmmebjjojimiaaGreatDoor
open Go.RowKit
section
variable {w w':World} {B:Nat}
attribute [local irreducible] wpQuiet
theorem Q7{tZ:List Value}{x:aH}(hx:jl B w tZ x){Iy:List Value}{q:fV}(hq:mV B w Iy q)(hlen:x.packs.length<=1000000):Calls Tryz.prog 14 #[.agg tZ.toArray,.agg Iy.toArray] w fun e w'=>ny (q.roots.length<=8) w w' e:=by
 obtain⟨bQ,aj,aT,bg,aP,aU,rfl,jm,jo,iO,iP,aB,fO,uK⟩:=open_rec hx;clear hx;try rw[aB.out]
 obtain⟨dJ,bF,dL,rfl,qy,qB,fC,JE⟩:=rH hq;clear hq;try rw[fC.out]
 obtain⟨W0,hW0,bW,nR,aG⟩:=Aj w (.slice bQ aj aT) (.slice bg aP aU) (.slice dJ bF dL) 25 28;obtain⟨kC,dP,eP⟩:=uK W0 bW.out;clear uK;obtain⟨zQ,jA⟩:=JE W0 bW.out;clear JE;rw[aB.out]at hlen;obtain⟨W1,hW1⟩:=zB (W0.alloc (.cells #[.int .u8 0,.int .i64 0] 43));have bM:Hid (O0 W0 W1):=zAp;have xK:Hid (∀W,O0 W1 W->W.heap[w.heap.size+2]? =some (.cells #[.int .u8 0,.int .i64 0] 43)):=fun W ho=>by exact zD5
 have Xl:Hid (O0 W1 W1):=Only.refl _ _;by_cases z1:bF=0;·subst z1;obtain⟨k0,k1,k2⟩:=aG.out W1 (bM.out.same Xl.out);have hz:=xK.out W1 Xl.out;rw[hW1,hW0]at k0 k1 k2 hz;go_enter Tryz.func14,Tryz.ntmps14;go_wp2_with (refine wpList_store_row rfl 43 (.tmp 4) (.tmp 11) rfl (w.heap.size+2) #[.int .u8 11,.int .i64 0] rfl rfl 43 #[.int .u8 0,.int .i64 0] hz zk rfl zk ?_);refine jy (p:=4) rfl rfl rfl rfl (setRow_heap _ _ _ _ _ _ hz) ?_;exact zFC
 have z3:((bF:Int)==0)=false:=by rw[yC];omega
 by_cases q1:8<bF
 ·obtain⟨yy,hxy⟩:=zG q.roots 8 zBM;obtain⟨xO,lq,sW,mG,sZ,vI,mJ,vJ,mW,kM,l9,xP,BF,jw⟩:=wK (jA.out W0 zr) hxy;first|subst mW| (simp only[qG,qO,and_true]at mW;obtain⟨rfl,rfl⟩:=mW)
  have NQ:=zh kM;have Ny2:=zh l9;have je:=zh jw;have Af:=zh hxy;clear jw hxy kM l9;have BD:Hid (∀W,O0 W0 W->aQ 2 gq B W (.slice sW mG sZ) yy.spec.spans):=fun W ho=>(je.out W ho).2.1;have IY:Hid (∀W,O0 W0 W->aQ 2 lg B W (.slice vI mJ vJ) yy.spec.sets):=fun W ho=>(je.out W ho).2.2.1;have HCy:Hid (∀W,O0 W0 W->lY B W [.string yy.spec.name,.slice sW mG sZ,.slice vI mJ vJ,.int .i64 yy.line] yy):=fun W ho=>(je.out W ho).2.2.2;have dM:=(je.out W1 bM.out).1;have gy3:=dM 3 _ rfl;clear dM;obtain⟨k0,k1,k2⟩:=aG.out W1 (bM.out.same Xl.out);have hz:=xK.out W1 Xl.out;rw[hW1,hW0]at k0 k1 k2 hz gy3;go_enter Tryz.func14,Tryz.ntmps14;go_wp2_with (refine wpList_store_row rfl 43 (.tmp 4) (.tmp 21) rfl (w.heap.size+2) #[.int .u8 1,.int .i64 yy.line] rfl rfl 43 #[.int .u8 0,.int .i64 0] hz zk rfl zk ?_);refine jy (p:=4) rfl rfl rfl rfl (setRow_heap _ _ _ _ _ _ hz) ?_;exact zFC
 go_enter Tryz.func14,Tryz.ntmps14;go_wp2_with fail;rw[<-hW0,<-hW1];clear hW0 hW1;have kK:=Xl;go_loopw [25] (fun vi dG=>Hid (O0 W1 dG)/\∃i:Nat,vi= .int .i64 i/\i<=bF) (fun v _=>bF-(RowKit.intOf v).toNat);case atStart=>exact⟨kK,0,rfl,qE _⟩
 case round=>
  obtain⟨dG,rfl⟩:=zB wr;clear kK;obtain⟨PD,i,rfl,hi⟩:=hrel;obtain⟨k0,k1,k2⟩:=aG.out dG (bM.out.same PD.out);by_cases ci:i<bF
  ·have jh:=zw (i+1);obtain⟨yy,hxy⟩:=zG q.roots i zBM;obtain⟨xO,lq,sW,mG,sZ,vI,mJ,vJ,mW,kM,l9,xP,BF,jw⟩:=wK (jA.out W0 zr) hxy;first|subst mW| (simp only[qG,qO,and_true]at mW;obtain⟨rfl,rfl⟩:=mW)
   have NQ:=zh kM;have Ny2:=zh l9;have je:=zh jw;have Af:=zh hxy;clear jw hxy kM l9;have BD:Hid (∀W,O0 W0 W->aQ 2 gq B W (.slice sW mG sZ) yy.spec.spans):=fun W ho=>(je.out W ho).2.1;have IY:Hid (∀W,O0 W0 W->aQ 2 lg B W (.slice vI mJ vJ) yy.spec.sets):=fun W ho=>(je.out W ho).2.2.1;have HCy:Hid (∀W,O0 W0 W->lY B W [.string yy.spec.name,.slice sW mG sZ,.slice vI mJ vJ,.int .i64 yy.line] yy):=fun W ho=>(je.out W ho).2.2.2;obtain⟨c,hc⟩:=ze (x.wish yy.spec);have HWs:Hid (∀W,O0 W1 W->Calls Tryz.prog 56 #[.agg #[.slice bQ aj aT,.slice bg aP aU],.agg #[.string yy.spec.name,.slice sW mG sZ,.slice vI mJ vJ]] W fun e w'=>e= .returned (.int .u8 c)/\O0 W w'):=fun W hW=>by rw[<-hc];exact KZ (kC.out W (bM.out.same hW)) (⟨_,_,rfl,xP,BD.out W (bM.out.same hW),IY.out W (bM.out.same hW)⟩:eF B W [.string yy.spec.name,.slice sW mG sZ,.slice vI mJ vJ] yy.spec) zAg
   clear hc;go_wp2_with fail;clear k0 k1 k2;refine eY (fun w'=>O0 W1 w') zk zk (by exact(PD.out).drew) ?_;refine qV ?_ (hy:=zAX);refine qV ?_;refine qV ?_ (hy:=zAX);iterate 3 refine qV ?_
   refine qV ?_ (hy:=zAX);refine kR (v:=.int .u8 c) (f:=56) (args:= #[.agg #[.slice bQ aj aT,.slice bg aP aU],.agg #[.string yy.spec.name,.slice sW mG sZ,.slice vI mJ vJ]]) (by rfl) ?_ ?_ ?_;·exact zCM
   ·(intro w hSw;exact(HWs.out w hSw).mono fun _ _ ⟨he,ho⟩=>⟨he,hSw.same ho⟩)
   try simp only[Act.put,gu,gy,gG]
   refine qV ?_;refine wpQuiet_nil ?_;(intro w9 vH;have rY:=zh vH;clear vH);have Xm:=rY;obtain⟨k0,k1,k2⟩:=aG.out w9 (bM.out.same Xm.out);by_cases c0:c=0
   ·subst c0;go_wp2_with fail;go_roundw;case rel=>exact⟨Xm,i+1,by first|rfl|go_num,by omega⟩
    case measure=>simp[RowKit.intOf]<;>omega
   have c1:((c:Int)==0)=false:=by rw[yC];exact c0
   have dM:=(je.out w9 (bM.out.same Xm.out)).1;have gy3:=dM 3 _ rfl;clear dM;go_wp2_with (refine wpList_store_row rfl 43 (.tmp 4) (.tmp 45) rfl (w.heap.size+2) #[.int .u8 c,.int .i64 yy.line] rfl rfl 43 #[.int .u8 0,.int .i64 0] (xK.out w9 Xm.out) zk rfl zk ?_);refine jy (p:=4) rfl rfl rfl rfl (setRow_heap _ _ _ _ _ _ (xK.out w9 Xm.out)) ?_;exact ny.mk _ _ rfl (fun h=>absurd h c0) ((bW.out.same (bM.out.same Xm.out)).trans (dN _ _ _) (fun k hk=>.inr zBk))
  obtain rfl:bF=i:=by omega
  go_wp2_with (refine wpList_store_row rfl 43 (.tmp 4) (.tmp 47) rfl (w.heap.size+2) #[.int .u8 0,.int .i64 0] rfl rfl 43 #[.int .u8 0,.int .i64 0] (xK.out dG PD.out) zk rfl zk ?_);refine jy (p:=4) rfl rfl rfl rfl (setRow_heap _ _ _ _ _ _ (xK.out dG PD.out)) ?_;exact ny.mk _ _ rfl (fun _=>by omega) ((bW.out.same (bM.out.same PD.out)).trans (dN _ _ _) (fun k hk=>.inr zBk))
structure GZ (x:aH) (q:fV):Prop where
 packs:x.packs.length<=8
 all:∀p∈x.packs,EY p
 roots:q.roots.length<=8
theorem ahI(u a:Value)(W:World):(Instr.field 43 (.agg #[u,a]) 0).run Tryz.prog W= .ok u W:=by unfold Instr.field;rw[Sem.run_bind,run_underlying Tryz.underlying43];simp[asAgg,part,isAgg]
theorem Uz{tZ:List Value}{x:aH}(hx:jl B w tZ x){Iy:List Value}{q:fV}(hq:mV B w Iy q)(hlen:x.packs.length<=1000000):Calls Tryz.prog 65 #[.agg tZ.toArray,.agg Iy.toArray] w fun e w'=>dB w w' e (GZ x q):=by
 obtain⟨bQ,aj,aT,bg,aP,aU,rfl,jm,jo,iO,iP,aB,fO,uK⟩:=open_rec hx;clear hx;try rw[aB.out]
 obtain⟨dJ,bF,dL,rfl,qy,qB,fC,JE⟩:=rH hq;clear hq;try rw[fC.out]
 obtain⟨W0,hW0,bW,nR,aG⟩:=Aj w (.slice bQ aj aT) (.slice bg aP aU) (.slice dJ bF dL) 25 28;obtain⟨kC,dP,eP⟩:=uK W0 bW.out;clear uK;obtain⟨zQ,jA⟩:=JE W0 bW.out;clear JE;rw[aB.out]at hlen;have fst:=ahI;obtain⟨k0,k1,k2⟩:=aG.out W0 zr;by_cases q1:8<aj;·rw[hW0]at k0 k1 k2;go_enter Tryz.func65,Tryz.ntmps65;go_wp2_with fail;go_ret;rw[<-hW0];exact dB.mk _ rfl (fun h=>by first|cases h| (simp at h;omega)) bW.out
 rw[hW0]at k0 k1 k2;go_enter Tryz.func65,Tryz.ntmps65;go_wp2_with fail;rw[<-hW0]at k0 k1 k2⊢;clear hW0;refine(Uy (kC.out W0 zr) zAg).mono ?_;rintro e w2 ⟨c2,l2,rfl,hf2,O1⟩;have fK:=zh (O1);clear O1 k0 k1 k2;obtain⟨k0,k1,k2⟩:=aG.out w2 fK.out;by_cases c0:c2=0
 ·subst c0;have hh2:=hf2 rfl;clear hf2;go_wp2_with fail;refine(Q7 (kC.out w2 fK.out) (zQ.out w2 fK.out) zAg).mono ?_;rintro e w3 ⟨c3,l3,rfl,hf3,O1⟩;have mO:=zh (fK.out.same O1);clear O1 k0 k1 k2;obtain⟨k0,k1,k2⟩:=aG.out w3 mO.out;by_cases c0:c3=0;·subst c0;have hh3:=hf3 rfl;clear hf3;go_wp2_with fail;go_ret;exact dB.mk _ rfl (fun _=>⟨by rw[aB.out];omega,hh2,hh3⟩) (bW.out.same mO.out)
  have c13:((c3:Int)==0)=false:=by rw[yC];exact c0
  exact zD8
 have c12:((c2:Int)==0)=false:=by rw[yC];exact c0
 exact zD9
theorem Q8{tZ:List Value}{x:aH}(hx:jl B w tZ x){Iy:List Value}{q:fV}(hq:mV B w Iy q):Calls Tryz.prog 19 #[.agg tZ.toArray,.agg Iy.toArray] w fun e w'=>dB w w' e (rM x/\q.roots.length<=40/\GZ x q/\∀z∈q.roots,jc z.spec):=by
 obtain⟨bQ,aj,aT,bg,aP,aU,rfl,jm,jo,iO,iP,aB,fO,uK⟩:=open_rec hx;clear hx;try rw[aB.out]
 obtain⟨dJ,bF,dL,rfl,qy,qB,fC,JE⟩:=rH hq;clear hq;try rw[fC.out]
 obtain⟨W0,hW0,bW,nR,aG⟩:=Aj w (.slice bQ aj aT) (.slice bg aP aU) (.slice dJ bF dL) 25 28;obtain⟨kC,dP,eP⟩:=uK W0 bW.out;clear uK;obtain⟨zQ,jA⟩:=JE W0 bW.out;clear JE;obtain⟨k0,k1,k2⟩:=aG.out W0 zr;rw[hW0]at k0 k1 k2;go_enter Tryz.func19,Tryz.ntmps19;go_wp2_with fail;rw[<-hW0]at k0 k1 k2⊢;clear hW0;refine(WA (kC.out W0 zr)).mono ?_;rintro e w2 ⟨b2,rfl,hf2,O1⟩;have fK:=zh (O1);clear O1 k0 k1 k2;obtain⟨k0,k1,k2⟩:=aG.out w2 fK.out;cases b2 with
 |true=>exact zD9
 |false=>
  have hh2:=hf2 rfl;clear hf2;go_wp2_with fail;refine(WC (zQ.out w2 fK.out)).mono ?_;rintro e w3 ⟨b3,rfl,hf3,O1⟩;have mO:=zh (fK.out.same O1);clear O1 k0 k1 k2;obtain⟨k0,k1,k2⟩:=aG.out w3 mO.out;cases b3 with
  |true=>exact zD8
  |false=>
   have hh3:=hf3 rfl;clear hf3;go_wp2_with fail;refine(Uz (kC.out w3 mO.out) (zQ.out w3 mO.out) (by have:=hh2.packs;omega)).mono ?_;rintro e w4 ⟨b4,rfl,hf4,O1⟩;have xw:=zh (mO.out.same O1);clear O1 k0 k1 k2;obtain⟨k0,k1,k2⟩:=aG.out w4 xw.out;cases b4 with
   |true=>go_wp2_with fail;go_ret;exact dB.mk _ rfl (fun h=>by first|cases h| (simp at h;omega)) (bW.out.same xw.out)
   |false=>have hh4:=hf4 rfl;clear hf4;go_wp2_with fail;go_ret;exact dB.mk _ rfl (fun _=>⟨hh2,by rw[<-fC.out];exact hh3.1,hh4,hh3.2⟩) (bW.out.same xw.out)
end
end Go.Proofs.YtdmmebjjojimiaaGreatDoor
namespace Go.Proofs
theorem zFJ{p:Prop}(h:p:=by
 show(T.l++[a]).getD (((T.l.length:Int)+1).natAbs-1) default=a
 have e:(((T.l.length:Int)+1).natAbs-1)=T.l.length:=zBk
 rw[e,qC]
 simp):p:=h
theorem zD6{p:Prop}(h:p:=by
 simp only[yD,yI]
 exact⟨fun⟨i,hi,e⟩=>⟨i,hi,e.symm⟩,fun⟨i,hi,e⟩=>⟨i,hi,e.symm⟩⟩):p:=h
end Go.Proofs
namespace Go.Proofs.YtdmmebjjojimiaaGreatDoor
open Go.RowKit
namespace xA
open iE
def iF(l:List At)(a:At)(z:Int):Prop:=0<z/\z.natAbs<=l.length/\l.getD (z.natAbs-1) default=a
def lit(s:At->Bool)(l:List At)(z:Int):Bool:=decide (0<z)==s (l.getD (z.natAbs-1) default)
def Tru(s:At->Bool)(l:List At)(z:Int):Prop:=z≠0/\z.natAbs<=l.length/\lit s l z=true
theorem LX{l m:List At}{i:Nat}(h:i<l.length):(l++m).getD i default=l.getD i default:=by rw[qC,qC,yM h]
theorem iF.mono{l m:List At}{a:At}{z:Int}(h:iF l a z):iF (l++m) a z:=by obtain⟨h1,h2,h3⟩:=h;exact⟨h1,by rw[qK];omega,by rw[LX zBk];exact h3⟩
theorem YJ{s:At->Bool}{l m:List At}{z:Int}(h0:z≠0)(h:z.natAbs<=l.length):lit s (l++m) z=lit s l z:=by unfold lit;rw[LX zBk]
theorem Tru.mono{s:At->Bool}{l m:List At}{z:Int}(h:Tru s l z):Tru s (l++m) z:=
 ⟨h.1,by rw[qK];have:=h.2.1;omega,by rw[YJ h.1 h.2.1];exact h.2.2⟩
theorem iF.lit{s:At->Bool}{l:List At}{a:At}{z:Int}(h:iF l a z):lit s l z=s a:=by unfold xA.lit;rw[h.2.2,qX h.1];cases s a<;>rfl
theorem iF.ak0{s:At->Bool}{l:List At}{a:At}{z:Int}(h:iF l a z):xA.lit s l (-z)= !s a:=by have:=h.1;unfold xA.lit;rw[Int.natAbs_neg,h.2.2,qP zBk];cases s a<;>rfl
theorem iF.tru{s:At->Bool}{l:List At}{a:At}{z:Int}(h:iF l a z)(hs:s a=true):Tru s l z:=⟨by have:=h.1;omega,h.2.1,by rw[h.lit,hs]⟩
theorem iF.ae1{s:At->Bool}{l:List At}{a:At}{z:Int}(h:iF l a z)(hs:s a=false):Tru s l (-z):=⟨by have:=h.1;omega,by rw[Int.natAbs_neg];exact h.2.1,by rw[h.ak0,hs];rfl⟩
theorem iF.inj{l:List At}{a b:At}{z:Int}(h:iF l a z)(h':iF l b z):a=b:=h.2.2.symm.trans h'.2.2
theorem iF.uniq{l:List At}(hn:l.Nodup){n:Nat}(hlt:n<l.length){z:Int}(h:iF l (l.getD n default) z):z.natAbs-1=n:=by
 obtain⟨h1,h2,h3⟩:=h;have e1:l[z.natAbs-1]'zBk=l[n]:=by rw[qC,qC,qA zBk,qA hlt]at h3;exact h3
 exact(List.getElem_inj hn).1 e1
def UA(s:At->Bool)(a:At)(ats:List At):Prop:=
 (s a=false->∀i,i<ats.length->s (ats.getD i default)=false)/\
 (s a=true->∃i,i<ats.length/\∀j,j<ats.length->(s (ats.getD j default)=true↔j=i))
structure Gd (s:At->Bool) (S:TB):Prop where
 ok:S.1.Ok
 nd:S.1.l.Nodup
 bad:S.2.bad=false
 cl:∀f∈S.2.cls,∃z∈f,Tru s S.1.l z
theorem Dc(T:Tab)(a:At):∃m,(T.num a).1.l=T.l++m/\(∀b∈m,b=a):=by
 unfold Tab.num;split;·exact⟨[],by simp,by simp⟩
 split;·exact⟨[],by simp,by simp⟩
 exact⟨[a],rfl,by simp⟩
theorem zS:∀(ats:List At) (T:Tab),∃m,(T.nums ats).1.l=T.l++m/\(∀b∈m,b∈ats)
 | [],T=>⟨[],by simp[Tab.nums],by simp⟩
 |a::r,T=>by
  obtain⟨m1,h1,k1⟩:=Dc T a
  obtain⟨m2,h2,k2⟩:=zS r (T.num a).1
  refine⟨m1++m2,?_,fun b hb=>?_⟩
  ·rw[Tab.nums,h2,h1,yW]
  ·rcases qW.1 hb with hb|hb
   ·rw[k1 b hb];exact qQ
   ·exact yE _ (k2 b hb)
theorem acj{T:Tab}(h:T.Ok)(hn:T.l.Nodup)(a:At):(T.num a).1.l.Nodup/\((T.num a).2=0\/iF (T.num a).1.l a (T.num a).2):=by
 unfold Tab.num;split
 ·rename_i hm;refine⟨hn,.inr ?_⟩;have hlt:=List.idxOf_lt_length_of_mem hm;simp only[numOf,if_pos hm];refine⟨by omega,by omega,?_⟩;have e:((((List.idxOf a T.l:Nat):Int)+1).natAbs-1)=List.idxOf a T.l:=zBk;have e':(((List.idxOf a T.l+1:Nat):Int).natAbs-1)=List.idxOf a T.l:=zBk;rw[qC];first|rw[e,qA hlt]|rw[e',qA hlt]
  simp
 rename_i hm;split;·exact⟨hn,.inl rfl⟩
 refine⟨?_,.inr ⟨by show(0:Int)<(T.l.length:Int)+1;omega,?_,?_⟩⟩;·show(T.l++[a]).Nodup;rw[List.nodup_append];refine⟨hn,by simp,fun x hx y hy=>?_⟩;rw[yJ]at hy;rintro rfl;exact hm (hy▸hx)
 ·show(((T.l.length:Int)+1).natAbs)<=(T.l++[a]).length;simp;omega
 exact zFJ
def LY(l:List At)(ats:List At)(ns:List Int):Prop:=ns.length=ats.length/\∀i,i<ats.length->ns.getD i 0=0\/iF l (ats.getD i default) (ns.getD i 0)
theorem LY.mono{l m ats:List At}{ns:List Int}(h:LY l ats ns):LY (l++m) ats ns:=⟨h.1,fun i hi=>(h.2 i hi).imp id iF.mono⟩
theorem Q9:∀(ats:List At) {T:Tab},T.Ok->T.l.Nodup->(T.nums ats).1.l.Nodup/\LY (T.nums ats).1.l ats (T.nums ats).2
 | [],T,h,hn=>⟨hn,rfl,fun i hi=>by simp at hi⟩
 |a::r,T,h,hn=>by
  obtain⟨n1,k1⟩:=acj h hn a
  obtain⟨n2,k2,k3⟩:=Q9 r (Tab.xq h a).1 n1
  obtain⟨m,hm,-⟩:=zS r (T.num a).1
  refine⟨n2,by rw[Tab.nums];simp[k2],fun i hi=>?_⟩
  rw[Tab.nums]
  cases i with
  |zero=>
   simp only[List.getD_cons_zero]
   rw[hm]
   exact k1.imp id iF.mono
  |succ i=>
   simp only[List.getD_cons_succ]
   exact k3 i zBE
theorem Gd.num{s:At->Bool}{T:Tab}{B:lu}(h:Gd s (T,B))(a:At):Gd s ((T.num a).1,B)/\((T.num a).2=0\/iF (T.num a).1.l a (T.num a).2):=by obtain⟨n1,k1⟩:=acj h.ok h.nd a;obtain⟨m,hm,-⟩:=Dc T a;refine⟨⟨(Tab.xq h.ok a).1,n1,h.bad,fun f hf=>?_⟩,k1⟩;obtain⟨z,hz,ht⟩:=h.cl f hf;exact⟨z,hz,by show Tru s (T.num a).1.l z;rw[hm];exact ht.mono⟩
theorem G5{c:List Int}(h:∀x∈c,x≠0/\x.natAbs<=65536):c.any wr=false:=by rw[List.any_eq_false];intro x hx;obtain⟨h1,h2⟩:=h x hx;unfold wr J5;simp only[Bool.or_eq_true,beq_iff_eq];omega
theorem Gd.adds{s:At->Bool}:∀(cs:List (List Int)) {T:Tab} {B:lu},Gd s (T,B)->(∀c∈cs,(∀x∈c,x≠0/\x.natAbs<=65536)/\∃z∈c,Tru s T.l z)->Gd s (T,B.adds cs)
 | [],_,_,h,_=>h
 |c::cs,T,B,h,hc=>by
  refine Gd.adds cs (T:=T) (B:=B.add c) ?_ (fun d hd=>hc d (yE _ hd))
  obtain⟨h1,z,hz,ht⟩:=hc c qQ
  unfold lu.add
  rw[G5 h1]
  simp only[Bool.false_eq_true,if_false]
  split
  ·exact h
  ·rename_i f hf
   split
   ·exact⟨h.ok,h.nd,h.bad,h.cl⟩
   ·refine⟨h.ok,h.nd,h.bad,fun g hg=>?_⟩
    rcases qW.1 hg with hg|hg
    ·exact h.cl g hg
    ·rw[yJ.1 hg]
     exact⟨z,(Rup.Ui hf z).2 hz,ht⟩
theorem LZ{row:List Int}{c:List Int}(h:c∈tq row):∃i j,i<j/\j<row.length/\c=[-(row.getD i 0),-(row.getD j 0)]:=by
 unfold tq oI lX at h;obtain⟨i,hi,h⟩:=List.mem_flatMap.1 h;rw[yI]at hi;obtain⟨y,hy,rfl⟩:=yD.1 h;obtain⟨k,hk,rfl⟩:=List.mem_iff_getElem.1 hy;rw[List.length_drop]at hk;refine⟨i,i+1+k,by omega,by omega,?_⟩;rw[List.getElem_drop];have:row.getD (i+1+k) 0=row[i+1+k]'zAC:=by rw[qC,qA zBk];rfl
 rw[this]
theorem acn{row:List Int}{i j:Nat}(hij:i<j)(hj:j<row.length):[-(row.getD i 0),-(row.getD j 0)]∈tq row:=by unfold tq oI lX;refine List.mem_flatMap.2 ⟨i,yI.2 zBk,yD.2 ⟨row.getD j 0,?_,rfl⟩⟩;rw[List.mem_iff_getElem];refine⟨j-(i+1),by rw[List.length_drop];omega,?_⟩;rw[List.getElem_drop,qC,qA hj];simp only[Option.getD_some];congr 1;omega
structure Full (l:List At) (a:At) (ats:List At) (node:Int) (ns:List Int):Prop where
 node:iF l a node
 len:ns.length=ats.length
 get:∀i,i<ats.length->iF l (ats.getD i default) (ns.getD i 0)
theorem Full.of{l:List At}{a:At}{ats:List At}{node:Int}{ns:List Int}(h1:node=0\/iF l a node)(h2:LY l ats ns)(h:¬(node=0\/ns.contains 0=true)):Full l a ats node ns:=by
 rw[not_or]at h;refine⟨h1.resolve_left h.1,h2.1,fun i hi=>(h2.2 i hi).resolve_left fun e=>h.2 ?_⟩;rw[List.contains_iff_mem];have hl:i<ns.length:=by rw[h2.1];exact hi
 rw[qC,qA hl]at e;rw[<-e];exact qZ hl
theorem Full.mem{l:List At}{a:At}{ats:List At}{node:Int}{ns:List Int}(F:Full l a ats node ns){x:Int}(hx:x∈ns):∃i,i<ats.length/\x=ns.getD i 0:=by obtain⟨i,hi,rfl⟩:=List.mem_iff_getElem.1 hx;exact⟨i,by rw[<-F.len];exact hi,by rw[qC,qA hi];rfl⟩
theorem Full.at_mem{l:List At}{a:At}{ats:List At}{node:Int}{ns:List Int}(F:Full l a ats node ns){i:Nat}(hi:i<ats.length):ns.getD i 0∈ns:=by
 have hl:i<ns.length:=by rw[F.len];exact hi
 rw[qC,qA hl];exact qZ hl
theorem iF.rng{l:List At}(hl:l.length<=65536){a:At}{z:Int}(h:iF l a z):(z≠0/\z.natAbs<=65536)/\(-z≠0/\(-z).natAbs<=65536):=by obtain⟨h1,h2,-⟩:=h;omega
theorem Full.rng{l:List At}(hl:l.length<=65536){a:At}{ats:List At}{node:Int}{ns:List Int}(F:Full l a ats node ns):∀c∈zN node ns,∀x∈c,x≠0/\x.natAbs<=65536:=by
 intro c hc x hx;unfold zN at hc;rcases qY.1 hc with rfl|hc
 ·rcases qY.1 hx with rfl|hx;·exact(F.node.rng hl).2
  obtain⟨i,hi,rfl⟩:=F.mem hx;exact((F.get i hi).rng hl).1
 rcases qW.1 hc with hc|hc
 ·obtain⟨i,j,hij,hj,rfl⟩:=LZ hc;rw[F.len]at hj;simp only[qY,List.not_mem_nil,or_false]at hx;rcases hx with rfl|rfl;·exact((F.get i zBk).rng hl).2
  exact((F.get j hj).rng hl).2
 obtain⟨n,hn,rfl⟩:=yD.1 hc;obtain⟨i,hi,rfl⟩:=F.mem hn;simp only[qY,List.not_mem_nil,or_false]at hx;rcases hx with rfl|rfl;·exact((F.get i hi).rng hl).2
 exact(F.node.rng hl).1
theorem Full.holds{s:At->Bool}{l:List At}{a:At}{ats:List At}{node:Int}{ns:List Int}(F:Full l a ats node ns)(X:UA s a ats):∀c∈zN node ns,∃z∈c,Tru s l z:=by
 intro c hc;unfold zN at hc;rcases qY.1 hc with rfl|hc
 ·cases ha:s a;·exact⟨-node,qQ,F.node.ae1 ha⟩
  obtain⟨i,hi,h⟩:=X.2 ha;exact⟨ns.getD i 0,yE _ (F.at_mem hi),(F.get i hi).tru ((h i hi).2 rfl)⟩
 rcases qW.1 hc with hc|hc
 ·obtain⟨i,j,hij,hj,rfl⟩:=LZ hc;rw[F.len]at hj;cases hi:s (ats.getD i default);·exact⟨_,qQ,(F.get i zBk).ae1 hi⟩
  cases hjj:s (ats.getD j default);·exact⟨_,yE _ qQ,(F.get j hj).ae1 hjj⟩
  cases ha:s a;·rw[X.1 ha i zBk]at hi;cases hi
  obtain⟨k,hk,h⟩:=X.2 ha;have e1:=(h i zBk).1 hi;have e2:=(h j hj).1 hjj;omega
 obtain⟨n,hn,rfl⟩:=yD.1 hc;obtain⟨i,hi,rfl⟩:=F.mem hn;cases ha:s a;·exact⟨_,qQ,(F.get i hi).ae1 (X.1 ha i hi)⟩
 exact⟨node,by simp,F.node.tru ha⟩
theorem Gd.row{s:At->Bool}{S:TB}(h:Gd s S){a:At}{ats:List At}{node:Int}(hn:node=0\/iF S.1.l a node)(X:UA s a ats):Gd s (S.row node ats):=by
 obtain⟨T,B⟩:=S;obtain⟨n1,k1⟩:=Q9 ats h.ok h.nd;obtain⟨m,hm,-⟩:=zS ats T;have hok:=(Tab.uF ats h.ok).1;have h':Gd s ((T.nums ats).1,B):=⟨hok,n1,h.bad,fun f hf=>by
  obtain⟨z,hz,ht⟩:=h.cl f hf
  exact⟨z,hz,by show Tru s (T.nums ats).1.l z;rw[hm];exact ht.mono⟩⟩
 show Gd s ((T.nums ats).1,B.one node (T.nums ats).2);unfold lu.one;split;·exact h'
 rename_i hz;have hn':node=0\/iF (T.nums ats).1.l a node:=by rw[hm];exact hn.imp id iF.mono
 have F:=Full.of hn' k1 hz;exact h'.adds _ fun c hc=>⟨F.rng (qR hok.len hok.lim) c hc,F.holds X c hc⟩
theorem L6(S:TB)(node:Int)(ats:List At):∃m,(S.row node ats).1.l=S.1.l++m/\∀b∈m,b∈ats:=zS ats S.1
structure YK (s:At->Bool) (p:Nat) (pk:iT):Prop where
 bY:UA s (aJ p) (ku p pk.bY.length)
 vars:∀j,j<pk.vars.length->UA s (aJ p) (kG p j (pk.vars.getD j default).values.length)
theorem Gd.vars{s:At->Bool}{S:TB}(h:Gd s S){p:Nat}{node:Int}(hn:node=0\/iF S.1.l (aJ p) node){vs:List kS}:∀j,(∀k,k<j->UA s (aJ p) (kG p k (vs.getD k default).values.length))->Gd s (S.vars node p vs j)/\(node=0\/iF (S.vars node p vs j).1.l (aJ p) node)
 |0,_=>⟨h,hn⟩
 |j+1,hx=>by
  obtain⟨h1,h2⟩:=Gd.vars h hn (vs:=vs) j (fun k hk=>hx k zBk)
  obtain⟨m,hm,-⟩:=L6 (S.vars node p vs j) node (kG p j (vs.getD j default).values.length)
  refine⟨h1.row h2 (hx j zBk),?_⟩
  rw[TB.vars,hm]
  exact h2.imp id iF.mono
theorem Gd.pack{s:At->Bool}{S:TB}(h:Gd s S){p:Nat}{pk:iT}(X:YK s p pk):Gd s (S.pack p pk):=by
 obtain⟨T,B⟩:=S;obtain⟨h1,h2⟩:=h.num (aJ p);obtain⟨m,hm,-⟩:=L6 ((T.num (aJ p)).1,B) (T.num (aJ p)).2 (ku p pk.bY.length);have h3:=h1.row h2 X.bY;have h4:(T.num (aJ p)).2=0\/iF (TB.row ((T.num (aJ p)).1,B) (T.num (aJ p)).2 (ku p pk.bY.length)).1.l (aJ p) (T.num (aJ p)).2:=by rw[hm];exact h2.imp id iF.mono
 exact(h3.vars h4 _ X.vars).1
theorem Gd.choices{s:At->Bool}{x:aH}:∀(l:List Nat) {S:TB},Gd s S->(∀p∈l,YK s p (x.pack p))->Gd s (S.choices x l)
 | [],_,h,_=>h
 |p::l,S,h,X=>Gd.choices l (S:=S.pack p (x.pack p)) (h.pack (X p qQ)) (fun q hq=>X q (yE _ hq))
theorem ahJ{s:At->Bool}{l:List At}(hl:l.length<=65536){z:Int}(h0:z≠0)(h:z.natAbs<=l.length){m:List Bool}(hm:∀i,i<l.length->m.getD i false=s (l.getD i default)):Xk z m=lit s l z:=by
 have hw:wr z=false:=by unfold wr J5;rw[Bool.or_eq_false_iff,yC,yC];omega
 unfold Xk lit;rw[hw,hm _ zBk];simp only[Bool.false_eq_true,if_false];split;·rw[qP zBk];cases s (l.getD (z.natAbs-1) default)<;>rfl
 rw[qX zBk];cases s (l.getD (z.natAbs-1) default)<;>rfl
theorem aco{s:At->Bool}{l:List At}{i:Nat}(hi:i<l.length):(l.map s).getD i false=s (l.getD i default):=by rw[qC,qC,List.getElem?_map,qA hi];rfl
theorem Gd.holds{s:At->Bool}{S:TB}(h:Gd s S):holdsB S.2.cls (S.1.l.map s)=true:=by unfold holdsB;rw[List.all_eq_true];intro f hf;obtain⟨z,hz,ht⟩:=h.cl f hf;rw[yU];exact⟨z,hz,by rw[ahJ (qR h.ok.len h.ok.lim) ht.1 ht.2.1 fun i hi=>aco hi];exact ht.2.2⟩
def Jb(s:At->Bool)(l:List At)(cls:List (List Int))(n:Nat):Prop:= ∃f∈cls,∀z∈f,z≠0/\z.natAbs<=l.length/\lit s l z=decide (z.natAbs-1=n)
theorem Jb.mono{s:At->Bool}{l m:List At}{cls ds:List (List Int)}{n:Nat}(h:Jb s l cls n):Jb s (l++m) (cls++ds) n:=by obtain⟨f,hf,h⟩:=h;refine⟨f,List.mem_append_left _ hf,fun z hz=>?_⟩;obtain⟨h1,h2,h3⟩:=h z hz;exact⟨h1,by rw[qK];omega,by rw[YJ h1 h2];exact h3⟩
theorem ae2{x:Int}(h0:x≠0)(h1:x.natAbs<=65536):iE.Lit x:=by refine⟨⟨by omega,by omega⟩,?_⟩;unfold wr J5;rw[Bool.or_eq_false_iff,yC,yC];omega
theorem zM{c:List Int}(hl:∀x∈c,x≠0/\x.natAbs<=65536)(hne:∀x∈c,-x∉c):∃f,form c=some f/\∀x,x∈f↔x∈c:=by
 have hlit:∀x∈c,iE.Lit x:=fun x hx=>ae2 (hl x hx).1 (hl x hx).2;have hl2:∀x∈su c,iE.Lit x:=fun x hx=>hlit x ((lD c x).1 hx);have hs:=Au c;have habs:nG (su c):=by
  unfold Strict at hs;unfold nG;refine hs.imp_of_mem fun{x y} hx hy hxy=>?_;rw[lt_iff,(hl2 x hx).abs,(hl2 y hy).abs]at hxy;rcases hxy with h1| ⟨h1,h2⟩;·omega
  exfalso;have:y= -x:=zBk;rw[this]at hy;exact hne x ((lD c x).1 hx) ((lD c (-x)).1 hy)
 refine⟨su c,?_,lD c⟩;unfold form;rw[abM hlit];simp only[Bool.false_eq_true,if_false];rw[CQ habs hl2];rfl
theorem UC:∀(l:List (List Int)) (B:lu),(∀c∈l,∀x∈c,x≠0/\x.natAbs<=65536)->B.cls.length+l.length<=262144->(B.adds l).cls=B.cls++l.filterMap form
 | [],B,_,_=>by simp[lu.adds]
 |c::l,B,hl,hb=>by
  simp only[qN]at hb
  have e:B.adds (c::l)=(B.add c).adds l:=rfl
  rw[e]
  have hadd:(B.add c).cls=B.cls++[c].filterMap form:=by
   unfold lu.add
   rw[G5 (hl c qQ)]
   simp only[Bool.false_eq_true,if_false]
   cases hf:form c with
   |none=>simp[hf]
   |some f=>
    simp only
    rw[if_neg zBk]
    simp[hf]
  have hlen:(B.add c).cls.length<=B.cls.length+1:=by
   rw[hadd,qK]
   have:=List.length_filterMap_le form [c]
   simp only[List.length_singleton]at this
   omega
  rw[UC l (B.add c) (fun d hd=>hl d (yE _ hd)) zBk,hadd,yW,<-List.filterMap_append]
  rfl
theorem Full.apt{s:At->Bool}{l:List At}(hl:l.length<=65536)(hnd:l.Nodup){a:At}{ats:List At}{node:Int}{ns:List Int}(F:Full l a ats node ns)(X:UA s a ats)(ha:a∉ats)(hat:ats.Nodup){n:Nat}(hn:n<l.length)(hm:l.getD n default=a\/l.getD n default∈ats):∃c∈zN node ns,(∀x∈c,-x∉c)/\∀z∈c,z≠0/\z.natAbs<=l.length/\lit s l z=decide (z.natAbs-1=n):=by
 have hp:0<node:=F.node.1;have hpi:∀i,i<ats.length->0<ns.getD i 0:=fun i hi=>(F.get i hi).1; -- whose place is it
 have key:∀b z,iF l b z->(z.natAbs-1=n↔b=l.getD n default):=fun b z hz=>by
  constructor;·rintro rfl;exact hz.2.2.symm
  rintro rfl;exact hz.uniq hnd hn
 have hinj:∀i j,i<ats.length->j<ats.length->ats.getD i default=ats.getD j default->i=j:=fun i j hi hj e=>by rw[qC,qC,qA hi,qA hj]at e;exact(List.getElem_inj hat).1 e
 have hmem:∀i,i<ats.length->ats.getD i default∈ats:=fun i hi=>by rw[qC,qA hi];exact qZ hi
 have hna:∀i,i<ats.length->ats.getD i default≠a:=fun i hi e=>ha (e▸hmem i hi);have hne:∀i,i<ats.length->ns.getD i 0≠node:=fun i hi e=>by have:=F.get i hi;rw[e]at this;exact hna i hi (this.inj F.node)
 have l1: -node::ns∈zN node ns:=qQ;have l2:∀i,i<ats.length->[-(ns.getD i 0),node]∈zN node ns:=fun i hi=>
  yE _ (List.mem_append_right _ (yD.2 ⟨_,F.at_mem hi,rfl⟩))
 have l3:∀i j,i<j->j<ats.length->[-(ns.getD i 0),-(ns.getD j 0)]∈zN node ns:=fun i j hij hj=>
  yE _ (List.mem_append_left _ (acn hij (by rw[F.len];exact hj)))
 have n1:∀x∈ -node::ns,-x∉ -node::ns:=by
  intro x hx h;rcases qY.1 hx with rfl|hx
  ·rcases qY.1 h with h|h;·omega
   obtain⟨i,hi,e⟩:=F.mem h;exact hne i hi zBk
  obtain⟨i,hi,rfl⟩:=F.mem hx;have:=hpi i hi;rcases qY.1 h with h|h;·exact hne i hi zBk
  obtain⟨j,hj,e⟩:=F.mem h;have:=hpi j hj;omega
 have n2:∀i,i<ats.length->∀x∈[-(ns.getD i 0),node],-x∉[-(ns.getD i 0),node]:=by intro i hi x hx h;have:=hpi i hi;have:=hne i hi;simp only[qY,List.not_mem_nil,or_false]at hx h;omega
 have n3:∀i j,i<ats.length->j<ats.length->∀x∈[-(ns.getD i 0),-(ns.getD j 0)],-x∉[-(ns.getD i 0),-(ns.getD j 0)]:=by intro i j hi hj x hx h;have:=hpi i hi;have:=hpi j hj;simp only[qY,List.not_mem_nil,or_false]at hx h;omega
 have pos:∀{b z},iF l b z->z≠0/\z.natAbs<=l.length/\lit s l z=s b:=fun h=>⟨by have:=h.1;omega,h.2.1,h.lit⟩;have neg:∀{b z},iF l b z-> -z≠0/\(-z).natAbs<=l.length/\lit s l (-z)= !s b/\(-z).natAbs-1=z.natAbs-1:=fun h=>⟨by have:=h.1;omega,by have:=h.2.1;omega,h.ak0,by omega⟩;rcases hm with hm|hm
 ·-- the node itself
  have kn:node.natAbs-1=n:=(key a node F.node).2 hm.symm;have ki:∀i,i<ats.length->¬((ns.getD i 0).natAbs-1=n):=fun i hi e=>hna i hi (((key _ _ (F.get i hi)).1 e).trans hm);cases hs:s a
  ·refine⟨_,l1,n1,fun z hz=>?_⟩;rcases qY.1 hz with rfl|hz;·obtain⟨p1,p2,p3,p4⟩:=neg F.node;exact⟨p1,p2,by rw[p3,p4,hs,qX kn];rfl⟩
   obtain⟨i,hi,rfl⟩:=F.mem hz;obtain⟨p1,p2,p3⟩:=pos (F.get i hi);exact⟨p1,p2,by rw[p3,X.1 hs i hi,qP (ki i hi)]⟩
  obtain⟨i,hi,h⟩:=X.2 hs;refine⟨_,l2 i hi,n2 i hi,fun z hz=>?_⟩;simp only[qY,List.not_mem_nil,or_false]at hz;rcases hz with rfl|rfl;·obtain⟨p1,p2,p3,p4⟩:=neg (F.get i hi);exact⟨p1,p2,by rw[p3,p4,(h i hi).2 rfl,qP (ki i hi)];rfl⟩
  obtain⟨p1,p2,p3⟩:=pos F.node;exact⟨p1,p2,by rw[p3,hs,qX kn]⟩
 obtain⟨i,hi',e⟩:=List.mem_iff_getElem.1 hm;have hi:=hi';have ei:ats.getD i default=l.getD n default:=by rw[qC,qA hi];exact e
 have kn:¬(node.natAbs-1=n):=fun h=>hna i hi (ei.trans ((key a node F.node).1 h).symm);have ki:(ns.getD i 0).natAbs-1=n:=(key _ _ (F.get i hi)).2 ei;have kj:∀j,j<ats.length->j≠i->¬((ns.getD j 0).natAbs-1=n):=fun j hj hji h=>hji (hinj j i hj hi (((key _ _ (F.get j hj)).1 h).trans ei.symm));cases hs:s a
 ·refine⟨_,l2 i hi,n2 i hi,fun z hz=>?_⟩;simp only[qY,List.not_mem_nil,or_false]at hz;rcases hz with rfl|rfl;·obtain⟨p1,p2,p3,p4⟩:=neg (F.get i hi);exact⟨p1,p2,by rw[p3,p4,X.1 hs i hi,qX ki];rfl⟩
  obtain⟨p1,p2,p3⟩:=pos F.node;exact⟨p1,p2,by rw[p3,hs,qP kn]⟩
 obtain⟨k,hk,h⟩:=X.2 hs;by_cases ek:k=i
 ·subst ek;refine⟨_,l1,n1,fun z hz=>?_⟩;rcases qY.1 hz with rfl|hz;·obtain⟨p1,p2,p3,p4⟩:=neg F.node;exact⟨p1,p2,by rw[p3,p4,hs,qP kn];rfl⟩
  obtain⟨j,hj,rfl⟩:=F.mem hz;obtain⟨p1,p2,p3⟩:=pos (F.get j hj);refine⟨p1,p2,?_⟩;rw[p3];by_cases ej:j=k;·subst ej;rw[(h j hj).2 rfl,qX ki]
  rw[qP (kj j hj ej)];cases hh:s (ats.getD j default);·rfl
  exact absurd ((h j hj).1 hh) ej
 have hsi:s (ats.getD i default)=false:=by
  cases hh:s (ats.getD i default);·rfl
  exact absurd ((h i hi).1 hh) (fun e=>ek e.symm)
 have hsk:s (ats.getD k default)=true:=(h k hk).2 rfl;have ci:∀z,z= -(ns.getD i 0)\/z= -(ns.getD k 0)->z≠0/\z.natAbs<=l.length/\lit s l z=decide (z.natAbs-1=n):=by
  rintro z (rfl|rfl);·obtain⟨p1,p2,p3,p4⟩:=neg (F.get i hi);exact⟨p1,p2,by rw[p3,p4,hsi,qX ki];rfl⟩
  obtain⟨p1,p2,p3,p4⟩:=neg (F.get k hk);exact⟨p1,p2,by rw[p3,p4,hsk,qP (kj k hk ek)];rfl⟩
 rcases Nat.lt_or_gt_of_ne ek with hki|hik;·refine⟨_,l3 k i hki hi,n3 k i hk hi,fun z hz=>ci z ?_⟩;simp only[qY,List.not_mem_nil,or_false]at hz;exact hz.symm
 refine⟨_,l3 i k hik hk,n3 i k hi hk,fun z hz=>ci z ?_⟩;simpa only[qY,List.not_mem_nil,or_false]using hz
structure Gx (s:At->Bool) (S:TB) (K N:Nat):Prop where
 gd:Gd s S
 room:S.1.l.length<=K
 few:S.2.cls.length<=N
 Rf:S.1.full=false
 lim:S.1.limit=5000
theorem Rh(T:Tab)(a:At):(T.num a).1.limit=T.limit:=by
 unfold Tab.num;split;·rfl
 split<;>rfl
theorem UD:∀(ats:List At) (T:Tab),(T.nums ats).1.limit=T.limit
 | [],_=>rfl
 |a::r,T=>by rw[Tab.nums,UD r,Rh]
theorem L8{T:Tab}(h:T.l.length<T.limit)(a:At):(T.num a).1.full=T.full/\(T.num a).1.l.length<=T.l.length+1/\(T.num a).2≠0:=by
 unfold Tab.num;split;·rename_i hm;refine⟨rfl,by show T.l.length<=_;omega,?_⟩;simp only[numOf,if_pos hm];omega
 rw[if_neg zBk];refine⟨rfl,?_,by show((T.l.length:Int)+1)≠0;omega⟩;show(T.l++[a]).length<=_;rw[qK];simp
theorem P8:∀(ats:List At) {T:Tab},T.l.length+ats.length<=T.limit->(T.nums ats).1.full=T.full/\(T.nums ats).1.l.length<=T.l.length+ats.length/\∀z∈(T.nums ats).2,z≠0
 | [],T,_=>⟨rfl,qH _,fun z hz=>by cases hz⟩
 |a::r,T,h=>by
  simp only[qN]at h
  obtain⟨h1,h2,h3⟩:=L8 (T:=T) zBk a
  obtain⟨k1,k2,k3⟩:=P8 r (T:=(T.num a).1) (by rw[Rh];omega)
  refine⟨by rw[Tab.nums];exact k1.trans h1,by rw[Tab.nums];simp only[qN];exact qR k2 zBk,fun z hz=>?_⟩
  rw[Tab.nums]at hz
  rcases qY.1 hz with rfl|hz
  ·exact h3
  ·exact k3 z hz
theorem ZR(row:List Int)(i:Nat):(lX row i).length<=row.length:=by unfold lX;simp
theorem acp(row:List Int):(tq row).length<=row.length*row.length:=by
 unfold tq;have:∀i,(oI row i).length<=i*row.length:=by
  intro i
  induction i with
  |zero=>simp[oI]
  |succ i ih=>
   rw[CV,qK,Nat.succ_mul]
   have:=ZR row i
   omega
 exact this _
def YL(s:At->Bool)(S:TB)(a:At):Prop:= ∀n,n<S.1.l.length->S.1.l.getD n default≠a->Jb s S.1.l S.2.cls n
theorem Gx.row{s:At->Bool}{S:TB}{K N:Nat}(h:Gx s S K N){a:At}{ats:List At}{node:Int}(hn:iF S.1.l a node)(X:UA s a ats)(ha:a∉ats)(hat:ats.Nodup)(hsz:ats.length<=10)(hK:K<=4000)(hN:N<=100000)(hc:YL s S a):Gx s (S.row node ats) (K+10) (N+111)/\iF (S.row node ats).1.l a node/\∀n,n<(S.row node ats).1.l.length->Jb s (S.row node ats).1.l (S.row node ats).2.cls n:=by
 obtain⟨T,B⟩:=S;obtain⟨m,hm,hmm⟩:=zS ats T;have hg:=h.gd.row (.inr hn) X;have hlim:T.limit=5000:=h.lim;have hroom:T.l.length<=K:=h.room;obtain⟨q1,q2,q3⟩:=P8 ats (T:=T) zBk;obtain⟨n1,k1⟩:=Q9 ats h.gd.ok h.gd.nd;have hok:=(Tab.uF ats h.gd.ok).1;have hl:(T.nums ats).1.l.length<=65536:=qR hok.len hok.lim;have hn':iF (T.nums ats).1.l a node:=by rw[hm];exact hn.mono
 have hz:¬(node=0\/(T.nums ats).2.contains 0=true):=by
  rintro(e|e);·have:=hn.1;omega
  rw[List.contains_iff_mem]at e;exact q3 0 e rfl
 have F:=Full.of (.inr hn') k1 hz;have ak1:=F.rng hl;have hone:B.one node (T.nums ats).2=B.adds (zN node (T.nums ats).2):=by unfold lu.one;rw[if_neg hz]
 have hlen:(zN node (T.nums ats).2).length<=111:=by
  unfold zN;simp only[qN,qK,qM];have h1:=acp (T.nums ats).2;have h2:(T.nums ats).2.length<=10:=by rw[k1.1];exact hsz
  have h3:(T.nums ats).2.length*(T.nums ats).2.length<=10*10:=Nat.mul_le_mul h2 h2;omega
 have hfew:B.cls.length<=N:=h.few;have hcls:(B.one node (T.nums ats).2).cls=B.cls++(zN node (T.nums ats).2).filterMap form:=by rw[hone];exact UC _ _ ak1 zBk
 refine⟨⟨hg,?_,?_,?_,?_⟩,hn',fun n hlt=>?_⟩;·show(T.nums ats).1.l.length<=K+10;omega
 ·show(B.one node (T.nums ats).2).cls.length<=N+111;rw[hcls,qK];have:=List.length_filterMap_le form (zN node (T.nums ats).2);omega
 ·show(T.nums ats).1.full=false;rw[q1];exact h.Rf
 ·show(T.nums ats).1.limit=5000;rw[UD];exact hlim
 show Jb s (T.nums ats).1.l (B.one node (T.nums ats).2).cls n;have hlt':n<(T.nums ats).1.l.length:=hlt;by_cases hin:(T.nums ats).1.l.getD n default=a\/(T.nums ats).1.l.getD n default∈ats;·obtain⟨c,h1,h2,h3⟩:=F.apt (s:=s) hl n1 X ha hat hlt' hin;obtain⟨f,hf,hfm⟩:=zM (ak1 c h1) h2;rw[hcls];exact⟨f,List.mem_append_right _ (List.mem_filterMap.2 ⟨c,h1,hf⟩),fun z hz=>h3 z ((hfm z).1 hz)⟩
 rw[not_or]at hin;have hold:n<T.l.length:=by
  rcases yK n T.l.length with h|h;·exact h
  exfalso;refine hin.2 (hmm _ ?_);rw[hm,qC,yN h,qA (by rw[hm,qK]at hlt';omega)];exact qZ _
 have e1:(T.nums ats).1.l.getD n default=T.l.getD n default:=by rw[hm];exact LX hold
 rw[hcls,hm];exact(hc n hold (by show T.l.getD n default≠a;rw[<-e1];exact hin.1)).mono
theorem P9{p n:Nat}{a:At}:a∈ku p n↔ ∃i,i<n/\a=pX p i:=by unfold ku;exact zD6
theorem Qa{p j n:Nat}{a:At}:a∈kG p j n↔ ∃i,i<n/\a=oh p j i:=by unfold kG;exact zD6
theorem acr(p n:Nat):aJ p∉ku p n:=fun h=>by
 obtain⟨i,-,e⟩:=P9.1 h
 have:=congrArg Prod.fst e
 simp[aJ,pX]at this
theorem acs(p j n:Nat):aJ p∉kG p j n:=fun h=>by
 obtain⟨i,-,e⟩:=Qa.1 h
 have:=congrArg Prod.fst e
 simp[aJ,oh]at this
theorem Qb{f:Nat->At}(h:∀i j,f i=f j->i=j)(n:Nat):((List.range n).map f).Nodup:=by unfold List.Nodup;rw[List.pairwise_map];exact List.pairwise_lt_range.imp fun{a b} hab e=>by have:=h a b e;omega
theorem UE(p n:Nat):(ku p n).Nodup:=Qb (fun i j e=>by
 have:=congrArg (fun a:At=>a.2.2.1) e
 simp[pX]at this
 omega) n
theorem UF(p j n:Nat):(kG p j n).Nodup:=Qb (fun i k e=>by
 have:=congrArg (fun a:At=>a.2.2.2) e
 simp[oh]at this
 omega) n
theorem Gx.vars{s:At->Bool}{S:TB}{K N:Nat}(h:Gx s S K N){p:Nat}{node:Int}(hn:iF S.1.l (aJ p) node){vs:List kS}(hs:∀v∈vs,v.values.length<=10)(hK:K<=2000)(hN:N<=50000)(hc:∀n,n<S.1.l.length->Jb s S.1.l S.2.cls n):
  ∀j,j<=vs.length->j<=4->(∀k,k<j->UA s (aJ p) (kG p k (vs.getD k default).values.length))->
  Gx s (S.vars node p vs j) (K+10*j) (N+111*j)/\iF (S.vars node p vs j).1.l (aJ p) node/\∀n,n<(S.vars node p vs j).1.l.length->Jb s (S.vars node p vs j).1.l (S.vars node p vs j).2.cls n
 |0,_,_,_=>⟨h,hn,hc⟩
 |j+1,h1,h2,hx=>by
  obtain⟨g1,g2,g3⟩:=Gx.vars h hn hs hK hN hc j zB7 zAC (fun k hk=>hx k zBk)
  have hl:(kG p j (vs.getD j default).values.length).length<=10:=by
   unfold kG
   rw[qM,List.length_range]
   refine hs _ ?_
   rw[qC,qA zBk]
   exact qZ _
  have:=g1.row g2 (hx j zB7) (acs p j _) (UF p j _) hl zAC zBk (fun n hn _=>g3 n hn)
  rw[TB.vars,Nat.mul_succ,Nat.mul_succ,<-Nat.add_assoc,<-Nat.add_assoc]
  exact this
structure acu (pk:iT):Prop where
 bY:pk.bY.length<=10
 vars:pk.vars.length<=4
 vals:∀v∈pk.vars,v.values.length<=10
theorem Gx.pack{s:At->Bool}{S:TB}{K N:Nat}(h:Gx s S K N){p:Nat}{pk:iT}(X:YK s p pk)(ok:acu pk)(hK:K<=1000)(hN:N<=20000)(hc:∀n,n<S.1.l.length->Jb s S.1.l S.2.cls n):Gx s (S.pack p pk) (K+51) (N+555)/\∀n,n<(S.pack p pk).1.l.length->Jb s (S.pack p pk).1.l (S.pack p pk).2.cls n:=by
 obtain⟨T,B⟩:=S;obtain⟨h1,h2⟩:=h.gd.num (aJ p);obtain⟨m,hm,hmm⟩:=Dc T (aJ p);have hlim:T.limit=5000:=h.lim;have hroom:T.l.length<=K:=h.room;obtain⟨q1,q2,q3⟩:=L8 (T:=T) zBk (aJ p);have hnum:=h2.resolve_left q3;have g0:Gx s ((T.num (aJ p)).1,B) (K+1) N:=⟨h1,by show(T.num (aJ p)).1.l.length<=_;omega,h.few,by show(T.num (aJ p)).1.full=false;rw[q1];exact h.Rf,by show(T.num (aJ p)).1.limit=5000;rw[Rh];exact hlim⟩;have c0:YL s ((T.num (aJ p)).1,B) (aJ p):=fun n hlt hne=>by
  have hlt':n<(T.num (aJ p)).1.l.length:=hlt;have hne':(T.num (aJ p)).1.l.getD n default≠aJ p:=hne;show Jb s (T.num (aJ p)).1.l B.cls n;have hold:n<T.l.length:=by
   rcases yK n T.l.length with h|h;·exact h
   exfalso;refine hne' (hmm _ ?_);rw[hm,qC,yN h,qA (by rw[hm,qK]at hlt';omega)];exact qZ _
  have:=(hc n hold).mono (m:=m) (ds:=[]);rw[List.append_nil]at this;rw[hm];exact this
 obtain⟨g1,k1,c1⟩:=g0.row hnum X.bY (acr p _) (UE p _) (by unfold ku;rw[qM,List.length_range];exact ok.bY) zAC zBk c0;obtain⟨g2,-,c2⟩:=g1.vars k1 ok.vals zAC zBk c1 pk.vars.length (qH _) ok.vars X.vars;have hv:=ok.vars;refine⟨⟨g2.gd,qR g2.room zAC,qR g2.few zBk,g2.Rf,g2.lim⟩,c2⟩
theorem Gx.choices{s:At->Bool}{x:aH}:∀(l:List Nat) {S:TB} {K N:Nat},Gx s S K N->(∀n,n<S.1.l.length->Jb s S.1.l S.2.cls n)->K+51*l.length<=1000->N+555*l.length<=20000->(∀p∈l,YK s p (x.pack p)/\acu (x.pack p))->
  Gx s (S.choices x l) (K+51*l.length) (N+555*l.length)/\∀n,n<(S.choices x l).1.l.length->Jb s (S.choices x l).1.l (S.choices x l).2.cls n
 | [],_,_,_,h,hc,_,_,_=>⟨h,hc⟩
 |p::l,S,K,N,h,hc,hK,hN,X=>by
  simp only[qN,Nat.mul_succ]at hK hN⊢
  obtain⟨X1,X2⟩:=X p qQ
  obtain⟨g1,c1⟩:=h.pack X1 X2 zAC zBk hc
  have:=Gx.choices l (S:=S.pack p (x.pack p)) g1 c1 zAC zBk (fun q hq=>X q (yE _ hq))
  rw[show K+(51*l.length+51)=K+51+51*l.length by omega,show N+(555*l.length+555)=N+555+555*l.length by omega]
  exact this
structure Less (L:Nat) (T1 T2:Tab):Prop where
 l:T1.l=T2.l.take L
 full:T1.full=decide (L<T2.l.length)
 lim:T1.limit=L
 room:T2.full=false
 apu:T2.limit=5000
theorem Less.num{L:Nat}{T1 T2:Tab}(h:Less L T1 T2)(hl:T2.l.length<5000)(a:At):Less L (T1.num a).1 (T2.num a).1:=by
 obtain⟨h1,h2,h3,h4,h5⟩:=h;unfold Tab.num;by_cases m2:a∈T2.l
 ·rw[if_pos m2];by_cases m1:a∈T1.l;·rw[if_pos m1];exact⟨h1,h2,h3,h4,h5⟩
  rw[if_neg m1];have hlt:L<T2.l.length:=by
   rcases yK L T2.l.length with h|h;·exact h
   rw[qI h]at h1;rw[h1]at m1;exact absurd m2 m1
  rw[if_pos (by rw[h3,h1,List.length_take];omega)];exact⟨h1,by show true=_;rw[qX hlt],h3,h4,h5⟩
 have m1:a∉T1.l:=fun h=>m2 (by rw[h1]at h;exact List.mem_of_mem_take h);rw[if_neg m1,if_neg m2,if_neg (show¬T2.limit<=T2.l.length by omega)];split
 ·rename_i hc;rw[h3,h1,List.length_take]at hc;refine⟨?_,?_,h3,h4,h5⟩;·show T1.l=(T2.l++[a]).take L;rw[List.take_append_of_le_length zBk];exact h1
  show true=decide (L<(T2.l++[a]).length);rw[qX];simp;omega
 rename_i hc;rw[h3,h1,List.length_take]at hc;refine⟨?_,?_,h3,h4,h5⟩;·show T1.l++[a]=(T2.l++[a]).take L;rw[h1,qI (show T2.l.length<=L by omega),qI zAd]
 show T1.full=decide (L<(T2.l++[a]).length);rw[h2,qP zBk,qP];simp;omega
theorem Less.nums:∀(ats:List At) {L:Nat} {T1 T2:Tab},Less L T1 T2->T2.l.length+ats.length<=5000->Less L (T1.nums ats).1 (T2.nums ats).1
 | [],_,_,_,h,_=>h
 |a::r,L,T1,T2,h,hl=>by
  simp only[qN]at hl
  rw[Tab.nums,Tab.nums]
  have hlim:=h.apu
  have:=(L8 (T:=T2) zBk a).2.1
  exact Less.nums r (h.num zAC a) zBk
def acv(x:aH)(l:List Nat)(a:At):Prop:= ∃p∈l,a=aJ p\/(∃i,i<(x.pack p).bY.length/\a=pX p i)\/ ∃j k,j<(x.pack p).vars.length/\k<((x.pack p).vars.getD j default).values.length/\a=oh p j k
def AllOf(P:At->Prop)(S:TB):Prop:= ∀a∈S.1.l,P a
theorem AllOf.row{P:At->Prop}{S:TB}(h:AllOf P S){ats:List At}(ha:∀a∈ats,P a)(node:Int):AllOf P (S.row node ats):=fun a hm=>by
 obtain⟨m,e,hmm⟩:=L6 S node ats
 rw[e]at hm
 rcases qW.1 hm with hm|hm
 ·exact h a hm
 ·exact ha a (hmm a hm)
theorem AllOf.choices{x:aH}{l0:List Nat}:∀(l:List Nat) {S:TB},AllOf (acv x l0) S->(∀p∈l,p∈l0)->AllOf (acv x l0) (S.choices x l)
 | [],_,h,_=>h
 |p::l,S,h,hl=>by
  refine AllOf.choices l (S:=S.pack p (x.pack p)) ?_ (fun q hq=>hl q (yE _ hq))
  have hp:=hl p qQ
  obtain⟨T,B⟩:=S
  have h1:AllOf (acv x l0) ((T.num (aJ p)).1,B):=fun a ha=>by
   obtain⟨m,e,hmm⟩:=Dc T (aJ p)
   have ha':a∈(T.num (aJ p)).1.l:=ha
   rw[e]at ha'
   rcases qW.1 ha' with ha'|ha'
   ·exact h a ha'
   ·exact⟨p,hp,.inl (hmm a ha')⟩
  have h2:=h1.row (ats:=ku p (x.pack p).bY.length) (fun a ha=>by obtain⟨i,hi,rfl⟩:=P9.1 ha;exact⟨p,hp,.inr (.inl ⟨i,hi,rfl⟩)⟩) (T.num (aJ p)).2
  have h3:∀j,j<=(x.pack p).vars.length->AllOf (acv x l0) ((TB.row ((T.num (aJ p)).1,B) (T.num (aJ p)).2 (ku p (x.pack p).bY.length)).vars (T.num (aJ p)).2 p (x.pack p).vars j):=by
   intro j
   induction j with
   |zero=>exact fun _=>h2
   |succ j ih=>exact fun hj=>(ih zBk).row (fun a ha=>by obtain⟨i,hi,rfl⟩:=Qa.1 ha;exact⟨p,hp,.inr (.inr ⟨j,i,hj,hi,rfl⟩)⟩) _
  exact h3 _ (qH _)
end xA
namespace xA
theorem ZT(p n:Nat):(ku p n).length=n:=by unfold ku;simp
theorem ZU(p j n:Nat):(kG p j n).length=n:=by unfold kG;simp
def B0:lu:=⟨[],false,false⟩
theorem iW{x:aH}{l:List Nat}(hl:∀p∈l,p<x.packs.length){p:Nat}(hp:p∈l):x.pack p∈x.packs:=by unfold aH.pack;rw[qC,qA (hl p hp)];exact qZ _
section
variable {x:aH} {q:fV} (h:GZ x q) {l:List Nat} (hl:∀p∈l,p<x.packs.length) (hn:l.Nodup) (jG:List Nat)
include h hl
end
theorem acw{x:aH}{l:List Nat}{T:Tab}(hT:T.l=[])(B:lu):∀a∈(TB.choices (T,B) x l).1.l,acv x l a:=
 AllOf.choices (x:=x) (l0:=l) l (S:=(T,B)) (fun a ha=>by have:a∈T.l:=ha;rw[hT]at this;cases this) (fun p hp=>hp)
end xA
end Go.Proofs.YtdmmebjjojimiaaGreatDoor
namespace Go.Proofs
theorem zBy{p:Prop}(h:p:=by omega):p:=h
theorem zB1{p:Prop}(h:p:=by decide):p:=h
theorem zCC{p:Prop}(h:p:=by simp):p:=h
theorem zED{p:Prop}(h:p:=by
 have:=congrArg UInt8.toNat e'
 rw[UInt8.toNat_ofNat']at this
 have h48:(48:UInt8).toNat=48:=rfl
 omega):p:=h
theorem zEo{p:Prop}(h:p:=by
 cases hh:L9 l with
 |false=>rfl
 |true=>rw[YO hh]at h;exact nomatch h):p:=h
end Go.Proofs
namespace Go.Proofs.YtdmmebjjojimiaaGreatDoor
namespace Vn
open Go.Lib
def D9(c:UInt8):Bool:=decide (48<=c.toNat/\c.toNat<=57)
def isLt(c:UInt8):Bool:=decide (97<=c.toNat/\c.toNat<=122)
def YM(l:List UInt8):Bool:=l.all D9&& !l.isEmpty
def L9(l:List UInt8):Bool:=l.all isLt&& !l.isEmpty
def G6(l:List UInt8):Bool:=YM l&&decide (l.length<=9)&&(l==[48]||l.head? != some 48)
def kY(l:List UInt8):Bool:=L9 l||G6 l
def val(acc:Nat)(l:List UInt8):Nat:=l.foldl (fun a c=>a*10+(c.toNat-48)) acc
theorem xB{c:UInt8}:D9 c=true↔48<=c.toNat/\c.toNat<=57:=by unfold D9;rw[yP]
theorem acy{c:UInt8}:isLt c=true↔97<=c.toNat/\c.toNat<=122:=by unfold isLt;rw[yP]
theorem acz:∀(l:List UInt8) (acc k:Nat),(∀c∈l,D9 c=true)->acc<10^k->val acc l<10^(k+l.length)
 | [],acc,k,_,h=>by simpa[val]using h
 |c::r,acc,k,hd,h=>by
  have hc:=xB.1 (hd c qQ)
  have:=acz r (acc*10+(c.toNat-48)) (k+1) (fun d hd'=>hd d (yE _ hd')) (by rw[Nat.pow_succ];omega)
  show val (acc*10+(c.toNat-48)) r<_
  rw[qN,show k+(r.length+1)=k+1+r.length by omega]
  exact this
theorem Qc:∀(l:List UInt8) (acc k:Nat),(∀c∈l,D9 c=true)->acc<10^k->k+l.length<=18->parseUint10 acc l= .ok (val acc l)
 | [],acc,k,_,_,_=>rfl
 |c::r,acc,k,hd,h,hk=>by
  have hc:=xB.1 (hd c qQ)
  simp only[qN]at hk
  have h17:acc<10^17:=Nat.lt_of_lt_of_le h (Nat.pow_le_pow_right (by decide) zBy)
  have e17:(10:Nat)^17=100000000000000000:=zB1
  rw[e17]at h17
  simp only[parseUint10]
  rw[if_pos hc,if_neg (by omega),if_neg zBy]
  exact Qc r (acc*10+(c.toNat-48)) (k+1) (fun d hd'=>hd d (yE _ hd')) (by rw[Nat.pow_succ];omega) zBy
theorem acA(acc:Nat)(l:List UInt8)(c:UInt8):val acc (l++[c])=val acc l*10+(c.toNat-48):=by unfold val;rw[List.foldl_append];rfl
theorem acB:∀(l:List UInt8) (acc:Nat),acc<=val acc l
 | [],_=>qH _
 |c::r,acc=>qR zBy (acB r (acc*10+(c.toNat-48)))
theorem byte_of{c:UInt8}(h:D9 c=true):UInt8.ofNat (48+(c.toNat-48))=c:=by have:=xB.1 h;rw[show 48+(c.toNat-48)=c.toNat by omega,UInt8.ofNat_toNat]
theorem YN:∀(n:Nat) (l:List UInt8),l.length=n->(∀c∈l,D9 c=true)->l≠[]->(l=[48]\/l.head?≠some 48)->decDigits (val 0 l)=l
 |0,l,hn,_,hne,_=>absurd (yF hn) hne
 |n+1,l,hn,hd,hne,hz=>by
  obtain⟨l',c,rfl⟩:∃l' c,l=l'++[c]:=⟨l.dropLast,l.getLast hne,(List.dropLast_concat_getLast hne).symm⟩
  have hc:=hd c zCC
  have hc':=xB.1 hc
  rw[acA]
  cases l' with
  |nil=>
   have hv:val 0 ([]:List UInt8)=0:=rfl
   rw[hv,decDigits,dif_pos zBy,Nat.zero_mul,Nat.zero_add,byte_of hc]
   rfl
  |cons a r=>
   have hz2:(a::r).head?≠some 48:=by
    rcases hz with h|h
    ·have:=congrArg List.length h
     simp at this
    ·simpa using h
   have ha:=xB.1 (hd a zCC)
   have ha2:a.toNat≠48:=fun e=>hz2 (by
    show some a=some 48
    congr 1
    exact UInt8.toNat_inj.1 e)
   have hge:1<=val 0 (a::r):=by
    refine qR ?_ (acB r (0*10+(a.toNat-48)))
    omega
   have hl:(a::r).length=n:=by simpa using hn
   have ih:=YN n (a::r) hl (fun d hd'=>hd d (by rw[qW];exact .inl hd')) zCC (.inr hz2)
   rw[decDigits,dif_neg zBy]
   rw[show(val 0 (a::r)*10+(c.toNat-48))/10=val 0 (a::r) by omega,show(val 0 (a::r)*10+(c.toNat-48))%10=c.toNat-48 by omega,ih,byte_of hc]
theorem UG{d:Nat}(h:d<10):D9 (UInt8.ofNat (48+d))=true:=by rw[xB,UInt8.toNat_ofNat'];omega
theorem ae3(u:Nat):(∀c∈decDigits u,D9 c=true)/\decDigits u≠[]/\(decDigits u=[48]\/(decDigits u).head?≠some 48):=by
 induction u using Nat.strongRecOn with
 |_ u ih=>
  by_cases h:u<10
  ·rw[decDigits,dif_pos h];refine⟨fun c hc=>by rw[yJ.1 hc];exact UG h,by simp,?_⟩;by_cases h0:u=0;·subst h0;exact .inl rfl
   refine .inr fun e=>?_;have e':UInt8.ofNat (48+u)=48:=by simpa using e
   exact zED
  rw[decDigits,dif_neg h];obtain⟨h1,h2,h3⟩:=ih (u/10) zBy;refine⟨fun c hc=>?_,by simp,.inr ?_⟩
  ·rcases qW.1 hc with hc|hc;·exact h1 c hc
   rw[yJ.1 hc];exact UG zBy
  rcases h3 with h3|h3
  ·-- the number above is 0: not so
   exfalso;have:u/10=0:=by
    by_cases hb:u/10<10
    ·rw[decDigits,dif_pos hb]at h3;have e':UInt8.ofNat (48+u/10)=48:=by simpa using h3
     exact zED
    rw[decDigits,dif_neg hb]at h3;have h6:=congrArg List.length h3;have h4:=(ih (u/10/10) zBy).2.1;have h5:0<(decDigits (u/10/10)).length:=List.length_pos_iff.2 h4;rw[qK]at h6;simp at h6;exact absurd h6 h4
   omega
  intro e;refine h3 ?_;cases hh:decDigits (u/10)with
  |nil=>exact absurd hh h2
  |cons a r=>rw[hh]at e;simpa using e
theorem Mc:∀(k u:Nat),1<=k->u<10^k->nDigits u<=k
 |0,_,h,_=>by omega
 |k+1,u,_,h=>by
  by_cases hu:u<10
  ·rw[nDigits_small hu];omega
  ·rw[nDigits_big hu]
   rw[Nat.pow_succ]at h
   have h1:1<=k:=by
    rcases Nat.eq_zero_or_pos k with rfl|h'
    ·simp at h;omega
    ·exact h'
   have:=Mc k (u/10) h1 zBy
   omega
theorem G7{l:List UInt8}(h:G6 l=true):atoiAll l= .ok (val 0 l:Int)/\(val 0 l:Int)<=999999999/\itoa (val 0 l:Int)=l:=by
 unfold G6 YM at h;simp only[Bool.and_eq_true,Bool.or_eq_true,List.all_eq_true,yP,beq_iff_eq,bne_iff_ne,Bool.not_eq_true',List.isEmpty_eq_false_iff]at h;obtain⟨⟨⟨h1,h2⟩,h3⟩,h4⟩:=h;have hv:=acz l 0 0 h1 zB1;have hv9:val 0 l<10^9:=Nat.lt_of_lt_of_le hv (Nat.pow_le_pow_right (by decide) zBy);have e9:(10:Nat)^9=1000000000:=zB1;rw[e9]at hv9;have hp:=Qc l 0 0 h1 (by decide) zBy;refine⟨?_,by omega,?_⟩
 ·cases l with
  |nil=>exact absurd rfl h2
  |cons c r=>
   have hc:=xB.1 (h1 c qQ);have hm:parseMag (c::r)= .ok (val 0 (c::r)):=by unfold parseMag;rw[if_neg zCC];exact hp
   unfold atoiAll;simp only;rw[if_neg zBy,hm];simp only;rw[if_neg (by omega),if_neg (by omega),if_neg zBy]
 unfold itoa;rw[if_neg zBy,yT];exact YN _ l rfl h1 h2 h4
theorem acC{l:List UInt8}{n:Int}(h0:0<=n)(h9:n<=999999999)(hi:itoa n=l):G6 l=true:=by
 unfold itoa at hi;rw[if_neg zBy]at hi;obtain⟨h1,h2,h3⟩:=ae3 n.toNat;rw[hi]at h1 h2 h3;have hl:l.length<=9:=by rw[<-hi,decDigits_length];refine Mc 9 _ zB1 ?_;have e9:(10:Nat)^9=1000000000:=zB1;rw[e9];omega
 unfold G6 YM;simp only[Bool.and_eq_true,Bool.or_eq_true,List.all_eq_true,yP,beq_iff_eq,bne_iff_ne,Bool.not_eq_true',List.isEmpty_eq_false_iff];exact⟨⟨⟨h1,h2⟩,hl⟩,h3⟩
theorem YO{l:List UInt8}(h:L9 l=true):atoiAll l=atoiAll []:=by
 unfold L9 at h;simp only[Bool.and_eq_true,List.all_eq_true,Bool.not_eq_true',List.isEmpty_eq_false_iff]at h;obtain⟨h1,h2⟩:=h;cases l with
 |nil=>exact absurd rfl h2
 |cons c r=>
  have hc:=acy.1 (h1 c qQ);have hm:parseMag (c::r)=parseMag []:=by show(if c::r=[]then _ else parseUint10 0 (c::r))=_;rw[if_neg zCC];simp only[parseUint10];rw[if_neg zBy];rfl
  unfold atoiAll;simp only;rw[if_neg zBy,hm];rfl
end Vn
namespace Vn
open Go.Lib
abbrev By:=List UInt8
def iZ(a:By):Nat:=if a=[]then 1 else if L9 a=true then 0 else 2
def numeral(a:By):Nat:=if a=[]then 0 else if L9 a=true then 0 else val 0 a
def fZ(a:By):By:=if L9 a=true then a else []
def Ri(a b:By):Prop:=iZ a<iZ b\/(iZ a=iZ b/\(numeral a<numeral b\/(numeral a=numeral b/\fZ a<fZ b)))
instance (a b:By):Decidable (Ri a b):=by unfold Ri;infer_instance
theorem ZV(a:By):¬a<a:=List.lt_irrefl a
theorem acD{a b:By}(h:a≠b):a<b\/b<a:=by
 rcases Decidable.em (a<b)with h1|h1;·exact .inl h1
 rcases Decidable.em (b<a)with h2|h2;·exact .inr h2
 exact absurd (List.le_antisymm (List.not_lt.1 h2) (List.not_lt.1 h1)) h
abbrev atP(x:List By)(i:Nat):By:=x.getD i []
theorem ae4{a:By}(h:kY a=true):a≠[]:=by rintro rfl;revert h;decide
def ED(x y:List By):Nat->Nat->Int
 |0,_=>0
 |k+1,i=>if Ri (atP x i) (atP y i)then -1 else if Ri (atP y i) (atP x i)then 1 else ED x y k (i+1)
end Vn
namespace Vn
open Go.Lib
theorem ZW{l:List UInt8}{v:Int}(h:atoiAll l= .ok v):kY l=(decide (0<=v)&&decide (v<=999999999)&&decide (itoa v=l)):=by
 have hl:L9 l=false:=by exact zEo
 unfold kY;rw[hl,Bool.false_or];cases hn:G6 l with
 |true=>obtain⟨h1,h2,h3⟩:=G7 hn;rw[h1]at h;cases h;rw[h3,qX zBy,qX h2,qX rfl];rfl
 |false=>
  symm;by_cases c1:0<=v
  ·by_cases c2:v<=999999999;·rw[qP (p:=itoa v=l) (fun e=>by rw[acC c1 c2 e]at hn;cases hn),Bool.and_false]
   rw[qP c2,Bool.and_false,yQ]
  rw[qP c1,yQ,yQ]
theorem acE{l:List UInt8}{v:Int}(h:atoiAll l= .ok v)(hp:kY l=true):iZ l=2/\(numeral l:Int)=v/\fZ l=[]:=by
 have hl:L9 l=false:=by exact zEo
 have hn:G6 l=true:=by unfold kY at hp;rw[hl,Bool.false_or]at hp;exact hp
 have hne:l≠[]:=ae4 hp;have h1:=(G7 hn).1;rw[h]at h1;unfold iZ numeral fZ;rw[if_neg hne,if_neg hne,hl];simp only[Bool.false_eq_true,if_false];refine⟨trivial,?_,trivial⟩;cases h1;rfl
theorem Md{l:List UInt8}(h:∀v,atoiAll l≠ .ok v):kY l=L9 l:=by
 unfold kY;cases hn:G6 l with
 |true=>exact absurd (G7 hn).1 (h _)
 |false=>rw[Bool.or_false]
theorem ZX{l:List UInt8}(hp:L9 l=true):iZ l=0/\numeral l=0/\fZ l=l:=by
 have hne:l≠[]:=by rintro rfl;revert hp;decide
 unfold iZ numeral fZ;rw[if_neg hne,if_neg hne,if_pos hp,if_pos hp,if_pos hp];exact⟨rfl,rfl,rfl⟩
end Vn
end Go.Proofs.YtdmmebjjojimiaaGreatDoor
namespace Go.Proofs.YtdmmebjjojimiaaGreatDoor
open Go.RowKit
open Vn (YM L9 D9 isLt kY G6)
section
variable {w w':World} {B:Nat}
theorem kL(s:Str):s.toList.length=s.size:=by rw[ByteArray.toList_eq,Array.length_toList];rfl
theorem Jc{s:Str}{i:Nat}(h:i<s.size):s.toList[i]? =some s[i]:=by
 rw[ByteArray.toList_eq];have h2:i<s.data.toList.length:=by rw[Array.length_toList];exact h
 rw[qA h2];rfl
theorem OG{s:Str}{p:UInt8->Bool}{i:Nat}(h:i<s.size):(s.toList.take (i+1)).all p=((s.toList.take i).all p&&p s[i]):=by rw[List.take_add_one,Jc h];simp[List.all_append]
theorem all_false{s:Str}{p:UInt8->Bool}{i:Nat}(h:i<s.size)(hp:p s[i]=false):s.toList.all p=false:=by
 cases hh:s.toList.all p;·rfl
 rw[List.all_eq_true]at hh;have:=hh s[i] (qT (Jc h));rw[this]at hp;cases hp
theorem take_size(s:Str):s.toList.take s.size=s.toList:=qI (by rw[kL];exact qH _)
theorem isE{s:Str}:s.toList.isEmpty=decide (s.size=0):=by rw[<-kL];cases s.toList<;>simp
def jU(c:UInt8):List UInt8->List (List UInt8)
 | []=>[[]]
 |b::r=>if b=c then []::jU c r else match jU c r with
  | []=>[[b]]
  |h::t=>(b::h)::t
theorem ae5(c:UInt8):∀l,jU c l≠[]
 | []=>by simp[jU]
 |b::r=>by
  unfold jU
  split
  ·simp
  ·split<;>simp
theorem Jd{c:UInt8}:∀{l:List UInt8},(∀b∈l,b≠c)->jU c l=[l]
 | [],_=>rfl
 |b::r,h=>by
  have ih:=Jd (c:=c) (l:=r) fun x hx=>h x (yE _ hx)
  unfold jU
  rw[if_neg (h b qQ),ih]
theorem YP{c:UInt8}:∀{l r:List UInt8},(∀b∈l,b≠c)->jU c (l++c::r)=l::jU c r
 | [],r,_=>by
  show jU c (c::r)=_
  rw[jU,if_pos rfl]
 |b::l,r,h=>by
  have ih:=YP (c:=c) (l:=l) (r:=r) fun x hx=>h x (yE _ hx)
  show jU c (b::(l++c::r))=_
  rw[jU,if_neg (h b qQ),ih]
theorem ext_toList(s:Str)(i j:Nat):(s.extract i j).toList=(s.toList.drop i).take (j-i):=by rw[ByteArray.toList_eq,ByteArray.toList_eq,ByteArray.data_extract,Array.toList_extract]
end
end Go.Proofs.YtdmmebjjojimiaaGreatDoor
namespace Go.Proofs.YtdmmebjjojimiaaGreatDoor
open Go.RowKit
section
variable {w w':World} {B:Nat}
def Texts(w w':World)(v:Value)(L:List (List UInt8)):Prop:= ∃l:List Str,l.map ByteArray.toList=L/\w'.ownsRow 0 9 1 v l.length (fD l)/\(∀s∈l,okS s)/\(∀k,v.ownBlock=some k->w.heap.size<=k)
theorem Texts.aN{w0:World}{v:Value}{L:List (List UInt8)}(h:Texts w0 w v L)(ho:O0 w w'):Texts w0 w' v L:=by obtain⟨l,h0,h1,h2,h3⟩:=h;exact⟨l,h0,aI h1 ho (fun _ _ f=>f),h2,h3⟩
theorem Texts.row{w0:World}{v:Value}{L:List (List UInt8)}(h:Texts w0 w v L):∃l:List Str,l.map ByteArray.toList=L/\aQ 1 fM w.heap.size w v l:=by obtain⟨l,h0,h1,h2,h3⟩:=h;exact⟨l,h0,vZ rfl h1 h2⟩
def ZY(s:Str)(d:UInt8)(f i:Nat)(l:List Str):Prop:=
 (i<=s.size->(l.map ByteArray.toList++jU d (s.toList.drop f)=jU d s.toList/\∀b∈(s.toList.drop f).take (i-f),b≠d))/\(s.size<i->l.map ByteArray.toList=jU d s.toList)
theorem ZY.last{s:Str}{d:UInt8}{f:Nat}{l:List Str}(h:ZY s d f s.size l)(hf:f<=s.size):ZY s d (s.size+1) (s.size+1) (l++[s.extract f s.size]):=by obtain⟨h1,h2⟩:=h.1 (qH _);refine⟨fun h=>by omega,fun _=>?_⟩;have ht:(s.toList.drop f).take (s.size-f)=s.toList.drop f:=qI (by rw[List.length_drop,kL];exact qH _);rw[ht]at h2;rw[Jd h2]at h1;rw[List.map_append,List.map_cons,List.map_nil,ext_toList,ht];exact h1
theorem ZY.go{s:Str}{d:UInt8}{f i:Nat}{l:List Str}(h:ZY s d f i l)(hf:f<=i)(hi:i<s.size)(hb:s[i]≠d):ZY s d f (i+1) l:=by
 obtain⟨h1,h2⟩:=h.1 zBk;refine⟨fun _=>⟨h1,fun b hb'=>?_⟩,fun h=>by omega⟩;have e:(s.toList.drop f).take (i+1-f)=(s.toList.drop f).take (i-f)++[s[i]]:=by rw[show i+1-f=(i-f)+1 by omega,List.take_add_one,List.getElem?_drop,show f+(i-f)=i by omega,Jc hi];rfl
 rw[e]at hb';rcases qW.1 hb' with hb'|hb';·exact h2 b hb'
 rw[yJ.1 hb'];exact hb
end
end Go.Proofs.YtdmmebjjojimiaaGreatDoor
namespace Go.Proofs.YtdmmebjjojimiaaGreatDoor
open Go.RowKit
open Vn (YM L9 kY)
theorem JF:∀(x y:List UInt8),Op.bytesLess x y=decide (x<y)
 | [],[]=>by simp[Op.bytesLess]
 | [],_::_=>by simp[Op.bytesLess]
 |_::_,[]=>by simp[Op.bytesLess]
 |a::x,b::y=>by
  rw[Op.bytesLess,JF x y]
  simp only[List.cons_lt_cons_iff]
  by_cases h1:a<b<;>by_cases h2:a=b<;>by_cases h3:x<y<;>simp[h1,h2,h3]
def xR(l:List UInt8):Bool:=decide (0<l.length)&&decide (l.length<=40)&&(jU 46 l).all kY&&decide ((jU 46 l).length<=8)
section
variable {w w':World} {B:Nat}
theorem toList_inj{a b:Str}(h:a.toList=b.toList):a=b:=by
 rw[ByteArray.toList_eq,ByteArray.toList_eq]at h;cases a with|mk x=>cases b with|mk y=>
  congr 1
  exact Array.toList_inj.1 h
end
end Go.Proofs.YtdmmebjjojimiaaGreatDoor
namespace Go.Proofs.YtdmmebjjojimiaaGreatDoor
open Go.RowKit
theorem UH{s:Str}(h:xR s.toList=true):(jU 46 s.toList).length<=8:=by unfold xR at h;simp only[Bool.and_eq_true,yP]at h;exact h.2
end Go.Proofs.YtdmmebjjojimiaaGreatDoor
namespace Go.Proofs.YtdmmebjjojimiaaGreatDoor
open Go.RowKit
open Vn (kY)
end Go.Proofs.YtdmmebjjojimiaaGreatDoor
