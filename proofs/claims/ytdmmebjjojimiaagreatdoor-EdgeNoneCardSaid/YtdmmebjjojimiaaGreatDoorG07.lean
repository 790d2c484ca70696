/- Rf5 Rf6 Rf7, in one text. -/
import Derived.Test.YtdmmebjjojimiaaGreatDoorG06
set_option maxRecDepth 100000
set_option maxHeartbeats 8000000
set_option linter.all false
namespace Go.Proofs
theorem zAW{p:Prop}(h:p:=by(intro w hSw;(try dsimp only at hSw);obtain⟨k0,k1⟩:=aG.out w (bM.out.same hSw);obtain⟨d0,d1,d2⟩:=wR.out w hSw;have hrs:=(Ip.out w (bM.out.same hSw)).1;have gs0:=hrs 0 _ rfl;rw[qF]at gs0;rw[yH]at gs0;clear hrs;go_simp<;>(try with_reducible rfl))):p:=h
theorem zAa{p:Prop}(h:p:=by(intro w hSw;(try dsimp only at hSw);obtain⟨k0,k1⟩:=aG.out w (bM.out.same hSw);obtain⟨d0,d1,d2⟩:=wR.out w hSw;have CB:=(HEv.out w (bM.out.same hSw)).1;have gv4:=CB 4 _ rfl;clear CB;go_simp<;>(try with_reducible rfl))):p:=h
theorem zAp{p:Prop}(h:p:=by rw[hW1];exact zr.alloc _):p:=h
theorem zAw{p:Prop}(h:p:=by first|decide|assumption):p:=h
theorem zA3{p:Prop}(h:p:=by rw[hW1,<-nR.out];exact qL W0 _):p:=h
theorem zA9{p:Prop}(h:p:=by rw[hs];kernel_rfl):p:=h
theorem zBa{p:Prop}(h:p:=by rw[fO.out];omega):p:=h
theorem zBw{p:Prop}(h:p:=by unfold lI;rw[HSb.out];simp):p:=h
theorem zCO{p:Prop}(h:p:=by
 go_wp2_with fail
 go_ret
 exact kE.mk _ rfl zAG (fun h=>by cases h) (bW.out.same (bM.out.same HP2.out))):p:=h
theorem zFA{p:Prop}(h:p:=by
 refine jy (p:=4) rfl rfl rfl rfl (setRow_heap _ _ _ _ _ _ (xK.out w7 PL.out)) ?_
 exact⟨rfl,(bW.out.same (bM.out.same PL.out)).trans (dN _ _ _) (fun k hk=>.inr zBk)⟩):p:=h
theorem zCZ{p:Prop}(h:p:=by
 have b1:=aF b0 ho (fun f=>f)
 exact⟨by rw[ah b1];rfl,by rw[ah b1];rfl,by rw[ah b1];rfl,by rw[ah b1];rfl,by rw[ah b1];rfl,by rw[ah b1];rfl,by rw[ah b1];rfl,by rw[ah b1];rfl⟩):p:=h
theorem zDF{p:Prop}(h:p:=by
 have b1:=aF b0 ho (fun f=>f)
 exact⟨by rw[ah b1];rfl,by rw[ah b1];rfl,by rw[ah b1];rfl,by rw[ah b1];rfl,by rw[ah b1];rfl,by rw[ah b1];rfl,by rw[ah b1];rfl⟩):p:=h
theorem zD5{p:Prop}(h:p:=by
 have b0:W1.heap[w.heap.size+2]? =some (.cells #[.int .u8 0,.int .i64 0] 43):=zA3
 exact aF b0 ho (fun f=>f)):p:=h
theorem zEG{p:Prop}(h:p:=by
 rw[<-jd.out]
 exact wQ HZa.out HZj.out Ku.out zBw zAw):p:=h
theorem zFT{p:Prop}(h:p:=by
 have hr2:r=(8,yz.line):=by
  exact zEG
 subst hr2
 go_wp2_with (refine wpList_store_row rfl 43 (.tmp 4) (.tmp 79) rfl (w.heap.size+2) #[.int .u8 8,.int .i64 yz.line] rfl rfl 43 #[.int .u8 0,.int .i64 0] (xK.out w7 PL.out) zk rfl zk ?_)
 exact zFA):p:=h
end Go.Proofs
namespace Go.Proofs.YtdmmebjjojimiaaGreatDoor
open Go.RowKit
section
variable {w w':World} {B:Nat}
structure EY (p:iT):Prop where
 some:1<=p.bY.length
 bY:p.bY.length<=10
 vars:WG p.vars
 deps:p.deps.length<=16
 cons:p.cons.length<=8
 eG:p.provides.length<=4
def kE(p:iT)(w w':World)(e:Ending):Prop:= ∃c:Int,e= .returned (.int .u8 c)/\(0<=c/\c<=255)/\(c=0->EY p)/\O0 w w'
theorem kE.mk{p:iT}(c:Int){w w':World}{e:Ending}(he:e= .returned (.int .u8 c))(hc:0<=c/\c<=255)(hb:c=0->EY p)(ho:O0 w w'):kE p w w' e:=⟨c,he,hc,hb,ho⟩
def Ar(l:List wJ)(j:Nat):List Str:=(l.take j).map wJ.version
theorem Uc{l:List wJ}{j:Nat}{r:wJ}(h:l[j]? =some r):Ar l (j+1)=Ar l j++[r.version]:=by unfold Ar;rw[List.take_add_one,h];simp
theorem WI{l:List wJ}{j:Nat}(h:j<=l.length):(Ar l j).length=j:=by unfold Ar;simp;omega
theorem Zy{tZ:List Value}{x:aH}(hx:jl B w tZ x)(hlen:x.packs.length<=1000000){i:Nat}(hi:i<x.packs.length):Calls Tryz.prog 53 #[.agg tZ.toArray,.int .i64 (i:Int)] w fun e w'=>kE (x.pack i) w w' e:=by
 obtain⟨bQ,aj,aT,bg,aP,aU,rfl,jm,jo,iO,iP,aB,fO,uK⟩:=open_rec hx;clear hx;try rw[aB.out]
 obtain⟨W0,hW0,bW,nR,aG⟩:=Wv w (.slice bQ aj aT) (.slice bg aP aU) 25;obtain⟨kC,dP,eP⟩:=uK W0 bW.out;clear uK;clear iO iP fO eP;rw[aB.out]at hlen hi;obtain⟨yy,hxy⟩:=zG x.packs i zAk;obtain⟨xO,lq,sW,mG,sZ,vI,mJ,vJ,Cj,BK,Cm,y7,oK,y8,DY,zK,DZ,EW,Eu,EX,mW,kM,l9,oQ,mY,oU,rZ,xP,BF,jw⟩:=jR (dP.out W0 zr) hxy;first|subst mW| (simp only[qG,qO,and_true]at mW;obtain⟨rfl,rfl⟩:=mW)
 have NQ:=zh kM;have Ny3:=zh oQ;have Gs:=zh mY;have Ny5:=zh oU;have je:=zh jw;have Af:=zh hxy;clear jw hxy kM l9 oQ mY oU rZ;have BD:Hid (∀W,O0 W0 W->aQ 2 uZ B W (.slice sW mG sZ) yy.bY):=fun W ho=>(je.out W ho).2.1;have IY:Hid (∀W,O0 W0 W->aQ 2 pR B W (.slice vI mJ vJ) yy.vars):=fun W ho=>(je.out W ho).2.2.1;have ahc:Hid (∀W,O0 W0 W->aQ 1 fM B W (.slice Cj BK Cm) yy.provides):=fun W ho=>(je.out W ho).2.2.2.1;have ahd:Hid (∀W,O0 W0 W->aQ 1 fM B W (.slice EW Eu EX) yy.files):=fun W ho=>(je.out W ho).2.2.2.2.2.2.1;have hpk:x.pack i=yy:=zAv;rw[hpk];clear hpk;obtain⟨f,hf⟩:=ze (x.find yy.name);obtain⟨pn,hpn⟩:=ze ((x.eG yy.name).length);have HF:Hid (∀W,O0 W0 W->Calls Tryz.prog 38 #[.agg #[.slice (some ⟨xO,lq,none⟩) aj aT,.slice bg aP aU],.string yy.name] W fun e w'=>e= .returned (.int .i64 f)/\O0 W w'):=fun W hW=>by rw[<-hf];exact wz (kC.out W hW) yy.name
 have Yt:Hid (∀W,O0 W0 W->Calls Tryz.prog 124 #[.agg #[.slice (some ⟨xO,lq,none⟩) aj aT,.slice bg aP aU],.string yy.name] W fun e w'=> ∃a c,e= .returned (.slice a pn c)/\O0 W w'):=fun W hW=>(wO (kC.out W hW) zAg yy.name).mono fun e w' ⟨v,he,h1,_,h3⟩=>by rw[hpn]at h1;obtain⟨a,c,rfl,-,-⟩:=aC h1;exact⟨a,c,he,h3⟩
 have HPn:Hid (pn<=aj):=by rw[<-hpn,<-aB.out];unfold aH.eG aH.jI;have:=yO (fun i=>tX (x.pack i).provides yy.name) (List.range x.packs.length);simpa[Hid]using this
 clear hf hpn;have dM:=zh (je.out W0 zr).1;obtain⟨W1,hW1⟩:=zB (W0.alloc (.cells #[.string yy.name,.int .i64 yy.line,.slice sW mG sZ,.slice vI mJ vJ,.slice Cj BK Cm,.slice y7 oK y8,.slice DY zK DZ,.slice EW Eu EX] 101));have bM:Hid (O0 W0 W1):=zAp;have HBy:Hid (∀W,O0 W0 W->O0 W1 W->W.cell? ⟨w.heap.size+1,0,none⟩=some (.string yy.name)/\W.cell? ⟨w.heap.size+1,1,none⟩=some (.int .i64 yy.line)/\W.cell? ⟨w.heap.size+1,2,none⟩=some (.slice sW mG sZ)/\W.cell? ⟨w.heap.size+1,3,none⟩=some (.slice vI mJ vJ)/\W.cell? ⟨w.heap.size+1,4,none⟩=some (.slice Cj BK Cm)/\W.cell? ⟨w.heap.size+1,5,none⟩=some (.slice y7 oK y8)/\W.cell? ⟨w.heap.size+1,6,none⟩=some (.slice DY zK DZ)/\W.cell? ⟨w.heap.size+1,7,none⟩=some (.slice EW Eu EX)):=fun W _ ho=>by have b0:W1.heap[w.heap.size+1]? =some (.cells #[.string yy.name,.int .i64 yy.line,.slice sW mG sZ,.slice vI mJ vJ,.slice Cj BK Cm,.slice y7 oK y8,.slice DY zK DZ,.slice EW Eu EX] 101):=zA3;exact zCZ
 rw[hW0]at dM;go_enter Tryz.func53,Tryz.ntmps53;go_wp2_with (refine wpList_load_mid rfl 101 (.tmp 11) rfl xO (lq+i*8) rfl _ _ dM.out Tryz.underlying101 rfl zk ?_);rw[<-hW0,<-hW1];clear hW0 hW1 dM;have Zz:Hid (O0 W1 W1):=Only.refl _ _;obtain⟨k0,k1⟩:=aG.out W1 (bM.out.same Zz.out);obtain⟨p0,p1,p2,p3,p4,p5,p6,p7⟩:=HBy.out W1 (bM.out.same Zz.out) Zz.out;go_wp2_with fail;refine(HF.out W1 bM.out).mono ?_;rintro e w1 ⟨rfl,O1⟩;have HP1:=zh O1;clear O1 Zz k0 k1 p0 p1 p2 p3 p4 p5 p6 p7;obtain⟨k0,k1⟩:=aG.out w1 (bM.out.same HP1.out);obtain⟨p0,p1,p2,p3,p4,p5,p6,p7⟩:=HBy.out w1 (bM.out.same HP1.out) HP1.out;by_cases hfi:f=(i:Int)
 ·subst hfi;go_wp2_with fail;refine(Yt.out w1 (bM.out.same HP1.out)).mono ?_;rintro e w2 ⟨ap,cp,rfl,O1⟩;have HP2:=zh (HP1.out.same O1);have hpn:=HPn.out;clear O1 k0 k1 p0 p1 p2 p3 p4 p5 p6 p7;obtain⟨k0,k1⟩:=aG.out w2 (bM.out.same HP2.out);obtain⟨p0,p1,p2,p3,p4,p5,p6,p7⟩:=HBy.out w2 (bM.out.same HP2.out) HP2.out;by_cases cpn:0<pn;·exact zCO
  by_cases z1:mG=0;·subst z1;exact zCO
  have z3:((mG:Int)==0)=false:=by rw[yC];omega
  by_cases q1:10<mG;·exact zCO
  by_cases q2:16<oK;·exact zCO
  by_cases q3:8<zK;·exact zCO
  by_cases q4:4<BK;·exact zCO
  by_cases q5:8<Eu;·exact zCO
  have HV0:Hid ((w2.alloc (.cells #[] 9)).ownsRow 0 9 1 (.slice (some ⟨w2.heap.size,0,none⟩) 0 0) 0 (fD (Ar yy.bY 0))):=BQ w2;have Zz:Hid (O0 W1 (w2.alloc (.cells #[] 9))):=HP2.out.alloc _;have HB0:Hid (∀k,(Value.slice (some ⟨w2.heap.size,0,none⟩) 0 0).ownBlock=some k->W1.heap.size<=k):=fun k hk=>by simp[Value.ownBlock]at hk;have:=HP2.out.size;omega
  have aou:Hid (∀r∈yy.bY,okS r.version):=fun r hr=>by obtain⟨k,hk⟩:=List.mem_iff_getElem?.1 hr;obtain⟨_,_,_,h,_⟩:=QH (BD.out W0 zr) hk;exact h
  obtain⟨-,-,o2,-,-,-,-,-⟩:=HBy.out _ (bM.out.same Zz.out) Zz.out;go_wp2_with fail;clear o2;go_loopw [6,61] (fun vo vj Bl=>Hid (O0 W1 Bl)/\∃j:Nat,vj= .int .i64 j/\j<=mG/\Hid (Bl.ownsRow 0 9 1 vo j (fD (Ar yy.bY j)))/\Hid (∀k,vo.ownBlock=some k->W1.heap.size<=k)) (fun _ v _=>mG-(RowKit.intOf v).toNat);case atStart=>exact⟨Zz,0,rfl,qE _,HV0,HB0⟩
  case round=>
   obtain⟨Bl,rfl⟩:=zB wr;clear Zz HV0 HB0 k0 k1 p0 p1 p2 p3 p4 p5 p6 p7;obtain⟨Ti,j,rfl,hj,HV,HBj⟩:=hrel;have HOj:=Ti;obtain⟨k0,k1⟩:=aG.out Bl (bM.out.same Ti.out);obtain⟨p0,p1,p2,p3,p4,p5,p6,p7⟩:=HBy.out Bl (bM.out.same Ti.out) Ti.out;obtain⟨au,cu,rfl,-,-⟩:=aC HV.out;by_cases cj:j<mG
   ·have jh:=zw (j+1);obtain⟨yz,hxz⟩:=zG yy.bY j zBN;obtain⟨NR,xQ,pV,BR,kU⟩:=QH (BD.out W0 zr) hxz;first|subst pV| (simp only[qG,qO,and_true]at pV;obtain⟨rfl,rfl⟩:=pV)
    have nV:=zh kU;have Ku:=zh hxz;clear kU hxz;have hrz:=(nV.out Bl (bM.out.same Ti.out)).1;have yY:=hrz 0 _ rfl;rw[qF]at yY;clear hrz;go_wp2_with (at_builtin;go_must (refine tC (u:=.string yz.version) nH rfl (.tmp 64) (.tmp 71) rfl rfl rfl (cell_new0 _ _ _) rfl (aI HV.out ((Only.refl (fun _=>False) _).alloc _) (fun _ _ f=>f)) zBk zBl ?_));intro v' w2 r1 r2 r3;have HVv:Hid (w2.ownsRow 0 9 1 v' (j+1) (fD (Ar yy.bY (j+1)))):=by rw[Uc Ku.out];simpa[fD,Hid]using r1
    have HOv:=zh (((HOj.out.alloc _).trans r2 fun k hk=>.inr (HBj.out k hk)));have HBv:Hid (∀k,v'.ownBlock=some k->W1.heap.size<=k):=by
     intro k hk;obtain⟨g,cap',rfl,-,-,h|h⟩:=r3;·simp[Value.ownBlock]at hk;subst hk;exact HBj.out _ h
     simp[Value.ownBlock]at hk;subst hk;have:=HOj.out.size;simp at h;omega
    obtain⟨g,cap',rfl,-,-,-⟩:=r3;clear r1 r2;go_wp2_with fail;go_roundw;case rel=>exact⟨HOv,j+1,by first|rfl|go_num,by omega,HVv,HBv⟩
    case measure=>simp[RowKit.intOf]<;>omega
   obtain rfl:mG=j:=by omega
   go_wp2_with fail;have HTw:=zh (DC (w:=Bl) (vZ (WI (by rw[NQ.out];exact qH _)) HV.out (fun s hs=>by
    unfold Ar at hs
    obtain⟨r,hr,rfl⟩:=yD.1 hs
    exact aou.out r (List.mem_of_mem_take hr))))
   refine(HTw.out).mono ?_;rintro e w3 ⟨b1,rfl,O1⟩;have BL:=zh (HOj.out.same O1);clear O1 k0 k1 p0 p1 p2 p3 p4 p5 p6 p7;obtain⟨k0,k1⟩:=aG.out w3 (bM.out.same BL.out);obtain⟨p0,p1,p2,p3,p4,p5,p6,p7⟩:=HBy.out w3 (bM.out.same BL.out) BL.out;cases b1 with
   |false=>
    clear HTw HV HBj;go_wp2_with fail;refine(aeN (IY.out w3 (bM.out.same BL.out))).mono ?_;rintro e w4 ⟨b2,rfl,hvs,O1⟩;have Iq:=zh (BL.out.same O1);clear O1 k0 k1 p0 p1 p2 p3 p4 p5 p6 p7;obtain⟨k0,k1⟩:=aG.out w4 (bM.out.same Iq.out);obtain⟨p0,p1,p2,p3,p4,p5,p6,p7⟩:=HBy.out w4 (bM.out.same Iq.out) Iq.out;cases b2 with
    |false=>go_wp2_with fail;go_ret;exact kE.mk _ rfl zAG (fun h=>by cases h) (bW.out.same (bM.out.same Iq.out))
    |true=>
     have HVs:=zh (hvs rfl);clear hvs;go_wp2_with fail;refine((DC (ahc.out w4 (bM.out.same Iq.out)))).mono ?_;rintro e w5 ⟨b3,rfl,O1⟩;have VY:=zh (Iq.out.same O1);clear O1 k0 k1 p0 p1 p2 p3 p4 p5 p6 p7;obtain⟨k0,k1⟩:=aG.out w5 (bM.out.same VY.out);obtain⟨p0,p1,p2,p3,p4,p5,p6,p7⟩:=HBy.out w5 (bM.out.same VY.out) VY.out;cases b3 with
     |false=>
      go_wp2_with fail;refine((DC (ahd.out w5 (bM.out.same VY.out)))).mono ?_;rintro e w6 ⟨b4,rfl,O1⟩;have HP6:=zh (VY.out.same O1);clear O1 k0 k1 p0 p1 p2 p3 p4 p5 p6 p7;obtain⟨k0,k1⟩:=aG.out w6 (bM.out.same HP6.out);obtain⟨p0,p1,p2,p3,p4,p5,p6,p7⟩:=HBy.out w6 (bM.out.same HP6.out) HP6.out;cases b4 with
      |false=>go_wp2_with fail;go_ret;exact kE.mk _ rfl zAG (fun _=>⟨by rw[NQ.out];omega,by rw[NQ.out];omega,HVs.out,by rw[Gs.out];omega,by rw[Ny5.out];omega,by rw[Ny3.out];omega⟩) (bW.out.same (bM.out.same HP6.out))
      |true=>go_wp2_with fail;go_ret;exact kE.mk _ rfl zAG (fun h=>by cases h) (bW.out.same (bM.out.same HP6.out))
     |true=>go_wp2_with fail;go_ret;exact kE.mk _ rfl zAG (fun h=>by cases h) (bW.out.same (bM.out.same VY.out))
   |true=>go_wp2_with fail;go_ret;exact kE.mk _ rfl zAG (fun h=>by cases h) (bW.out.same (bM.out.same BL.out))
 have auY:(f==(i:Int))=false:=by rw[yC];exact hfi
 go_wp2_with fail;go_ret;exact kE.mk _ rfl zAG (fun h=>by cases h) (bW.out.same (bM.out.same HP1.out))
end
section
variable {w w':World} {B:Nat}
def og(x:aH)(p:iT)(d:uY):Int:=if x.wish d.on=0/\lZ p d.cond.sets=false then 8 else x.wish d.on
def lI(x:aH)(p:iT)(d:Ai):Int:=if lZ p d.cond.sets=false then 8 else if d.with'.name.toList.isEmpty=true then 0 else if x.find d.with'.name<0 then 7 else x.wish d.with'
def y9(x:aH)(p:iT):Int×Int:=
 match p.deps.find? fun d=>decide (og x p d≠0)with
 |some d=>(og x p d,d.line)
 |none=>match p.cons.find? fun d=>decide (lI x p d≠0)with
  |some d=>(lI x p d,d.line)
  |none=>(0,0)
theorem Lc{α:Type}{f:α->Int}{l:List α}{i:Nat}{d:α}(h:∀d∈l.take i,f d=0)(hd:l[i]? =some d)(hn:f d≠0):(l.find? fun d=>decide (f d≠0))=some d:=by
 obtain⟨hlt,rfl⟩:=qJ.1 hd;have e:∀g:α->Bool,l.find? g=(l.take i++l[i]::l.drop (i+1)).find? g:=fun g=>by rw[<-List.drop_eq_getElem_cons hlt,List.take_append_drop]
 rw[e,List.find?_append,List.find?_eq_none.2 (fun d hd=>by simp[h d hd]),Option.none_or,List.find?_cons_of_pos (by simpa using hn)]
theorem Ld{α:Type}{f:α->Int}{l:List α}(h:∀d∈l,f d=0):(l.find? fun d=>decide (f d≠0))=none:=
 List.find?_eq_none.2 fun d hd=>by simp[h d hd]
theorem Le{x:aH}{p:iT}{i:Nat}{d:uY}{c:Int}(h:∀d∈p.deps.take i,og x p d=0)(hd:p.deps[i]? =some d)(hc:og x p d=c)(hn:c≠0):y9 x p=(c,d.line):=by subst hc;unfold y9;rw[Lc h hd hn]
theorem wQ{x:aH}{p:iT}{i:Nat}{d:Ai}{c:Int}(h0:∀d∈p.deps,og x p d=0)(h:∀d∈p.cons.take i,lI x p d=0)(hd:p.cons[i]? =some d)(hc:lI x p d=c)(hn:c≠0):y9 x p=(c,d.line):=by subst hc;unfold y9;rw[Ld h0,Lc h hd hn]
theorem WJ{x:aH}{p:iT}(h0:∀d∈p.deps,og x p d=0)(h:∀d∈p.cons,lI x p d=0):y9 x p=(0,0):=by unfold y9;rw[Ld h0,Ld h]
theorem dN(w:World)(g:Nat)(cs:Array Value):Only (fun k=>k=g) w (w.setRow g cs):=
 ⟨rfl,rfl,rfl,by simp[World.setRow],fun k hk hn=>by
  unfold World.setRow
  simp only[Array.getElem?_modify]
  rw[if_neg (fun e=>hn e.symm)]⟩
theorem Gt{fn:Func}{p:Tmp}{ty:TypeId}(h:fn.results= #[.cell p ty])(tmps:Array Value)(P:Program)(w:World):(results fn tmps).run P w=((asAddr (tmps.getD p undef)).run P w).andThen fun a w₁=>(loadVar ty a).run P w₁:=by simp only[results,h];simp[Sem.run_bind,Result.andThen]
theorem jy{fn:Func}{p:Tmp}{Q:Ending->World->Prop}{a:Act}{W:World}{B:Nat}{cs:Array Value}(hf:fn.results= #[.cell p 43])(hp:a.tmps.getD p undef= .pointer (some ⟨B,0,none⟩))(hd:a.defers=[])(hs:cs.size=2)(hg:W.heap[B]? =some (.cells cs 43 (0,0)))(h:Q (.returned (.agg cs)) W):bodyPost Tryz.prog fn Q Exit.ret a W:=by refine bodyPost_ret (v:=.agg cs) ?_ hd h;rw[Gt hf,hp];simp only[asAddr,Sem.run_pure,Result.andThen_ok];exact run_loadVar_row W B 43 43 cs (0,0) _ hg Tryz.underlying43 rfl zA9
theorem WL{tZ:List Value}{x:aH}(hx:jl B w tZ x){csp:List Value}{p:iT}(hp:iU B w csp p)(hlen:x.packs.length<=1000000):Calls Tryz.prog 54 #[.agg tZ.toArray,.agg csp.toArray] w fun e w'=>e= .returned (.agg #[.int .u8 (y9 x p).1,.int .i64 (y9 x p).2])/\O0 w w':=by
 obtain⟨bQ,aj,aT,bg,aP,aU,rfl,jm,jo,iO,iP,aB,fO,uK⟩:=open_rec hx;clear hx;try rw[aB.out]
 obtain⟨BU,BX,BZ,zC,oO,zD,rQ,rU,rV,Gl,rW,Cb,Gm,rX,Cc,zF,zH,zJ,rfl,KW,KX,TU,TV,Am,Ap,TW,TY,Ua,Ub,IJ,IK,KY,Gn,Aq,Gp,Gq,IL,F_p⟩:=Pv hp;clear hp;obtain⟨W0,hW0,bW,nR,aG⟩:=ag6 w (.slice bQ aj aT) (.slice bg aP aU) (.string p.name) (.int .i64 p.line) (.slice BU BX BZ) (.slice zC oO zD) (.slice rQ rU rV) (.slice Gl rW Cb) (.slice Gm rX Cc) (.slice zF zH zJ) 25 101;obtain⟨kC,dP,eP⟩:=uK W0 bW.out;clear uK;obtain⟨ahb,IQ,IU,y5,IV,IW,ET⟩:=F_p W0 bW.out;clear F_p;clear iO iP fO eP;clear KW KX KY IQ TU TV Gn IU Am Ap Aq y5 IJ IK IL ET;rw[aB.out]at hlen;obtain⟨r,hr⟩:=ze (y9 x p);rw[hr];have jd:=zh hr;clear hr;obtain⟨W1,hW1⟩:=zB (W0.alloc (.cells #[.int .u8 0,.int .i64 0] 43));have bM:Hid (O0 W0 W1):=zAp;have xK:Hid (∀W,O0 W1 W->W.heap[w.heap.size+2]? =some (.cells #[.int .u8 0,.int .i64 0] 43)):=fun W ho=>by exact zD5
 go_enter Tryz.func54,Tryz.ntmps54;go_wp2_with fail;rw[<-hW0,<-hW1];clear hW0 hW1;have kK:Hid (O0 W1 W1):=Only.refl _ _;go_loopw [14] (fun vi dG=>Hid (O0 W1 dG)/\∃i:Nat,vi= .int .i64 i/\i<=rW/\Hid (∀d∈p.deps.take i,og x p d=0)) (fun v _=>rW-(RowKit.intOf v).toNat);case atStart=>exact⟨kK,0,rfl,qE _,show Hid _ from fun v hv=>by simp at hv⟩
 case round=>
  obtain⟨dG,rfl⟩:=zB wr;clear kK;obtain⟨PD,i,rfl,hi,HZ⟩:=hrel;obtain⟨k0,k1,k2,k3,k4,k5,k6,k7,k8,k9⟩:=aG.out dG (bM.out.same PD.out);by_cases ci:i<rW
  ·clear k0 k1 k2 k3 k4 k5 k6 k7 k8 k9;have jh:=zw (i+1);obtain⟨yy,hxy⟩:=zG p.deps i (by rw[Gp.out];omega);obtain⟨xO,lq,sW,mG,sZ,vI,mJ,vJ,Cj,BK,Cm,y7,oK,y8,mW,kM,l9,oQ,mY,xP,auZ,BF,jw⟩:=xY (IV.out W0 zr) hxy;first|subst mW| (simp only[qG,qO,and_true]at mW;obtain⟨rfl,rfl⟩:=mW)
   have je:=zh jw;have Af:=zh hxy;clear jw hxy kM l9 oQ mY;have BD:Hid (∀W,O0 W0 W->aQ 2 gq B W (.slice sW mG sZ) yy.on.spans):=fun W ho=>(je.out W ho).2.1;have IY:Hid (∀W,O0 W0 W->aQ 2 lg B W (.slice vI mJ vJ) yy.on.sets):=fun W ho=>(je.out W ho).2.2.1;have BG:Hid (∀W,O0 W0 W->aQ 2 lg B W (.slice y7 oK y8) yy.cond.sets):=fun W ho=>(je.out W ho).2.2.2.2.1;have HWs:Hid (∀W,O0 W0 W->Calls Tryz.prog 56 #[.agg #[.slice bQ aj aT,.slice bg aP aU],.agg #[.string yy.on.name,.slice sW mG sZ,.slice vI mJ vJ]] W fun e w'=>e= .returned (.int .u8 (x.wish yy.on))/\O0 W w'):=fun W hW=>KZ (kC.out W hW) (⟨_,_,rfl,xP,BD.out W hW,IY.out W hW⟩:eF B W [.string yy.on.name,.slice sW mG sZ,.slice vI mJ vJ] yy.on) zAg;have NT:Hid (∀W,O0 W0 W->Calls Tryz.prog 127 #[.agg #[.string p.name,.int .i64 p.line,.slice BU BX BZ,.slice zC oO zD,.slice rQ rU rV,.slice (some ⟨xO,lq,none⟩) rW Cb,.slice Gm rX Cc,.slice zF zH zJ],.slice y7 oK y8] W fun e w'=>e= .returned (.bool (lZ p yy.cond.sets))/\O0 W w'):=fun W hW=>Ak (ahb.out W hW) (BG.out W hW);have dM:=zh (je.out dG (bM.out.same PD.out)).1;obtain⟨W2,hW2⟩:=zB (dG.alloc (.cells #[.string yy.on.name,.slice sW mG sZ,.slice vI mJ vJ,.string yy.cond.name,.slice Cj BK Cm,.slice y7 oK y8,.int .i64 yy.line] 132));have HP2:Hid (O0 W1 W2):=by rw[hW2];exact(PD.out).alloc _
   have wR:Hid (∀W,O0 W2 W->W.cell? ⟨dG.heap.size,0,none⟩=some (.string yy.on.name)/\W.cell? ⟨dG.heap.size,1,none⟩=some (.slice sW mG sZ)/\W.cell? ⟨dG.heap.size,2,none⟩=some (.slice vI mJ vJ)/\W.cell? ⟨dG.heap.size,3,none⟩=some (.string yy.cond.name)/\W.cell? ⟨dG.heap.size,4,none⟩=some (.slice Cj BK Cm)/\W.cell? ⟨dG.heap.size,5,none⟩=some (.slice y7 oK y8)/\W.cell? ⟨dG.heap.size,6,none⟩=some (.int .i64 yy.line)):=fun W ho=>by
    have b0:W2.heap[dG.heap.size]? =some (.cells #[.string yy.on.name,.slice sW mG sZ,.slice vI mJ vJ,.string yy.cond.name,.slice Cj BK Cm,.slice y7 oK y8,.int .i64 yy.line] 132):=by rw[hW2];exact qL dG _
    exact zDF
   obtain⟨m0,m1,m2,m3,m4,m5,m6,m7,m8,m9⟩:=aG.out W2 (bM.out.same HP2.out);rw[hW2]at m0 m1 m2 m3 m4 m5 m6 m7 m8 m9;obtain⟨k0,k1,k2,k3,k4,k5,k6,k7,k8,k9⟩:=aG.out dG (bM.out.same PD.out);obtain⟨d0,d1,d2,d3,d4,d5,d6⟩:=wR.out W2 zr;rw[hW2]at d0 d1 d2 d3 d4 d5 d6;go_wp2_with (refine wpList_load_mid rfl 132 (.tmp 20) rfl xO (lq+i*7) rfl _ _ dM.out Tryz.underlying132 rfl zk ?_);rw[<-hW2];clear m0 m1 m2 m3 m4 m5 m6 m7 m8 m9 d0 d1 d2 d3 d4 d5 d6 hW2 dM;refine(HWs.out W2 (bM.out.same HP2.out)).mono ?_;rintro e w3 ⟨rfl,O1⟩;have BL:=zh (HP2.out.same O1);have HQ3:Hid (O0 W2 w3):=O1;clear O1 k0 k1 k2 k3 k4 k5 k6 k7 k8 k9;obtain⟨k0,k1,k2,k3,k4,k5,k6,k7,k8,k9⟩:=aG.out w3 (bM.out.same BL.out);obtain⟨d0,d1,d2,d3,d4,d5,d6⟩:=wR.out w3 (HQ3.out);obtain⟨c,hc⟩:=ze (x.wish yy.on);obtain⟨sb,hsb⟩:=ze (lZ p yy.cond.sets);simp only[hsb]at NT;rw[hc];have HC:=zh hc;have HSb:=zh hsb;clear hc hsb;by_cases c0:c=0
   ·subst c0;go_wp2_with fail;refine(NT.out w3 (bM.out.same BL.out)).mono ?_;rintro e w4 ⟨rfl,O1⟩;have Iq:=zh (BL.out.same O1);have HQ4:Hid (O0 W2 w4):=HQ3.out.same O1;clear O1 k0 k1 k2 k3 k4 k5 k6 k7 k8 k9 d0 d1 d2 d3 d4 d5 d6;obtain⟨k0,k1,k2,k3,k4,k5,k6,k7,k8,k9⟩:=aG.out w4 (bM.out.same Iq.out);obtain⟨d0,d1,d2,d3,d4,d5,d6⟩:=wR.out w4 (HQ4.out);cases sb with
    |true=>
     have hcode:og x p yy=0:=by unfold og;rw[HC.out,HSb.out];simp
     have HZ2:Hid (∀d∈p.deps.take (i+1),og x p d=0):=fun v hv=>by
      rcases dI Af.out hv with h|rfl;·exact HZ.out v h
      exact hcode
     go_wp2_with fail;go_roundw;case rel=>exact⟨Iq,i+1,by first|rfl|go_num,by omega,HZ2⟩
     case measure=>simp[RowKit.intOf]<;>omega
    |false=>
     have hr2:r=(8,yy.line):=by rw[<-jd.out];exact Le HZ.out Af.out (by unfold og;rw[HC.out,HSb.out];simp) zAw
     subst hr2;go_wp2_with (refine wpList_store_row rfl 43 (.tmp 4) (.tmp 41) rfl (w.heap.size+2) #[.int .u8 8,.int .i64 yy.line] rfl rfl 43 #[.int .u8 0,.int .i64 0] (xK.out w4 Iq.out) zk rfl zk ?_);refine jy (p:=4) rfl rfl rfl rfl (setRow_heap _ _ _ _ _ _ (xK.out w4 Iq.out)) ?_;exact⟨rfl,(bW.out.same (bM.out.same Iq.out)).trans (dN _ _ _) (fun k hk=>.inr zBk)⟩
   have c1:((c:Int)==0)=false:=by rw[yC];exact c0
   have hr2:r=(c,yy.line):=by rw[<-jd.out];exact Le HZ.out Af.out (by unfold og;rw[HC.out];simp[c0]) zAw
   subst hr2;go_wp2_with (refine wpList_store_row rfl 43 (.tmp 4) (.tmp 41) rfl (w.heap.size+2) #[.int .u8 c,.int .i64 yy.line] rfl rfl 43 #[.int .u8 0,.int .i64 0] (xK.out w3 BL.out) zk rfl zk ?_);refine jy (p:=4) rfl rfl rfl rfl (setRow_heap _ _ _ _ _ _ (xK.out w3 BL.out)) ?_;exact⟨rfl,(bW.out.same (bM.out.same BL.out)).trans (dN _ _ _) (fun k hk=>.inr zBk)⟩
  obtain rfl:rW=i:=by omega
  have HZa:Hid (∀d∈p.deps,og x p d=0):=fun d hd=>HZ.out d (by
   rw[qI (yG Gp.out)]
   exact hd)
  have kK:=PD;go_wp2_with fail;go_loopw [46] (fun vj Bl=>Hid (O0 W1 Bl)/\∃j:Nat,vj= .int .i64 j/\j<=rX/\Hid (∀d∈p.cons.take j,lI x p d=0)) (fun v _=>rX-(RowKit.intOf v).toNat);case atStart=>exact⟨kK,0,rfl,qE _,show Hid _ from fun v hv=>by simp at hv⟩
  case round=>
   obtain⟨Bl,rfl⟩:=zB wr;clear kK;obtain⟨Ti,j,rfl,hj,HZj⟩:=hrel;clear k0 k1 k2 k3 k4 k5 k6 k7 k8 k9;obtain⟨k0,k1,k2,k3,k4,k5,k6,k7,k8,k9⟩:=aG.out Bl (bM.out.same Ti.out);by_cases cj:j<rX
   ·clear k0 k1 k2 k3 k4 k5 k6 k7 k8 k9;have jh:=zw (j+1);obtain⟨yz,hxz⟩:=zG p.cons j (by rw[Gq.out];omega);obtain⟨NR,xQ,II,Et,Gj,VZ,V3,V4,PE,PG,PK,Og,J4,Oh,pV,rP,EZ,Fa,D5,BR,Oe,QM,kU⟩:=QI (IW.out W0 zr) hxz;first|subst pV| (simp only[qG,qO,and_true]at pV;obtain⟨rfl,rfl⟩:=pV)
    have nV:=zh kU;have Ku:=zh hxz;clear kU hxz rP EZ Fa D5;have ahf:Hid (∀W,O0 W0 W->aQ 2 lg B W (.slice VZ V3 V4) yz.cond.sets):=fun W ho=>(nV.out W ho).2.2.1;have abH:Hid (∀W,O0 W0 W->aQ 2 gq B W (.slice PE PG PK) yz.with'.spans):=fun W ho=>(nV.out W ho).2.2.2.1;have Ud:Hid (∀W,O0 W0 W->aQ 2 lg B W (.slice Og J4 Oh) yz.with'.sets):=fun W ho=>(nV.out W ho).2.2.2.2.1;have HWs:Hid (∀W,O0 W0 W->Calls Tryz.prog 56 #[.agg #[.slice bQ aj aT,.slice bg aP aU],.agg #[.string yz.with'.name,.slice PE PG PK,.slice Og J4 Oh]] W fun e w'=>e= .returned (.int .u8 (x.wish yz.with'))/\O0 W w'):=fun W hW=>KZ (kC.out W hW) (⟨_,_,rfl,Oe,abH.out W hW,Ud.out W hW⟩:eF B W [.string yz.with'.name,.slice PE PG PK,.slice Og J4 Oh] yz.with') zAg;have HF:Hid (∀W,O0 W0 W->Calls Tryz.prog 38 #[.agg #[.slice bQ aj aT,.slice bg aP aU],.string yz.with'.name] W fun e w'=>e= .returned (.int .i64 (x.find yz.with'.name))/\O0 W w'):=fun W hW=>wz (kC.out W hW) _;have NT:Hid (∀W,O0 W0 W->Calls Tryz.prog 127 #[.agg #[.string p.name,.int .i64 p.line,.slice BU BX BZ,.slice zC oO zD,.slice rQ rU rV,.slice Gl rW Cb,.slice (some ⟨NR,xQ,none⟩) rX Cc,.slice zF zH zJ],.slice VZ V3 V4] W fun e w'=>e= .returned (.bool (lZ p yz.cond.sets))/\O0 W w'):=fun W hW=>Ak (ahb.out W hW) (ahf.out W hW);have hrz:=zh (nV.out Bl (bM.out.same Ti.out)).1;obtain⟨W4,xM⟩:=zB (Bl.alloc (.cells #[.string yz.cond.name,.slice II Et Gj,.slice VZ V3 V4,.string yz.with'.name,.slice PE PG PK,.slice Og J4 Oh,.int .i64 yz.line] 160));have Iq:Hid (O0 W1 W4):=by rw[xM];exact(Ti.out).alloc _
    have wR:Hid (∀W,O0 W4 W->W.cell? ⟨Bl.heap.size,0,none⟩=some (.string yz.cond.name)/\W.cell? ⟨Bl.heap.size,1,none⟩=some (.slice II Et Gj)/\W.cell? ⟨Bl.heap.size,2,none⟩=some (.slice VZ V3 V4)/\W.cell? ⟨Bl.heap.size,3,none⟩=some (.string yz.with'.name)/\W.cell? ⟨Bl.heap.size,4,none⟩=some (.slice PE PG PK)/\W.cell? ⟨Bl.heap.size,5,none⟩=some (.slice Og J4 Oh)/\W.cell? ⟨Bl.heap.size,6,none⟩=some (.int .i64 yz.line)):=fun W ho=>by
     have b0:W4.heap[Bl.heap.size]? =some (.cells #[.string yz.cond.name,.slice II Et Gj,.slice VZ V3 V4,.string yz.with'.name,.slice PE PG PK,.slice Og J4 Oh,.int .i64 yz.line] 160):=by rw[xM];exact qL Bl _
     exact zDF
    obtain⟨m0,m1,m2,m3,m4,m5,m6,m7,m8,m9⟩:=aG.out W4 (bM.out.same Iq.out);rw[xM]at m0 m1 m2 m3 m4 m5 m6 m7 m8 m9;obtain⟨k0,k1,k2,k3,k4,k5,k6,k7,k8,k9⟩:=aG.out Bl (bM.out.same Ti.out);obtain⟨d0,d1,d2,d3,d4,d5,d6⟩:=wR.out W4 zr;rw[xM]at d0 d1 d2 d3 d4 d5 d6;obtain⟨e0,he0⟩:=ze yz.with'.name.toList.isEmpty;obtain⟨sb,hsb⟩:=ze (lZ p yz.cond.sets);simp only[hsb]at NT;have HSb:=zh hsb;have HE0:=zh he0;clear hsb;cases e0 with
    |true=>
     go_wp2_with (refine wpList_load_mid rfl 160 (.tmp 52) rfl NR (xQ+j*7) rfl _ _ hrz.out Tryz.underlying160 rfl zk ?_);rw[<-xM];clear m0 m1 m2 m3 m4 m5 m6 m7 m8 m9 xM hrz;clear k0 k1 k2 k3 k4 k5 k6 k7 k8 k9;obtain⟨k0,k1,k2,k3,k4,k5,k6,k7,k8,k9⟩:=aG.out W4 (bM.out.same Iq.out);go_wp2_with fail;refine(NT.out W4 (bM.out.same Iq.out)).mono ?_;rintro e w5 ⟨rfl,O1⟩;have VY:=zh (Iq.out.same O1);have HQ5:Hid (O0 W4 w5):=O1;clear O1 k0 k1 k2 k3 k4 k5 k6 k7 k8 k9 d0 d1 d2 d3 d4 d5 d6;obtain⟨k0,k1,k2,k3,k4,k5,k6,k7,k8,k9⟩:=aG.out w5 (bM.out.same VY.out);obtain⟨d0,d1,d2,d3,d4,d5,d6⟩:=wR.out w5 (HQ5.out);cases sb with
     |false=>
      have hr2:r=(8,yz.line):=by exact zEG
      subst hr2;go_wp2_with (refine wpList_store_row rfl 43 (.tmp 4) (.tmp 79) rfl (w.heap.size+2) #[.int .u8 8,.int .i64 yz.line] rfl rfl 43 #[.int .u8 0,.int .i64 0] (xK.out w5 VY.out) zk rfl zk ?_);refine jy (p:=4) rfl rfl rfl rfl (setRow_heap _ _ _ _ _ _ (xK.out w5 VY.out)) ?_;exact⟨rfl,(bW.out.same (bM.out.same VY.out)).trans (dN _ _ _) (fun k hk=>.inr zBk)⟩
     |true=>
      have hcode:lI x p yz=0:=by unfold lI;rw[HSb.out,HE0.out];simp
      have HZ3:Hid (∀d∈p.cons.take (j+1),lI x p d=0):=fun v hv=>by
       rcases dI Ku.out hv with h|rfl;·exact HZj.out v h
       exact hcode
      go_wp2_with fail;go_roundw;case rel=>exact⟨VY,j+1,by first|rfl|go_num,by omega,HZ3⟩
      case measure=>simp[RowKit.intOf]<;>omega
    |false=>
     go_wp2_with (refine wpList_load_mid rfl 160 (.tmp 52) rfl NR (xQ+j*7) rfl _ _ hrz.out Tryz.underlying160 rfl zk ?_);rw[<-xM];clear m0 m1 m2 m3 m4 m5 m6 m7 m8 m9 xM hrz;clear k0 k1 k2 k3 k4 k5 k6 k7 k8 k9;obtain⟨k0,k1,k2,k3,k4,k5,k6,k7,k8,k9⟩:=aG.out W4 (bM.out.same Iq.out);go_wp2_with fail;refine(HWs.out W4 (bM.out.same Iq.out)).mono ?_;rintro e w5 ⟨rfl,O1⟩;have VY:=zh (Iq.out.same O1);have HQ5:Hid (O0 W4 w5):=O1;clear O1 k0 k1 k2 k3 k4 k5 k6 k7 k8 k9 d0 d1 d2 d3 d4 d5 d6;obtain⟨k0,k1,k2,k3,k4,k5,k6,k7,k8,k9⟩:=aG.out w5 (bM.out.same VY.out);obtain⟨d0,d1,d2,d3,d4,d5,d6⟩:=wR.out w5 (HQ5.out);obtain⟨c,hc⟩:=ze (x.wish yz.with');rw[hc];have HC:=zh hc;clear hc;go_wp2_with fail;refine(HF.out w5 (bM.out.same VY.out)).mono ?_;rintro e w6 ⟨rfl,O1⟩;have HP6:=zh (VY.out.same O1);have HQ6:Hid (O0 W4 w6):=HQ5.out.same O1;clear O1 k0 k1 k2 k3 k4 k5 k6 k7 k8 k9 d0 d1 d2 d3 d4 d5 d6;obtain⟨k0,k1,k2,k3,k4,k5,k6,k7,k8,k9⟩:=aG.out w6 (bM.out.same HP6.out);obtain⟨d0,d1,d2,d3,d4,d5,d6⟩:=wR.out w6 (HQ6.out);obtain⟨f,hf⟩:=ze (x.find yz.with'.name);rw[hf];by_cases fl:f<0
     ·have HFl:Hid (x.find yz.with'.name<0):=by rw[hf];exact fl
      clear hf;go_wp2_with fail;refine(NT.out w6 (bM.out.same HP6.out)).mono ?_;rintro e w7 ⟨rfl,O1⟩;have PL:=zh (HP6.out.same O1);have HQ7:Hid (O0 W4 w7):=HQ6.out.same O1;clear O1 k0 k1 k2 k3 k4 k5 k6 k7 k8 k9 d0 d1 d2 d3 d4 d5 d6;obtain⟨k0,k1,k2,k3,k4,k5,k6,k7,k8,k9⟩:=aG.out w7 (bM.out.same PL.out);obtain⟨d0,d1,d2,d3,d4,d5,d6⟩:=wR.out w7 (HQ7.out);cases sb with
      |false=>exact zFT
      |true=>
       have hr2:r=(7,yz.line):=by rw[<-jd.out];exact wQ HZa.out HZj.out Ku.out (by unfold lI;rw[HSb.out,HE0.out,if_neg (by simp),if_neg zAM,if_pos HFl.out]) (by first|decide|assumption)
       subst hr2;go_wp2_with (refine wpList_store_row rfl 43 (.tmp 4) (.tmp 79) rfl (w.heap.size+2) #[.int .u8 7,.int .i64 yz.line] rfl rfl 43 #[.int .u8 0,.int .i64 0] (xK.out w7 PL.out) zk rfl zk ?_);exact zFA
     have HFl:Hid (0<=x.find yz.with'.name):=by rw[hf,Hid];omega
     clear hf;go_wp2_with fail;refine(NT.out w6 (bM.out.same HP6.out)).mono ?_;rintro e w7 ⟨rfl,O1⟩;have PL:=zh (HP6.out.same O1);have HQ7:Hid (O0 W4 w7):=HQ6.out.same O1;clear O1 k0 k1 k2 k3 k4 k5 k6 k7 k8 k9 d0 d1 d2 d3 d4 d5 d6;obtain⟨k0,k1,k2,k3,k4,k5,k6,k7,k8,k9⟩:=aG.out w7 (bM.out.same PL.out);obtain⟨d0,d1,d2,d3,d4,d5,d6⟩:=wR.out w7 (HQ7.out);cases sb with
     |false=>exact zFT
     |true=>
      by_cases c0:c=0
      ·subst c0;have hcode:lI x p yz=0:=by unfold lI;rw[HSb.out,HE0.out,if_neg (by simp),if_neg zAM,if_neg (by have:=HFl.out;omega),HC.out]
       have HZ3:Hid (∀d∈p.cons.take (j+1),lI x p d=0):=fun v hv=>by
        rcases dI Ku.out hv with h|rfl;·exact HZj.out v h
        exact hcode
       go_wp2_with fail;go_roundw;case rel=>exact⟨PL,j+1,by first|rfl|go_num,by omega,HZ3⟩
       case measure=>simp[RowKit.intOf]<;>omega
      have c1:((c:Int)==0)=false:=by rw[yC];exact c0
      have hr2:r=(c,yz.line):=by rw[<-jd.out];exact wQ HZa.out HZj.out Ku.out (by unfold lI;rw[HSb.out,HE0.out,if_neg (by simp),if_neg zAM,if_neg (by have:=HFl.out;omega),HC.out]) (by first|decide|assumption)
      subst hr2;go_wp2_with (refine wpList_store_row rfl 43 (.tmp 4) (.tmp 79) rfl (w.heap.size+2) #[.int .u8 c,.int .i64 yz.line] rfl rfl 43 #[.int .u8 0,.int .i64 0] (xK.out w7 PL.out) zk rfl zk ?_);exact zFA
   obtain rfl:rX=j:=by omega
   have hr2:r=(0,0):=by rw[<-jd.out];refine WJ HZa.out fun d hd=>HZj.out d ?_;rw[qI (yG Gq.out)];exact hd
   subst hr2;go_wp2_with (refine wpList_store_row rfl 43 (.tmp 4) (.tmp 81) rfl (w.heap.size+2) #[.int .u8 0,.int .i64 0] rfl rfl 43 #[.int .u8 0,.int .i64 0] (xK.out Bl Ti.out) zk rfl zk ?_);refine jy (p:=4) rfl rfl rfl rfl (setRow_heap _ _ _ _ _ _ (xK.out Bl Ti.out)) ?_;exact⟨rfl,(bW.out.same (bM.out.same Ti.out)).trans (dN _ _ _) (fun k hk=>.inr zBk)⟩
end
section
variable {w w':World} {B:Nat}
attribute [local irreducible] wpQuiet
theorem Ue{tZ:List Value}{x:aH}(hx:jl B w tZ x)(hlen:x.packs.length<=1000000){i:Nat}(hi:i<x.iH.length):Calls Tryz.prog 55 #[.agg tZ.toArray,.int .i64 (i:Int)] w fun e w'=>bD w w' e:=by
 obtain⟨bQ,aj,aT,bg,aP,aU,rfl,jm,jo,iO,iP,aB,fO,uK⟩:=open_rec hx;clear hx;try rw[aB.out]
 obtain⟨W0,hW0,bW,nR,aG⟩:=Wv w (.slice bQ aj aT) (.slice bg aP aU) 25;obtain⟨kC,dP,eP⟩:=uK W0 bW.out;clear uK;rw[aB.out]at hlen;rw[fO.out]at hi;obtain⟨yy,hxy⟩:=zG x.iH i zBa;obtain⟨xO,lq,sW,mG,sZ,mW,kM,xP,BF,jw⟩:=Gf (eP.out W0 zr) hxy;first|subst mW| (simp only[qG,qO,and_true]at mW;obtain⟨rfl,rfl⟩:=mW)
 have NQ:=zh kM;have je:=zh jw;clear jw hxy kM;have BD:Hid (∀W,O0 W0 W->aQ 1 fM B W (.slice sW mG sZ) yy.names):=fun W ho=>(je.out W ho).2.1;have hbn:mG<=9223372036854775807:=by obtain⟨_,_,_,g1,g2⟩:=(BD.out W0 zr).shape;rw[NQ.out]at g1;omega
 have dM:=zh (je.out W0 zr).1;obtain⟨W1,hW1⟩:=zB (W0.alloc (.cells #[.string yy.virtual,.slice sW mG sZ,.int .i64 yy.line] 103));have bM:Hid (O0 W0 W1):=zAp;have wR:Hid (∀W,O0 W1 W->W.cell? ⟨(w.heap.size+1),0,none⟩=some (.string yy.virtual)/\W.cell? ⟨(w.heap.size+1),1,none⟩=some (.slice sW mG sZ)/\W.cell? ⟨(w.heap.size+1),2,none⟩=some (.int .i64 yy.line)):=fun W ho=>by have b0:W1.heap[(w.heap.size+1)]? =some (.cells #[.string yy.virtual,.slice sW mG sZ,.int .i64 yy.line] 103):=zA3;have b1:=aF b0 ho (fun f=>f);exact⟨by rw[ah b1];rfl,by rw[ah b1];rfl,by rw[ah b1];rfl⟩
 rw[hW0]at dM;go_enter Tryz.func55,Tryz.ntmps55;go_wp2_with (refine wpList_load_mid rfl 103 (.tmp 12) rfl xO (lq+i*3) rfl _ _ dM.out Tryz.underlying103 rfl zk ?_);rw[<-hW0,<-hW1];clear hW0 hW1 dM;have kK:Hid (O0 W1 W1):=Only.refl _ _;go_wp2_with fail;go_loopw [6] (fun vk jJ=>Hid (O0 W1 jJ)/\∃k:Nat,vk= .int .i64 k/\k<=i) (fun v _=>i-(RowKit.intOf v).toNat);case atStart=>exact⟨kK,0,rfl,qE _⟩
 case round=>
  obtain⟨jJ,rfl⟩:=zB wr;clear kK;obtain⟨sS,k,rfl,hk⟩:=hrel;obtain⟨k0,k1⟩:=aG.out jJ (bM.out.same sS.out);obtain⟨d0,d1,d2⟩:=wR.out jJ sS.out;by_cases ck:k<i
  ·have jh:=zw (k+1);obtain⟨yz,hxz⟩:=zG x.iH k zBa;obtain⟨NR,xQ,II,Et,Gj,pV,rP,BR,QM,kU⟩:=Gf (eP.out W0 zr) hxz;first|subst pV| (simp only[qG,qO,and_true]at pV;obtain⟨rfl,rfl⟩:=pV)
   have nV:=zh kU;clear kU hxz rP;have hrz:=(nV.out jJ (bM.out.same sS.out)).1;have yY:=hrz 0 _ rfl;rw[qF]at yY;clear hrz;have hbd:=jZ yz.virtual yy.virtual;obtain⟨bb,hbb⟩:∃b,decide (yz.virtual=yy.virtual)=b:=⟨_,rfl⟩;rw[hbb]at hbd;clear hbb;go_wp2_with fail;go_quiet (fail);cases bb with
   |true=>go_wp2_with fail;go_ret;exact bD.mk _ rfl (bW.out.same (bM.out.same (sS.out.drewN _)))
   |false=>
    go_wp2_with fail;go_roundw;case rel=>exact⟨show Hid _ from(sS.out.drewN _),k+1,by first|rfl|go_num,by omega⟩
    case measure=>simp[RowKit.intOf]<;>omega
  obtain rfl:i=k:=by omega
  have kK:=sS;go_wp2_with fail;clear k0 k1 d0 d1 d2;go_loopw [31] (fun vm Tf=>Hid (O0 W1 Tf)/\∃m:Nat,vm= .int .i64 m/\m<=mG) (fun v _=>mG-(RowKit.intOf v).toNat);case atStart=>exact⟨kK,0,rfl,qE _⟩
  case round=>
   obtain⟨Tf,rfl⟩:=zB wr;clear kK;obtain⟨V5,m,rfl,hm⟩:=hrel;obtain⟨k0,k1⟩:=aG.out Tf (bM.out.same V5.out);obtain⟨d0,d1,d2⟩:=wR.out Tf V5.out;by_cases cm:m<mG
   ·have jh:=zw (m+1);obtain⟨ys,hxs⟩:=zG yy.names m zBN;obtain⟨bks,ag9,hes,aeO,KU⟩:=uy (BD.out W0 zr) hxs;first|subst hes| (simp only[qG,qO,and_true]at hes;obtain⟨rfl,rfl⟩:=hes)
    have Ip:=zh KU;clear KU hxs;obtain⟨f,hf⟩:=ze (x.find ys);have abE:=x.vP ys;rw[hf,aB.out]at abE;have HF:Hid (∀W,O0 W0 W->Calls Tryz.prog 38 #[.agg #[.slice bQ aj aT,.slice (some ⟨xO,lq,none⟩) aP aU],.string ys] W fun e w'=>e= .returned (.int .i64 f)/\O0 W w'):=fun W hW=>by rw[<-hf];exact wz (kC.out W hW) ys
    clear hf;go_wp2_with fail;clear k0 k1 d0 d1 d2;refine eY (fun w'=>O0 W1 w') zk zk (by exact(V5.out).drew) ?_;refine qV ?_ (hy:=zAW);refine qV ?_;refine qV ?_ (hy:=zAW);iterate 2 refine qV ?_
    refine qV ?_ (hy:=zAW);refine kR (v:=.int .i64 f) (f:=38) (args:= #[.agg #[.slice bQ aj aT,.slice (some ⟨xO,lq,none⟩) aP aU],.string ys]) (by rfl) ?_ ?_ ?_;·exact zCM
    ·(intro w hSw;exact(HF.out w (bM.out.same hSw)).mono fun _ _ ⟨he,ho⟩=>⟨he,hSw.same ho⟩)
    try simp only[Act.put,gu,gy,gG]
    refine qV ?_;refine wpQuiet_nil ?_;(intro w9 vH;have rY:=zh vH;clear vH);clear HF;go_wp2_with fail;by_cases fl:f<0
    ·refine eY (fun w'=>O0 W1 w') zk zk (by exact(rY.out).drew) ?_;iterate 3 refine qV ?_
     iterate 10 refine qS ?_
     refine qV ?_;refine wpQuiet_nil ?_;(intro w8 hw8;have Iu:=zh hw8;clear hw8);go_wp2_with fail;go_ret;exact bD.mk _ rfl (bW.out.same (bM.out.same Iu.out))
    obtain⟨fn,rfl⟩:∃i:Nat,f=i:=⟨f.toNat,by omega⟩;obtain⟨yv,hxv⟩:=zG x.packs fn zAk;obtain⟨bkv,akv,av1,nv1,cv1,av2,nv2,cv2,av3,nv3,cv3,av4,nv4,cv4,av5,nv5,cv5,av6,nv6,cv6,hev,ahg,ahh,ahi,ahj,ahk,ahl,aoL,inv1,abI⟩:=jR (dP.out W0 zr) hxv;first|subst hev| (simp only[qG,qO,and_true]at hev;obtain⟨rfl,rfl⟩:=hev)
    have HEv:=zh abI;clear abI hxv ahg ahh ahi ahj ahk ahl;have aoM:Hid (∀W,O0 W0 W->aQ 1 fM B W (.slice av3 nv3 cv3) yv.provides):=fun W ho=>(HEv.out W ho).2.2.2.1;obtain⟨hb,hhb⟩:=ze (tX yv.provides yy.virtual);have Gi:Hid (∀W,O0 W0 W->Calls Tryz.prog 128 #[.slice av3 nv3 cv3,.string yy.virtual] W fun e w'=>e= .returned (.bool hb)/\O0 W w'):=fun W hW=>by rw[<-hhb];exact KT (aoM.out W hW) _
    clear hhb;refine eY (fun w'=>O0 W1 w') zk zk (by exact(rY.out).drew) ?_;iterate 4 refine qV ?_
    refine qV ?_ (hy:=zAa);iterate 3 refine qV ?_
    refine qV ?_ (hy:=zAa);refine qV ?_;refine qV ?_ (hy:=zAa);refine kR (v:=.bool hb) (f:=128) (args:= #[.slice av3 nv3 cv3,.string yy.virtual]) (by rfl) ?_ ?_ ?_;·exact zCM
    ·(intro w hSw;exact(Gi.out w (bM.out.same hSw)).mono fun _ _ ⟨he,ho⟩=>⟨he,hSw.same ho⟩)
    try simp only[Act.put,gu,gy,gG]
    iterate 2 refine qV ?_
    refine wpQuiet_nil ?_;(intro w8 hw8;have Iu:=zh hw8;clear hw8);cases hb with
    |true=>
     go_wp2_with fail;go_roundw;case rel=>exact⟨Iu,m+1,by first|rfl|go_num,by omega⟩
     case measure=>simp[RowKit.intOf]<;>omega
    |false=>go_wp2_with fail;go_ret;exact bD.mk _ rfl (bW.out.same (bM.out.same Iu.out))
   obtain rfl:mG=m:=by omega
   obtain⟨vb,hvb⟩:=ze (x.rO yy.virtual);have HVt:Hid (∀W,O0 W0 W->Calls Tryz.prog 129 #[.agg #[.slice bQ aj aT,.slice (some ⟨xO,lq,none⟩) aP aU],.string yy.virtual] W fun e w'=>e= .returned (.bool vb)/\O0 W w'):=fun W hW=>by rw[<-hvb];exact vS (kC.out W hW) zAg yy.virtual
   clear hvb;go_wp2_with fail;refine(HVt.out Tf (bM.out.same V5.out)).mono ?_;rintro e w2 ⟨rfl,O2⟩;have HP2:=zh (V5.out.same O2);clear O2 HVt;clear k0 k1 d0 d1 d2;obtain⟨k0,k1⟩:=aG.out w2 (bM.out.same HP2.out);obtain⟨d0,d1,d2⟩:=wR.out w2 HP2.out;cases vb with
   |false=>go_wp2_with fail;go_ret;exact bD.mk _ rfl (bW.out.same (bM.out.same HP2.out))
   |true=>
    go_wp2_with fail;refine(DC (BD.out w2 (bM.out.same HP2.out))).mono ?_;rintro e w3 ⟨bb,rfl,O3⟩;have BL:=zh (HP2.out.same O3);clear O3;cases bb with
    |false=>go_wp2_with fail;go_ret;exact bD.mk _ rfl (bW.out.same (bM.out.same BL.out))
    |true=>go_wp2_with fail;go_ret;exact bD.mk _ rfl (bW.out.same (bM.out.same BL.out))
end
end Go.Proofs.YtdmmebjjojimiaaGreatDoor
