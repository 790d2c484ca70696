/- Gd7 Gd8, in one text.; Which atoms of a ground's table are so, whatever the table. Printed by gen_so3.py. -/
import Derived.Test.YtdmmebjjojimiaaGreatDoorG30
set_option maxRecDepth 100000
set_option maxHeartbeats 8000000
set_option linter.all false
namespace Go.Proofs
theorem zBm{p:Prop}(h:p:=by(intro w hSw;have HU:=adR.out w (HU3.out w hSw);have qb:=aF HC.out hSw (iR zAG HV.out HC.out);have qs0:=ah qb 1;obtain⟨-,-,-,d3,-⟩:=wR.out w (HU3.out w hSw);have hrz:=(nV.out w HU).1;have VX:=hrz 1 _ rfl;clear hrz;go_simp<;>(try with_reducible rfl))):p:=h
theorem zB3{p:Prop}(h:p:=by rw[<-e];exact hk):p:=h
theorem zCA{p:Prop}(h:p:=by intro u hu;simp at hu;rcases hu with rfl|rfl<;>rfl):p:=h
theorem zCt{p:Prop}(h:p:=by
 refine XY rfl rfl rfl rfl (setRow_heap _ _ _ _ _ _ HB1.out) ?_
 exact⟨rfl,bM.out.trans (dN _ _ _) (fun k hk=>.inr (yG hk.symm))⟩):p:=h
theorem zEM{p:Prop}(h:p:=by
 obtain⟨a,c,e,-,-⟩:=aC HR.out.own
 rw[D7.out]at e
 exact⟨a,c,e,trivial,trivial⟩):p:=h
end Go.Proofs
namespace Go.Proofs.YtdmmebjjojimiaaGreatDoor
open Go.RowKit
section
variable {w w':World} {B:Nat}
theorem slC:BM Tryz.prog 57 155 2 32:=BM.mk' (z:=.agg #[.int .i64 0,bP]) Tryz.underlying57 zk rfl zAG
theorem iR{e t:TypeId}{s n b:Nat}{v:Value}{xs:List Value}{c:Array Value}{f:Nat×Nat}(hne:e≠t)(h:w.ownsRow 0 e s v n xs)(hb:w.heap[b]? =some (.cells c t f)):v.ownBlock≠some b:=by
 intro h2;rcases h.2 with⟨rfl,_⟩| ⟨g,cap,cur,rfl,-,hg,-⟩;·cases h2
 simp only[Value.ownBlock,qG]at h2;subst h2;rw[hb]at hg;simp only[qG,Obj.cells.injEq]at hg;exact hne hg.2.1.symm
def Du(P:List (CD×Value)):List Value:=P.flatMap fun p=>[.int .i64 p.1.rel,p.2]
theorem aaA(a b:List (CD×Value)):Du (a++b)=Du a++Du b:=List.flatMap_append
theorem aaB(l:List (CD×Value)){i j:Nat}(hi:i<l.length)(hj:j<2):(Du l)[i*2+j]? =[Value.int .i64 (l[i]'hi).1.rel,(l[i]'hi).2][j]? :=by
 unfold Du;induction l generalizing i with
 |nil=>simp at hi
 |cons x r ih=>
  rw[List.flatMap_cons];cases i with
  |zero=>rw[Nat.zero_mul,Nat.zero_add,yM zBb];rfl
  |succ i=>rw[yN zAd];rw[show(i+1)*2+j-[Value.int .i64 x.1.rel,x.2].length=i*2+j by simp;omega,ih zBE];simp
structure xU (w0 w:World) (v:Value) (P:List (CD×Value)):Prop where
 own:w.ownsRow 0 155 2 v P.length (Du P)
 new:∀k,v.ownBlock=some k->w0.heap.size<=k
 vals:∀p∈P,w.ownsRow 0 3 1 p.2 p.1.vals.length (p.1.vals.map cI)
 rng:∀p∈P,bU p.1.rel/\∀z∈p.1.vals,bU z
theorem xU.only{w0 w1 w2:World}{v:Value}{P:List (CD×Value)}{F:Nat->Prop}(h:xU w0 w1 v P)(ho:Only F w1 w2)(hF:∀k,F k->w1.heap.size<=k):xU w0 w2 v P:=
 ⟨aI h.own ho (fun k hk f=>by have:=dX h.own hk;have:=hF k f;omega),h.new,fun p hp=>aI (h.vals p hp) ho (fun k hk f=>by have:=dX (h.vals p hp) hk;have:=hF k f;omega),h.rng⟩
theorem xU.app{w0 w1 w2:World}{v v':Value}{P:List (CD×Value)}{c:CD}{vv:Value}(h:xU w0 w1 v P)(hs:w0.heap.size<=w1.heap.size)(s1:w2.ownsRow 0 155 2 v' (P.length+1) (Du P++[.int .i64 c.rel,vv]))(o:Only (fun k=>v.ownBlock=some k) w1 w2)(a:BN w1 v v' (P.length+1))(hv:w1.ownsRow 0 3 1 vv c.vals.length (c.vals.map cI))(hr:bU c.rel/\∀z∈c.vals,bU z):xU w0 w2 v' (P++[(c,vv)]):=by
 have ne:∀{vv n xs},w1.ownsRow 0 3 1 vv n xs->w2.ownsRow 0 3 1 vv n xs:=fun hh=>aI hh o (fun k hk f=>by
  rcases h.own.2 with⟨e,_⟩| ⟨g,cap,cur,e,-,hg,-⟩
  ·rw[e]at f;cases f
  ·rw[e]at f
   simp only[Value.ownBlock,qG]at f
   subst f
   exact iR zAG hh hg hk)
 refine⟨by rw[aaA];simpa[Du]using s1,fun k hk=>?_,fun p hp=>?_,fun p hp=>?_⟩;·exact zCm
 ·rcases qW.1 hp with hp|hp;·exact ne (h.vals p hp)
  rw[yJ.1 hp];exact ne hv
 rcases qW.1 hp with hp|hp;·exact h.rng p hp
 rw[yJ.1 hp];exact hr
theorem xU.put{w0 w1:World}{v:Value}{P:List (CD×Value)}{b i:Nat}{c:Array Value}{f:Nat×Nat}{t:TypeId}(h:xU w0 w1 v P)(hb:w1.heap[b]? =some (.cells c t f))(h1:155≠t)(h2:3≠t)(u:Value):xU w0 (w1.setCell ⟨b,i,none⟩ u) v P:=by have o:Only (fun k=>k=b) w1 (w1.setCell ⟨b,i,none⟩ u):=(Only.refl (fun k=>k=b) w1).setCell (p:=⟨b,i,none⟩) (.inl rfl) _;exact⟨aI h.own o (fun k hk e=>iR h1 h.own hb (by rw[<-e];exact hk)),h.new,fun p hp=>aI (h.vals p hp) o (fun k hk e=>iR h2 (h.vals p hp) hb zB3),h.rng⟩
theorem xU.read{w0:World}{v:Value}{P:List (CD×Value)}(h:xU w0 w v P):aQ 2 CC w.heap.size w v (P.map Prod.fst):=by
 have h0:w.ownsRow 0 155 2 v (P.map Prod.fst).length (Du P):=by rw[qM];exact h.own
 refine aQ.fH h0 fun i hi=>?_;rw[qM]at hi;have hm:P[i]∈P:=qZ hi;refine⟨[.int .i64 P[i].1.rel,P[i].2],rfl,fun j u hu=>?_,?_⟩;·have hj:j<2:=(qJ.1 hu).1;rw[aaB P hi hj];exact hu
 rw[List.getElem_map];have hv:=h.vals _ hm;refine⟨P[i].2,rfl,(h.rng _ hm).1,?_⟩;refine aQ.fH hv fun j hj=>⟨[.int .i64 P[i].1.vals[j]],rfl,fun a u hu=>?_,rfl,(h.rng _ hm).2 _ (qZ hj)⟩;obtain rfl:a=0:=by have:=(qJ.1 hu).1;simpa using this
 simp at hu;subst hu;simp[hj]
theorem Nu(x:aH)(l:List Nat)(jG:List Nat)(hv:∀p∈x.packs,p.vars.length<=1000):∀i,i<=x.packs.length->(pq x l jG i).2<=i*1001
 |0,_=>qE _
 |i+1,hi=>by
  have ih:=Nu x l jG hv i zBk
  have h1:=hv (x.pack i) (aH.iW zBk)
  have h2:(EC jG (pq x l jG i).2 (x.pack i) (decide (i∈l))).2<=(pq x l jG i).2+1+(x.pack i).vars.length:=by
   unfold EC
   split
   ·exact qH _
   ·exact qR (Nat.le_add_right _ 1) (Nat.le_add_right _ _)
  rw[pq]
  exact qR h2 zBk
theorem adO{jG:List Nat}{a n b:Nat}(h:n<=b):oZ jG a n<=b:=by
 unfold oZ;split;·rename_i hh;have:=Nat.mod_lt (jG.getD a 0) hh.2;omega
 omega
theorem amb{fn:Func}{p:Tmp}{Q:Ending->World->Prop}{a:Act}{W:World}{B:Nat}{cs:Array Value}(hf:fn.results= #[.cell p 60])(hp:a.tmps.getD p undef= .pointer (some ⟨B,0,none⟩))(hd:a.defers=[])(hs:cs.size=5)(hg:W.heap[B]? =some (.cells cs 60 (0,0)))(h:Q (.returned (.agg cs)) W):bodyPost Tryz.prog fn Q Exit.ret a W:=by refine bodyPost_ret (v:=.agg cs) ?_ hd h;rw[Gt hf,hp];simp only[asAddr,Sem.run_pure,Result.andThen_ok];exact run_loadVar_row W B 60 60 cs (0,0) _ hg Tryz.underlying60 rfl zA9
theorem aiL{tZ:List Value}{x:aH}(hx:jl B w tZ x){Iy:List Value}{q:fV}(hq:mV B w Iy q){adP:Value}{jG:List Nat}(adQ:aQ 1 YI B w adP jG)(hm:Fv x)(hlt:∀p∈x.closure q.names,p<x.packs.length)(hBw:B<=w.heap.size):Calls Tryz.prog 24 #[.agg tZ.toArray,.agg Iy.toArray,adP] w fun e w'=> ∃cs:List Value,e= .returned (.agg cs.toArray)/\GC w'.heap.size w' cs (gOf x q (x.closure q.names) jG)/\O0 w w'/\cs.getD 4 bP=bP:=by
 obtain⟨l,hl⟩:=ze (x.closure q.names);rw[hl]at hlt⊢;have HL:=zh hl;have HMd:=zh hm;have hpx:=hm.packs;clear hl;obtain⟨bQ,aj,aT,bg,aP,aU,rfl,jm,jo,iO,iP,aB,fO,uK⟩:=open_rec hx;clear hx;try rw[aB.out]
 obtain⟨dJ,bF,dL,rfl,qy,qB,fC,JE⟩:=rH hq;clear hq;try rw[fC.out]
 obtain⟨agJ,agK,agL,rfl,amc,aiM,amd,Vx⟩:=open_bytes adQ;clear adQ;obtain⟨W0,hW0,bW,nR,aG⟩:=Aj w (.slice bQ aj aT) (.slice bg aP aU) (.slice dJ bF dL) 25 28;obtain⟨kC,dP,eP⟩:=uK W0 bW.out;clear uK;obtain⟨zQ,jA⟩:=JE W0 bW.out;clear JE;have XV:=Vx W0 bW.out;clear Vx;rw[aB.out]at hpx hlt;have Tj:=zh hlt;have sS:Hid (∀a n:Nat,a<=100000000->n<=100000000->∀W,O0 W0 W->Calls Tryz.prog 82 #[.slice agJ agK agL,.int .i64 (a:Int),.int .i64 (n:Int)] W fun e w'=>e= .returned (.int .i64 (oZ jG a n:Int))/\O0 W w'):=fun a n h1 h2 W hW=>pick_any (XV.out W hW) a n h1 h2;obtain⟨W1,hW1⟩:=zB ((W0.alloc (.cells #[bP,bP,bP,bP,bP] 60)).alloc (.cells #[.slice bQ aj aT,.slice bg aP aU,.slice dJ bF dL,bP,bP] 60));have bM:Hid (O0 W0 W1):=by rw[hW1];exact(zr.alloc _).alloc _
 have Td:Hid (W1.heap.size=w.heap.size+4):=by rw[hW1];have:=nR.out;simp[Hid];omega
 have H71:Hid (W1.heap[(w.heap.size+1+1+1)]? =some (.cells #[.slice bQ aj aT,.slice bg aP aU,.slice dJ bF dL,bP,bP] 60)):=by rw[hW1];exact alloc_at (by simp[nR.out])
 have H61:Hid (W1.heap[(w.heap.size+1+1)]? =some (.cells #[bP,bP,bP,bP,bP] 60)):=by rw[hW1];exact dw (alloc_at (by simp[nR.out])) _
 have Qi:=zh (zq (kC.out W1 bM.out) (zQ.out W1 bM.out) zAk);rw[HL.out]at Qi;clear hm hlt;obtain⟨k0,k1,k2⟩:=aG.out W0 zr;rw[hW0]at k0 k1 k2;obtain⟨m0,m1,m2⟩:=aG.out W1 bM.out;rw[hW1,hW0]at m0 m1 m2;go_enter Tryz.func24,Tryz.ntmps24;go_wp2_with fail;rw[<-hW0,<-hW1];clear hW0 hW1 k0 k1 k2 m0 m1 m2;refine Qi.out.mono ?_;rintro e W2 ⟨vl,rfl,hvl,hvf,O2⟩;have fK:=zh (bM.out.same O2);have hI1:Ints W2 vl (intsOf l):=oq hvl fun i hi=>by have:=Tj.out i hi;omega
 have ac5:∀k,vl.ownBlock=some k->W1.heap.size<=k/\k<W2.heap.size:=fun k hk=>⟨hvf k hk,dX hvl hk⟩;obtain⟨F1,hF1⟩:∃F1:Nat->Prop,F1=fun k=>k=(w.heap.size+1+1+1)\/W2.heap.size<=k:=⟨_,rfl⟩;have ZG:Hid (∀k,(k=(w.heap.size+1+1+1)\/W2.heap.size<=k)->F1 k):=fun k hk=>by rw[hF1];exact hk
 have hs2:=O2.size;have HF6:Hid (F1 (w.heap.size+1+1)->False):=fun f=>by rw[hF1]at f;have:=Td.out;rcases f with f|f<;>omega
 have jg:Hid (∀W,Only F1 W2 W->O0 W0 W):=fun W hW=>fK.out.trans hW (fun k hk=>.inr (by
  rw[hF1]at hk
  have:=Td.out
  have:=nR.out
  rcases hk with hk|hk<;>omega))
 have U6:Hid (∀W,Only F1 W2 W->Ints W vl (intsOf l)):=fun W hW=>hI1.only hW (fun b hb hf=>by
  rw[hF1]at hf
  obtain⟨ao,cp,rfl,-,-⟩:=aC hvl
  cases ao with
  |none=>cases hb
  |some ad=>
   have hh:=ac5 b hb
   have:=Td.out
   rcases hf with hf|hf<;>omega)
 have H72:Hid (W2.heap[(w.heap.size+1+1+1)]? =some (.cells #[.slice bQ aj aT,.slice bg aP aU,.slice dJ bF dL,bP,bP] 60)):=aF H71.out O2 (fun f=>f);have H6:Hid (W2.heap[(w.heap.size+1+1)]? =some (.cells #[bP,bP,bP,bP,bP] 60)):=aF H61.out O2 (fun f=>f);have HR2:Hid (xU W2 W2 bP []):=⟨World.ownsRow_nil _ _ _ _,fun k hk=>(by cases hk),fun p hp=>(by cases hp),fun p hp=>(by cases hp)⟩;have kK:Hid (Only F1 W2 W2):=Only.refl _ _;obtain⟨avl,cvl,rfl,-,-⟩:=aC hvl;obtain⟨nl,hnl⟩:=ze l.length;rw[hnl]at U6⊢;clear hvl hvf hI1 O2 hF1 ac5 Qi H71 H61 hs2 hnl;obtain⟨k0,k1,k2⟩:=aG.out W2 (jg.out W2 zr);go_wp2_with fail;clear k0 k1 k2;go_loopw [9,23] (fun vn vi dG=>Hid (Only F1 W2 dG)/\∃(i:Nat) (vC:Value) (P:List (CD×Value)) (m:Nat),vi= .int .i64 i/\i<=aj/\vn= .int .i64 m/\Hid ((pq x l jG i).2=m)/\Hid (P.length=i)/\Hid (P.map Prod.fst=(pq x l jG i).1)/\Hid (dG.heap[(w.heap.size+1+1+1)]? =some (.cells #[.slice bQ aj aT,.slice bg aP aU,.slice dJ bF dL,vC,bP] 60))/\Hid (xU W2 dG vC P)) (fun _ v _=>aj-(RowKit.intOf v).toNat);case atStart=>exact⟨kK,0,bP,[],0,rfl,qE _,rfl,show Hid _ from rfl,show Hid _ from rfl,show Hid _ from rfl,H72,HR2⟩
 case round=>
  obtain⟨dG,rfl⟩:=zB wr;clear kK H72 HR2;obtain⟨gV,i,vC,P,m,rfl,hi,rfl,HN,D7,V5,H7,HR⟩:=hrel;obtain⟨k0,k1,k2⟩:=aG.out dG (jg.out dG gV.out);by_cases ci:i<aj
  ·have jh:=zw (i+1);obtain⟨yy,hxy⟩:=zG x.packs i zAk;obtain⟨xO,lq,sW,mG,sZ,vI,mJ,vJ,Cj,BK,Cm,y7,oK,y8,DY,zK,DZ,EW,Eu,EX,mW,kM,l9,oQ,mY,oU,rZ,xP,BF,jw⟩:=jR (dP.out W0 zr) hxy;first|subst mW| (simp only[qG,qO,and_true]at mW;obtain⟨rfl,rfl⟩:=mW)
   have NQ:=zh kM;have Ny2:=zh l9;have je:=zh jw;have Af:=zh hxy;clear jw hxy kM l9 oQ mY oU rZ;have IY:Hid (∀W,O0 W0 W->aQ 2 pR B W (.slice vI mJ vJ) yy.vars):=fun W ho=>(je.out W ho).2.2.1;have HPg:Hid (x.pack i=yy):=zAy;have hmem:yy∈x.packs:=qT Af.out;have hrl:mG<=1000:=by rw[<-NQ.out];exact HMd.out.bY yy hmem
   have hvl:mJ<=1000:=by rw[<-Ny2.out];exact HMd.out.vars yy hmem
   have HMv:Hid (∀v∈yy.vars,v.values.length<=1000):=HMd.out.vals yy hmem;have hmb:m<=1001000:=by have:=Nu x l jG HMd.out.vars i zAk;rw[HN.out]at this;have:=Nat.mul_le_mul_right 1001 (show i<=1000 by omega);omega
   obtain⟨ac,cc,rfl,-,-⟩:∃ac cc,vC= .slice ac i cc/\True/\True:=by exact zEM
   obtain⟨bi,hbi⟩:=ze (decide (i∈l));have HBi:=zh hbi;clear hmem;have dM:=zh (je.out dG (jg.out dG gV.out)).1;obtain⟨W3,hW3⟩:=zB (dG.alloc (.cells #[.string yy.name,.int .i64 yy.line,.slice sW mG sZ,.slice vI mJ vJ,.slice Cj BK Cm,.slice y7 oK y8,.slice DY zK DZ,.slice EW Eu EX] 101));have BL:Hid (O0 dG W3):=by rw[hW3];exact zr.alloc _
   have wR:Hid (∀W,O0 W3 W->W.cell? ⟨dG.heap.size,0,none⟩=some (.string yy.name)/\W.cell? ⟨dG.heap.size,1,none⟩=some (.int .i64 yy.line)/\W.cell? ⟨dG.heap.size,2,none⟩=some (.slice sW mG sZ)/\W.cell? ⟨dG.heap.size,3,none⟩=some (.slice vI mJ vJ)/\W.cell? ⟨dG.heap.size,4,none⟩=some (.slice Cj BK Cm)/\W.cell? ⟨dG.heap.size,5,none⟩=some (.slice y7 oK y8)/\W.cell? ⟨dG.heap.size,6,none⟩=some (.slice DY zK DZ)/\W.cell? ⟨dG.heap.size,7,none⟩=some (.slice EW Eu EX)):=fun W ho=>by
    have b0:W3.heap[dG.heap.size]? =some (.cells #[.string yy.name,.int .i64 yy.line,.slice sW mG sZ,.slice vI mJ vJ,.slice Cj BK Cm,.slice y7 oK y8,.slice DY zK DZ,.slice EW Eu EX] 101):=by rw[hW3];exact qL dG _
    exact zCZ
   have HS3:Hid (W3.heap.size=dG.heap.size+1):=by rw[hW3];simp[Hid]
   have adR:Hid (∀W,O0 W3 W->O0 W0 W):=fun W hW=>jg.out W (gV.out.trans (BL.out.same hW) (fun _ f=>f.elim));have aqE:Hid (∀W,O0 W3 W->Ints W (.slice avl nl cvl) (intsOf l)):=fun W hW=>U6.out W (gV.out.trans (BL.out.same hW) (fun _ f=>f.elim));obtain⟨W4,xM⟩:=zB (W3.alloc (.cells #[.int .i64 (-1),bP] 155));have HC4:Hid (W4.heap[dG.heap.size+1]? =some (.cells #[.int .i64 (-1),bP] 155)):=by rw[xM,<-HS3.out];exact qL W3 _
   have xw:Hid (O0 W3 W4):=by rw[xM];exact zr.alloc _
   have Y2:=zh (Ky (w:=W4) (aqE.out W4 xw.out) (i:Int));rw[uI,hbi]at Y2;clear hbi;go_wp2_with (refine wpList_load_mid rfl 101 (.tmp 29) rfl xO (lq+i*8) rfl _ _ dM.out Tryz.underlying101 rfl zk ?_);rw[<-hW3];clear hW3 dM;clear k0 k1 k2;go_wp2_with fail;rw[<-xM];clear xM;refine Y2.out.mono ?_;rintro e w5 ⟨rfl,O5⟩;have FI:=zh (xw.out.same O5);have HC5:Hid (w5.heap[dG.heap.size+1]? =some (.cells #[.int .i64 (-1),bP] 155)):=aF HC4.out O5 (fun f=>f);clear O5 Y2 xw HC4;cases bi with
   |true=>
    have uh:Hid (pq x l jG (i+1)=((pq x l jG i).1++[⟨(oZ jG m (mG+1):Int)-1,jK jG (m+1) yy.vars mJ⟩],m+1+mJ)):=by rw[pq,HPg.out,HBi.out,HN.out];show((pq x l jG i).1++[(EC jG m yy true).1],(EC jG m yy true).2)=_;unfold EC;rw[if_pos rfl,NQ.out,Ny2.out]
    obtain⟨pk,hpk⟩:=ze (oZ jG m (mG+1));have awg:pk<mG+1:=by rw[<-hpk];exact LV zBk
    have aiN:=zh (sS.out m (mG+1) zAC zBk w5 (adR.out _ FI.out));rw[hpk]at aiN uh;obtain⟨rr,hrr⟩:∃r:Int,(pk:Int)-1=r:=⟨_,rfl⟩;have ewr:IntKind.i64.wrap ((pk:Int)-1)=rr:=by rw[qD];omega
    have ewl:=zw (mG+1);have awh:=zw (m+1);rw[hrr]at uh;have awi: -1<=rr:=zBk;have awj:rr<=1000000:=zBk;obtain⟨-,-,d2,-,-⟩:=wR.out w5 FI.out;clear hpk;go_wp2_with fail;refine aiN.out.mono ?_;rintro e w6 ⟨rfl,O6⟩;have Xw:=zh (FI.out.same O6);have qb:=aF HC5.out O6 (fun f=>f);have qs0:=ah qb 0;have qs1:=iG qb 0;clear d2;obtain⟨-,-,-,d3,-⟩:=wR.out w6 Xw.out;obtain⟨W7,hW7⟩:=zB (w6.setCell ⟨dG.heap.size+1,0,none⟩ (.int .i64 rr));have HC7:Hid (W7.heap[dG.heap.size+1]? =some (.cells #[.int .i64 rr,bP] 155)):=by rw[hW7,jX qb];rfl
    have aiO:Hid (O0 W3 W7):=by rw[hW7];exact Xw.out.setCell (p:=⟨dG.heap.size+1,0,none⟩) (.inr (yG HS3.out)) _
    have HV7:Hid (W7.ownsRow 0 3 1 bP 0 ((jK jG (m+1) yy.vars 0).map cI)):=World.ownsRow_nil _ _ _ _;have d3':=(wR.out W7 aiO.out).2.2.2.1;rw[hW7]at d3';clear O6 aiN HC5 FI;go_wp2_with fail;rw[<-hW7];clear hW7 d3 d3' qb qs0 qs1;go_loopw [9,49] (fun vn vk jJ=>Hid (O0 W3 jJ)/\∃(k mk:Nat) (vv:Value),vk= .int .i64 k/\k<=mJ/\vn= .int .i64 mk/\mk=m+1+k/\Hid (jJ.heap[dG.heap.size+1]? =some (.cells #[.int .i64 rr,vv] 155))/\Hid (jJ.ownsRow 0 3 1 vv k ((jK jG (m+1) yy.vars k).map cI))/\Hid (∀kk,vv.ownBlock=some kk->W3.heap.size<=kk)) (fun _ v _=>mJ-(RowKit.intOf v).toNat);case atStart=>exact⟨aiO,0,m+1,bP,rfl,qE _,by first|rfl|go_num,rfl,HC7,HV7,show Hid _ from fun kk hk=>(by cases hk)⟩
    case round=>
     obtain⟨jJ,rfl⟩:=zB wr;clear aiO HC7 HV7;obtain⟨mX,k,mk,vv,rfl,hk,rfl,hmk,HC,HV,HVn⟩:=hrel;by_cases ck:k<mJ
     ·have aqF:mk<=100000000:=by omega
      have HMk:=zh hmk;clear hmk;have jh:=zw (k+1);have ewm:=zw (mk+1);obtain⟨yz,hxz⟩:=zG yy.vars k (by rw[Ny2.out];omega);obtain⟨NR,xQ,II,Et,Gj,pV,rP,BR,kU⟩:=F9 (IY.out W0 zr) hxz;first|subst pV| (simp only[qG,qO,and_true]at pV;obtain⟨rfl,rfl⟩:=pV)
      have Nz1:=zh rP;have nV:=zh kU;have Ku:=zh hxz;clear kU hxz rP;have HCz:Hid (∀W,O0 W0 W->pR B W [.string yz.name,.slice II Et Gj] yz):=fun W ho=>(nV.out W ho).2.2;have hvz:=HMv.out yz (qT Ku.out);rw[Nz1.out]at hvz;have aqG:Et<=100000000:=qR hvz zAG;have HSv:Hid (jK jG (m+1) yy.vars (k+1)=jK jG (m+1) yy.vars k++[(oZ jG mk Et:Int)]):=by rw[Ux,qC,Ku.out,HMk.out];show _++[(oZ jG (m+1+k) yz.values.length:Int)]=_;rw[Nz1.out]
      obtain⟨av,cv,rfl,-,-⟩:=aC HV.out;go_wp2_with fail;have HU3:Hid (∀W,Only (fun kk=>(Value.slice av k cv).ownBlock=some kk) jJ W->O0 W3 W):=fun W hW=>mX.out.trans hW (fun kk hk=>.inr (HVn.out kk hk));refine bH (n:=16) (E:=fun k=>k==15) (S:=fun W=>Only (fun kk=>(Value.slice av k cv).ownBlock=some kk) jJ W) zk rfl (by exact zr.drew) (fun hHeld=>?_);refine tW 0 ?_;refine tK 1 ?_ (hy:=zBm);refine tW 2 ?_;refine tW 3 ?_;refine tW 4 ?_;refine tK 5 ?_ (hy:=zBm);refine tW 6 ?_;refine tW 7 ?_;refine tW 8 ?_;refine tK 9 ?_ (hy:=zBm);refine tW 10 ?_;refine tO 11 fun K hK=>?_;(go_simp;refine(sS.out mk Et aqF aqG _ (adR.out _ (HU3.out _ hHeld))).mono ?_;rintro e w5 ⟨rfl,o5⟩;try go_wp2_with fail);refine hK.out _ _ ?_ (fun hHeld=>?_);·(try dsimp only)<;>(exact Only.same hHeld (o5.mono fun _ f=>f.elim))
      clear hK K;try simp only[Act.put,gJ,gK,gu,gy,gG]
      refine tO 12 fun K hK=>?_;go_simp;refine hK.out _ _ ?_ (fun hHeld=>?_);·(try dsimp only)<;>(exact Only.alloc hHeld _)
      clear hK K;try simp only[Act.put,gJ,gU,gK,gu,gy,gG]
      refine tO 13 fun K hK=>?_;(refine EP (news:=[.int .i64 (oZ jG mk Et:Int)]) kJ (by rfl) (.tmp 53) (.tmp 64) (by rfl) (by rfl) (aI HV.out (((Only.refl (fun _=>False) _).drew.same o5).alloc _) (fun _ _ f=>f)) (by rfl) (by rfl) (fun h=>by cases h) (fun ad e j u hu=>by cases e;rw[Go.WideShapes.add_plain];exact lQ (cs:=[.int .i64 (oZ jG mk Et:Int)]) rfl j u hu) (by intro u hu;simp at hu;subst hu;rfl) zBk zBl ?_;intro Xb cap5 w6 r5 o6 Xc);refine hK.out _ _ ?_ (fun hHeld=>?_);·(try dsimp only)<;>(exact((((Only.refl (fun _=>False) _).drew.same o5).alloc _).mono (fun _ f=>f.elim)).same o6)
      clear hK K;try simp only[Act.put,gJ,gU,gK,gu,gy,gG]
      refine tW 14 ?_;refine fP (rs:=[15]) zk zAM ?_;refine dA.late (i:=15) rfl zk (fun K hK=>?_) ?_
      ·(have qb:=aF HC.out hHeld (iR zAG HV.out HC.out);have qs0:=ah qb 1;have qs1:=iG qb 1;go_simp);refine hK.out _ _ ?_;clear hK K;try simp only[Act.put,gJ,gU,gK,gu,gy,gG]
       refine aZ zk ?_ _;have qb:=aF HC.out hHeld (iR zAG HV.out HC.out);have HC2:Hid ((w6.setCell ⟨dG.heap.size+1,1,none⟩ (.slice Xb (k+1) cap5)).heap[dG.heap.size+1]? =some (.cells #[.int .i64 rr,.slice Xb (k+1) cap5] 155)):=by rw[jX qb];rfl
       have oS:Only (fun k=>k=dG.heap.size+1) w6 (w6.setCell ⟨dG.heap.size+1,1,none⟩ (.slice Xb (k+1) cap5)):=(Only.refl (fun k=>k=dG.heap.size+1) w6).setCell (p:=⟨dG.heap.size+1,1,none⟩) (.inl rfl) _;have Ae:Hid ((w6.setCell ⟨dG.heap.size+1,1,none⟩ (.slice Xb (k+1) cap5)).ownsRow 0 3 1 (.slice Xb (k+1) cap5) (k+1) ((jK jG (m+1) yy.vars (k+1)).map cI)):=by rw[HSv.out,List.map_append];exact aI r5 oS (fun kk hk e=>iR zAG r5 qb zB3)
       have Sz:Hid (O0 W3 (w6.setCell ⟨dG.heap.size+1,1,none⟩ (.slice Xb (k+1) cap5))):=(HU3.out _ hHeld).setCell (p:=⟨dG.heap.size+1,1,none⟩) (.inr (yG HS3.out)) _;have aqH:Hid (∀kk,(Value.slice Xb (k+1) cap5).ownBlock=some kk->W3.heap.size<=kk):=fun kk hk=>by
        rcases Xc kk hk with h|h;·exact HVn.out kk h
        exact qR (mX.out.same (((Only.refl (fun _=>False) _).drew.same o5).alloc _)).size h
       clear hHeld r5 o5 o6 Xc qb oS HU3;go_wp2_with fail;go_roundw;case rel=>exact⟨Sz,k+1,mk+1,_,by first|rfl|go_num,by omega,by first|rfl|go_num,by have:=HMk.out;omega,HC2,Ae,aqH⟩
       case measure=>simp[RowKit.intOf]<;>omega
      exact dA.nil
     obtain rfl:mJ=k:=by omega
     obtain⟨av,cv,rfl,-,-⟩:=aC HV.out;have Vy:Hid (O0 dG jJ):=BL.out.same mX.out;have HZ:Hid (Only F1 W2 jJ):=gV.out.trans Vy.out (fun _ f=>f.elim);have H7z:Hid (jJ.heap[(w.heap.size+1+1+1)]? =some (.cells #[.slice (some ⟨xO,lq,none⟩) aj aT,.slice bg aP aU,.slice dJ bF dL,.slice ac i cc,bP] 60)):=aF H7.out Vy.out (fun f=>f);have SA:Hid (xU W2 jJ (.slice ac i cc) P):=HR.out.only Vy.out (fun _ f=>f.elim);have Iz:Hid (jJ.ownsRow 0 155 2 (.slice ac i cc) i (Du P)):=by have:=SA.out.own;rw[D7.out]at this;exact this
     have HCz:=HC;have HVz:Hid (jJ.ownsRow 0 3 1 (.slice av mJ cv) (jK jG (m+1) yy.vars mJ).length ((jK jG (m+1) yy.vars mJ).map cI)):=by rw[LU];exact HV.out
     have HCr:Hid (bU (CD.mk rr (jK jG (m+1) yy.vars mJ)).rel/\∀z∈(CD.mk rr (jK jG (m+1) yy.vars mJ)).vals,bU z):=⟨⟨by show -9223372036854775808<=rr;omega,by show rr<=9223372036854775807;omega⟩,fun z hz=>by
      have hz':z∈jK jG (m+1) yy.vars mJ:=hz
      unfold jK at hz'
      obtain⟨j,-,rfl⟩:=yD.1 hz'
      have h1:oZ jG (m+1+j) (yy.vars.getD j default).values.length<=1000000000:=by
       refine adO ?_
       by_cases hj:j<yy.vars.length
       ·have:=HMv.out (yy.vars.getD j default) (by rw[qC,qA hj];exact qZ hj)
        omega
       ·rw[qC,List.getElem?_eq_none zBk]
        show(default:kS).values.length<=_
        simp[default]
      exact⟨by omega,by omega⟩⟩
     clear HV HC HVn mX;subst hmk;have q70:=ah H7z.out 3;have q71:=iG H7z.out 3;have qc0:=ah HCz.out 0;have qc1:=ah HCz.out 1;have HPn:Hid (P.length=i):=D7;go_wp2_with (at_builtin;go_must (refine ZN (cs:=[.int .i64 rr,.slice av mJ cv]) slC rfl (.tmp 71) (.tmp 73) rfl rfl rfl rfl (lQ (cs:=[.int .i64 rr,.slice av mJ cv]) zBz) zCA (aI Iz.out ((Only.refl (fun _=>False) _).alloc _) (fun _ _ f=>f)) zBk zBl ?_));intro v' w8 s1 s2 s3;have hsz:=HZ.out.size;have HR8:Hid (xU W2 w8 v' (P++[((⟨rr,jK jG (m+1) yy.vars mJ⟩:CD),.slice av mJ cv)])):=xU.app (c:=(⟨rr,jK jG (m+1) yy.vars mJ⟩:CD)) (w1:=jJ.alloc (.cells #[.int .i64 rr,.slice av mJ cv] 155)) (SA.out.only (F:=fun _=>False) ((Only.refl (fun _=>False) _).alloc _) (fun _ f=>f.elim)) zAd (by rw[D7.out];exact s1) s2 (by rw[D7.out];exact s3) (aI HVz.out ((Only.refl (fun _=>False) _).alloc _) (fun _ _ f=>f)) HCr.out;have O8:Only (fun k=>(Value.slice ac i cc).ownBlock=some k) jJ w8:=(((Only.refl (fun _=>False) _).alloc _).mono fun _ f=>f.elim).same s2;have H78:Hid (w8.heap[(w.heap.size+1+1+1)]? =some (.cells #[.slice (some ⟨xO,lq,none⟩) aj aT,.slice bg aP aU,.slice dJ bF dL,.slice ac i cc,bP] 60)):=aF H7z.out O8 (iR zAG Iz.out H7z.out);have Iu:Hid (Only F1 W2 w8):=HZ.out.trans O8 (fun k hk=>.inl (ZG.out k (.inr (SA.out.new k hk))));obtain⟨g8,c8,rfl,-,-,-⟩:=s3;have HR9:Hid (xU W2 (w8.setCell ⟨(w.heap.size+1+1+1),3,none⟩ (.slice (some ⟨g8,0,none⟩) (i+1) c8)) (.slice (some ⟨g8,0,none⟩) (i+1) c8) (P++[((⟨rr,jK jG (m+1) yy.vars mJ⟩:CD),.slice av mJ cv)])):=HR8.out.put H78.out zBl zAG _;have rY:Hid (Only F1 W2 (w8.setCell ⟨(w.heap.size+1+1+1),3,none⟩ (.slice (some ⟨g8,0,none⟩) (i+1) c8))):=Iu.out.setCell (p:=⟨(w.heap.size+1+1+1),3,none⟩) (.inl (ZG.out _ (.inl rfl))) _;have H79:Hid ((w8.setCell ⟨(w.heap.size+1+1+1),3,none⟩ (.slice (some ⟨g8,0,none⟩) (i+1) c8)).heap[(w.heap.size+1+1+1)]? =some (.cells #[.slice (some ⟨xO,lq,none⟩) aj aT,.slice bg aP aU,.slice dJ bF dL,.slice (some ⟨g8,0,none⟩) (i+1) c8,bP] 60)):=by rw[jX H78.out];rfl
     have q80:=ah H78.out 3;have q81:=iG H78.out 3;have XW:Hid ((P++[((⟨rr,jK jG (m+1) yy.vars mJ⟩:CD),Value.slice av mJ cv)]).length=i+1):=by rw[qK,D7.out];exact rfl
     have aiP:Hid ((P++[((⟨rr,jK jG (m+1) yy.vars mJ⟩:CD),Value.slice av mJ cv)]).map Prod.fst=(pq x l jG (i+1)).1):=by rw[List.map_append,V5.out,uh.out];exact rfl
     have HN2:Hid ((pq x l jG (i+1)).2=m+1+mJ):=by rw[uh.out];exact rfl
     clear s1 s2 O8 q70 q71 qc0 qc1;go_wp2_with fail;go_roundw;case rel=>exact⟨rY,i+1,_,_,m+1+mJ,by first|rfl|go_num,by omega,by first|rfl|go_num,HN2,XW,aiP,H79,HR9⟩
     case measure=>simp[RowKit.intOf]<;>omega
   |false=>
    have uh:Hid (pq x l jG (i+1)=((pq x l jG i).1++[⟨-1,[]⟩],m)):=by rw[pq,HPg.out,HBi.out,HN.out];rfl
    have Vy:Hid (O0 dG w5):=BL.out.same FI.out;have HZ:Hid (Only F1 W2 w5):=gV.out.trans Vy.out (fun _ f=>f.elim);have H7z:Hid (w5.heap[(w.heap.size+1+1+1)]? =some (.cells #[.slice (some ⟨xO,lq,none⟩) aj aT,.slice bg aP aU,.slice dJ bF dL,.slice ac i cc,bP] 60)):=aF H7.out Vy.out (fun f=>f);have SA:Hid (xU W2 w5 (.slice ac i cc) P):=HR.out.only Vy.out (fun _ f=>f.elim);have Iz:Hid (w5.ownsRow 0 155 2 (.slice ac i cc) i (Du P)):=by have:=SA.out.own;rw[D7.out]at this;exact this
    obtain⟨av,hav⟩:∃a:Option Addr,a=none:=⟨_,rfl⟩;obtain⟨cv,hcv⟩:∃c:Nat,c=0:=⟨_,rfl⟩;have HCz:Hid (w5.heap[dG.heap.size+1]? =some (.cells #[.int .i64 (-1),.slice av 0 cv] 155)):=by rw[hav,hcv];exact HC5.out
    have HVz:Hid (w5.ownsRow 0 3 1 (.slice av 0 cv) ([]:List Int).length (([]:List Int).map cI)):=by rw[hav,hcv];exact World.ownsRow_nil _ _ _ _
    have HCr:Hid (bU (CD.mk (-1) []).rel/\∀z∈(CD.mk (-1) []).vals,bU z):=⟨⟨by show(-9223372036854775808:Int)<= -1;omega,by show(-1:Int)<=9223372036854775807;omega⟩,fun z hz=>by cases hz⟩;clear hav hcv HC5;have q70:=ah H7z.out 3;have q71:=iG H7z.out 3;have qc0:=ah HCz.out 0;have qc1:=ah HCz.out 1;have HPn:Hid (P.length=i):=D7;go_wp2_with (at_builtin;go_must (refine ZN (cs:=[.int .i64 (-1),.slice av 0 cv]) slC rfl (.tmp 71) (.tmp 73) rfl rfl rfl rfl (lQ (cs:=[.int .i64 (-1),.slice av 0 cv]) zBz) zCA (aI Iz.out ((Only.refl (fun _=>False) _).alloc _) (fun _ _ f=>f)) zBk zBl ?_));intro v' w8 s1 s2 s3;have hsz:=HZ.out.size;have HR8:Hid (xU W2 w8 v' (P++[((⟨-1,[]⟩:CD),.slice av 0 cv)])):=xU.app (c:=(⟨-1,[]⟩:CD)) (w1:=w5.alloc (.cells #[.int .i64 (-1),.slice av 0 cv] 155)) (SA.out.only (F:=fun _=>False) ((Only.refl (fun _=>False) _).alloc _) (fun _ f=>f.elim)) zAd (by rw[D7.out];exact s1) s2 (by rw[D7.out];exact s3) (aI HVz.out ((Only.refl (fun _=>False) _).alloc _) (fun _ _ f=>f)) HCr.out;have O8:Only (fun k=>(Value.slice ac i cc).ownBlock=some k) w5 w8:=(((Only.refl (fun _=>False) _).alloc _).mono fun _ f=>f.elim).same s2;have H78:Hid (w8.heap[(w.heap.size+1+1+1)]? =some (.cells #[.slice (some ⟨xO,lq,none⟩) aj aT,.slice bg aP aU,.slice dJ bF dL,.slice ac i cc,bP] 60)):=aF H7z.out O8 (iR zAG Iz.out H7z.out);have Iu:Hid (Only F1 W2 w8):=HZ.out.trans O8 (fun k hk=>.inl (ZG.out k (.inr (SA.out.new k hk))));obtain⟨g8,c8,rfl,-,-,-⟩:=s3;have HR9:Hid (xU W2 (w8.setCell ⟨(w.heap.size+1+1+1),3,none⟩ (.slice (some ⟨g8,0,none⟩) (i+1) c8)) (.slice (some ⟨g8,0,none⟩) (i+1) c8) (P++[((⟨-1,[]⟩:CD),.slice av 0 cv)])):=HR8.out.put H78.out zBl zAG _;have rY:Hid (Only F1 W2 (w8.setCell ⟨(w.heap.size+1+1+1),3,none⟩ (.slice (some ⟨g8,0,none⟩) (i+1) c8))):=Iu.out.setCell (p:=⟨(w.heap.size+1+1+1),3,none⟩) (.inl (ZG.out _ (.inl rfl))) _;have H79:Hid ((w8.setCell ⟨(w.heap.size+1+1+1),3,none⟩ (.slice (some ⟨g8,0,none⟩) (i+1) c8)).heap[(w.heap.size+1+1+1)]? =some (.cells #[.slice (some ⟨xO,lq,none⟩) aj aT,.slice bg aP aU,.slice dJ bF dL,.slice (some ⟨g8,0,none⟩) (i+1) c8,bP] 60)):=by rw[jX H78.out];rfl
    have q80:=ah H78.out 3;have q81:=iG H78.out 3;have XW:Hid ((P++[((⟨-1,[]⟩:CD),Value.slice av 0 cv)]).length=i+1):=by rw[qK,D7.out];exact rfl
    have aiP:Hid ((P++[((⟨-1,[]⟩:CD),Value.slice av 0 cv)]).map Prod.fst=(pq x l jG (i+1)).1):=by rw[List.map_append,V5.out,uh.out];exact rfl
    have HN2:Hid ((pq x l jG (i+1)).2=m):=by rw[uh.out];exact rfl
    clear s1 s2 O8 q70 q71 qc0 qc1;go_wp2_with fail;go_roundw;case rel=>exact⟨rY,i+1,_,_,m,by first|rfl|go_num,by omega,by first|rfl|go_num,HN2,XW,aiP,H79,HR9⟩
    case measure=>simp[RowKit.intOf]<;>omega
  obtain rfl:aj=i:=by omega
  obtain⟨ac,cc,rfl,-,-⟩:∃ac cc,vC= .slice ac aj cc/\True/\True:=by exact zEM
  have q0:=ah H7.out 0;have q1:=ah H7.out 1;have q2:=ah H7.out 2;have q3:=ah H7.out 3;have q4:=ah H7.out 4;have H6z:Hid (dG.heap[(w.heap.size+1+1)]? =some (.cells #[bP,bP,bP,bP,bP] 60)):=aF H6.out gV.out (fun f=>(HF6.out f).elim);have oR:=dN dG (w.heap.size+1+1) #[.slice bQ aj aT,.slice bg aP aU,.slice dJ bF dL,.slice ac aj cc,bP];have XG:Hid (O0 W0 (dG.setRow (w.heap.size+1+1) #[.slice bQ aj aT,.slice bg aP aU,.slice dJ bF dL,.slice ac aj cc,bP])):=(jg.out dG gV.out).trans oR (fun k hk=>.inr (by rw[hk,nR.out];omega));have vW:Hid (xU W2 (dG.setRow (w.heap.size+1+1) #[.slice bQ aj aT,.slice bg aP aU,.slice dJ bF dL,.slice ac aj cc,bP]) (.slice ac aj cc) P):=
   ⟨aI HR.out.own oR (fun k hk e=>iR zBl HR.out.own H6z.out (by rw[<-e];exact hk)),HR.out.new,fun p hp=>aI (HR.out.vals p hp) oR (fun k hk e=>iR zAG (HR.out.vals p hp) H6z.out zB3),HR.out.rng⟩
  clear oR;go_wp2_with (refine wpList_store_row rfl 60 (.tmp 6) (.tmp 77) rfl (w.heap.size+1+1) #[.slice bQ aj aT,.slice bg aP aU,.slice dJ bF dL,.slice ac aj cc,bP] rfl rfl 60 #[bP,bP,bP,bP,bP] H6z.out zk rfl zk ?_);refine amb (p:=6) rfl rfl rfl rfl (setRow_heap _ _ _ _ _ _ H6z.out) ?_;have hB:B<=(dG.setRow (w.heap.size+1+1) #[.slice bQ aj aT,.slice bg aP aU,.slice dJ bF dL,.slice ac aj cc,bP]).heap.size:=qR hBw (bW.out.same XG.out).size;refine⟨[.slice bQ aj aT,.slice bg aP aU,.slice dJ bF dL,.slice ac aj cc,bP],rfl,⟨_,_,_,_,_,rfl,(dP.out _ XG.out).lift iU.lift hB (qH _),(eP.out _ XG.out).lift nS.lift hB (qH _),(jA.out _ XG.out).lift lY.lift hB (qH _),?_,aQ.nilRow⟩,bW.out.same XG.out,rfl⟩;have h9:=vW.out.read;rw[V5.out]at h9;show aQ 2 CC _ _ _ (pq x l jG x.packs.length).1;rw[aB.out];exact h9
end
section
variable {w w':World} {B:Nat}
theorem aaC(l:List At){i j:Nat}(hi:i<l.length)(hj:j<4):(l.flatMap cellsA)[i*4+j]? =(cellsA (l[i]'hi))[j]? :=by
 induction l generalizing i with
 |nil=>simp at hi
 |cons x r ih=>have hx:(cellsA x).length=4:=rfl;exact zC7
def AtC(_:Nat)(_:World)(cs:List Value)(x:At):Prop:=cs=cellsA x
theorem XY{Q:Ending->World->Prop}{a:Act}{W:World}{B:Nat}{cs:Array Value}{x:Bool}(hp:a.tmps.getD 4 undef= .pointer (some ⟨B,0,none⟩))(h5:a.tmps.getD 5 undef= .bool x)(hd:a.defers=[])(hs:cs.size=4)(hg:W.heap[B]? =some (.cells cs 89 (0,0)))(h:Q (.returned (.tuple #[.agg cs,.bool x])) W):bodyPost Tryz.prog Tryz.f85 Q Exit.ret a W:=by refine bodyPost_ret (v:=.tuple #[.agg cs,.bool x]) ?_ hd h;rw[results_cell_tmp rfl,hp,h5];simp only[asAddr,Sem.run_pure,Result.andThen_ok];rw[run_loadVar_row W B 89 89 cs (0,0) _ hg Tryz.underlying89 rfl zA9];rfl
theorem Jm{g:Tag}{b:Nat}{V:WX}{T:Tab}(H:TabAt w g b V T)(i:Nat)(hi:i<T.l.length):Calls Tryz.prog 85 #[.pointer (some ⟨b,0,none⟩),.int .i64 ((i:Int)+1)] w fun e w'=>e= .returned (.tuple #[jS (T.l.getD i default),.bool true])/\O0 w w':=by
 obtain⟨x,hx⟩:=zG T.l i hi;have hxd:T.l.getD i default=x:=by rw[qC,hx];rfl
 rw[hxd];have hT:aQ 4 AtC w.heap.size w V.vl T.l:=aQ.fH H.l.own fun k hk=>⟨cellsA T.l[k],rfl,fun j u hu=>by
  have hj:j<4:=(qJ.1 hu).1
  rw[aaC T.l hk hj];exact hu,rfl⟩
 have hlen:T.l.length<=65536:=qR H.len H.lim;obtain⟨al,cl,hvl,hc1,hc2⟩:=aC H.l.own;rw[hvl]at hT;obtain⟨n,hn⟩:=ze T.l.length;obtain⟨bk,off,hal,-,-⟩:=hT.at zBk;subst hal;obtain⟨cs,-,hr,rfl⟩:=hT.get hx;obtain⟨W1,hW1⟩:=zB (w.alloc (.cells #[.int .u8 0,.int .i64 0,.int .i64 0,.int .i64 0] 89));have O1:O0 w W1:=zAp;have HB1:Hid (W1.heap[w.heap.size]? =some (.cells #[.int .u8 0,.int .i64 0,.int .i64 0,.int .i64 0] 89)):=by rw[hW1];exact qL w _
 have HLn:=zh (Fq (H.only O1 (fun _ _ f=>f)));have bM:=zh O1;have q1:W1.cell? ⟨b,1,none⟩=some (.slice (some ⟨bk,off,none⟩) n cl):=by rw[ah (aF H.blk O1 (fun f=>f)),<-hn,<-hvl];rfl
 have hr1:W1.rangeAt bk (off+i*4) (cellsA x):=fun j u hu=>by have h0:=hr j u hu;rw[World.cell?_of_block (w:=w) (O1.block bk (World.block_lt_of_cell? _ _ h0) (fun f=>f))];exact h0
 have HR:=zh hr1;have ews:IntKind.i64.wrap ((i:Int)+1-1)=(i:Int):=by rw[qD];omega
 rw[hn]at HLn hi hlen;unfold jS;clear hx hxd hT hr hr1 O1 H hc1 hvl hn;go_enter Tryz.func85,Tryz.ntmps85;go_wp2_with fail;rw[<-hW1];clear hW1;refine HLn.out.mono ?_;rintro e w2 ⟨rfl,rfl⟩;go_wp2_with (first
  | (refine wpList_load_mid rfl 89 (.tmp 21) rfl bk (off+i*4) rfl _ _ HR.out Tryz.underlying89 rfl zk ?_)
  | (refine wpList_store_row rfl 89 (.tmp 4) (.tmp 22) rfl w.heap.size #[.int .u8 x.1,.int .i64 x.2.1,.int .i64 x.2.2.1,.int .i64 x.2.2.2] rfl rfl 89 #[.int .u8 0,.int .i64 0,.int .i64 0,.int .i64 0] HB1.out zk rfl (by simp[Value.oneCell']) ?_))
 exact zCt
end
end Go.Proofs.YtdmmebjjojimiaaGreatDoor
namespace Go.Proofs
theorem zBY{p:Prop}(h:p:=by obtain⟨V,hV⟩:=H.tab;rw[<-hnt];exact qR hV.len hV.lim):p:=h
end Go.Proofs
namespace Go.Proofs.YtdmmebjjojimiaaGreatDoor
open Go.RowKit
section
variable {w w':World} {B:Nat}
def AtF(n:Nat)(a:At):Prop:=
 (∃p:Nat,p<n/\(a=aJ p\/(∃i:Nat,i<=1000000/\a=pX p i)\/(∃j k:Nat,j<=1000000/\k<=1000000/\a=oh p j k)\/(∃k:Nat,k<=1000000/\a=lW p k)\/(∃t:Nat,t<=1000000/\a=lC p t)\/(∃r c:Nat,r<=1000000/\c<=1000000/\a=dU p r c)))\/
 (∃m:Nat,m<=1000000/\(a=iJ m\/a=iK m))\/ ∃j:Nat,a=hA j
structure SoP (g:GD) (a:At) (b:Bool):Prop where
 node:a.1=1->b=fQ g.c a.2.1
 on:a.1=5\/a.1=6\/a.1=7->b=true->sN g
 any:b=true->sN g\/fQ g.c a.2.1=true
def Dv(g:GD)(a:At)(w w':World)(e:Ending):Prop:= ∃b,e= .returned (.bool b)/\SoP g a b/\O0 w w'
theorem Dv.there{g:GD}{a:At}{e:Ending}(h:dQ (fQ g.c a.2.1=true) w w' e)(h1:a.1≠1)(h5:¬(a.1=5\/a.1=6\/a.1=7)):Dv g a w w' e:=by obtain⟨b,he,hb,ho⟩:=h;exact⟨b,he,⟨fun h=>absurd h h1,fun h=>absurd h h5,fun h=>.inr (hb h)⟩,ho⟩
theorem Dv.any{g:GD}{a:At}{e:Ending}(h:dQ (sN g) w w' e)(h1:a.1≠1):Dv g a w w' e:=by obtain⟨b,he,hb,ho⟩:=h;exact⟨b,he,⟨fun h=>absurd h h1,fun _=>hb,fun h=>.inl (hb h)⟩,ho⟩
theorem afM{ou:List Value}{g:GD}(hg:GC B w ou g)(hgr:GR g){a:At}(ha:AtF g.x.packs.length a)(hok:sD a)(ar:Option Addr)(nr cr:Nat)(hnr:nr=g.x.packs.length):Calls Tryz.prog 168 #[.agg ou.toArray,.agg #[.int .u8 a.1,.int .i64 a.2.1,.int .i64 a.2.2.1,.int .i64 a.2.2.2],.slice ar nr cr] w fun e w'=>Dv g a w w' e:=by
 have hpk:=hgr.ru.packs;rcases ha with⟨p,hp,rfl| ⟨i,hi,rfl⟩| ⟨j,k,hj,hk,rfl⟩| ⟨k,hk,rfl⟩| ⟨t,ht,rfl⟩| ⟨r,c,hr,hc,rfl⟩⟩| ⟨m,hm,rfl|rfl⟩| ⟨j,rfl⟩;·refine(afo hg p 0 0 ⟨by omega,by omega,by omega⟩ ar nr cr zAC zBk).mono fun e w' ⟨he,ho⟩=>⟨_,he,⟨fun _=>rfl,fun h=>?_,fun h=>.inr h⟩,ho⟩;simp[aJ]at h
 ·refine(afp hg p i 0 ⟨by omega,by omega,by omega⟩ ar nr cr zAC zBk).mono fun e w' ⟨he,ho⟩=>⟨_,he,⟨fun h=>?_,fun h=>?_,fun h=>.inr ?_⟩,ho⟩;·simp[pX]at h
  ·simp[pX]at h
  have h':(fQ g.c (p:Int)&&decide ((g.c.getD (p:Int).toNat default).rel=(i:Int)))=true:=h;exact(Bool.and_eq_true _ _▸h').1
 ·refine(afq hg p j k ⟨by omega,by omega,by omega⟩ ar nr cr zAC zBk).mono fun e w' ⟨he,ho⟩=>⟨_,he,⟨fun h=>?_,fun h=>?_,fun h=>.inr ?_⟩,ho⟩;·simp[oh]at h
  ·simp[oh]at h
  have h':(fQ g.c (p:Int)&&decide ((j:Int)<(g.c.getD (p:Int).toNat default).vals.length)&&decide ((g.c.getD (p:Int).toNat default).vals.getD (j:Int).toNat 0=(k:Int)))=true:=h;simp only[Bool.and_eq_true]at h';exact h'.1.1
 ·exact(afD hg hgr p k 0 ⟨by omega,by omega,by omega⟩ ar nr cr zAC zBk).mono fun e w' h=>Dv.there (a:=lW p k) h (by simp[lW]) (by simp[lW])
 ·exact(afE hg hgr p t 0 ⟨by omega,by omega,by omega⟩ ar nr cr zAC zBk).mono fun e w' h=>Dv.any (a:=lC p t) h (by simp[lC])
 ·exact(adN hg hgr p r c ⟨by omega,by omega,by omega⟩ ar nr cr zAC zBk).mono fun e w' h=>Dv.there (a:=dU p r c) h (by simp[dU]) (by simp[dU])
 ·exact(afG hg hgr m hm ar nr cr).mono fun e w' h=>Dv.any (a:=iJ m) h (by simp[iJ])
 ·exact(afH hg hgr m hm ar nr cr).mono fun e w' h=>Dv.any (a:=iK m) h (by simp[iK])
 refine(afF hg j (by have:=hok.a;unfold hA at this;unfold bU at this;simp at this;omega) ar nr cr zBk).mono fun e w' h=>?_;obtain⟨b,he,hb,ho⟩:=h;refine⟨b,he,⟨fun h=>?_,fun h=>?_,fun h=>(hb h).elim⟩,ho⟩;·simp[hA]at h
 simp[hA]at h
theorem Vz{l m:List Bool}{i:Nat}(h:i<l.length):(l++m).getD i false=l.getD i false:=by rw[qC,yM h,<-qC]
theorem adS(ms:List Bool)(n:Nat){i:Nat}(hi:ms.length=i)(hn:i<n)(r:Bool):(ms++List.replicate (n-i) false).set i r=(ms++[r])++List.replicate (n-(i+1)) false:=by rw[List.set_append_right _ _ zBk,hi,Nat.sub_self,show n-i=(n-(i+1))+1 by omega,List.replicate_succ,List.set_cons_zero,yW];rfl
theorem XZ{ou:List Value}{g:GD}(hg:GC B w ou g){gt gb:Tag}{c bt bb:Nat}{G:NU}{T:Tab}{Bd:lu}(H:nD w gt gb c bt bb G T Bd)(hgr:GR g)(hat:∀a∈T.l,AtF g.x.packs.length a):Calls Tryz.prog 84 #[.pointer (some ⟨c,0,none⟩),.agg ou.toArray] w fun e w'=> ∃(go:Nat) (ms:List Bool),e= .returned (.slice (some ⟨go,0,none⟩) T.l.length T.l.length)/\w'.ownsRow 0 4 1 (.slice (some ⟨go,0,none⟩) T.l.length T.l.length) T.l.length (ms.map Value.bool)/\ms.length=T.l.length/\(∀i,i<T.l.length->SoP g (T.l.getD i default) (ms.getD i false))/\w.heap.size<=go/\O0 w w':=by
 obtain⟨nt,hnt⟩:=ze T.l.length;have Ja:=zh hnt;have aqO:nt<=65536:=zBY;have aqP:Hid (∀x∈T.l,sD x):=by obtain⟨V,hV⟩:=H.tab;exact hV.ok
 have HH:=zh H;have HGr:=zh hgr;clear H;obtain⟨bJ,ak,aV,aW,aX,aY,bG,aS,bC,dY,dW,dZ,cO,bZ,cZ,rfl,gX,gY,gZ,ig,iq,iw,pG,pI,jO,jP,dn,iy,fG,kZ,jB,pJ⟩:=kV hg;clear hg;obtain⟨W0,hW0,bW,nR,aG⟩:=N8 w (.slice bJ ak aV) (.slice aW aX aY) (.slice bG aS bC) (.slice dY dW dZ) (.slice cO bZ cZ) 60;obtain⟨jv,dS,fU,fF,kD,iY⟩:=pJ W0 bW.out;clear pJ;have hnb:=hgr.ru.packs;rw[dn.out]at hnb;have HRe:=zh (aao (jv.out W0 zr) hgr);rw[dn.out]at HRe;have XO:Hid (∀W,O0 W0 W->Calls Tryz.prog 66 #[.pointer (some ⟨c,0,none⟩)] W fun e w'=>e= .returned (.pointer (some ⟨bt,0,none⟩))/\w'=W):=fun W hW=>wY (HH.out.aN (bW.out.same hW));have HLen:Hid (∀W,O0 W0 W->Calls Tryz.prog 90 #[.pointer (some ⟨bt,0,none⟩)] W fun e w'=>e= .returned (.int .i64 (nt:Int))/\w'=W):=fun W hW=>by obtain⟨V,hV⟩:=(HH.out.aN (bW.out.same hW)).tab;rw[<-Ja.out];exact Fq hV
 have HAt:Hid (∀i,i<nt->∀W,O0 W0 W->Calls Tryz.prog 85 #[.pointer (some ⟨bt,0,none⟩),.int .i64 ((i:Int)+1)] W fun e w'=>e= .returned (.tuple #[jS (T.l.getD i default),.bool true])/\O0 W w'):=fun i hi W hW=>by obtain⟨V,hV⟩:=(HH.out.aN (bW.out.same hW)).tab;exact Jm hV i (by rw[Ja.out];exact hi)
 have OU:=zh hat;clear hat hgr hnt;obtain⟨k0,k1,k2,k3,k4⟩:=aG.out W0 zr;rw[hW0]at k0 k1 k2 k3 k4;go_enter Tryz.func84,Tryz.ntmps84;go_wp2_with fail;rw[<-hW0]at k0 k1 k2 k3 k4⊢;clear hW0;refine HRe.out.mono ?_;rintro e w1 ⟨vr,L,rfl,JJ,hBB,O1⟩;have bM:=zh O1;obtain⟨ar,cr,rfl,-,-⟩:=aC hBB.own;rw[JJ];have aqR:Hid (∀x∈T.l,∀W,O0 W0 W->Calls Tryz.prog 168 #[.agg #[.slice bJ ak aV,.slice aW aX aY,.slice bG aS bC,.slice dY dW dZ,.slice cO bZ cZ],.agg #[.int .u8 x.1,.int .i64 x.2.1,.int .i64 x.2.2.1,.int .i64 x.2.2.2],.slice ar ak cr] W fun e w'=>Dv g x W w' e):=fun x hx W hW=>
  afM (jv.out W hW) HGr.out (OU.out x hx) (aqP.out x hx) ar ak cr dn.out.symm
 clear O1 hBB HRe OU JJ L;clear k0 k1 k2 k3 k4;go_wp2_with fail;refine(XO.out w1 bM.out).mono ?_;rintro e w2 ⟨rfl,rfl⟩;go_wp2_with fail;refine(HLen.out w2 bM.out).mono ?_;rintro e w3 ⟨rfl,rfl⟩;go_wp2_with (at_make;go_must (refine wpM (bytes:=1) (z:=.bool false) Tryz.underlying58 zk rfl rfl _ _ rfl nt rfl rfl rfl rfl zBk zBl ?_));intro w4 r1 r2 r3;have kK:Hid (O0 W0 w4):=bM.out.same r2;have HG:Hid (W0.heap.size<=w3.heap.size):=bM.out.size;generalize w3.heap.size=go at*;have HVC:Hid (w4.ownsRow 0 4 1 (.slice (some ⟨go,0,none⟩) nt nt) nt ((([]:List Bool)++List.replicate (nt-0) false).map Value.bool)):=by rw[List.nil_append,Nat.sub_zero,List.map_replicate];exact r1
 clear r1 r2 r3 HLen;go_wp2_with fail;go_loopw [18] (fun vi dG=>Hid (O0 W0 dG)/\∃i:Nat,vi= .int .i64 i/\i<=nt/\∃ms:List Bool,Hid (dG.ownsRow 0 4 1 (.slice (some ⟨go,0,none⟩) nt nt) nt ((ms++List.replicate (nt-i) false).map Value.bool))/\Hid (ms.length=i)/\Hid (∀j,j<i->SoP g (T.l.getD j default) (ms.getD j false))) (fun v _=>nt-(RowKit.intOf v).toNat);case atStart=>exact⟨kK,0,rfl,qE _,[],HVC,rfl,fun j hj=>by omega⟩
 case round=>
  obtain⟨dG,rfl⟩:=zB wr;clear kK HVC;obtain⟨gV,i,rfl,hi,ms,HV,HMl,HMs⟩:=hrel;obtain⟨k0,k1,k2,k3,k4⟩:=aG.out dG gV.out;by_cases ci:i<nt
  ·have jh:=zw (i+1);have HTb:=zh (XO.out dG gV.out);have VA:=HAt.out i ci;obtain⟨x,hx⟩:=ze (T.l.getD i default);have hmem:x∈T.l:=by rw[<-hx,qC,qA zBS];exact qZ _
   have HSo:=zh (aqR.out x hmem);have HXi:=zh hx;rw[hx]at VA;have DN:Hid (∀r,(ms++List.replicate (nt-i) false).set i r=(ms++[r])++List.replicate (nt-(i+1)) false):=fun r=>adS ms nt HMl.out ci r;have HA1:Hid (∀W,O0 W0 W->Calls Tryz.prog 85 #[.pointer (some ⟨bt,0,none⟩),.int .i64 ((i:Int)+1)] W fun e w'=>e= .returned (.tuple #[.agg #[.int .u8 x.1,.int .i64 x.2.1,.int .i64 x.2.2.1,.int .i64 x.2.2.2],.bool true])/\O0 W w'):=fun W hW=>VA W hW;clear hx hmem VA;go_wp2_with fail;refine HTb.out.mono ?_;rintro e w2 ⟨rfl,rfl⟩;go_wp2_with fail;refine(HA1.out _ gV.out).mono ?_;rintro e w3 ⟨rfl,O3⟩;have mO:=zh (gV.out.same O3);have aqT:=zh O3;obtain⟨W4,xM⟩:=zB (w3.alloc (.cells #[.int .u8 x.1,.int .i64 x.2.1,.int .i64 x.2.2.1,.int .i64 x.2.2.2] 89));have xw:Hid (O0 W0 W4):=by rw[xM];exact mO.out.alloc _
   have aaD:Hid (O0 w2 W4):=by rw[xM];exact aqT.out.alloc _
   have b4:W4.heap[w3.heap.size]? =some (.cells #[.int .u8 x.1,.int .i64 x.2.1,.int .i64 x.2.2.1,.int .i64 x.2.2.2] 89):=by rw[xM];exact qL w3 _
   have a0:=ah b4 0;have a1:=ah b4 1;have a2:=ah b4 2;have a3:=ah b4 3;clear O3 HTb HA1 b4 k0 k1 k2 k3 k4;obtain⟨k0,k1,k2,k3,k4⟩:=aG.out W4 xw.out;rw[xM]at k0 k1 k2 k3 k4 a0 a1 a2 a3;go_wp2_with fail;rw[<-xM];clear xM k0 k1 k2 k3 k4 a0 a1 a2 a3;refine(HSo.out _ xw.out).mono ?_;rintro e w5 ⟨r,rfl,hSP,O5⟩;have FI:=zh (xw.out.same O5);have hV5:=aI HV.out (aaD.out.same O5) (fun _ _ f=>f);have XI:Hid ((ms++List.replicate (nt-i) false).length=nt):=by have:=HMl.out;simp[Hid];omega
   have qc:w5.cell? ⟨go,i,none⟩=some (.bool ((ms++List.replicate (nt-i) false).getD i false)):=by rw[hV5.cellAt i zBk,List.getElem?_map,qC,qA (by rw[XI.out];exact ci)];rfl
   have qf:=hV5.frozenAt i;have HV6:Hid ((w5.setCell ⟨go,i,none⟩ (.bool r)).ownsRow 0 4 1 (.slice (some ⟨go,0,none⟩) nt nt) nt (((ms++[r])++List.replicate (nt-(i+1)) false).map Value.bool)):=by rw[<-DN.out r,List.map_set];exact(hV5.stored i (.bool r)).1
   have HM6:Hid (∀j,j<i+1->SoP g (T.l.getD j default) ((ms++[r]).getD j false)):=fun j hj=>by
    rcases yK j i with h|h;·rw[Vz (by rw[HMl.out];exact h)];exact HMs.out j h
    have e:j=i:=by omega
    rw[e,HXi.out,qC,yN (by rw[HMl.out];exact qH _),HMl.out,Nat.sub_self];exact hSP
   have aqU:Hid ((ms++[r]).length=i+1):=by have:=HMl.out;simp[Hid];omega
   have Xw:Hid (O0 W0 (w5.setCell ⟨go,i,none⟩ (.bool r))):=FI.out.setCell (p:=⟨go,i,none⟩) (.inr HG.out) _;clear O5 hV5 HSo hSP;go_wp2_with fail;go_roundw;case rel=>exact⟨Xw,i+1,by first|rfl|go_num,by omega,ms++[r],HV6,aqU,HM6⟩
   case measure=>simp[RowKit.intOf]<;>omega
  obtain rfl:nt=i:=by omega
  go_wp2_with fail;go_ret;have h1:=HV.out;rw[Nat.sub_self,List.replicate_zero,List.append_nil]at h1;have hnt:=Ja.out;refine⟨go,ms,by rw[hnt];rfl,by rw[hnt];exact h1,by rw[hnt];exact HMl.out,by rw[hnt];exact HMs.out,qR bW.out.size HG.out,bW.out.same gV.out⟩
end
def jQ(P:At->Prop)(T:Tab):Prop:= ∀a∈T.l,P a
section
variable {P:At->Prop}
theorem jQ.num{T:Tab}(h:jQ P T){a:At}(ha:P a):jQ P (T.num a).1:=by
 unfold Tab.num;split;·exact h
 split;·exact h
 intro b hb;rcases qW.1 hb with hb|hb;·exact h b hb
 simp at hb;rw[hb];exact ha
theorem jQ.nums:∀(l:List At) {T:Tab},jQ P T->(∀a∈l,P a)->jQ P (T.nums l).1
 | [],_,h,_=>h
 |a::r,T,h,ha=>jQ.nums r (h.num (ha a qQ)) fun b hb=>ha b (yE _ hb)
theorem jQ.dD{S:TB}(h:jQ P S.1)(l:List Int):jQ P (S.dD l).1:=by unfold TB.dD;split<;>exact h
theorem jQ.help{S:TB}(h:jQ P S.1)(hh:∀j:Nat,P (hA j)):jQ P S.help.1.1:=jQ.num (T:={S.1 with helps:=uS S.1}) h (hh _)
theorem jQ.set{S:TB}(h:jQ P S.1)(hh:∀j:Nat,P (hA j)){p:Nat}{bY:List wJ}(hr:∀i,i<bY.length->P (pX p i))(l:List jY):jQ P (S.set p bY l).1.1:=by
 have h1:jQ P (S.nums (tu p bY l)).1.1:=jQ.nums _ h fun a ha=>by unfold tu at ha;obtain⟨i,hi,rfl⟩:=yD.1 ha;exact hr i (yI.1 (List.mem_filter.1 hi).1)
 have h2:=h1.help hh;unfold TB.set;dsimp only;split<;>exact h2
theorem afN{vars:List kS}{s:nZ}{j:Nat}(h:UQ vars s=some j):j<vars.length/\(wL (fun t=>decide (t=s.value)) (vars.getD j default).values).toNat<=(vars.getD j default).values.length:=by
 unfold UQ at h;refine⟨yI.1 (List.mem_of_find?_eq_some h),?_⟩;rcases pU (fun t=>decide (t=s.value)) (vars.getD j default).values with h| ⟨k,h,hk,-⟩;·rw[h];exact qE _
 rw[h];omega
theorem jQ.value{S:TB}(h:jQ P S.1){p:Nat}{vars:List kS}(hv:∀j k,j<vars.length->k<=(vars.getD j default).values.length->P (oh p j k))(s:nZ):jQ P (S.value p vars s).1.1:=by
 unfold TB.value;split;·exact h
 rename_i j hj;obtain⟨h1,h2⟩:=afN hj;exact h.num (hv j _ h1 h2)
theorem jQ.values{p:Nat}{vars:List kS}(hv:∀j k,j<vars.length->k<=(vars.getD j default).values.length->P (oh p j k)):∀(l:List nZ) {S:TB},jQ P S.1->jQ P (S.values p vars l).1.1
 | [],_,h=>h
 |s::r,S,h=>jQ.values hv r (h.value hv s)
theorem aH.Jo{x:aH}{s:Str}{t:Nat}(h:t∈x.eG s):t<x.packs.length:=by unfold aH.eG aH.jI at h;exact yI.1 (List.mem_filter.1 h).1
structure AtW (P:At->Prop) (x:aH) (l:List Nat):Prop where
 lt:∀p∈l,p<x.packs.length
 help:∀j:Nat,P (hA j)
 node:∀p,p<x.packs.length->P (aJ p)
 rel:∀p i,p<x.packs.length->i<(x.pack p).bY.length->P (pX p i)
 val:∀p j k,p<x.packs.length->j<(x.pack p).vars.length->k<=((x.pack p).vars.getD j default).values.length->P (oh p j k)
 act:∀p k,p<x.packs.length->k<=1000000->P (lW p k)
 edg:∀p t,p<x.packs.length->t<x.packs.length->P (lC p t)
 meet:∀p r c,p<x.packs.length->r<=1000000->c<=1->P (dU p r c)
 need:∀m,m<=1000000->P (iJ m)
 rul:∀r,r<=1000000->P (iK r)
variable {x:aH} {l:List Nat}
theorem jQ.meet(W:AtW P x l){S:TB}(h:jQ P S.1)(p:Nat){r c:Nat}(hr:r<=1000000)(hc:c<=1)(s:jE):jQ P (S.meet x l p r c s).1.1:=by
 unfold TB.meet;by_cases h1:p∉l;·rw[if_pos h1];exact h
 rw[if_neg h1];have hp:=W.lt p (Classical.not_not.1 h1);by_cases h2:dU p r c∈S.1.l;·rw[if_pos h2];exact h
 rw[if_neg h2];dsimp only;have hN:jQ P (S.num (dU p r c)).1.1:=h.num (W.meet p r c hp hr hc);have hD:jQ P ((S.num (dU p r c)).1.num (aJ p)).1.1:=hN.num (W.node p hp);generalize ((S.num (dU p r c)).1.num (aJ p))=D at hD⊢;have hE:jQ P (if iC s.spans=true then ((D.1,[D.2]):TB×List Int)else ((D.1.set p (x.pack p).bY s.spans).1,[D.2,(D.1.set p (x.pack p).bY s.spans).2])).1.1:=by
  by_cases hc:iC s.spans=true;·rw[if_pos hc];exact hD
  rw[if_neg hc];exact hD.set W.help (fun i hi=>W.rel p i hp hi) _
 generalize (if iC s.spans=true then ((D.1,[D.2]):TB×List Int)else ((D.1.set p (x.pack p).bY s.spans).1,[D.2,(D.1.set p (x.pack p).bY s.spans).2]))=E at hE⊢;have hV:=jQ.values (fun j k hj hk=>W.val p j k hp hj hk) s.sets hE;by_cases hc:0<(S.num (dU p r c)).2/\(E.2++(E.1.values p (x.pack p).vars s.sets).2).contains 0=false;·rw[if_pos hc];exact hV
 rw[if_neg hc];exact hV
theorem Qu{names:List Str}(hn:names.length<=1000000)(s:Str):(eH names s).toNat<=1000000:=by
 unfold eH;rcases pU (fun t=>decide (t=s)) names with h| ⟨k,h,hk,-⟩;·rw[h];decide
 rw[h];omega
theorem jQ.root(W:AtW P x l){E:ES}(h:jQ P E.1.1){names:List Str}(hn:names.length<=1000000){r:Nat}(hr:r<=1000000)(s:jE):jQ P (E.root x l names r s).1.1:=by
 have h0:jQ P (E.1.num (iK r)).1.1:=h.num (W.rul r hr);unfold ES.root;dsimp only;by_cases h1:0<=x.find s.name;·rw[if_pos h1];exact(h0.meet W _ hr zBk s).dD _
 rw[if_neg h1];by_cases h2:eH names s.name<0;·rw[if_pos h2];exact h0.dD _
 rw[if_neg h2];exact jQ.dD (S:=((E.1.num (iK r)).1.num (iJ (eH names s.name).toNat)).1) (h0.num (W.need _ (Qu hn _))) _
theorem jQ.vw{β:Type}(f:ES->β->ES):∀(l:List β) {E:ES},(∀E,∀b∈l,jQ P E.1.1->jQ P (f E b).1.1)->jQ P E.1.1->jQ P (l.foldl f E).1.1
 | [],_,_,h=>h
 |b::r,E,hf,h=>jQ.vw f r (fun E c hc=>hf E c (yE _ hc)) (hf E b qQ h)
theorem jQ.mg{β:Type}(f:TB->β->TB):∀(l:List β) {S:TB},(∀S,∀b∈l,jQ P S.1->jQ P (f S b).1)->jQ P S.1->jQ P (l.foldl f S).1
 | [],_,_,h=>h
 |b::r,S,hf,h=>jQ.mg f r (fun S c hc=>hf S c (yE _ hc)) (hf S b qQ h)
theorem jQ.depend(W:AtW P x l){E:ES}(h:jQ P E.1.1){names:List Str}(hn:names.length<=1000000){r p k:Nat}(hr:r<=1000000)(hp:p<x.packs.length)(hk:k<=1000000)(d:uY):jQ P (E.depend x l names r p k d).1.1:=by
 unfold ES.depend;dsimp only;have hA:jQ P (E.1.num (lW p k)).1.1:=h.num (W.act p k hp hk);have hR:jQ P ((E.1.num (lW p k)).1.num (iK r)).1.1:=hA.num (W.rul r hr);have hW:=hR.meet W p hr (by omega:0<=1) d.cond;generalize ((E.1.num (lW p k)).1.num (iK r)).1.meet x l p r 0 d.cond=V at hW⊢;generalize ((E.1.num (lW p k)).1.num (iK r)).2=R;generalize (E.1.num (lW p k)).2=A;have hS:jQ P (if [A,R,V.2].contains 0=true then V.1 else ((V.1.1,V.1.2.adds (pz A [R,V.2])):TB)).1:=by
  by_cases hc:[A,R,V.2].contains 0=true;·rw[if_pos hc];exact hW
  rw[if_neg hc];exact hW
 generalize (if [A,R,V.2].contains 0=true then V.1 else ((V.1.1,V.1.2.adds (pz A [R,V.2])):TB))=S at hS⊢;have hg:∀(E:ES) (t:Nat),t<x.packs.length->jQ P E.1.1->jQ P (E.goes p t A).1.1.1:=fun E t ht hE=>jQ.num hE (W.edg p t hp ht);by_cases h1:0<=x.find d.on.name;·rw[if_pos h1];exact(hg (_,E.2) _ (by have:=x.vP d.on.name;omega) ((hS.meet W _ hr zBk d.on).dD _)).dD _
 rw[if_neg h1];by_cases h2:eH names d.on.name<0;·rw[if_pos h2];exact hS.dD _
 rw[if_neg h2];have hN:jQ P (S.num (iJ (eH names d.on.name).toNat)).1.1:=hS.num (W.need _ (Qu hn _));exact jQ.vw _ _ (fun E b hb hE=>(hg ((E.1.num (aJ b)).1,E.2) b (aH.Jo hb) (jQ.num hE (W.node b (aH.Jo hb)))).dD _) (hN.dD _)
theorem jQ.conflict(W:AtW P x l){E:ES}(h:jQ P E.1.1){r:Nat}(hr:r<=1000000)(p:Nat)(c:Ai):jQ P (E.conflict x l r p c).1.1:=by
 unfold ES.conflict;dsimp only;have hR:jQ P (E.1.num (iK r)).1.1:=h.num (W.rul r hr);have hW:=hR.meet W p hr (by omega:0<=1) c.cond;by_cases h1:c.with'.name=ByteArray.empty;·rw[if_pos h1];exact hW.dD _
 rw[if_neg h1];by_cases h2:0<=x.find c.with'.name/\(x.find c.with'.name).toNat∈l;·rw[if_pos h2];exact(hW.meet W _ hr zBk c.with').dD _
 rw[if_neg h2];exact hW
def Nv(x:aH)(y:dH):Prop:=y.kind=2->y.pack.toNat<x.packs.length/\y.idx.toNat<=1000000
theorem jQ.rule(W:AtW P x l){E:ES}(h:jQ P E.1.1)(q:fV){names:List Str}(hn:names.length<=1000000){r:Nat}(hr:r<=1000000){y:dH}(hy:Nv x y):jQ P (E.rule x q l names r y).1.1:=by
 unfold ES.rule;by_cases h1:y.kind=1;·rw[if_pos h1];exact h.root W hn hr _
 rw[if_neg h1];by_cases h2:y.kind=2;·rw[if_pos h2];exact h.depend W hn hr (hy h2).1 (hy h2).2 _
 rw[if_neg h2];by_cases h3:y.kind=3;·rw[if_pos h3];exact h.conflict W hr _ _
 rw[if_neg h3];exact h
theorem jQ.rules(W:AtW P x l){E:ES}(h:jQ P E.1.1)(q:fV){names:List Str}(hn:names.length<=1000000){rs:List dH}(hy:∀y∈rs,Nv x y):∀r,r<=rs.length->r<=1000000->jQ P (E.rules x q l names rs r).1.1
 |0,_,_=>h
 |r+1,h1,h2=>(jQ.rules W h q hn hy r zB7 zBy).rule W q hn zAC (hy _ (getD_in zBk))
theorem jQ.edge(W:AtW P x l){B:BS}(h:jQ P B.1.1)(Q:iM){e:Nat×Nat}(he:e.1<x.packs.length/\e.2<x.packs.length):jQ P (B.edge Q e).1.1:=by unfold BS.edge;dsimp only;have h1:jQ P (B.1.num (lC e.1 e.2)).1.1:=h.num (W.edg _ _ he.1 he.2);have h2:jQ P ((B.1.num (lC e.1 e.2)).1.num (aJ e.1)).1.1:=h1.num (W.node _ he.1);have h3:=h2.dD [-(B.1.num (lC e.1 e.2)).2,((B.1.num (lC e.1 e.2)).1.num (aJ e.1)).2];have h4:jQ P ((((B.1.num (lC e.1 e.2)).1.num (aJ e.1)).1.dD [-(B.1.num (lC e.1 e.2)).2,((B.1.num (lC e.1 e.2)).1.num (aJ e.1)).2]).num (aJ e.2)).1.1:=h3.num (W.node _ he.2);exact(h4.dD _).dD _
theorem jQ.adT(W:AtW P x l)(Q:iM):∀(es:List (Nat×Nat)) {B:BS},(∀e∈es,e.1<x.packs.length/\e.2<x.packs.length)->jQ P B.1.1->jQ P (es.foldl (fun B e=>BS.edge B Q e) B).1.1
 | [],_,_,h=>h
 |e::r,B,he,h=>jQ.adT W Q r (fun f hf=>he f (yE _ hf)) (h.edge W Q (he e qQ))
theorem jQ.pairs{S:TB}(h:jQ P S.1)(n:Int)(row:List Int):jQ P (S.pairs n row).1:=jQ.mg _ _ (fun _ _ _ hS=>jQ.mg _ _ (fun _ _ _ hS=>hS.dD _) hS) h
theorem jQ.name(W:AtW P x l){S:TB}(h:jQ P S.1)(Q:iM){i:Nat}(hi:i<=1000000)(s:Str):jQ P (S.name x Q i s).1:=by
 unfold TB.name;dsimp only;have h1:jQ P (S.num (iJ i)).1.1:=h.num (W.need i hi);have h2:jQ P (((S.num (iJ i)).1.dD (-(S.num (iJ i)).2::Q.needs.getD i [])).nums ((x.eG s).map aJ)).1.1:=jQ.nums _ (h1.dD _) fun a ha=>by obtain⟨t,ht,rfl⟩:=yD.1 ha;exact W.node t (aH.Jo ht)
 exact(h2.dD _).pairs _ _
theorem jQ.place(W:AtW P x l){S:TB}(h:jQ P S.1)(Q:iM)(into:List (Nat×List Int)){t:Nat}(ht:t<x.packs.length):jQ P (S.place Q into t).1:=jQ.dD (S:=(S.num (aJ t)).1) (h.num (W.node t ht)) _
def agN(x:aH)(Q:iM):Prop:= ∀e∈Q.of.map Prod.fst,e.1<x.packs.length/\e.2<x.packs.length
theorem jQ.edges(W:AtW P x l){S:TB}(h:jQ P S.1)(q:fV){names:List Str}(hn:names.length<=1000000){rs:List dH}(hy:∀y∈rs,Nv x y)(hr:rs.length<=1000000)(hk:agN x (S.pF x q l names rs).2):jQ P (S.edges x q l names rs).1:=by have h1:jQ P (S.pF x q l names rs).1.1:=jQ.rules W (E:=(S,_)) h q hn hy rs.length (qH _) hr;unfold TB.edges;dsimp only;generalize S.pF x q l names rs=E at h1 hk⊢;refine jQ.mg _ _ (fun S t ht hS=>hS.place W _ _ (W.lt t ht)) (jQ.mg _ _ (fun S i hi hS=>hS.name W _ (by have:=yI.1 hi;omega) _) (jQ.adT W _ _ (fun e he=>?_) h1));unfold iM.edges at he;exact hk e ((List.mergeSort_perm _ _).mem_iff.1 he)
end
end Go.Proofs.YtdmmebjjojimiaaGreatDoor
