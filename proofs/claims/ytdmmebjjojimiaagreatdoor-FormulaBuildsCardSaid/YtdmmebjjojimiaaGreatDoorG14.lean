/- Ch6 Ch7 Ch8, in one text.; A graph of choices: plain, and in memory (for reading); what raw numbers choose. -/
import Derived.Test.YtdmmebjjojimiaaGreatDoorG09
import Derived.Test.YtdmmebjjojimiaaGreatDoorG13
set_option maxRecDepth 100000
set_option maxHeartbeats 8000000
set_option linter.all false
namespace Go.Proofs
theorem zAp{p:Prop}(h:p:=by rw[List.length_take];omega):p:=h
theorem zBI{p:Prop}(h:p:=by have:=HO.out.size;simp;omega):p:=h
theorem zCd{p:Prop}(h:p:=by
 have iO:=zh (((HO.out.alloc _).alloc _).trans s2 fun k hk=>.inr (HV.out.2 k hk))
 obtain⟨g6,c6',rfl,-,-,-⟩:=s3
 clear s1 s2 HV
 go_wp2_with fail
 go_roundw
 case rel=>exact⟨iO,k+1,by first|rfl|go_num,by omega,IG⟩
 case measure=>simp[RowKit.intOf]<;>omega):p:=h
end Go.Proofs
namespace Go.Proofs.YtdmmebjjojimiaaGreatDoor
open Go.RowKit
structure bW where
 kind:Int
 pack:Int
 idx:Int
 line:Int
deriving DecidableEq
instance:Inhabited bW:=⟨⟨0,0,0,0⟩⟩
def bW.cells(r:bW):List Value:=[.int .u8 r.kind,.int .i64 r.pack,.int .i64 r.idx,.int .i64 r.line]
def xw(_:Nat)(_:World)(cs:List Value)(r:bW):Prop:=cs=r.cells/\(0<=r.kind/\r.kind<=255)/\bg r.pack/\bg r.idx/\bg r.line
theorem xw.keep:Keeps xw:=fun _ _ _ _ _ h _=>h
theorem xw.lift:Lifts xw:=fun _ _ _ _ _ h _ _=>h
theorem bW.one(r:bW):∀u∈r.cells,u.oneCell'=true:=by intro u hu;simp[bW.cells]at hu;rcases hu with rfl|rfl|rfl|rfl<;>rfl
def rQ(l:List bW):List Value:=l.flatMap bW.cells
theorem OO(a b:List bW):rQ (a++b)=rQ a++rQ b:=List.flatMap_append
theorem ZW(l:List bW){i j:Nat}(hi:i<l.length)(hj:j<4):(rQ l)[i*4+j]? =(l[i]'hi).cells[j]? :=by
 unfold rQ;induction l generalizing i with
 |nil=>simp at hi
 |cons x r ih=>
  have hx:x.cells.length=4:=rfl;rw[List.flatMap_cons];cases i with
  |zero=>rw[Nat.zero_mul,Nat.zero_add,yM (by rw[hx];exact hj)];rfl
  |succ i=>rw[yN (by rw[hx];omega),hx,show(i+1)*4+j-4=i*4+j by omega,ih zAv];simp
def iK(q:dH)(k:Nat):List bW:=(List.range k).map fun i:Nat=>⟨1,-1,i,(q.roots.getD i default).line⟩
def nV(x:aF)(p k:Nat):List bW:=(List.range k).map fun i:Nat=>⟨2,p,i,((x.pack p).deps.getD i default).line⟩
def rU(x:aF)(p k:Nat):List bW:=(List.range k).map fun i:Nat=>⟨3,p,i,((x.pack p).cons.getD i default).line⟩
def kK(x:aF)(p:Nat):List bW:=nV x p (x.pack p).deps.length++rU x p (x.pack p).cons.length
def dZ(x:aF)(q:dH)(l:List Nat):List bW:=iK q q.roots.length++l.flatMap (kK x)
theorem TT(q:dH)(k:Nat):iK q (k+1)=iK q k++[⟨1,-1,k,(q.roots.getD k default).line⟩]:=by unfold iK;rw[List.range_succ,List.map_append];rfl
theorem Xf(x:aF)(p k:Nat):nV x p (k+1)=nV x p k++[⟨2,p,k,((x.pack p).deps.getD k default).line⟩]:=by unfold nV;rw[List.range_succ,List.map_append];rfl
theorem Xg(x:aF)(p k:Nat):rU x p (k+1)=rU x p k++[⟨3,p,k,((x.pack p).cons.getD k default).line⟩]:=by unfold rU;rw[List.range_succ,List.map_append];rfl
section
variable {w w':World} {B:Nat}
theorem Qo:Az Tryz.prog 62 158 4 32:=Az.mk' (z:=.agg #[.int .u8 0,.int .i64 0,.int .i64 0,.int .i64 0]) Tryz.underlying62 zk rfl zAD
theorem ahV{P:Program}{ops:Array Oper}{rest:List Oper}{o:Oper}{a:Act}{Q:Exit->Act->World->Prop}{t e:TypeId}{size bytes:Nat}(T:Az P t e size bytes)
  (hgd:o.guard=none) (s x:Operand)
  (ho:o.op= .call {callee:=.builtin .append,args:= #[s,x],argTypes:= #[t,t]})
  {v:Value} {n:Nat} {xs cs:List Value} {g:Nat} (hs:a.eval s=v) (hx:a.eval x= .slice (some ⟨g,0,none⟩) 1 1) (hl:cs.length=size) (hc:w.rangeAt g 0 cs) (hu:∀u∈cs,u.oneCell'=true) (hown:w.ownsRow 0 e size v n xs)
  (h63:n+1<=1099511627776) (hbytes:bytes<=128)
  (h:∀v' w',w'.ownsRow 0 e size v' (n+1) (xs++cs)->Only (fun k=>v.ownBlock=some k) w w'->AB w v v' (n+1)->wpList P ops Q rest (a.put o.dst v') w'):
  wpList P ops Q (o::rest) a w:=by
 refine wpA T hgd s x ho (news:=cs) hs hown hx (by rw[hl,Nat.one_mul]) ?_ hu ?_ ?_ ?_
 ·intro j x hj
  have:=hc j x hj
  rw[Go.WideShapes.add_plain]
  exact this
 ·unfold maxLen;omega
 ·have:(n+1)*bytes<=1099511627776*128:=Nat.mul_le_mul h63 hbytes
  omega
 ·intro v' w' r1 r2 r3 r4
  refine h v' w' r1 ((Only.refl _ w).grown r2 fun k hk=>.inl hk) ?_
  exact zEZ
theorem Bl{w:World}{cs:List Value}{t:TypeId}{n:Nat}(h:n=w.heap.size):(w.alloc (.cells cs.toArray t)).rangeAt n 0 cs:=by subst h;intro j u hu;have hb:(w.alloc (.cells cs.toArray t)).heap[w.heap.size]? =some (.cells cs.toArray t):=qL w _;rw[Nat.zero_add,aj hb];simpa using hu
def jB(w0 w:World)(v:Value)(l:List bW):Prop:=w.ownsRow 0 158 4 v l.length (rQ l)/\∀k,v.ownBlock=some k->w0.heap.size<=k
theorem jB.nil(w0 w:World):jB w0 w dF []:=⟨World.ownsRow_nil _ _ _ _,fun k hk=>by cases hk⟩
theorem jB.app{w0 w1 w2:World}{v v':Value}{l:List bW}{r:bW}(h:jB w0 w v l)(hs:w0.heap.size<=w1.heap.size)(s1:w2.ownsRow 0 158 4 v' (l.length+1) (rQ l++r.cells))(s3:AB w1 v v' (l.length+1)):jB w0 w2 v' (l++[r]):=by
 refine⟨?_,fun k hk=>?_⟩
 ·rw[OO,qK];have:rQ [r]=r.cells:=by simp[rQ]
  rw[this];exact s1
 obtain⟨g,cap,rfl,-,-,hg⟩:=s3;simp[Value.ownBlock]at hk;subst hk;rcases hg with hg|hg;·exact h.2 _ hg
 omega
theorem jB.read{w0:World}{v:Value}{l:List bW}(h:jB w0 w v l)(hr:∀r∈l,(0<=r.kind/\r.kind<=255)/\bg r.pack/\bg r.idx/\bg r.line):aQ 4 xw w.heap.size w v l:=
 aQ.dV h.1 fun i hi=>⟨(l[i]'hi).cells,rfl,fun j u hu=>by
  have hj:=(qJ.1 hu).1
  rw[ZW l hi hj];exact hu,rfl,hr _ (qZ hi)⟩
end
theorem Xh{x:aF}{p:Nat}(h1:(x.pack p).deps.length<=1000)(h2:(x.pack p).cons.length<=1000):(kK x p).length<=2000:=by unfold kK nV rU;simp;omega
theorem KG{x:aF}:∀{l:List Nat},(∀p∈l,(kK x p).length<=2000)->(l.flatMap (kK x)).length<=l.length*2000
 | [],_=>by simp
 |a::r,h=>by
  have h1:=KG (l:=r) fun p hp=>h p (yE _ hp)
  have h2:=h a qQ
  rw[List.flatMap_cons,qK,qN,Nat.add_mul];omega
theorem Xi{l:List Nat}{i p:Nat}(h:l[i]? =some p):l.take (i+1)=l.take i++[p]:=by obtain⟨hlt,rfl⟩:=qJ.1 h;rw[yL hlt]
structure ahW (x:aF) (q:dH) (l:List Nat):Prop where
 roots:q.roots.length<=1000
 packs:x.packs.length<=1000
 deps:∀p∈x.packs,p.deps.length<=1000
 cons:∀p∈x.packs,p.cons.length<=1000
 len:l.length<=1000
 lt:∀p∈l,p<x.packs.length
section
variable {w w':World} {B:Nat}
theorem Ints.ak2{ao:Option Addr}{n cap:Nat}{l:List Nat}(h:Ints w (.slice ao n cap) (intsOf l)){i p:Nat}(hp:l[i]? =some p):∃b off,ao=some ⟨b,off,none⟩/\w.cell? ⟨b,off+i,none⟩=some (.int .i64 (p:Int)):=by
 obtain⟨hlt,rfl⟩:=qJ.1 hp;have hl:i<(intsOf l).length:=by unfold intsOf;simpa using hlt
 obtain⟨b,off,e,_,hc⟩:=h.cells _ _ _ rfl zAB;refine⟨b,off,e,?_⟩;rw[hc i hl];unfold intsOf;simp[List.getD,hlt]
theorem ZX{cs cq:List Value}{x:aF}{q:dH}{vl:Value}{l:List Nat}(h:gy B w cs x)(hq:lW B w cq q)(hl:Ints w vl (intsOf l))(ok:ahW x q l):Calls Tryz.prog 71 #[.agg cs.toArray,.agg cq.toArray,vl] w fun e w'=> ∃v,e= .returned v/\jB w w' v (dZ x q l)/\O0 w w':=by
 have vw:=zh ok;obtain⟨v1,v2,rfl,h1,h2⟩:=h;obtain⟨ao,cap,rfl,-,-⟩:=h1.shape;obtain⟨nJ,cap2,rfl,-,-⟩:=h2.shape;obtain⟨v3,rfl,h3⟩:=hq;obtain⟨NP,cap3,rfl,g3,g3'⟩:=h3.shape;obtain⟨apl,aun,rfl,-,-⟩:=hl.shape;obtain⟨n1,hn1⟩:=ze x.packs.length;obtain⟨n2,hn2⟩:=ze x.cO.length;obtain⟨n3,hn3⟩:=ze q.roots.length;obtain⟨nl,hnl⟩:=ze ((intsOf l).length);have ahX:l.length=nl:=by rw[<-hnl];unfold intsOf;simp
 rw[hn1]at h1;rw[hn3]at h3 g3;rw[hnl]at hl;rw[hn1,hn2,hn3,hnl];have R1:=zh h1;have R3:=zh h3;have N1:=zh hn1;have N3:=zh hn3;have NL:=zh ahX;have HI:=zh hl;have hb1:n1<=1000:=by rw[<-hn1];exact ok.packs
 have hb3:n3<=1000:=by rw[<-hn3];exact ok.roots
 have hbl:nl<=1000:=by rw[<-ahX];exact ok.len
 obtain⟨W0,hW0⟩:=zB ((w.alloc (.cells #[.slice ao n1 cap,.slice nJ n2 cap2] 25)).alloc (.cells #[.slice NP n3 cap3] 28));have bM:Hid (O0 w W0):=zBE;have aU:Hid (∀W,O0 W0 W->W.cell? ⟨w.heap.size,0,none⟩=some (.slice ao n1 cap)/\W.cell? ⟨w.heap.size+1,0,none⟩=some (.slice NP n3 cap3)):=fun W ho=>by
  have b0:W0.heap[w.heap.size]? =some (.cells #[.slice ao n1 cap,.slice nJ n2 cap2] 25):=by rw[hW0];exact cZ (qL w _) _
  have b1:W0.heap[w.heap.size+1]? =some (.cells #[.slice NP n3 cap3] 28):=by have:=qL (w.alloc (.cells #[.slice ao n1 cap,.slice nJ n2 cap2] 25)) (.cells #[.slice NP n3 cap3] 28);rw[World.size_alloc,<-hW0]at this;exact this
  have c0:=aC b0 ho (fun f=>f);have c1:=aC b1 ho (fun f=>f);exact⟨by rw[aj c0];rfl,by rw[aj c1];rfl⟩
 clear h1 h2 h3 hl hn1 hn2 hn3 hnl ahX ok;go_enter Tryz.func71,Tryz.ntmps71;go_wp2_with fail;rw[<-hW0];clear hW0;go_loopw [7,19] (fun vo vi wr=>Hid (O0 W0 wr)/\∃i:Nat,vi= .int .i64 i/\i<=n3/\Hid (jB W0 wr vo (iK q i))) (fun _ v _=>n3-(RowKit.intOf v).toNat);case atStart=>exact⟨show Hid _ from Only.refl _ _,0,rfl,qE _,show Hid _ from jB.nil _ _⟩
 case round=>
  obtain⟨HO,i,rfl,hi,HV⟩:=hrel;obtain⟨k0,k2⟩:=aU.out wr HO.out;by_cases ci:i<n3
  ·have h2:=R3.out;rw[<-N3.out]at h2;obtain⟨b,off,he,-,-⟩:=h2.at zBF;subst he;obtain⟨y,hx⟩:=zG q.roots i (by rw[N3.out];exact ci);obtain⟨cs,hl2,hr,hC⟩:=(h2.keep lM.keep (Kp.gV (bM.out.same HO.out))).get hx;have iG:=zw (i+1);obtain⟨c1,rfl,hS,-⟩:=hC;obtain⟨p1,p2,d1,d2,rfl,-,-,-⟩:=hS.cells;have HR:=zh (show wr.rangeAt b (off+i*4) [.string y.spec.name,.slice p1 y.spec.spans.length d1,.slice p2 y.spec.sets.length d2,.int .i64 y.line] from hr);have Ku:Hid (iK q (i+1)=iK q i++[⟨1,-1,i,y.line⟩]):=by rw[TT,qC,hx];exact rfl
   have hlen:(iK q i).length<=1000:=by unfold iK;simp;omega
   obtain⟨L,hL⟩:=ze (iK q i);rw[hL]at HV hlen Ku;obtain⟨au,cu,hu,-,-⟩:∃au cu,u7= .slice au L.length cu/\L.length<=cu/\cu<=maxLen:=aJ HV.out.1;subst hu;clear hr hx h2 hl2 hS hL;go_wp2_with (first| (refine wpList_load_mid rfl 110 (.tmp 22) rfl b (off+i*4) rfl _ _ HR.out Tryz.underlying110 rfl zk ?_)| (at_builtin;go_must (refine ahV (cs:=bW.cells ⟨1,-1,i,y.line⟩) Qo rfl (.tmp 24) (.tmp 29) rfl rfl rfl rfl (Bl (cs:=bW.cells ⟨1,-1,i,y.line⟩) zBo) (bW.one _) (aG HV.out.1 (((Only.refl (fun _=>False) _).alloc _).alloc _) (fun _ _ f=>f)) zAB zBV ?_)));intro v' w2 s1 s2 s3;have IG:Hid (jB W0 w2 v' (iK q (i+1))):=by rw[Ku.out];exact jB.app HV.out zBI s1 s3
   have iO:=zh (((HO.out.alloc _).alloc _).trans s2 fun k hk=>.inr (HV.out.2 k hk));obtain⟨g6,c6',rfl,-,-,-⟩:=s3;clear s1 s2 HV;go_wp2_with fail;go_roundw;case rel=>exact⟨iO,i+1,by first|rfl|go_num,by omega,IG⟩
   case measure=>simp[RowKit.intOf]<;>omega
  obtain rfl:n3=i:=by omega
  clear hi ci k0 k2;have GX:Hid (jB W0 wr u7 (iK q n3++(l.take 0).flatMap (kK x))):=by simpa[Hid]using HV.out
  obtain⟨au,cu,hu,-,-⟩:∃au cu,u7= .slice au (iK q n3).length cu/\_/\_:=aJ HV.out.1;clear hu;have aW:=HO;go_wp2_with fail;generalize wr=wa at*;go_loopw [7,34] (fun vo vi wr=>Hid (O0 W0 wr)/\∃i:Nat,vi= .int .i64 i/\i<=nl/\Hid (jB W0 wr vo (iK q n3++(l.take i).flatMap (kK x)))) (fun _ v _=>nl-(RowKit.intOf v).toNat);case atStart=>exact⟨aW,0,rfl,qE _,GX⟩
  case round=>
   clear GX HV HO aW;obtain⟨HO,i,rfl,hi,HV⟩:=hrel;obtain⟨k0,k2⟩:=aU.out wr HO.out;by_cases ci:i<nl
   ·obtain⟨p,hp⟩:=zG l i (by rw[NL.out];exact ci);have hpn:p<n1:=by have:=vw.out.lt p (qT hp);rw[N1.out]at this;exact this
    obtain⟨bI,aok,eI,hcell⟩:=(HI.out.aH (bM.out.same HO.out)).ak2 hp;subst eI;have iG:=zw (i+1);have hpx:x.packs[p]? =some (x.pack p):=by unfold aF.pack;rw[qC,qA (by rw[N1.out];exact hpn)];rfl
    obtain⟨pk,hpk⟩:=ze (x.pack p);rw[hpk]at hpx;have hmem:pk∈x.packs:=qT hpx;have h2:=R1.out;rw[<-N1.out]at h2;obtain⟨b,off,he,-,-⟩:=h2.at zAq;subst he;obtain⟨YB,-,Nz,OH⟩:=h2.get hpx;obtain⟨q1,q2,q3,q4,q5,q6,z1,z2,z3,z4,z5,z6,rfl,-,-,-,-,-,b4,b5,-⟩:=OH.cells;obtain⟨nd,hnd⟩:=ze pk.deps.length;obtain⟨nc,hnc⟩:=ze pk.cons.length;have hdl:nd<=1000:=by rw[<-hnd];exact vw.out.deps pk hmem
    have hcl:nc<=1000:=by rw[<-hnc];exact vw.out.cons pk hmem
    rw[hnd]at Nz b4;rw[hnc]at Nz b5;have EF:=zh hnd;have HNc:=zh hnc;have HD:Hid (∀W,O0 W0 W->aQ 7 nH B W (.slice q4 nd z4) pk.deps):=fun W hW=>b4.keep nH.keep (Kp.gV (bM.out.same hW));have VW:Hid (∀W,O0 W0 W->aQ 7 rF B W (.slice q5 nc z5) pk.cons):=fun W hW=>b5.keep rF.keep (Kp.gV (bM.out.same hW));have OI:Hid (∀W,O0 W0 W->W.cell? ⟨b,off+p*8+5,none⟩=some (.slice q4 nd z4)/\W.cell? ⟨b,off+p*8+6,none⟩=some (.slice q5 nc z5)):=fun W hW=>by have hb:b<w.heap.size:=World.block_lt_of_cell? _ _ (Nz 5 _ rfl);have hk:=(bM.out.same hW).block b hb (fun f=>f);exact⟨by rw[World.cell?_of_block (w:=w) hk];exact Nz 5 _ rfl,by rw[World.cell?_of_block (w:=w) hk];exact Nz 6 _ rfl⟩
    have kN:Hid (iK q n3++(l.take (i+1)).flatMap (kK x)=(iK q n3++(l.take i).flatMap (kK x))++nV x p nd++rU x p nc):=by
     rw[Xi hp,List.flatMap_append];have:List.flatMap (kK x) [p]=nV x p nd++rU x p nc:=by simp[kK,hpk,hnd,hnc]
     rw[this];simp[yW,Hid]
    have hlen0:(iK q n3++(l.take i).flatMap (kK x)).length<=3000000:=by
     have h1:=KG (x:=x) (l:=l.take i) fun p hp=>by
      have:=vw.out.lt p (List.mem_of_mem_take hp);have hm:x.pack p∈x.packs:=by unfold aF.pack;rw[qC,qA this];exact qZ this
      exact Xh (vw.out.deps _ hm) (vw.out.cons _ hm)
     have h2:(l.take i).length<=1000:=zAp;have h3:(iK q n3).length=n3:=by unfold iK;simp
     rw[qK,h3];have:=Nat.mul_le_mul_right 2000 h2;omega
    obtain⟨L0,hL0⟩:=ze (iK q n3++(l.take i).flatMap (kK x));rw[hL0]at HV kN hlen0;have HPg:Hid (x.pack p=pk):=hpk;have hpd:=(OI.out wr HO.out).1;have GX:Hid (jB W0 wr u7 (L0++nV x p 0)):=by simpa[nV,Hid]using HV.out
    have aW:=HO;clear hp hpx hmem h2 Nz OH hnd hnc b4 b5 hpk hL0 HV;go_wp2_with fail;generalize wr=wb at*;go_loopw [7,45] (fun vo vi wr=>Hid (O0 W0 wr)/\∃k:Nat,vi= .int .i64 k/\k<=nd/\Hid (jB W0 wr vo (L0++nV x p k))) (fun _ v _=>nd-(RowKit.intOf v).toNat);case atStart=>exact⟨aW,0,rfl,qE _,GX⟩
    case round=>
     clear GX HO aW;obtain⟨HO,k,rfl,hk,HV⟩:=hrel;by_cases ck:k<nd
     ·have hd2:=HD.out wr HO.out;rw[<-EF.out]at hd2;obtain⟨b',off',he',-,-⟩:=hd2.at (by have:=EF.out;omega);subst he';obtain⟨d,hdd⟩:=zG pk.deps k (by rw[EF.out];exact ck);obtain⟨cs7,-,ZV,hC7⟩:=hd2.get hdd;obtain⟨c1,c2,rfl,hS1,hS2,-⟩:=hC7;obtain⟨p1,p2,d1,d2,e1,-,-,-⟩:=hS1.cells;obtain⟨p3,p4,d3,d4,e2,-,-,-⟩:=hS2.cells;rw[e1,e2]at ZV;have TS:=zh (show wr.rangeAt b' (off'+k*7) [_,_,_,_,_,_,_] from ZV);have TI:=zw (k+1);have Ku:Hid (L0++nV x p (k+1)=(L0++nV x p k)++[⟨2,p,k,d.line⟩]):=by rw[Xf,HPg.out,qC,hdd,<-yW];exact rfl
      have hlen:(L0++nV x p k).length<=3100000:=by rw[qK];unfold nV;simp;omega
      obtain⟨L,hL⟩:=ze (L0++nV x p k);rw[hL]at HV hlen Ku;obtain⟨au,cu,hu,-,-⟩:∃au cu,u7= .slice au L.length cu/\L.length<=cu/\cu<=maxLen:=aJ HV.out.1;subst hu;clear hd2 hdd ZV hS1 hS2 hL e1 e2;go_wp2_with (first| (refine wpList_load_mid rfl 132 (.tmp 48) rfl b' (off'+k*7) rfl _ _ TS.out Tryz.underlying132 rfl zk ?_)| (at_builtin;go_must (refine ahV (cs:=bW.cells ⟨2,p,k,d.line⟩) Qo rfl (.tmp 50) (.tmp 56) rfl rfl rfl rfl (Bl (cs:=bW.cells ⟨2,p,k,d.line⟩) zBo) (bW.one _) (aG HV.out.1 (((Only.refl (fun _=>False) _).alloc _).alloc _) (fun _ _ f=>f)) zAB zBV ?_)));intro v' w2 s1 s2 s3;have IG:Hid (jB W0 w2 v' (L0++nV x p (k+1))):=by rw[Ku.out];exact jB.app HV.out zBI s1 s3
      exact zCd
     obtain rfl:nd=k:=by omega
     clear hk ck;have auo:=(OI.out wr HO.out).2;obtain⟨k0',-⟩:=aU.out wr HO.out;have hlen1:(L0++nV x p nd).length<=3010000:=by rw[qK];unfold nV;simp;omega
     obtain⟨L1,hL1⟩:=ze (L0++nV x p nd);rw[hL1]at HV kN hlen1;have GX:Hid (jB W0 wr u7 (L1++rU x p 0)):=by simpa[rU,Hid]using HV.out
     have aW:=HO;clear hL1 HV;go_wp2_with fail;generalize wr=wc at*;go_loopw [7,66] (fun vo vi wr=>Hid (O0 W0 wr)/\∃k:Nat,vi= .int .i64 k/\k<=nc/\Hid (jB W0 wr vo (L1++rU x p k))) (fun _ v _=>nc-(RowKit.intOf v).toNat);case atStart=>exact⟨aW,0,rfl,qE _,GX⟩
     case round=>
      clear GX HO aW;obtain⟨HO,k,rfl,hk,HV⟩:=hrel;by_cases ck:k<nc
      ·have hd2:=VW.out wr HO.out;rw[<-HNc.out]at hd2;obtain⟨b',off',he',-,-⟩:=hd2.at (by have:=HNc.out;omega);subst he';obtain⟨d,hdd⟩:=zG pk.cons k (by rw[HNc.out];exact ck);obtain⟨cs7,-,ZV,hC7⟩:=hd2.get hdd;obtain⟨c1,c2,rfl,hS1,hS2,-⟩:=hC7;obtain⟨p1,p2,d1,d2,e1,-,-,-⟩:=hS1.cells;obtain⟨p3,p4,d3,d4,e2,-,-,-⟩:=hS2.cells;rw[e1,e2]at ZV;have TS:=zh (show wr.rangeAt b' (off'+k*7) [_,_,_,_,_,_,_] from ZV);have TI:=zw (k+1);have Ku:Hid (L1++rU x p (k+1)=(L1++rU x p k)++[⟨3,p,k,d.line⟩]):=by rw[Xg,HPg.out,qC,hdd,<-yW];exact rfl
       have hlen:(L1++rU x p k).length<=3100000:=by rw[qK];unfold rU;simp;omega
       obtain⟨L,hL⟩:=ze (L1++rU x p k);rw[hL]at HV hlen Ku;obtain⟨au,cu,hu,-,-⟩:∃au cu,u7= .slice au L.length cu/\L.length<=cu/\cu<=maxLen:=aJ HV.out.1;subst hu;clear hd2 hdd ZV hS1 hS2 hL e1 e2;go_wp2_with (first| (refine wpList_load_mid rfl 160 (.tmp 69) rfl b' (off'+k*7) rfl _ _ TS.out Tryz.underlying160 rfl zk ?_)| (at_builtin;go_must (refine ahV (cs:=bW.cells ⟨3,p,k,d.line⟩) Qo rfl (.tmp 71) (.tmp 77) rfl rfl rfl rfl (Bl (cs:=bW.cells ⟨3,p,k,d.line⟩) zBo) (bW.one _) (aG HV.out.1 (((Only.refl (fun _=>False) _).alloc _).alloc _) (fun _ _ f=>f)) zAB zBV ?_)));intro v' w2 s1 s2 s3;have IG:Hid (jB W0 w2 v' (L1++rU x p (k+1))):=by rw[Ku.out];exact jB.app HV.out zBI s1 s3
       exact zCd
      obtain rfl:nc=k:=by omega
      have IG:Hid (jB W0 wr u7 (iK q n3++(l.take (i+1)).flatMap (kK x))):=by rw[kN.out];exact HV.out
      go_wp2_with fail;go_roundw;case rel=>exact⟨HO,i+1,by first|rfl|go_num,by omega,IG⟩
      case measure=>simp[RowKit.intOf]<;>omega
   obtain rfl:nl=i:=by omega
   obtain⟨au,cu,hu,-,-⟩:∃au cu,u7= .slice au (iK q n3++(l.take nl).flatMap (kK x)).length cu/\_/\_:=aJ HV.out.1;clear hu;go_wp2_with fail;go_ret;refine⟨_,rfl,?_,bM.out.same HO.out⟩;have h1:=HV.out;rw[qI (yG NL.out)]at h1;have e1:dZ x q l=iK q n3++l.flatMap (kK x):=by unfold dZ;rw[N3.out]
   rw[e1];exact⟨h1.1,fun k hk=>by have:=h1.2 k hk;have:=bM.out.size;omega⟩
end
theorem aQ.all{α:Type}{n:Nat}{C:Nat->World->List Value->α->Prop}{B:Nat}{w:World}{v:Value}{xs:List α}(h:aQ n C B w v xs):∀x∈xs,∃cs,C B w cs x:=by intro x hx;obtain⟨i,hi,rfl⟩:=List.getElem_of_mem hx;obtain⟨ao,cap,rfl,-,-⟩:=h.shape;obtain⟨b,off,-,-,-,hc⟩:=h.cells _ _ _ rfl zAB;obtain⟨cs,-,-,h3⟩:=hc i hi;exact⟨cs,h3⟩
section
variable {w w':World} {B:Nat}
theorem gy.lines{cs:List Value}{x:aF}(h:gy B w cs x):∀p∈x.packs,(∀d∈p.deps,bg d.line)/\∀d∈p.cons,bg d.line:=by
 obtain⟨v1,v2,-,h1,-⟩:=h;intro p hp;obtain⟨cs,hC⟩:=h1.all p hp;obtain⟨_,_,_,_,_,_,-,-,-,-,-,-,h4,h5,-⟩:=hC;refine⟨fun d hd=>?_,fun d hd=>?_⟩;·obtain⟨_,_,_,-,-,-,h⟩:=h4.all d hd;exact h
 obtain⟨_,_,_,-,-,-,h⟩:=h5.all d hd;exact h
theorem lW.lines{cs:List Value}{q:dH}(h:lW B w cs q):∀r∈q.roots,bg r.line:=by obtain⟨v1,-,h1⟩:=h;intro r hr;obtain⟨_,_,-,-,h⟩:=h1.all r hr;exact h
theorem getD_in{α:Type}[Inhabited α]{l:List α}{i:Nat}(h:i<l.length):l.getD i default∈l:=by rw[qC,qA h];exact qZ h
theorem aF.iQ{x:aF}{p:Nat}(h:p<x.packs.length):x.pack p∈x.packs:=getD_in h
theorem TU{cs cq:List Value}{x:aF}{q:dH}{l:List Nat}(h:gy B w cs x)(hq:lW B w cq q)(ok:ahW x q l):∀r∈dZ x q l,(0<=r.kind/\r.kind<=255)/\bg r.pack/\bg r.idx/\bg r.line:=by
 have h1:=ok.roots;have h2:=ok.packs;have small:∀k:Nat,k<=100000->bg (k:Int):=fun k hk=>⟨by omega,by omega⟩;intro r hr;unfold dZ at hr;rcases qW.1 hr with hr|hr;·obtain⟨i,hi,rfl⟩:=yD.1 hr;have hi2:=yI.1 hi;exact⟨⟨by simp,by simp⟩,⟨by simp,by simp⟩,small i zAB,hq.lines _ (getD_in hi2)⟩
 obtain⟨p,hp,hr⟩:=List.mem_flatMap.1 hr;have hpl:=ok.lt p hp;have hm:=aF.iQ hpl;have h3:=ok.deps _ hm;have h4:=ok.cons _ hm;rcases qW.1 hr with hr|hr;·obtain⟨i,hi,rfl⟩:=yD.1 hr;have hi2:=yI.1 hi;exact⟨⟨by simp,by simp⟩,small p zBU,small i zAB,(h.lines _ hm).1 _ (getD_in hi2)⟩
 obtain⟨i,hi,rfl⟩:=yD.1 hr;have hi2:=yI.1 hi;exact⟨⟨by simp,by simp⟩,small p zBU,small i zAB,(h.lines _ hm).2 _ (getD_in hi2)⟩
def TV(w:World)(x:aF)(q:dH)(lim:Nat)(e:Ending)(w':World):Prop:=
 ∃c bt bb gt gb G Bs,e= .returned (.pointer (some ⟨c,0,none⟩))/\nP w' gt gb c bt bb G ⟨[],lim,0,false⟩ ⟨[],false,false⟩/\gy Bs w' [G.x1,G.x2] x/\lW Bs w' [G.q] q/\Ints w' G.l (intsOf (x.closure q.names))/\
  aQ 4 xw Bs w' G.r (dZ x q (x.closure q.names))/\(∀k,Mine gt k\/Mine gb k->Bs<=k)/\(∀k,Value.blk G.l=some k->k<Bs)/\w.heap.size<=Bs/\Bs<=c/\Bs<=w'.heap.size/\O0 w w'
theorem TV.of{w w5 w6 w7:World}{x:aF}{q:dH}{lim bt bb:Nat}{x1 x2 vq vl vr:Value}{gt gb:Tag}{Vt:ZG}{Vb:Tj}(O5:O0 w w5)(hx:gy w5.heap.size w5 [x1,x2] x)(hq:lW w5.heap.size w5 [vq] q)(hl:Ints w5 vl (intsOf (x.closure q.names)))(hlb:∀k,Value.blk vl=some k->k<w5.heap.size)(hr:aQ 4 xw w5.heap.size w5 vr (dZ x q (x.closure q.names)))(ht:TabAt w6 gt bt Vt ⟨[],lim,0,false⟩)(ht5:∀k,Mine gt k->w5.heap.size<=k)(O6:O0 w5 w6)(hb:jL w7 gb bb Vb ⟨[],false,false⟩)(hb6:∀k,Mine gb k->w6.heap.size<=k)(O7:O0 w6 w7):TV w x q lim (.returned (.pointer (some ⟨w7.heap.size,0,none⟩))) (w7.alloc (.cells #[x1,x2,vq,vl,vr,.pointer (some ⟨bt,0,none⟩),.pointer (some ⟨bb,0,none⟩)] 141)):=by
 have o8:O0 w7 (w7.alloc (.cells #[x1,x2,vq,vl,vr,.pointer (some ⟨bt,0,none⟩),.pointer (some ⟨bb,0,none⟩)] 141)):=zr.alloc _;have o58:=(O6.same O7).same o8;have h65:=O6.size;have h76:=O7.size;refine⟨_,bt,bb,gt,gb,⟨x1,x2,vq,vl,vr⟩,w5.heap.size,rfl,⟨qL w7 _,?_,?_,⟨_,(ht.aH O7).aH o8⟩,⟨_,hb.aH o8⟩,?_⟩,gy.keep hx (Kp.gV o58),lW.keep hq (Kp.gV o58),hl.aH o58,hr.keep xw.keep (Kp.gV o58),?_,hlb,O5.size,by omega,o58.size,O5.same o58⟩;·rw[ht.fresh _ zAB]
 ·rw[hb.fresh _ zAB]
 ·intro k h1 h2;have:=hb6 k h2;unfold Mine at h1;exact h1 (ht.fresh k this)
 rintro k (h|h);·exact ht5 k h
 have:=hb6 k h;omega
theorem OQ{x:aF}{q:dH}(hs:uj x)(hq:q.roots.length<=40):ahW x q (x.closure q.names):=
 ⟨by omega,by have:=hs.packs;omega,fun p hp=>by have:=(hs.all p hp).deps;omega,fun p hp=>by have:=(hs.all p hp).cons;omega,by have:=x.tV q.names;have:=hs.packs;omega,fun p hp=>(aF.jA.1 hp).lt⟩
theorem ahZ{cs cq:List Value}{x:aF}{q:dH}(h:gy B w cs x)(hq:lW B w cq q)(hBw:B<=w.heap.size)(hs:uj x)(hql:q.roots.length<=40)(n:Int)(hn:bg n)(lim:Nat)(hlim:min (max n 0) 65536=(lim:Int)):Calls Tryz.prog 21 #[.agg cs.toArray,.agg cq.toArray,.int .i64 n] w (TV w x q lim):=by
 have HH:=zh h;have HQ:=zh hq;have HSm:=zh hs;obtain⟨v1,v2,rfl,h1,h2⟩:=h;obtain⟨ao,cap,rfl,-,-⟩:=h1.shape;obtain⟨nJ,cap2,rfl,-,-⟩:=h2.shape;obtain⟨v3,rfl,h3⟩:=hq;obtain⟨NP,cap3,rfl,-,-⟩:=h3.shape;obtain⟨n1,hn1⟩:=ze x.packs.length;obtain⟨n2,hn2⟩:=ze x.cO.length;obtain⟨n3,hn3⟩:=ze q.roots.length;rw[hn1,hn2]at HH;rw[hn3]at HQ;rw[hn1,hn2,hn3];have HL:=zh hlim;have HQl:=zh hql;have HN:=zh hn;obtain⟨W0,hW0⟩:=zB ((w.alloc (.cells #[.slice ao n1 cap,.slice nJ n2 cap2] 25)).alloc (.cells #[.slice NP n3 cap3] 28));have bM:Hid (O0 w W0):=zBE;have aU:Hid (∀W,O0 W0 W->W.cell? ⟨w.heap.size,0,none⟩=some (.slice ao n1 cap)/\W.cell? ⟨w.heap.size,1,none⟩=some (.slice nJ n2 cap2)/\W.cell? ⟨w.heap.size+1,0,none⟩=some (.slice NP n3 cap3)):=fun W ho=>by
  have b0:W0.heap[w.heap.size]? =some (.cells #[.slice ao n1 cap,.slice nJ n2 cap2] 25):=by rw[hW0];exact cZ (qL w _) _
  have b1:W0.heap[w.heap.size+1]? =some (.cells #[.slice NP n3 cap3] 28):=by rw[hW0];exact alloc_at zAF
  have c0:=aC b0 ho (fun f=>f);have c1:=aC b1 ho (fun f=>f);exact⟨by rw[aj c0];rfl,by rw[aj c0];rfl,by rw[aj c1];rfl⟩
 have HKR:Hid (∀W,O0 W0 W->gy B W [.slice ao n1 cap,.slice nJ n2 cap2] x):=fun W hW=>gy.keep HH.out (Kp.gV (bM.out.same hW):Kp B w W);have HKQ:Hid (∀W,O0 W0 W->lW B W [.slice NP n3 cap3] q):=fun W hW=>lW.keep HQ.out (Kp.gV (bM.out.same hW):Kp B w W);have HBw:=zh hBw;obtain⟨k0,k1,k2⟩:=aU.out W0 zr;clear h1 h2 h3 hn1 hn2 hn3 hs hlim hql hn hBw;go_enter Tryz.func21,Tryz.ntmps21;go_wp2_with fail;rw[<-hW0];clear hW0;refine(IU (HKR.out W0 zr) (HKQ.out W0 zr) HSm.out (by have:=HQl.out;omega)).mono ?_;rintro e w3 ⟨vl,rfl,hrow,-,O3⟩;have hI:Ints w3 vl (intsOf (x.closure q.names)):=uX hrow fun i hi=>by have:=(aF.jA.1 hi).lt;have:=HSm.out.packs;omega
 have OT:Hid (∀k,Value.blk vl=some k->k<w3.heap.size):=fun k hk=>dP hrow (by
  obtain⟨a2,c2,rfl,-,-⟩:=aJ hrow
  cases a2 with
  |none=>cases hk
  |some ad=>exact hk)
 clear hrow;have HI:=zh hI;have uw:=zh O3;obtain⟨al,cl,rfl,-,-⟩:=hI.shape;obtain⟨nl,hnl⟩:=ze ((intsOf (x.closure q.names)).length);rw[hnl]at HI OT⊢;clear hI O3 hnl k0 k1 k2;have HK:Hid (∀W,O0 w3 W->W.cell? ⟨w.heap.size,0,none⟩=some (.slice ao n1 cap)/\W.cell? ⟨w.heap.size,1,none⟩=some (.slice nJ n2 cap2)/\W.cell? ⟨w.heap.size+1,0,none⟩=some (.slice NP n3 cap3)):=fun W hW=>aU.out W (uw.out.same hW);have HRu:Hid (∀W,O0 w3 W->Calls Tryz.prog 71 #[.agg #[.slice ao n1 cap,.slice nJ n2 cap2],.agg #[.slice NP n3 cap3],.slice al nl cl] W fun e w'=> ∃v,e= .returned v/\jB W w' v (dZ x q (x.closure q.names))/\O0 W w'):=fun W hW=>
  ZX (HKR.out W (uw.out.same hW)) (HKQ.out W (uw.out.same hW)) (HI.out.aH hW) (OQ HSm.out HQl.out)
 have HAt:Hid (∀W,Calls Tryz.prog 72 #[.int .i64 n] W (Kr W lim)):=fun W=>Qd W n HN.out lim HL.out;have HCf:Hid (∀W,Calls Tryz.prog 73 #[] W (Ko W)):=fun W=>Wq W;have HFin:Hid (∀w5 w6 w7 v bt bb gt gb Vt Vb,O0 w3 w5->jB w3 w5 v (dZ x q (x.closure q.names))->TabAt w6 gt bt Vt ⟨[],lim,0,false⟩->(∀k,Mine gt k->w5.heap.size<=k)->O0 w5 w6->jL w7 gb bb Vb ⟨[],false,false⟩->(∀k,Mine gb k->w6.heap.size<=k)->O0 w6 w7->
   TV w x q lim (.returned (.pointer (some ⟨w7.heap.size,0,none⟩))) (w7.alloc (.cells #[.slice ao n1 cap,.slice nJ n2 cap2,.slice NP n3 cap3,.slice al nl cl,v,.pointer (some ⟨bt,0,none⟩),.pointer (some ⟨bb,0,none⟩)] 141))):=by
  intro w5 w6 w7 v bt bb gt gb Vt Vb o5 FI ht ht5 o6 hb hb6 o7
  have O5:=(bM.out.same uw.out).same o5
  have hBs:B<=w5.heap.size:=qR HBw.out O5.size
  have ok:=OQ HSm.out HQl.out
  have hI5:=HI.out.aH o5
  refine TV.of O5 (gy.lift (HKR.out w5 (uw.out.same o5)) hBs (qH _)) (lW.lift (HKQ.out w5 (uw.out.same o5)) hBs (qH _)) hI5 (fun k hk=>?_) (FI.read (TU (HKR.out w5 (uw.out.same o5)) (HKQ.out w5 (uw.out.same o5)) ok)) ht ht5 o6 hb hb6 o7
  have h1:=OT.out k hk
  have h2:=o5.size
  omega
 have hS0:=HK.out w3.drew (zr.drew);clear aU HKR HKQ HI HH HQ;go_wp2_with fail;refine bC (n:=13) (E:=fun _=>false) (S:=fun W=>W.cell? ⟨w.heap.size,0,none⟩=some (.slice ao n1 cap)/\W.cell? ⟨w.heap.size,1,none⟩=some (.slice nJ n2 cap2)/\W.cell? ⟨w.heap.size+1,0,none⟩=some (.slice NP n3 cap3)) zk rfl hS0 (fun hHeld=>?_);refine tK 0 ?_;refine tK 1 ?_;refine tW 2 ?_;refine tK 3 ?_;refine tK 4 ?_;refine tW 5 ?_;refine tW 7 ?_;refine tO 6 fun K hK=>?_;(go_simp;refine(HRu.out _ (by exact zBT)).mono ?_;rintro e w5 ⟨v5,rfl,FI,o5⟩;have oA:O0 w3 w5:=Only.same zAA o5;have aoD:jB w3 w5 v5 (dZ x q (x.closure q.names)):=⟨FI.1,fun k hk=>by have h1:=FI.2 k hk;simpa using h1⟩;obtain⟨a5,c5,rfl,-,-⟩:=aJ FI.1;try go_wp2_with fail);refine hK.out _ _ ?_ (fun hHeld=>?_);·(try dsimp only)<;>(exact HK.out _ oA)
 clear hK K;try simp only[Act.put,eF,eG,dW,dX,dY]
 refine tO 8 fun K hK=>?_;(go_simp;refine(HAt.out _).mono ?_;rintro e w6 ⟨bt,gt,Vt,rfl,htab,htn,o6⟩;have oB:=oA.same o6;try go_wp2_with fail);refine hK.out _ _ ?_ (fun hHeld=>?_);·(try dsimp only)<;>(exact HK.out _ oB)
 clear hK K;try simp only[Act.put,eF,fA,eG,dW,dX,dY]
 refine tO 9 fun K hK=>?_;(go_simp;refine(HCf.out _).mono ?_;rintro e w7 ⟨bb,gb,Vb,rfl,aoE,hbn,o7⟩;have oC:=oB.same o7;try go_wp2_with fail);refine hK.out _ _ ?_ (fun hHeld=>?_);·(try dsimp only)<;>(exact HK.out _ oC)
 clear hK K;try simp only[Act.put,eF,fA,eG,dW,dX,dY]
 refine tW 10 ?_;refine tO 11 fun K hK=>?_;go_simp;refine hK.out _ _ ?_ (fun hHeld=>?_);·(try dsimp only)<;>(exact HK.out _ (by exact oC.alloc _))
 clear hK K;try simp only[Act.put,eF,fA,eG,dW,dX,dY]
 refine tW 12 ?_;refine bf zk ?_ _;have bD:=zh (HFin.out w5 w6 w7 _ bt bb gt gb Vt Vb oA aoD htab htn o6 aoE hbn o7);go_wp2_with fail;go_ret;exact bD.out
end
structure CD where
 rel:Int
 vals:List Int
structure GD where
 x:aF
 q:dH
 c:List CD
 off:List Bool
instance:Inhabited CD:=⟨⟨-1,[]⟩⟩
def Xj(_:Nat)(_:World)(cs:List Value)(x:Int):Prop:=cs=[.int .i64 x]/\bg x
def KH(_:Nat)(_:World)(cs:List Value)(x:Bool):Prop:=cs=[.bool x]
def CC(B:Nat)(w:World)(cs:List Value)(x:CD):Prop:= ∃v1,cs=[.int .i64 x.rel,v1]/\bg x.rel/\aQ 1 Xj B w v1 x.vals
def GC(B:Nat)(w:World)(cs:List Value)(g:GD):Prop:= ∃v1 v2 v3 v4 v5,cs=[v1,v2,v3,v4,v5]/\aQ 8 fQ B w v1 g.x.packs/\aQ 3 lK B w v2 g.x.cO/\aQ 4 lM B w v3 g.q.roots/\aQ 2 CC B w v4 g.c/\aQ 1 KH B w v5 g.off
theorem Xj.keep:Keeps Xj:=fun _ _ _ _ _ h _=>h
theorem KH.keep:Keeps KH:=fun _ _ _ _ _ h _=>h
theorem CC.keep:Keeps CC:=fun _ _ _ _ _ ⟨v1,h,a,b⟩ k=>⟨v1,h,a,b.keep Xj.keep k⟩
theorem GC.keep:Keeps GC:=fun _ _ _ _ _ ⟨v1,v2,v3,v4,v5,h,a,b,c,d,e⟩ k=>⟨v1,v2,v3,v4,v5,h,a.keep fQ.keep k,b.keep lK.keep k,c.keep lM.keep k,d.keep CC.keep k,e.keep KH.keep k⟩
theorem Xj.lift:Lifts Xj:=fun _ _ _ _ _ h _ _=>h
theorem KH.lift:Lifts KH:=fun _ _ _ _ _ h _ _=>h
theorem CC.lift:Lifts CC:=fun _ _ _ _ _ ⟨v1,h,a,b⟩ k l=>⟨v1,h,a,b.lift Xj.lift k l⟩
theorem GC.lift:Lifts GC:=fun _ _ _ _ _ ⟨v1,v2,v3,v4,v5,h,a,b,c,d,e⟩ k l=>⟨v1,v2,v3,v4,v5,h,a.lift fQ.lift k l,b.lift lK.lift k l,c.lift lM.lift k l,d.lift CC.lift k l,e.lift KH.lift k l⟩
theorem GC.Ef{B:Nat}{w:World}{v1 v2 v3 v4 v5:Value}{g:GD}(h:GC B w [v1,v2,v3,v4,v5] g):gy B w [v1,v2] g.x:=by obtain⟨u1,u2,u3,u4,u5,e,a,b,c,d,f⟩:=h;simp only[List.cons.injEq,and_true]at e;obtain⟨rfl,rfl,rfl,rfl,rfl⟩:=e;exact⟨_,_,rfl,a,b⟩
theorem GC.ZY{B:Nat}{w:World}{v1 v2 v3 v4 v5:Value}{g:GD}(h:GC B w [v1,v2,v3,v4,v5] g):lW B w [v3] g.q:=by obtain⟨u1,u2,u3,u4,u5,e,a,b,c,d,f⟩:=h;simp only[List.cons.injEq,and_true]at e;obtain⟨rfl,rfl,rfl,rfl,rfl⟩:=e;exact⟨_,rfl,c⟩
def U8C(_:Nat)(_:World)(cs:List Value)(x:Nat):Prop:=cs=[.int .u8 (x:Int)]/\x<256
theorem U8C.keep:Keeps U8C:=fun _ _ _ _ _ h _=>h
theorem U8C.lift:Lifts U8C:=fun _ _ _ _ _ h _ _=>h
def Xk(c:List CD)(p:Int):Bool:=decide (0<=p)&&decide (p<c.length)&&decide (0<=(c.getD p.toNat default).rel)
end Go.Proofs.YtdmmebjjojimiaaGreatDoor
