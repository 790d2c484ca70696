/- Ch6 Ch7 Ch8, in one text.; A graph of choices: plain, and in memory (for reading); what raw numbers choose. -/
import Derived.Test.YtdmmebjjojimiaaGreatDoorG11
import Derived.Test.YtdmmebjjojimiaaGreatDoorG13
set_option maxRecDepth 100000
set_option maxHeartbeats 8000000
set_option linter.all false
namespace Go.Proofs
theorem zAZ{p:Prop}(h:p:=by rw[List.length_take];omega):p:=h
theorem zAx{p:Prop}(h:p:=by have:=HO.out.size;simp;omega):p:=h
theorem zBx{p:Prop}(h:p:=by
 have jG:=zh (((HO.out.alloc _).alloc _).trans s2 fun k hk=>.inr (HV.out.2 k hk))
 obtain⟨g6,c6',rfl,-,-,-⟩:=s3
 clear s1 s2 HV
 go_wp2_with fail
 go_roundw
 case rel=>exact⟨jG,k+1,by first|rfl|go_num,by omega,MH⟩
 case measure=>simp[RowKit.intOf]<;>omega):p:=h
end Go.Proofs
namespace Go.Proofs.YtdmmebjjojimiaaGreatDoor
open Go.RowKit
structure bG where
 kind:Int
 pack:Int
 idx:Int
 line:Int
deriving DecidableEq
instance:Inhabited bG:=⟨⟨0,0,0,0⟩⟩
def bG.cells(r:bG):List Value:=[.int .u8 r.kind,.int .i64 r.pack,.int .i64 r.idx,.int .i64 r.line]
def rO(_:Nat)(_:World)(cs:List Value)(r:bG):Prop:=cs=r.cells/\(0<=r.kind/\r.kind<=255)/\aO r.pack/\aO r.idx/\aO r.line
theorem rO.keep:Keeps rO:=fun _ _ _ _ _ h _=>h
theorem rO.lift:Lifts rO:=fun _ _ _ _ _ h _ _=>h
theorem bG.one(r:bG):∀u∈r.cells,u.oneCell'=true:=by intro u hu;simp[bG.cells]at hu;rcases hu with rfl|rfl|rfl|rfl<;>rfl
def mF(l:List bG):List Value:=l.flatMap bG.cells
theorem Ji(a b:List bG):mF (a++b)=mF a++mF b:=List.flatMap_append
theorem Vw(l:List bG){i j:Nat}(hi:i<l.length)(hj:j<4):(mF l)[i*4+j]? =(l[i]'hi).cells[j]? :=by
 unfold mF;induction l generalizing i with
 |nil=>simp at hi
 |cons x r ih=>
  have hx:x.cells.length=4:=rfl;rw[List.flatMap_cons];cases i with
  |zero=>rw[Nat.zero_mul,Nat.zero_add,yM (by rw[hx];exact hj)];rfl
  |succ i=>rw[yN (by rw[hx];omega),hx,show(i+1)*4+j-4=i*4+j by omega,ih zAk];simp
def fZ(q:dG)(k:Nat):List bG:=(List.range k).map fun i:Nat=>⟨1,-1,i,(q.roots.getD i default).line⟩
def kJ(x:aC)(p k:Nat):List bG:=(List.range k).map fun i:Nat=>⟨2,p,i,((x.pack p).deps.getD i default).line⟩
def mG(x:aC)(p k:Nat):List bG:=(List.range k).map fun i:Nat=>⟨3,p,i,((x.pack p).cons.getD i default).line⟩
def jo(x:aC)(p:Nat):List bG:=kJ x p (x.pack p).deps.length++mG x p (x.pack p).cons.length
def eF(x:aC)(q:dG)(l:List Nat):List bG:=fZ q q.roots.length++l.flatMap (jo x)
theorem NY(q:dG)(k:Nat):fZ q (k+1)=fZ q k++[⟨1,-1,k,(q.roots.getD k default).line⟩]:=by unfold fZ;rw[List.range_succ,List.map_append];rfl
theorem Q8(x:aC)(p k:Nat):kJ x p (k+1)=kJ x p k++[⟨2,p,k,((x.pack p).deps.getD k default).line⟩]:=by unfold kJ;rw[List.range_succ,List.map_append];rfl
theorem Q9(x:aC)(p k:Nat):mG x p (k+1)=mG x p k++[⟨3,p,k,((x.pack p).cons.getD k default).line⟩]:=by unfold mG;rw[List.range_succ,List.map_append];rfl
section
variable {w w':World} {B:Nat}
theorem KC:uZ Tryz.prog 62 158 4 32:=uZ.mk' (z:=.agg #[.int .u8 0,.int .i64 0,.int .i64 0,.int .i64 0]) Tryz.underlying62 zk rfl zAC
theorem adr{P:Program}{ops:Array Oper}{rest:List Oper}{o:Oper}{a:Act}{Q:Exit->Act->World->Prop}{t e:TypeId}{size bytes:Nat}(T:uZ P t e size bytes)
  (hgd:o.guard=none) (s x:Operand)
  (ho:o.op= .call {callee:=.builtin .append,args:= #[s,x],argTypes:= #[t,t]})
  {v:Value} {n:Nat} {xs cs:List Value} {g:Nat} (hs:a.eval s=v) (hx:a.eval x= .slice (some ⟨g,0,none⟩) 1 1) (hl:cs.length=size) (hc:w.rangeAt g 0 cs) (hu:∀u∈cs,u.oneCell'=true) (hown:w.ownsRow 0 e size v n xs)
  (h63:n+1<=1099511627776) (hbytes:bytes<=128)
  (h:∀v' w',w'.ownsRow 0 e size v' (n+1) (xs++cs)->Only (fun k=>v.ownBlock=some k) w w'->vg w v v' (n+1)->wpList P ops Q rest (a.put o.dst v') w'):
  wpList P ops Q (o::rest) a w:=by
 refine wpA T hgd s x ho (news:=cs) hs hown hx (by rw[hl,Nat.one_mul]) ?_ hu ?_ ?_ ?_
 ·intro j x hj
  have:=hc j x hj
  rw[Go.WideShapes.add_plain]
  exact this
 ·unfold maxLen;omega
 ·have:(n+1)*bytes<=1099511627776*128:=Nat.mul_le_mul h63 hbytes
  omega
 ·intro v' w' r1 r2 r3 r4
  refine h v' w' r1 ((Only.refl _ w).grown r2 fun k hk=>.inl hk) ?_
  exact zD8
theorem vM{w:World}{cs:List Value}{t:TypeId}{n:Nat}(h:n=w.heap.size):(w.alloc (.cells cs.toArray t)).rangeAt n 0 cs:=by subst h;intro j u hu;have hb:(w.alloc (.cells cs.toArray t)).heap[w.heap.size]? =some (.cells cs.toArray t):=qL w _;rw[Nat.zero_add,aj hb];simpa using hu
def iq(w0 w:World)(v:Value)(l:List bG):Prop:=w.ownsRow 0 158 4 v l.length (mF l)/\∀k,v.ownBlock=some k->w0.heap.size<=k
theorem iq.nil(w0 w:World):iq w0 w bK []:=⟨World.ownsRow_nil _ _ _ _,fun k hk=>by cases hk⟩
theorem iq.app{w0 w1 w2:World}{v v':Value}{l:List bG}{r:bG}(h:iq w0 w v l)(hs:w0.heap.size<=w1.heap.size)(s1:w2.ownsRow 0 158 4 v' (l.length+1) (mF l++r.cells))(s3:vg w1 v v' (l.length+1)):iq w0 w2 v' (l++[r]):=by
 refine⟨?_,fun k hk=>?_⟩
 ·rw[Ji,qK];have:mF [r]=r.cells:=by simp[mF]
  rw[this];exact s1
 obtain⟨g,cap,rfl,-,-,hg⟩:=s3;simp[Value.ownBlock]at hk;subst hk;rcases hg with hg|hg;·exact h.2 _ hg
 omega
theorem iq.read{w0:World}{v:Value}{l:List bG}(h:iq w0 w v l)(hr:∀r∈l,(0<=r.kind/\r.kind<=255)/\aO r.pack/\aO r.idx/\aO r.line):aJ 4 rO w.heap.size w v l:=
 aJ.dF h.1 fun i hi=>⟨(l[i]'hi).cells,rfl,fun j u hu=>by
  have hj:=(qJ.1 hu).1
  rw[Vw l hi hj];exact hu,rfl,hr _ (qZ hi)⟩
end
theorem Rf{x:aC}{p:Nat}(h1:(x.pack p).deps.length<=1000)(h2:(x.pack p).cons.length<=1000):(jo x p).length<=2000:=by unfold jo kJ mG;simp;omega
theorem Fh{x:aC}:∀{l:List Nat},(∀p∈l,(jo x p).length<=2000)->(l.flatMap (jo x)).length<=l.length*2000
 | [],_=>by simp
 |a::r,h=>by
  have h1:=Fh (l:=r) fun p hp=>h p (yE _ hp)
  have h2:=h a qQ
  rw[List.flatMap_cons,qK,qN,Nat.add_mul];omega
theorem Rh{l:List Nat}{i p:Nat}(h:l[i]? =some p):l.take (i+1)=l.take i++[p]:=by obtain⟨hlt,rfl⟩:=qJ.1 h;rw[yL hlt]
structure ads (x:aC) (q:dG) (l:List Nat):Prop where
 roots:q.roots.length<=1000
 packs:x.packs.length<=1000
 deps:∀p∈x.packs,p.deps.length<=1000
 cons:∀p∈x.packs,p.cons.length<=1000
 len:l.length<=1000
 lt:∀p∈l,p<x.packs.length
section
variable {w w':World} {B:Nat}
theorem Ints.agG{ao:Option Addr}{n cap:Nat}{l:List Nat}(h:Ints w (.slice ao n cap) (intsOf l)){i p:Nat}(hp:l[i]? =some p):∃b off,ao=some ⟨b,off,none⟩/\w.cell? ⟨b,off+i,none⟩=some (.int .i64 (p:Int)):=by
 obtain⟨hlt,rfl⟩:=qJ.1 hp;have hl:i<(intsOf l).length:=by unfold intsOf;simpa using hlt
 obtain⟨b,off,e,_,hc⟩:=h.cells _ _ _ rfl zBB;refine⟨b,off,e,?_⟩;rw[hc i hl];unfold intsOf;simp[List.getD,hlt]
theorem Vx{cs cq:List Value}{x:aC}{q:dG}{vl:Value}{l:List Nat}(h:gG B w cs x)(hq:lI B w cq q)(hl:Ints w vl (intsOf l))(ok:ads x q l):Calls Tryz.prog 71 #[.agg cs.toArray,.agg cq.toArray,vl] w fun e w'=> ∃v,e= .returned v/\iq w w' v (eF x q l)/\O0 w w':=by
 have NJ:=zh ok;obtain⟨v1,v2,rfl,h1,h2⟩:=h;obtain⟨ao,cap,rfl,-,-⟩:=h1.shape;obtain⟨ku,cap2,rfl,-,-⟩:=h2.shape;obtain⟨v3,rfl,h3⟩:=hq;obtain⟨Ip,cap3,rfl,g3,g3'⟩:=h3.shape;obtain⟨apl,aoO,rfl,-,-⟩:=hl.shape;obtain⟨n1,hn1⟩:=ze x.packs.length;obtain⟨n2,hn2⟩:=ze x.cO.length;obtain⟨n3,hn3⟩:=ze q.roots.length;obtain⟨nl,hnl⟩:=ze ((intsOf l).length);have adt:l.length=nl:=by rw[<-hnl];unfold intsOf;simp
 rw[hn1]at h1;rw[hn3]at h3 g3;rw[hnl]at hl;rw[hn1,hn2,hn3,hnl];have R1:=zh h1;have R3:=zh h3;have N1:=zh hn1;have N3:=zh hn3;have NL:=zh adt;have HI:=zh hl;have hb1:n1<=1000:=by rw[<-hn1];exact ok.packs
 have hb3:n3<=1000:=by rw[<-hn3];exact ok.roots
 have hbl:nl<=1000:=by rw[<-adt];exact ok.len
 obtain⟨W0,hW0⟩:=zB ((w.alloc (.cells #[.slice ao n1 cap,.slice ku n2 cap2] 25)).alloc (.cells #[.slice Ip n3 cap3] 28));have ig:Hid (O0 w W0):=zAt;have bJ:Hid (∀W,O0 W0 W->W.cell? ⟨w.heap.size,0,none⟩=some (.slice ao n1 cap)/\W.cell? ⟨w.heap.size+1,0,none⟩=some (.slice Ip n3 cap3)):=fun W ho=>by
  have b0:W0.heap[w.heap.size]? =some (.cells #[.slice ao n1 cap,.slice ku n2 cap2] 25):=by rw[hW0];exact bC (qL w _) _
  have b1:W0.heap[w.heap.size+1]? =some (.cells #[.slice Ip n3 cap3] 28):=by have:=qL (w.alloc (.cells #[.slice ao n1 cap,.slice ku n2 cap2] 25)) (.cells #[.slice Ip n3 cap3] 28);rw[World.size_alloc,<-hW0]at this;exact this
  have c0:=ak b0 ho (fun f=>f);have c1:=ak b1 ho (fun f=>f);exact⟨by rw[aj c0];rfl,by rw[aj c1];rfl⟩
 clear h1 h2 h3 hl hn1 hn2 hn3 hnl adt ok;go_enter Tryz.func71,Tryz.ntmps71;go_wp2_with fail;rw[<-hW0];clear hW0;go_loopw [7,19] (fun vo vi wr=>Hid (O0 W0 wr)/\∃i:Nat,vi= .int .i64 i/\i<=n3/\Hid (iq W0 wr vo (fZ q i))) (fun _ v _=>n3-(RowKit.intOf v).toNat);case atStart=>exact⟨show Hid _ from Only.refl _ _,0,rfl,qE _,show Hid _ from iq.nil _ _⟩
 case round=>
  obtain⟨HO,i,rfl,hi,HV⟩:=hrel;obtain⟨k0,k2⟩:=bJ.out wr HO.out;by_cases ci:i<n3
  ·have h2:=R3.out;rw[<-N3.out]at h2;obtain⟨b,off,he,-,-⟩:=h2.at zAu;subst he;obtain⟨y,hx⟩:=zG q.roots i (by rw[N3.out];exact ci);obtain⟨cs,hl2,hr,hC⟩:=(h2.keep kX.keep (Kp.fU (ig.out.same HO.out))).get hx;have jg:=zw (i+1);obtain⟨c1,rfl,hS,-⟩:=hC;obtain⟨p1,p2,d1,d2,rfl,-,-,-⟩:=hS.cells;have HR:=zh (show wr.rangeAt b (off+i*4) [.string y.spec.name,.slice p1 y.spec.spans.length d1,.slice p2 y.spec.sets.length d2,.int .i64 y.line] from hr);have EZ:Hid (fZ q (i+1)=fZ q i++[⟨1,-1,i,y.line⟩]):=by rw[NY,qC,hx];exact rfl
   have hlen:(fZ q i).length<=1000:=by unfold fZ;simp;omega
   obtain⟨L,hL⟩:=ze (fZ q i);rw[hL]at HV hlen EZ;obtain⟨au,cu,hu,-,-⟩:∃au cu,u7= .slice au L.length cu/\L.length<=cu/\cu<=maxLen:=aH HV.out.1;subst hu;clear hr hx h2 hl2 hS hL;go_wp2_with (first| (refine wpList_load_mid rfl 110 (.tmp 22) rfl b (off+i*4) rfl _ _ HR.out Tryz.underlying110 rfl zk ?_)| (at_builtin;go_must (refine adr (cs:=bG.cells ⟨1,-1,i,y.line⟩) KC rfl (.tmp 24) (.tmp 29) rfl rfl rfl rfl (vM (cs:=bG.cells ⟨1,-1,i,y.line⟩) zBN) (bG.one _) (aB HV.out.1 (((Only.refl (fun _=>False) _).alloc _).alloc _) (fun _ _ f=>f)) zBB zBC ?_)));intro v' w2 s1 s2 s3;have MH:Hid (iq W0 w2 v' (fZ q (i+1))):=by rw[EZ.out];exact iq.app HV.out zAx s1 s3
   have jG:=zh (((HO.out.alloc _).alloc _).trans s2 fun k hk=>.inr (HV.out.2 k hk));obtain⟨g6,c6',rfl,-,-,-⟩:=s3;clear s1 s2 HV;go_wp2_with fail;go_roundw;case rel=>exact⟨jG,i+1,by first|rfl|go_num,by omega,MH⟩
   case measure=>simp[RowKit.intOf]<;>omega
  obtain rfl:n3=i:=by omega
  clear hi ci k0 k2;have Nk:Hid (iq W0 wr u7 (fZ q n3++(l.take 0).flatMap (jo x))):=by simpa[Hid]using HV.out
  obtain⟨au,cu,hu,-,-⟩:∃au cu,u7= .slice au (fZ q n3).length cu/\_/\_:=aH HV.out.1;clear hu;have bg:=HO;go_wp2_with fail;generalize wr=wa at*;go_loopw [7,34] (fun vo vi wr=>Hid (O0 W0 wr)/\∃i:Nat,vi= .int .i64 i/\i<=nl/\Hid (iq W0 wr vo (fZ q n3++(l.take i).flatMap (jo x)))) (fun _ v _=>nl-(RowKit.intOf v).toNat);case atStart=>exact⟨bg,0,rfl,qE _,Nk⟩
  case round=>
   clear Nk HV HO bg;obtain⟨HO,i,rfl,hi,HV⟩:=hrel;obtain⟨k0,k2⟩:=bJ.out wr HO.out;by_cases ci:i<nl
   ·obtain⟨p,hp⟩:=zG l i (by rw[NL.out];exact ci);have hpn:p<n1:=by have:=NJ.out.lt p (qT hp);rw[N1.out]at this;exact this
    obtain⟨bI,ajC,eI,hcell⟩:=(HI.out.aF (ig.out.same HO.out)).agG hp;subst eI;have jg:=zw (i+1);have hpx:x.packs[p]? =some (x.pack p):=by unfold aC.pack;rw[qC,qA (by rw[N1.out];exact hpn)];rfl
    obtain⟨pk,hpk⟩:=ze (x.pack p);rw[hpk]at hpx;have hmem:pk∈x.packs:=qT hpx;have h2:=R1.out;rw[<-N1.out]at h2;obtain⟨b,off,he,-,-⟩:=h2.at (by have:=N1.out;omega);subst he;obtain⟨csp,-,Ij,Je⟩:=h2.get hpx;obtain⟨q1,q2,q3,q4,q5,q6,z1,z2,z3,z4,z5,z6,rfl,-,-,-,-,-,b4,b5,-⟩:=Je.cells;obtain⟨nd,hnd⟩:=ze pk.deps.length;obtain⟨nc,hnc⟩:=ze pk.cons.length;have hdl:nd<=1000:=by rw[<-hnd];exact NJ.out.deps pk hmem
    have hcl:nc<=1000:=by rw[<-hnc];exact NJ.out.cons pk hmem
    rw[hnd]at Ij b4;rw[hnc]at Ij b5;have zD:=zh hnd;have HNc:=zh hnc;have HD:Hid (∀W,O0 W0 W->aJ 7 l7 B W (.slice q4 nd z4) pk.deps):=fun W hW=>b4.keep l7.keep (Kp.fU (ig.out.same hW));have Vy:Hid (∀W,O0 W0 W->aJ 7 oQ B W (.slice q5 nc z5) pk.cons):=fun W hW=>b5.keep oQ.keep (Kp.fU (ig.out.same hW));have XQ:Hid (∀W,O0 W0 W->W.cell? ⟨b,off+p*8+5,none⟩=some (.slice q4 nd z4)/\W.cell? ⟨b,off+p*8+6,none⟩=some (.slice q5 nc z5)):=fun W hW=>by have hb:b<w.heap.size:=World.block_lt_of_cell? _ _ (Ij 5 _ rfl);have hk:=(ig.out.same hW).block b hb (fun f=>f);exact⟨by rw[World.cell?_of_block (w:=w) hk];exact Ij 5 _ rfl,by rw[World.cell?_of_block (w:=w) hk];exact Ij 6 _ rfl⟩
    have jr:Hid (fZ q n3++(l.take (i+1)).flatMap (jo x)=(fZ q n3++(l.take i).flatMap (jo x))++kJ x p nd++mG x p nc):=by
     rw[Rh hp,List.flatMap_append];have:List.flatMap (jo x) [p]=kJ x p nd++mG x p nc:=by simp[jo,hpk,hnd,hnc]
     rw[this];simp[yW,Hid]
    have hlen0:(fZ q n3++(l.take i).flatMap (jo x)).length<=3000000:=by
     have h1:=Fh (x:=x) (l:=l.take i) fun p hp=>by
      have:=NJ.out.lt p (List.mem_of_mem_take hp);have hm:x.pack p∈x.packs:=by unfold aC.pack;rw[qC,qA this];exact qZ this
      exact Rf (NJ.out.deps _ hm) (NJ.out.cons _ hm)
     have h2:(l.take i).length<=1000:=zAZ;have h3:(fZ q n3).length=n3:=by unfold fZ;simp
     rw[qK,h3];have:=Nat.mul_le_mul_right 2000 h2;omega
    obtain⟨L0,hL0⟩:=ze (fZ q n3++(l.take i).flatMap (jo x));rw[hL0]at HV jr hlen0;have HPg:Hid (x.pack p=pk):=hpk;have hpd:=(XQ.out wr HO.out).1;have Nk:Hid (iq W0 wr u7 (L0++kJ x p 0)):=by simpa[kJ,Hid]using HV.out
    have bg:=HO;clear hp hpx hmem h2 Ij Je hnd hnc b4 b5 hpk hL0 HV;go_wp2_with fail;generalize wr=wb at*;go_loopw [7,45] (fun vo vi wr=>Hid (O0 W0 wr)/\∃k:Nat,vi= .int .i64 k/\k<=nd/\Hid (iq W0 wr vo (L0++kJ x p k))) (fun _ v _=>nd-(RowKit.intOf v).toNat);case atStart=>exact⟨bg,0,rfl,qE _,Nk⟩
    case round=>
     clear Nk HO bg;obtain⟨HO,k,rfl,hk,HV⟩:=hrel;by_cases ck:k<nd
     ·have hd2:=HD.out wr HO.out;rw[<-zD.out]at hd2;obtain⟨b',off',he',-,-⟩:=hd2.at (by have:=zD.out;omega);subst he';obtain⟨d,hdd⟩:=zG pk.deps k (by rw[zD.out];exact ck);obtain⟨cs7,-,Vs,hC7⟩:=hd2.get hdd;obtain⟨c1,c2,rfl,hS1,hS2,-⟩:=hC7;obtain⟨p1,p2,d1,d2,e1,-,-,-⟩:=hS1.cells;obtain⟨p3,p4,d3,d4,e2,-,-,-⟩:=hS2.cells;rw[e1,e2]at Vs;have NW:=zh (show wr.rangeAt b' (off'+k*7) [_,_,_,_,_,_,_] from Vs);have Vl:=zw (k+1);have EZ:Hid (L0++kJ x p (k+1)=(L0++kJ x p k)++[⟨2,p,k,d.line⟩]):=by rw[Q8,HPg.out,qC,hdd,<-yW];exact rfl
      have hlen:(L0++kJ x p k).length<=3100000:=by rw[qK];unfold kJ;simp;omega
      obtain⟨L,hL⟩:=ze (L0++kJ x p k);rw[hL]at HV hlen EZ;obtain⟨au,cu,hu,-,-⟩:∃au cu,u7= .slice au L.length cu/\L.length<=cu/\cu<=maxLen:=aH HV.out.1;subst hu;clear hd2 hdd Vs hS1 hS2 hL e1 e2;go_wp2_with (first| (refine wpList_load_mid rfl 132 (.tmp 48) rfl b' (off'+k*7) rfl _ _ NW.out Tryz.underlying132 rfl zk ?_)| (at_builtin;go_must (refine adr (cs:=bG.cells ⟨2,p,k,d.line⟩) KC rfl (.tmp 50) (.tmp 56) rfl rfl rfl rfl (vM (cs:=bG.cells ⟨2,p,k,d.line⟩) zBN) (bG.one _) (aB HV.out.1 (((Only.refl (fun _=>False) _).alloc _).alloc _) (fun _ _ f=>f)) zBB zBC ?_)));intro v' w2 s1 s2 s3;have MH:Hid (iq W0 w2 v' (L0++kJ x p (k+1))):=by rw[EZ.out];exact iq.app HV.out zAx s1 s3
      exact zBx
     obtain rfl:nd=k:=by omega
     clear hk ck;have aoP:=(XQ.out wr HO.out).2;obtain⟨k0',-⟩:=bJ.out wr HO.out;have hlen1:(L0++kJ x p nd).length<=3010000:=by rw[qK];unfold kJ;simp;omega
     obtain⟨L1,hL1⟩:=ze (L0++kJ x p nd);rw[hL1]at HV jr hlen1;have Nk:Hid (iq W0 wr u7 (L1++mG x p 0)):=by simpa[mG,Hid]using HV.out
     have bg:=HO;clear hL1 HV;go_wp2_with fail;generalize wr=wc at*;go_loopw [7,66] (fun vo vi wr=>Hid (O0 W0 wr)/\∃k:Nat,vi= .int .i64 k/\k<=nc/\Hid (iq W0 wr vo (L1++mG x p k))) (fun _ v _=>nc-(RowKit.intOf v).toNat);case atStart=>exact⟨bg,0,rfl,qE _,Nk⟩
     case round=>
      clear Nk HO bg;obtain⟨HO,k,rfl,hk,HV⟩:=hrel;by_cases ck:k<nc
      ·have hd2:=Vy.out wr HO.out;rw[<-HNc.out]at hd2;obtain⟨b',off',he',-,-⟩:=hd2.at (by have:=HNc.out;omega);subst he';obtain⟨d,hdd⟩:=zG pk.cons k (by rw[HNc.out];exact ck);obtain⟨cs7,-,Vs,hC7⟩:=hd2.get hdd;obtain⟨c1,c2,rfl,hS1,hS2,-⟩:=hC7;obtain⟨p1,p2,d1,d2,e1,-,-,-⟩:=hS1.cells;obtain⟨p3,p4,d3,d4,e2,-,-,-⟩:=hS2.cells;rw[e1,e2]at Vs;have NW:=zh (show wr.rangeAt b' (off'+k*7) [_,_,_,_,_,_,_] from Vs);have Vl:=zw (k+1);have EZ:Hid (L1++mG x p (k+1)=(L1++mG x p k)++[⟨3,p,k,d.line⟩]):=by rw[Q9,HPg.out,qC,hdd,<-yW];exact rfl
       have hlen:(L1++mG x p k).length<=3100000:=by rw[qK];unfold mG;simp;omega
       obtain⟨L,hL⟩:=ze (L1++mG x p k);rw[hL]at HV hlen EZ;obtain⟨au,cu,hu,-,-⟩:∃au cu,u7= .slice au L.length cu/\L.length<=cu/\cu<=maxLen:=aH HV.out.1;subst hu;clear hd2 hdd Vs hS1 hS2 hL e1 e2;go_wp2_with (first| (refine wpList_load_mid rfl 160 (.tmp 69) rfl b' (off'+k*7) rfl _ _ NW.out Tryz.underlying160 rfl zk ?_)| (at_builtin;go_must (refine adr (cs:=bG.cells ⟨3,p,k,d.line⟩) KC rfl (.tmp 71) (.tmp 77) rfl rfl rfl rfl (vM (cs:=bG.cells ⟨3,p,k,d.line⟩) zBN) (bG.one _) (aB HV.out.1 (((Only.refl (fun _=>False) _).alloc _).alloc _) (fun _ _ f=>f)) zBB zBC ?_)));intro v' w2 s1 s2 s3;have MH:Hid (iq W0 w2 v' (L1++mG x p (k+1))):=by rw[EZ.out];exact iq.app HV.out zAx s1 s3
       exact zBx
      obtain rfl:nc=k:=by omega
      have MH:Hid (iq W0 wr u7 (fZ q n3++(l.take (i+1)).flatMap (jo x))):=by rw[jr.out];exact HV.out
      go_wp2_with fail;go_roundw;case rel=>exact⟨HO,i+1,by first|rfl|go_num,by omega,MH⟩
      case measure=>simp[RowKit.intOf]<;>omega
   obtain rfl:nl=i:=by omega
   obtain⟨au,cu,hu,-,-⟩:∃au cu,u7= .slice au (fZ q n3++(l.take nl).flatMap (jo x)).length cu/\_/\_:=aH HV.out.1;clear hu;go_wp2_with fail;go_ret;refine⟨_,rfl,?_,ig.out.same HO.out⟩;have h1:=HV.out;rw[qI (yG NL.out)]at h1;have e1:eF x q l=fZ q n3++l.flatMap (jo x):=by unfold eF;rw[N3.out]
   rw[e1];exact⟨h1.1,fun k hk=>by have:=h1.2 k hk;have:=ig.out.size;omega⟩
end
theorem aJ.all{α:Type}{n:Nat}{C:Nat->World->List Value->α->Prop}{B:Nat}{w:World}{v:Value}{xs:List α}(h:aJ n C B w v xs):∀x∈xs,∃cs,C B w cs x:=by intro x hx;obtain⟨i,hi,rfl⟩:=List.getElem_of_mem hx;obtain⟨ao,cap,rfl,-,-⟩:=h.shape;obtain⟨b,off,-,-,-,hc⟩:=h.cells _ _ _ rfl zBB;obtain⟨cs,-,-,h3⟩:=hc i hi;exact⟨cs,h3⟩
section
variable {w w':World} {B:Nat}
theorem gG.lines{cs:List Value}{x:aC}(h:gG B w cs x):∀p∈x.packs,(∀d∈p.deps,aO d.line)/\∀d∈p.cons,aO d.line:=by
 obtain⟨v1,v2,-,h1,-⟩:=h;intro p hp;obtain⟨cs,hC⟩:=h1.all p hp;obtain⟨_,_,_,_,_,_,-,-,-,-,-,-,h4,h5,-⟩:=hC;refine⟨fun d hd=>?_,fun d hd=>?_⟩;·obtain⟨_,_,_,-,-,-,h⟩:=h4.all d hd;exact h
 obtain⟨_,_,_,-,-,-,h⟩:=h5.all d hd;exact h
theorem lI.lines{cs:List Value}{q:dG}(h:lI B w cs q):∀r∈q.roots,aO r.line:=by obtain⟨v1,-,h1⟩:=h;intro r hr;obtain⟨_,_,-,-,h⟩:=h1.all r hr;exact h
theorem getD_in{α:Type}[Inhabited α]{l:List α}{i:Nat}(h:i<l.length):l.getD i default∈l:=by rw[qC,qA h];exact qZ h
theorem aC.gX{x:aC}{p:Nat}(h:p<x.packs.length):x.pack p∈x.packs:=getD_in h
theorem NZ{cs cq:List Value}{x:aC}{q:dG}{l:List Nat}(h:gG B w cs x)(hq:lI B w cq q)(ok:ads x q l):∀r∈eF x q l,(0<=r.kind/\r.kind<=255)/\aO r.pack/\aO r.idx/\aO r.line:=by
 have h1:=ok.roots;have h2:=ok.packs;have small:∀k:Nat,k<=100000->aO (k:Int):=fun k hk=>⟨by omega,by omega⟩;intro r hr;unfold eF at hr;rcases qW.1 hr with hr|hr;·obtain⟨i,hi,rfl⟩:=yD.1 hr;have hi2:=yI.1 hi;exact⟨⟨by simp,by simp⟩,⟨by simp,by simp⟩,small i zBB,hq.lines _ (getD_in hi2)⟩
 obtain⟨p,hp,hr⟩:=List.mem_flatMap.1 hr;have hpl:=ok.lt p hp;have hm:=aC.gX hpl;have h3:=ok.deps _ hm;have h4:=ok.cons _ hm;rcases qW.1 hr with hr|hr;·obtain⟨i,hi,rfl⟩:=yD.1 hr;have hi2:=yI.1 hi;exact⟨⟨by simp,by simp⟩,small p zAB,small i zBB,(h.lines _ hm).1 _ (getD_in hi2)⟩
 obtain⟨i,hi,rfl⟩:=yD.1 hr;have hi2:=yI.1 hi;exact⟨⟨by simp,by simp⟩,small p zAB,small i zBB,(h.lines _ hm).2 _ (getD_in hi2)⟩
def N7(w:World)(x:aC)(q:dG)(lim:Nat)(e:Ending)(w':World):Prop:=
 ∃c bt bb gt gb G Bs,e= .returned (.pointer (some ⟨c,0,none⟩))/\kH w' gt gb c bt bb G ⟨[],lim,0,false⟩ ⟨[],false,false⟩/\gG Bs w' [G.x1,G.x2] x/\lI Bs w' [G.q] q/\Ints w' G.l (intsOf (x.closure q.names))/\
  aJ 4 rO Bs w' G.r (eF x q (x.closure q.names))/\(∀k,Mine gt k\/Mine gb k->Bs<=k)/\(∀k,Value.blk G.l=some k->k<Bs)/\w.heap.size<=Bs/\Bs<=c/\Bs<=w'.heap.size/\O0 w w'
theorem N7.of{w w5 w6 w7:World}{x:aC}{q:dG}{lim bt bb:Nat}{x1 x2 vq vl vr:Value}{gt gb:Tag}{Vt:Vh}{Vb:Nu}(O5:O0 w w5)(hx:gG w5.heap.size w5 [x1,x2] x)(hq:lI w5.heap.size w5 [vq] q)(hl:Ints w5 vl (intsOf (x.closure q.names)))(hlb:∀k,Value.blk vl=some k->k<w5.heap.size)(hr:aJ 4 rO w5.heap.size w5 vr (eF x q (x.closure q.names)))(ht:TabAt w6 gt bt Vt ⟨[],lim,0,false⟩)(ht5:∀k,Mine gt k->w5.heap.size<=k)(O6:O0 w5 w6)(hb:iE w7 gb bb Vb ⟨[],false,false⟩)(hb6:∀k,Mine gb k->w6.heap.size<=k)(O7:O0 w6 w7):N7 w x q lim (.returned (.pointer (some ⟨w7.heap.size,0,none⟩))) (w7.alloc (.cells #[x1,x2,vq,vl,vr,.pointer (some ⟨bt,0,none⟩),.pointer (some ⟨bb,0,none⟩)] 141)):=by
 have o8:O0 w7 (w7.alloc (.cells #[x1,x2,vq,vl,vr,.pointer (some ⟨bt,0,none⟩),.pointer (some ⟨bb,0,none⟩)] 141)):=zr.alloc _;have o58:=(O6.same O7).same o8;have h65:=O6.size;have h76:=O7.size;refine⟨_,bt,bb,gt,gb,⟨x1,x2,vq,vl,vr⟩,w5.heap.size,rfl,⟨qL w7 _,?_,?_,⟨_,(ht.aF O7).aF o8⟩,⟨_,hb.aF o8⟩,?_⟩,gG.keep hx (Kp.fU o58),lI.keep hq (Kp.fU o58),hl.aF o58,hr.keep rO.keep (Kp.fU o58),?_,hlb,O5.size,by omega,o58.size,O5.same o58⟩;·rw[ht.fresh _ zBB]
 ·rw[hb.fresh _ zBB]
 ·intro k h1 h2;have:=hb6 k h2;unfold Mine at h1;exact h1 (ht.fresh k this)
 rintro k (h|h);·exact ht5 k h
 have:=hb6 k h;omega
theorem Jj{x:aC}{q:dG}(hs:sQ x)(hq:q.roots.length<=40):ads x q (x.closure q.names):=
 ⟨by omega,by have:=hs.packs;omega,fun p hp=>by have:=(hs.all p hp).deps;omega,fun p hp=>by have:=(hs.all p hp).cons;omega,by have:=x.nM q.names;have:=hs.packs;omega,fun p hp=>(aC.iJ.1 hp).lt⟩
theorem adv{cs cq:List Value}{x:aC}{q:dG}(h:gG B w cs x)(hq:lI B w cq q)(hBw:B<=w.heap.size)(hs:sQ x)(hql:q.roots.length<=40)(n:Int)(hn:aO n)(lim:Nat)(hlim:min (max n 0) 65536=(lim:Int)):Calls Tryz.prog 21 #[.agg cs.toArray,.agg cq.toArray,.int .i64 n] w (N7 w x q lim):=by
 have HH:=zh h;have HQ:=zh hq;have HSm:=zh hs;obtain⟨v1,v2,rfl,h1,h2⟩:=h;obtain⟨ao,cap,rfl,-,-⟩:=h1.shape;obtain⟨ku,cap2,rfl,-,-⟩:=h2.shape;obtain⟨v3,rfl,h3⟩:=hq;obtain⟨Ip,cap3,rfl,-,-⟩:=h3.shape;obtain⟨n1,hn1⟩:=ze x.packs.length;obtain⟨n2,hn2⟩:=ze x.cO.length;obtain⟨n3,hn3⟩:=ze q.roots.length;rw[hn1,hn2]at HH;rw[hn3]at HQ;rw[hn1,hn2,hn3];have HL:=zh hlim;have HQl:=zh hql;have HN:=zh hn;obtain⟨W0,hW0⟩:=zB ((w.alloc (.cells #[.slice ao n1 cap,.slice ku n2 cap2] 25)).alloc (.cells #[.slice Ip n3 cap3] 28));have ig:Hid (O0 w W0):=zAt;have bJ:Hid (∀W,O0 W0 W->W.cell? ⟨w.heap.size,0,none⟩=some (.slice ao n1 cap)/\W.cell? ⟨w.heap.size,1,none⟩=some (.slice ku n2 cap2)/\W.cell? ⟨w.heap.size+1,0,none⟩=some (.slice Ip n3 cap3)):=fun W ho=>by
  have b0:W0.heap[w.heap.size]? =some (.cells #[.slice ao n1 cap,.slice ku n2 cap2] 25):=by rw[hW0];exact bC (qL w _) _
  have b1:W0.heap[w.heap.size+1]? =some (.cells #[.slice Ip n3 cap3] 28):=by rw[hW0];exact alloc_at zAE
  have c0:=ak b0 ho (fun f=>f);have c1:=ak b1 ho (fun f=>f);exact⟨by rw[aj c0];rfl,by rw[aj c0];rfl,by rw[aj c1];rfl⟩
 have HKR:Hid (∀W,O0 W0 W->gG B W [.slice ao n1 cap,.slice ku n2 cap2] x):=fun W hW=>gG.keep HH.out (Kp.fU (ig.out.same hW):Kp B w W);have HKQ:Hid (∀W,O0 W0 W->lI B W [.slice Ip n3 cap3] q):=fun W hW=>lI.keep HQ.out (Kp.fU (ig.out.same hW):Kp B w W);have HBw:=zh hBw;obtain⟨k0,k1,k2⟩:=bJ.out W0 zr;clear h1 h2 h3 hn1 hn2 hn3 hs hlim hql hn hBw;go_enter Tryz.func21,Tryz.ntmps21;go_wp2_with fail;rw[<-hW0];clear hW0;refine(Dx (HKR.out W0 zr) (HKQ.out W0 zr) HSm.out (by have:=HQl.out;omega)).mono ?_;rintro e w3 ⟨vl,rfl,hrow,-,O3⟩;have hI:Ints w3 vl (intsOf (x.closure q.names)):=KA hrow fun i hi=>by have:=(aC.iJ.1 hi).lt;have:=HSm.out.packs;omega
 have Jk:Hid (∀k,Value.blk vl=some k->k<w3.heap.size):=fun k hk=>dn hrow (by
  obtain⟨a2,c2,rfl,-,-⟩:=aH hrow
  cases a2 with
  |none=>cases hk
  |some ad=>exact hk)
 clear hrow;have HI:=zh hI;have uP:=zh O3;obtain⟨al,cl,rfl,-,-⟩:=hI.shape;obtain⟨nl,hnl⟩:=ze ((intsOf (x.closure q.names)).length);rw[hnl]at HI Jk⊢;clear hI O3 hnl k0 k1 k2;have HK:Hid (∀W,O0 w3 W->W.cell? ⟨w.heap.size,0,none⟩=some (.slice ao n1 cap)/\W.cell? ⟨w.heap.size,1,none⟩=some (.slice ku n2 cap2)/\W.cell? ⟨w.heap.size+1,0,none⟩=some (.slice Ip n3 cap3)):=fun W hW=>bJ.out W (uP.out.same hW);have HRu:Hid (∀W,O0 w3 W->Calls Tryz.prog 71 #[.agg #[.slice ao n1 cap,.slice ku n2 cap2],.agg #[.slice Ip n3 cap3],.slice al nl cl] W fun e w'=> ∃v,e= .returned v/\iq W w' v (eF x q (x.closure q.names))/\O0 W w'):=fun W hW=>
  Vx (HKR.out W (uP.out.same hW)) (HKQ.out W (uP.out.same hW)) (HI.out.aF hW) (Jj HSm.out HQl.out)
 have HAt:Hid (∀W,Calls Tryz.prog 72 #[.int .i64 n] W (EX W lim)):=fun W=>Kr W n HN.out lim HL.out;have HCf:Hid (∀W,Calls Tryz.prog 73 #[] W (EU W)):=fun W=>QH W;have HFin:Hid (∀w5 w6 w7 v bt bb gt gb Vt Vb,O0 w3 w5->iq w3 w5 v (eF x q (x.closure q.names))->TabAt w6 gt bt Vt ⟨[],lim,0,false⟩->(∀k,Mine gt k->w5.heap.size<=k)->O0 w5 w6->iE w7 gb bb Vb ⟨[],false,false⟩->(∀k,Mine gb k->w6.heap.size<=k)->O0 w6 w7->
   N7 w x q lim (.returned (.pointer (some ⟨w7.heap.size,0,none⟩))) (w7.alloc (.cells #[.slice ao n1 cap,.slice ku n2 cap2,.slice Ip n3 cap3,.slice al nl cl,v,.pointer (some ⟨bt,0,none⟩),.pointer (some ⟨bb,0,none⟩)] 141))):=by
  intro w5 w6 w7 v bt bb gt gb Vt Vb o5 N8 ht ht5 o6 hb hb6 o7
  have O5:=(ig.out.same uP.out).same o5
  have hBs:B<=w5.heap.size:=qR HBw.out O5.size
  have ok:=Jj HSm.out HQl.out
  have hI5:=HI.out.aF o5
  refine N7.of O5 (gG.lift (HKR.out w5 (uP.out.same o5)) hBs (qH _)) (lI.lift (HKQ.out w5 (uP.out.same o5)) hBs (qH _)) hI5 (fun k hk=>?_) (N8.read (NZ (HKR.out w5 (uP.out.same o5)) (HKQ.out w5 (uP.out.same o5)) ok)) ht ht5 o6 hb hb6 o7
  have h1:=Jk.out k hk
  have h2:=o5.size
  omega
 have hS0:=HK.out w3.drew (zr.drew);clear bJ HKR HKQ HI HH HQ;go_wp2_with fail;refine aT (n:=13) (E:=fun _=>false) (S:=fun W=>W.cell? ⟨w.heap.size,0,none⟩=some (.slice ao n1 cap)/\W.cell? ⟨w.heap.size,1,none⟩=some (.slice ku n2 cap2)/\W.cell? ⟨w.heap.size+1,0,none⟩=some (.slice Ip n3 cap3)) zk rfl hS0 (fun hHeld=>?_);refine tK 0 ?_;refine tK 1 ?_;refine tW 2 ?_;refine tK 3 ?_;refine tK 4 ?_;refine tW 5 ?_;refine tW 7 ?_;refine tO 6 fun K hK=>?_;(go_simp;refine(HRu.out _ (by exact zAA)).mono ?_;rintro e w5 ⟨v5,rfl,N8,o5⟩;have oA:O0 w3 w5:=Only.same zBA o5;have ajR:iq w3 w5 v5 (eF x q (x.closure q.names)):=⟨N8.1,fun k hk=>by have h1:=N8.2 k hk;simpa using h1⟩;obtain⟨a5,c5,rfl,-,-⟩:=aH N8.1;try go_wp2_with fail);refine hK.out _ _ ?_ (fun hHeld=>?_);·(try dsimp only)<;>(exact HK.out _ oA)
 clear hK K;try simp only[Act.put,dL,dM,dN,dO,dP]
 refine tO 8 fun K hK=>?_;(go_simp;refine(HAt.out _).mono ?_;rintro e w6 ⟨bt,gt,Vt,rfl,htab,htn,o6⟩;have oB:=oA.same o6;try go_wp2_with fail);refine hK.out _ _ ?_ (fun hHeld=>?_);·(try dsimp only)<;>(exact HK.out _ oB)
 clear hK K;try simp only[Act.put,dL,dQ,dM,dN,dO,dP]
 refine tO 9 fun K hK=>?_;(go_simp;refine(HCf.out _).mono ?_;rintro e w7 ⟨bb,gb,Vb,rfl,ajS,hbn,o7⟩;have oC:=oB.same o7;try go_wp2_with fail);refine hK.out _ _ ?_ (fun hHeld=>?_);·(try dsimp only)<;>(exact HK.out _ oC)
 clear hK K;try simp only[Act.put,dL,dQ,dM,dN,dO,dP]
 refine tW 10 ?_;refine tO 11 fun K hK=>?_;go_simp;refine hK.out _ _ ?_ (fun hHeld=>?_);·(try dsimp only)<;>(exact HK.out _ (by exact oC.alloc _))
 clear hK K;try simp only[Act.put,dL,dQ,dM,dN,dO,dP]
 refine tW 12 ?_;refine aS zk ?_ _;have bH:=zh (HFin.out w5 w6 w7 _ bt bb gt gb Vt Vb oA ajR htab htn o6 ajS hbn o7);go_wp2_with fail;go_ret;exact bH.out
end
structure CD where
 rel:Int
 vals:List Int
structure GD where
 x:aC
 q:dG
 c:List CD
 off:List Bool
instance:Inhabited CD:=⟨⟨-1,[]⟩⟩
def Ri(_:Nat)(_:World)(cs:List Value)(x:Int):Prop:=cs=[.int .i64 x]/\aO x
def Fj(_:Nat)(_:World)(cs:List Value)(x:Bool):Prop:=cs=[.bool x]
def CC(B:Nat)(w:World)(cs:List Value)(x:CD):Prop:= ∃v1,cs=[.int .i64 x.rel,v1]/\aO x.rel/\aJ 1 Ri B w v1 x.vals
def GC(B:Nat)(w:World)(cs:List Value)(g:GD):Prop:= ∃v1 v2 v3 v4 v5,cs=[v1,v2,v3,v4,v5]/\aJ 8 fF B w v1 g.x.packs/\aJ 3 jX B w v2 g.x.cO/\aJ 4 kX B w v3 g.q.roots/\aJ 2 CC B w v4 g.c/\aJ 1 Fj B w v5 g.off
theorem Ri.keep:Keeps Ri:=fun _ _ _ _ _ h _=>h
theorem Fj.keep:Keeps Fj:=fun _ _ _ _ _ h _=>h
theorem CC.keep:Keeps CC:=fun _ _ _ _ _ ⟨v1,h,a,b⟩ k=>⟨v1,h,a,b.keep Ri.keep k⟩
theorem GC.keep:Keeps GC:=fun _ _ _ _ _ ⟨v1,v2,v3,v4,v5,h,a,b,c,d,e⟩ k=>⟨v1,v2,v3,v4,v5,h,a.keep fF.keep k,b.keep jX.keep k,c.keep kX.keep k,d.keep CC.keep k,e.keep Fj.keep k⟩
theorem Ri.lift:Lifts Ri:=fun _ _ _ _ _ h _ _=>h
theorem Fj.lift:Lifts Fj:=fun _ _ _ _ _ h _ _=>h
theorem CC.lift:Lifts CC:=fun _ _ _ _ _ ⟨v1,h,a,b⟩ k l=>⟨v1,h,a,b.lift Ri.lift k l⟩
theorem GC.lift:Lifts GC:=fun _ _ _ _ _ ⟨v1,v2,v3,v4,v5,h,a,b,c,d,e⟩ k l=>⟨v1,v2,v3,v4,v5,h,a.lift fF.lift k l,b.lift jX.lift k l,c.lift kX.lift k l,d.lift CC.lift k l,e.lift Fj.lift k l⟩
theorem GC.yZ{B:Nat}{w:World}{v1 v2 v3 v4 v5:Value}{g:GD}(h:GC B w [v1,v2,v3,v4,v5] g):gG B w [v1,v2] g.x:=by obtain⟨u1,u2,u3,u4,u5,e,a,b,c,d,f⟩:=h;simp only[List.cons.injEq,and_true]at e;obtain⟨rfl,rfl,rfl,rfl,rfl⟩:=e;exact⟨_,_,rfl,a,b⟩
theorem GC.VA{B:Nat}{w:World}{v1 v2 v3 v4 v5:Value}{g:GD}(h:GC B w [v1,v2,v3,v4,v5] g):lI B w [v3] g.q:=by obtain⟨u1,u2,u3,u4,u5,e,a,b,c,d,f⟩:=h;simp only[List.cons.injEq,and_true]at e;obtain⟨rfl,rfl,rfl,rfl,rfl⟩:=e;exact⟨_,rfl,c⟩
def U8C(_:Nat)(_:World)(cs:List Value)(x:Nat):Prop:=cs=[.int .u8 (x:Int)]/\x<256
theorem U8C.keep:Keeps U8C:=fun _ _ _ _ _ h _=>h
theorem U8C.lift:Lifts U8C:=fun _ _ _ _ _ h _ _=>h
def Rj(c:List CD)(p:Int):Bool:=decide (0<=p)&&decide (p<c.length)&&decide (0<=(c.getD p.toNat default).rel)
end Go.Proofs.YtdmmebjjojimiaaGreatDoor
