/- Ch6 Ch7 Ch8, in one text.; A graph of choices: plain, and in memory (for reading); what raw numbers choose. -/
import Derived.Test.YtdmmebjjojimiaaGreatDoorG11
import Derived.Test.YtdmmebjjojimiaaGreatDoorG07
set_option maxRecDepth 100000
set_option maxHeartbeats 8000000
set_option linter.all false
namespace Go.Proofs
theorem zAx{p:Prop}(h:p:=by rw[List.length_take];omega):p:=h
theorem zBI{p:Prop}(h:p:=by rw[qK];unfold jL;simp;omega):p:=h
theorem zBV{p:Prop}(h:p:=by have:=HO.out.size;simp;omega):p:=h
theorem zCi{p:Prop}(h:p:=by
 have fK:=zh (((HO.out.alloc _).alloc _).trans s2 fun k hk=>.inr (HV.out.2 k hk))
 obtain⟨g6,c6',rfl,-,-,-⟩:=s3
 clear s1 s2 HV
 go_wp2_with fail
 go_roundw
 case rel=>exact⟨fK,k+1,by first|rfl|go_num,by omega,Ae⟩
 case measure=>simp[RowKit.intOf]<;>omega):p:=h
theorem zC7{p:Prop}(h:p:=by
 rw[List.flatMap_cons]
 cases i with
 |zero=>rw[Nat.zero_mul,Nat.zero_add,yM (by rw[hx];exact hj)];rfl
 |succ i=>
  rw[yN (by rw[hx];omega),hx,show(i+1)*4+j-4=i*4+j by omega,ih zBE]
  simp):p:=h
theorem zDC{p:Prop}(h:p:=by
 obtain⟨g6,c6',rfl,-,-,-⟩:=s3
 clear s1 s2 HV
 go_wp2_with fail
 go_roundw
 case rel=>exact⟨fK,i+1,by first|rfl|go_num,by omega,Ae⟩
 case measure=>simp[RowKit.intOf]<;>omega):p:=h
theorem zDH{p:Prop}(h:p:=by
 have:=mX.out.lt p (List.mem_of_mem_take hp)
 have hm:x.pack p∈x.packs:=by unfold aH.pack;rw[qC,qA this];exact qZ this
 exact FD (mX.out.deps _ hm) (mX.out.cons _ hm)):p:=h
end Go.Proofs
namespace Go.Proofs.YtdmmebjjojimiaaGreatDoor
open Go.RowKit
structure dH where
 kind:Int
 pack:Int
 idx:Int
 line:Int
deriving DecidableEq
instance:Inhabited dH:=⟨⟨0,0,0,0⟩⟩
def dH.cells(r:dH):List Value:=[.int .u8 r.kind,.int .i64 r.pack,.int .i64 r.idx,.int .i64 r.line]
def uP(_:Nat)(_:World)(cs:List Value)(r:dH):Prop:=cs=r.cells/\(0<=r.kind/\r.kind<=255)/\bU r.pack/\bU r.idx/\bU r.line
theorem uP.keep:Keeps uP:=fun _ _ _ _ _ h _=>h
theorem uP.lift:Lifts uP:=fun _ _ _ _ _ h _ _=>h
theorem dH.one(r:dH):∀u∈r.cells,u.oneCell'=true:=by intro u hu;simp[dH.cells]at hu;rcases hu with rfl|rfl|rfl|rfl<;>rfl
def sH(l:List dH):List Value:=l.flatMap dH.cells
theorem P6(a b:List dH):sH (a++b)=sH a++sH b:=List.flatMap_append
theorem P7(l:List dH){i j:Nat}(hi:i<l.length)(hj:j<4):(sH l)[i*4+j]? =(l[i]'hi).cells[j]? :=by
 unfold sH;induction l generalizing i with
 |nil=>simp at hi
 |cons x r ih=>have hx:x.cells.length=4:=rfl;exact zC7
def eU(q:fV)(k:Nat):List dH:=(List.range k).map fun i:Nat=>⟨1,-1,i,(q.roots.getD i default).line⟩
def jL(x:aH)(p k:Nat):List dH:=(List.range k).map fun i:Nat=>⟨2,p,i,((x.pack p).deps.getD i default).line⟩
def lN(x:aH)(p k:Nat):List dH:=(List.range k).map fun i:Nat=>⟨3,p,i,((x.pack p).cons.getD i default).line⟩
def jr(x:aH)(p:Nat):List dH:=jL x p (x.pack p).deps.length++lN x p (x.pack p).cons.length
def dV(x:aH)(q:fV)(l:List Nat):List dH:=eU q q.roots.length++l.flatMap (jr x)
theorem JC(q:fV)(k:Nat):eU q (k+1)=eU q k++[⟨1,-1,k,(q.roots.getD k default).line⟩]:=by unfold eU;rw[List.range_succ,List.map_append];rfl
theorem LK(x:aH)(p k:Nat):jL x p (k+1)=jL x p k++[⟨2,p,k,((x.pack p).deps.getD k default).line⟩]:=by unfold jL;rw[List.range_succ,List.map_append];rfl
theorem LM(x:aH)(p k:Nat):lN x p (k+1)=lN x p k++[⟨3,p,k,((x.pack p).cons.getD k default).line⟩]:=by unfold lN;rw[List.range_succ,List.map_append];rfl
section
variable {w w':World} {B:Nat}
theorem FC:BM Tryz.prog 62 158 4 32:=BM.mk' (z:=.agg #[.int .u8 0,.int .i64 0,.int .i64 0,.int .i64 0]) Tryz.underlying62 zk rfl zAG
theorem ZN{P:Program}{ops:Array Oper}{rest:List Oper}{o:Oper}{a:Act}{Q:Exit->Act->World->Prop}{t e:TypeId}{size bytes:Nat}(T:BM P t e size bytes)
  (hgd:o.guard=none) (s x:Operand)
  (ho:o.op= .call {callee:=.builtin .append,args:= #[s,x],argTypes:= #[t,t]})
  {v:Value} {n:Nat} {xs cs:List Value} {g:Nat} (hs:a.eval s=v) (hx:a.eval x= .slice (some ⟨g,0,none⟩) 1 1) (hl:cs.length=size) (hc:w.rangeAt g 0 cs) (hu:∀u∈cs,u.oneCell'=true) (hown:w.ownsRow 0 e size v n xs)
  (h63:n+1<=1099511627776) (hbytes:bytes<=128)
  (h:∀v' w',w'.ownsRow 0 e size v' (n+1) (xs++cs)->Only (fun k=>v.ownBlock=some k) w w'->BN w v v' (n+1)->wpList P ops Q rest (a.put o.dst v') w'):
  wpList P ops Q (o::rest) a w:=by
 refine wpA T hgd s x ho (news:=cs) hs hown hx (by rw[hl,Nat.one_mul]) ?_ hu ?_ ?_ ?_
 ·intro j x hj
  have:=hc j x hj
  rw[Go.WideShapes.add_plain]
  exact this
 ·unfold maxLen;omega
 ·have:(n+1)*bytes<=1099511627776*128:=Nat.mul_le_mul h63 hbytes
  omega
 ·intro v' w' r1 r2 r3 r4
  refine h v' w' r1 ((Only.refl _ w).grown r2 fun k hk=>.inl hk) ?_
  exact zFP
theorem lQ{w:World}{cs:List Value}{t:TypeId}{n:Nat}(h:n=w.heap.size):(w.alloc (.cells cs.toArray t)).rangeAt n 0 cs:=by subst h;intro j u hu;have hb:(w.alloc (.cells cs.toArray t)).heap[w.heap.size]? =some (.cells cs.toArray t):=qL w _;rw[Nat.zero_add,ah hb];simpa using hu
def jk(w0 w:World)(v:Value)(l:List dH):Prop:=w.ownsRow 0 158 4 v l.length (sH l)/\∀k,v.ownBlock=some k->w0.heap.size<=k
theorem jk.nil(w0 w:World):jk w0 w bP []:=⟨World.ownsRow_nil _ _ _ _,fun k hk=>by cases hk⟩
theorem jk.app{w0 w1 w2:World}{v v':Value}{l:List dH}{r:dH}(h:jk w0 w v l)(hs:w0.heap.size<=w1.heap.size)(s1:w2.ownsRow 0 158 4 v' (l.length+1) (sH l++r.cells))(s3:BN w1 v v' (l.length+1)):jk w0 w2 v' (l++[r]):=by
 refine⟨?_,fun k hk=>?_⟩
 ·rw[P6,qK];have:sH [r]=r.cells:=by simp[sH]
  rw[this];exact s1
 obtain⟨g,cap,rfl,-,-,hg⟩:=s3;simp[Value.ownBlock]at hk;subst hk;rcases hg with hg|hg;·exact h.2 _ hg
 omega
theorem jk.read{w0:World}{v:Value}{l:List dH}(h:jk w0 w v l)(hr:∀r∈l,(0<=r.kind/\r.kind<=255)/\bU r.pack/\bU r.idx/\bU r.line):aQ 4 uP w.heap.size w v l:=
 aQ.fH h.1 fun i hi=>⟨(l[i]'hi).cells,rfl,fun j u hu=>by
  have hj:=(qJ.1 hu).1
  rw[P7 l hi hj];exact hu,rfl,hr _ (qZ hi)⟩
end
theorem FD{x:aH}{p:Nat}(h1:(x.pack p).deps.length<=1000)(h2:(x.pack p).cons.length<=1000):(jr x p).length<=2000:=by unfold jr jL lN;simp;omega
theorem AO{x:aH}:∀{l:List Nat},(∀p∈l,(jr x p).length<=2000)->(l.flatMap (jr x)).length<=l.length*2000
 | [],_=>by simp
 |a::r,h=>by
  have h1:=AO (l:=r) fun p hp=>h p (yE _ hp)
  have h2:=h a qQ
  rw[List.flatMap_cons,qK,qN,Nat.add_mul];omega
theorem LP{l:List Nat}{i p:Nat}(h:l[i]? =some p):l.take (i+1)=l.take i++[p]:=by obtain⟨hlt,rfl⟩:=qJ.1 h;rw[yL hlt]
structure ZO (x:aH) (q:fV) (l:List Nat):Prop where
 roots:q.roots.length<=1000
 packs:x.packs.length<=1000
 deps:∀p∈x.packs,p.deps.length<=1000
 cons:∀p∈x.packs,p.cons.length<=1000
 len:l.length<=1000
 lt:∀p∈l,p<x.packs.length
section
variable {w w':World} {B:Nat}
theorem Ints.ab8{ao:Option Addr}{n cap:Nat}{l:List Nat}(h:Ints w (.slice ao n cap) (intsOf l)){i p:Nat}(hp:l[i]? =some p):∃b off,ao=some ⟨b,off,none⟩/\w.cell? ⟨b,off+i,none⟩=some (.int .i64 (p:Int)):=by
 obtain⟨hlt,rfl⟩:=qJ.1 hp;have hl:i<(intsOf l).length:=by unfold intsOf;simpa using hlt
 obtain⟨b,off,e,_,hc⟩:=h.cells _ _ _ rfl zBk;refine⟨b,off,e,?_⟩;rw[hc i hl];unfold intsOf;simp[List.getD,hlt]
theorem ZP{cs cq:List Value}{x:aH}{q:fV}{vl:Value}{l:List Nat}(h:jl B w cs x)(hq:mV B w cq q)(hl:Ints w vl (intsOf l))(ok:ZO x q l):Calls Tryz.prog 71 #[.agg cs.toArray,.agg cq.toArray,vl] w fun e w'=> ∃v,e= .returned v/\jk w w' v (dV x q l)/\O0 w w':=by
 have mX:=zh ok;obtain⟨v1,v2,rfl,h1,h2⟩:=h;obtain⟨ao,cap,rfl,-,-⟩:=h1.shape;obtain⟨oJ,cap2,rfl,-,-⟩:=h2.shape;obtain⟨v3,rfl,h3⟩:=hq;obtain⟨P5,cap3,rfl,g3,g3'⟩:=h3.shape;obtain⟨apl,avi,rfl,-,-⟩:=hl.shape;obtain⟨n1,hn1⟩:=ze x.packs.length;obtain⟨n2,hn2⟩:=ze x.iH.length;obtain⟨n3,hn3⟩:=ze q.roots.length;obtain⟨nl,hnl⟩:=ze ((intsOf l).length);have ahD:l.length=nl:=by rw[<-hnl];unfold intsOf;simp
 rw[hn1]at h1;rw[hn3]at h3 g3;rw[hnl]at hl;rw[hn1,hn2,hn3,hnl];have R1:=zh h1;have R3:=zh h3;have N1:=zh hn1;have N3:=zh hn3;have NL:=zh ahD;have HI:=zh hl;have hb1:n1<=1000:=by rw[<-hn1];exact ok.packs
 have hb3:n3<=1000:=by rw[<-hn3];exact ok.roots
 have hbl:nl<=1000:=by rw[<-ahD];exact ok.len
 obtain⟨W0,hW0⟩:=zB ((w.alloc (.cells #[.slice ao n1 cap,.slice oJ n2 cap2] 25)).alloc (.cells #[.slice P5 n3 cap3] 28));have bW:Hid (O0 w W0):=zBQ;have aG:Hid (∀W,O0 W0 W->W.cell? ⟨w.heap.size,0,none⟩=some (.slice ao n1 cap)/\W.cell? ⟨w.heap.size+1,0,none⟩=some (.slice P5 n3 cap3)):=fun W ho=>by
  have b0:W0.heap[w.heap.size]? =some (.cells #[.slice ao n1 cap,.slice oJ n2 cap2] 25):=by rw[hW0];exact dw (qL w _) _
  have b1:W0.heap[w.heap.size+1]? =some (.cells #[.slice P5 n3 cap3] 28):=by have:=qL (w.alloc (.cells #[.slice ao n1 cap,.slice oJ n2 cap2] 25)) (.cells #[.slice P5 n3 cap3] 28);rw[World.size_alloc,<-hW0]at this;exact this
  have c0:=aF b0 ho (fun f=>f);have c1:=aF b1 ho (fun f=>f);exact⟨by rw[ah c0];rfl,by rw[ah c1];rfl⟩
 clear h1 h2 h3 hl hn1 hn2 hn3 hnl ahD ok;go_enter Tryz.func71,Tryz.ntmps71;go_wp2_with fail;rw[<-hW0];clear hW0;go_loopw [7,19] (fun vo vi wr=>Hid (O0 W0 wr)/\∃i:Nat,vi= .int .i64 i/\i<=n3/\Hid (jk W0 wr vo (eU q i))) (fun _ v _=>n3-(RowKit.intOf v).toNat);case atStart=>exact⟨show Hid _ from Only.refl _ _,0,rfl,qE _,show Hid _ from jk.nil _ _⟩
 case round=>
  obtain⟨HO,i,rfl,hi,HV⟩:=hrel;obtain⟨k0,k2⟩:=aG.out wr HO.out;by_cases ci:i<n3
  ·have h2:=R3.out;rw[<-N3.out]at h2;obtain⟨b,off,he,-,-⟩:=h2.at zBT;subst he;obtain⟨y,hx⟩:=zG q.roots i (by rw[N3.out];exact ci);obtain⟨cs,hl2,hr,hC⟩:=(h2.keep lY.keep (Kp.iI (bW.out.same HO.out))).get hx;have jh:=zw (i+1);obtain⟨c1,rfl,hS,-⟩:=hC;obtain⟨p1,p2,d1,d2,rfl,-,-,-⟩:=hS.cells;have HR:=zh (show wr.rangeAt b (off+i*4) [.string y.spec.name,.slice p1 y.spec.spans.length d1,.slice p2 y.spec.sets.length d2,.int .i64 y.line] from hr);have DN:Hid (eU q (i+1)=eU q i++[⟨1,-1,i,y.line⟩]):=by rw[JC,qC,hx];exact rfl
   have hlen:(eU q i).length<=1000:=by unfold eU;simp;omega
   obtain⟨L,hL⟩:=ze (eU q i);rw[hL]at HV hlen DN;obtain⟨au,cu,hu,-,-⟩:∃au cu,u7= .slice au L.length cu/\L.length<=cu/\cu<=maxLen:=aC HV.out.1;subst hu;clear hr hx h2 hl2 hS hL;go_wp2_with (first| (refine wpList_load_mid rfl 110 (.tmp 22) rfl b (off+i*4) rfl _ _ HR.out Tryz.underlying110 rfl zk ?_)| (at_builtin;go_must (refine ZN (cs:=dH.cells ⟨1,-1,i,y.line⟩) FC rfl (.tmp 24) (.tmp 29) rfl rfl rfl rfl (lQ (cs:=dH.cells ⟨1,-1,i,y.line⟩) zBz) (dH.one _) (aI HV.out.1 (((Only.refl (fun _=>False) _).alloc _).alloc _) (fun _ _ f=>f)) zBk zBl ?_)));intro v' w2 s1 s2 s3;have Ae:Hid (jk W0 w2 v' (eU q (i+1))):=by rw[DN.out];exact jk.app HV.out zBV s1 s3
   have fK:=zh (((HO.out.alloc _).alloc _).trans s2 fun k hk=>.inr (HV.out.2 k hk));exact zDC
  obtain rfl:n3=i:=by omega
  clear hi ci k0 k2;have BJ:Hid (jk W0 wr u7 (eU q n3++(l.take 0).flatMap (jr x))):=by simpa[Hid]using HV.out
  obtain⟨au,cu,hu,-,-⟩:∃au cu,u7= .slice au (eU q n3).length cu/\_/\_:=aC HV.out.1;clear hu;have bM:=HO;go_wp2_with fail;generalize wr=wa at*;go_loopw [7,34] (fun vo vi wr=>Hid (O0 W0 wr)/\∃i:Nat,vi= .int .i64 i/\i<=nl/\Hid (jk W0 wr vo (eU q n3++(l.take i).flatMap (jr x)))) (fun _ v _=>nl-(RowKit.intOf v).toNat);case atStart=>exact⟨bM,0,rfl,qE _,BJ⟩
  case round=>
   clear BJ HV HO bM;obtain⟨HO,i,rfl,hi,HV⟩:=hrel;obtain⟨k0,k2⟩:=aG.out wr HO.out;by_cases ci:i<nl
   ·obtain⟨p,hp⟩:=zG l i (by rw[NL.out];exact ci);have hpn:p<n1:=by have:=mX.out.lt p (qT hp);rw[N1.out]at this;exact this
    obtain⟨bI,aeW,eI,hcell⟩:=(HI.out.aN (bW.out.same HO.out)).ab8 hp;subst eI;have jh:=zw (i+1);have hpx:x.packs[p]? =some (x.pack p):=by unfold aH.pack;rw[qC,qA (by rw[N1.out];exact hpn)];rfl
    obtain⟨pk,hpk⟩:=ze (x.pack p);rw[hpk]at hpx;have hmem:pk∈x.packs:=qT hpx;have h2:=R1.out;rw[<-N1.out]at h2;obtain⟨b,off,he,-,-⟩:=h2.at zA2;subst he;obtain⟨csp,-,Oz,PY⟩:=h2.get hpx;obtain⟨q1,q2,q3,q4,q5,q6,z1,z2,z3,z4,z5,z6,rfl,-,-,-,-,-,b4,b5,-⟩:=PY.cells;obtain⟨nd,hnd⟩:=ze pk.deps.length;obtain⟨nc,hnc⟩:=ze pk.cons.length;have hdl:nd<=1000:=by rw[<-hnd];exact mX.out.deps pk hmem
    have hcl:nc<=1000:=by rw[<-hnc];exact mX.out.cons pk hmem
    rw[hnd]at Oz b4;rw[hnc]at Oz b5;have FB:=zh hnd;have YF:=zh hnc;have HD:Hid (∀W,O0 W0 W->aQ 7 nC B W (.slice q4 nd z4) pk.deps):=fun W hW=>b4.keep nC.keep (Kp.iI (bW.out.same hW));have HCn:Hid (∀W,O0 W0 W->aQ 7 sU B W (.slice q5 nc z5) pk.cons):=fun W hW=>b5.keep sU.keep (Kp.iI (bW.out.same hW));have sS:Hid (∀W,O0 W0 W->W.cell? ⟨b,off+p*8+5,none⟩=some (.slice q4 nd z4)/\W.cell? ⟨b,off+p*8+6,none⟩=some (.slice q5 nc z5)):=fun W hW=>by have hb:b<w.heap.size:=World.block_lt_of_cell? _ _ (Oz 5 _ rfl);have hk:=(bW.out.same hW).block b hb (fun f=>f);exact⟨by rw[World.cell?_of_block (w:=w) hk];exact Oz 5 _ rfl,by rw[World.cell?_of_block (w:=w) hk];exact Oz 6 _ rfl⟩
    have uh:Hid (eU q n3++(l.take (i+1)).flatMap (jr x)=(eU q n3++(l.take i).flatMap (jr x))++jL x p nd++lN x p nc):=by
     rw[LP hp,List.flatMap_append];have:List.flatMap (jr x) [p]=jL x p nd++lN x p nc:=by simp[jr,hpk,hnd,hnc]
     rw[this];simp[yW,Hid]
    have hlen0:(eU q n3++(l.take i).flatMap (jr x)).length<=3000000:=by
     have h1:=AO (x:=x) (l:=l.take i) fun p hp=>by exact zDH
     have h2:(l.take i).length<=1000:=zAx;have h3:(eU q n3).length=n3:=by unfold eU;simp
     rw[qK,h3];have:=Nat.mul_le_mul_right 2000 h2;omega
    obtain⟨L0,hL0⟩:=ze (eU q n3++(l.take i).flatMap (jr x));rw[hL0]at HV uh hlen0;have HPg:Hid (x.pack p=pk):=hpk;have hpd:=(sS.out wr HO.out).1;have BJ:Hid (jk W0 wr u7 (L0++jL x p 0)):=by simpa[jL,Hid]using HV.out
    have bM:=HO;clear hp hpx hmem h2 Oz PY hnd hnc b4 b5 hpk hL0 HV;go_wp2_with fail;generalize wr=wb at*;go_loopw [7,45] (fun vo vi wr=>Hid (O0 W0 wr)/\∃k:Nat,vi= .int .i64 k/\k<=nd/\Hid (jk W0 wr vo (L0++jL x p k))) (fun _ v _=>nd-(RowKit.intOf v).toNat);case atStart=>exact⟨bM,0,rfl,qE _,BJ⟩
    case round=>
     clear BJ HO bM;obtain⟨HO,k,rfl,hk,HV⟩:=hrel;by_cases ck:k<nd
     ·have hd2:=HD.out wr HO.out;rw[<-FB.out]at hd2;obtain⟨b',off',he',-,-⟩:=hd2.at (by have:=FB.out;omega);subst he';obtain⟨d,hdd⟩:=zG pk.deps k (by rw[FB.out];exact ck);obtain⟨cs7,-,ZM,hC7⟩:=hd2.get hdd;obtain⟨c1,c2,rfl,hS1,hS2,-⟩:=hC7;obtain⟨p1,p2,d1,d2,e1,-,-,-⟩:=hS1.cells;obtain⟨p3,p4,d3,d4,e2,-,-,-⟩:=hS2.cells;rw[e1,e2]at ZM;have HR7:=zh (show wr.rangeAt b' (off'+k*7) [_,_,_,_,_,_,_] from ZM);have TR:=zw (k+1);have DN:Hid (L0++jL x p (k+1)=(L0++jL x p k)++[⟨2,p,k,d.line⟩]):=by rw[LK,HPg.out,qC,hdd,<-yW];exact rfl
      have hlen:(L0++jL x p k).length<=3100000:=zBI;obtain⟨L,hL⟩:=ze (L0++jL x p k);rw[hL]at HV hlen DN;obtain⟨au,cu,hu,-,-⟩:∃au cu,u7= .slice au L.length cu/\L.length<=cu/\cu<=maxLen:=aC HV.out.1;subst hu;clear hd2 hdd ZM hS1 hS2 hL e1 e2;go_wp2_with (first| (refine wpList_load_mid rfl 132 (.tmp 48) rfl b' (off'+k*7) rfl _ _ HR7.out Tryz.underlying132 rfl zk ?_)| (at_builtin;go_must (refine ZN (cs:=dH.cells ⟨2,p,k,d.line⟩) FC rfl (.tmp 50) (.tmp 56) rfl rfl rfl rfl (lQ (cs:=dH.cells ⟨2,p,k,d.line⟩) zBz) (dH.one _) (aI HV.out.1 (((Only.refl (fun _=>False) _).alloc _).alloc _) (fun _ _ f=>f)) zBk zBl ?_)));intro v' w2 s1 s2 s3;have Ae:Hid (jk W0 w2 v' (L0++jL x p (k+1))):=by rw[DN.out];exact jk.app HV.out zBV s1 s3
      exact zCi
     obtain rfl:nd=k:=by omega
     clear hk ck;have avk:=(sS.out wr HO.out).2;obtain⟨k0',-⟩:=aG.out wr HO.out;have hlen1:(L0++jL x p nd).length<=3010000:=zBI;obtain⟨L1,hL1⟩:=ze (L0++jL x p nd);rw[hL1]at HV uh hlen1;have BJ:Hid (jk W0 wr u7 (L1++lN x p 0)):=by simpa[lN,Hid]using HV.out
     have bM:=HO;clear hL1 HV;go_wp2_with fail;generalize wr=wc at*;go_loopw [7,66] (fun vo vi wr=>Hid (O0 W0 wr)/\∃k:Nat,vi= .int .i64 k/\k<=nc/\Hid (jk W0 wr vo (L1++lN x p k))) (fun _ v _=>nc-(RowKit.intOf v).toNat);case atStart=>exact⟨bM,0,rfl,qE _,BJ⟩
     case round=>
      clear BJ HO bM;obtain⟨HO,k,rfl,hk,HV⟩:=hrel;by_cases ck:k<nc
      ·have hd2:=HCn.out wr HO.out;rw[<-YF.out]at hd2;obtain⟨b',off',he',-,-⟩:=hd2.at (by have:=YF.out;omega);subst he';obtain⟨d,hdd⟩:=zG pk.cons k (by rw[YF.out];exact ck);obtain⟨cs7,-,ZM,hC7⟩:=hd2.get hdd;obtain⟨c1,c2,rfl,hS1,hS2,-⟩:=hC7;obtain⟨p1,p2,d1,d2,e1,-,-,-⟩:=hS1.cells;obtain⟨p3,p4,d3,d4,e2,-,-,-⟩:=hS2.cells;rw[e1,e2]at ZM;have HR7:=zh (show wr.rangeAt b' (off'+k*7) [_,_,_,_,_,_,_] from ZM);have TR:=zw (k+1);have DN:Hid (L1++lN x p (k+1)=(L1++lN x p k)++[⟨3,p,k,d.line⟩]):=by rw[LM,HPg.out,qC,hdd,<-yW];exact rfl
       have hlen:(L1++lN x p k).length<=3100000:=by rw[qK];unfold lN;simp;omega
       obtain⟨L,hL⟩:=ze (L1++lN x p k);rw[hL]at HV hlen DN;obtain⟨au,cu,hu,-,-⟩:∃au cu,u7= .slice au L.length cu/\L.length<=cu/\cu<=maxLen:=aC HV.out.1;subst hu;clear hd2 hdd ZM hS1 hS2 hL e1 e2;go_wp2_with (first| (refine wpList_load_mid rfl 160 (.tmp 69) rfl b' (off'+k*7) rfl _ _ HR7.out Tryz.underlying160 rfl zk ?_)| (at_builtin;go_must (refine ZN (cs:=dH.cells ⟨3,p,k,d.line⟩) FC rfl (.tmp 71) (.tmp 77) rfl rfl rfl rfl (lQ (cs:=dH.cells ⟨3,p,k,d.line⟩) zBz) (dH.one _) (aI HV.out.1 (((Only.refl (fun _=>False) _).alloc _).alloc _) (fun _ _ f=>f)) zBk zBl ?_)));intro v' w2 s1 s2 s3;have Ae:Hid (jk W0 w2 v' (L1++lN x p (k+1))):=by rw[DN.out];exact jk.app HV.out zBV s1 s3
       exact zCi
      obtain rfl:nc=k:=by omega
      have Ae:Hid (jk W0 wr u7 (eU q n3++(l.take (i+1)).flatMap (jr x))):=by rw[uh.out];exact HV.out
      go_wp2_with fail;go_roundw;case rel=>exact⟨HO,i+1,by first|rfl|go_num,by omega,Ae⟩
      case measure=>simp[RowKit.intOf]<;>omega
   obtain rfl:nl=i:=by omega
   obtain⟨au,cu,hu,-,-⟩:∃au cu,u7= .slice au (eU q n3++(l.take nl).flatMap (jr x)).length cu/\_/\_:=aC HV.out.1;clear hu;go_wp2_with fail;go_ret;refine⟨_,rfl,?_,bW.out.same HO.out⟩;have h1:=HV.out;rw[qI (yG NL.out)]at h1;have e1:dV x q l=eU q n3++l.flatMap (jr x):=by unfold dV;rw[N3.out]
   rw[e1];exact⟨h1.1,fun k hk=>by have:=h1.2 k hk;have:=bW.out.size;omega⟩
end
theorem aQ.all{α:Type}{n:Nat}{C:Nat->World->List Value->α->Prop}{B:Nat}{w:World}{v:Value}{xs:List α}(h:aQ n C B w v xs):∀x∈xs,∃cs,C B w cs x:=by intro x hx;obtain⟨i,hi,rfl⟩:=List.getElem_of_mem hx;obtain⟨ao,cap,rfl,-,-⟩:=h.shape;obtain⟨b,off,-,-,-,hc⟩:=h.cells _ _ _ rfl zBk;obtain⟨cs,-,-,h3⟩:=hc i hi;exact⟨cs,h3⟩
section
variable {w w':World} {B:Nat}
theorem jl.lines{cs:List Value}{x:aH}(h:jl B w cs x):∀p∈x.packs,(∀d∈p.deps,bU d.line)/\∀d∈p.cons,bU d.line:=by
 obtain⟨v1,v2,-,h1,-⟩:=h;intro p hp;obtain⟨cs,hC⟩:=h1.all p hp;obtain⟨_,_,_,_,_,_,-,-,-,-,-,-,h4,h5,-⟩:=hC;refine⟨fun d hd=>?_,fun d hd=>?_⟩;·obtain⟨_,_,_,-,-,-,h⟩:=h4.all d hd;exact h
 obtain⟨_,_,_,-,-,-,h⟩:=h5.all d hd;exact h
theorem mV.lines{cs:List Value}{q:fV}(h:mV B w cs q):∀r∈q.roots,bU r.line:=by obtain⟨v1,-,h1⟩:=h;intro r hr;obtain⟨_,_,-,-,h⟩:=h1.all r hr;exact h
theorem getD_in{α:Type}[Inhabited α]{l:List α}{i:Nat}(h:i<l.length):l.getD i default∈l:=by rw[qC,qA h];exact qZ h
theorem aH.iW{x:aH}{p:Nat}(h:p<x.packs.length):x.pack p∈x.packs:=getD_in h
theorem JD{cs cq:List Value}{x:aH}{q:fV}{l:List Nat}(h:jl B w cs x)(hq:mV B w cq q)(ok:ZO x q l):∀r∈dV x q l,(0<=r.kind/\r.kind<=255)/\bU r.pack/\bU r.idx/\bU r.line:=by
 have h1:=ok.roots;have h2:=ok.packs;have small:∀k:Nat,k<=100000->bU (k:Int):=fun k hk=>⟨by omega,by omega⟩;intro r hr;unfold dV at hr;rcases qW.1 hr with hr|hr;·obtain⟨i,hi,rfl⟩:=yD.1 hr;have hi2:=yI.1 hi;exact⟨⟨by simp,by simp⟩,⟨by simp,by simp⟩,small i zBk,hq.lines _ (getD_in hi2)⟩
 obtain⟨p,hp,hr⟩:=List.mem_flatMap.1 hr;have hpl:=ok.lt p hp;have hm:=aH.iW hpl;have h3:=ok.deps _ hm;have h4:=ok.cons _ hm;rcases qW.1 hr with hr|hr;·obtain⟨i,hi,rfl⟩:=yD.1 hr;have hi2:=yI.1 hi;exact⟨⟨by simp,by simp⟩,small p zAC,small i zBk,(h.lines _ hm).1 _ (getD_in hi2)⟩
 obtain⟨i,hi,rfl⟩:=yD.1 hr;have hi2:=yI.1 hi;exact⟨⟨by simp,by simp⟩,small p zAC,small i zBk,(h.lines _ hm).2 _ (getD_in hi2)⟩
def Uu(w:World)(x:aH)(q:fV)(lim:Nat)(e:Ending)(w':World):Prop:=
 ∃c bt bb gt gb G Bs,e= .returned (.pointer (some ⟨c,0,none⟩))/\nD w' gt gb c bt bb G ⟨[],lim,0,false⟩ ⟨[],false,false⟩/\jl Bs w' [G.x1,G.x2] x/\mV Bs w' [G.q] q/\Ints w' G.l (intsOf (x.closure q.names))/\
  aQ 4 uP Bs w' G.r (dV x q (x.closure q.names))/\(∀k,Mine gt k\/Mine gb k->Bs<=k)/\(∀k,Value.blk G.l=some k->k<Bs)/\w.heap.size<=Bs/\Bs<=c/\Bs<=w'.heap.size/\O0 w w'
theorem Uu.of{w w5 w6 w7:World}{x:aH}{q:fV}{lim bt bb:Nat}{x1 x2 vq vl vr:Value}{gt gb:Tag}{Vt:WX}{Vb:WU}(O5:O0 w w5)(hx:jl w5.heap.size w5 [x1,x2] x)(hq:mV w5.heap.size w5 [vq] q)(hl:Ints w5 vl (intsOf (x.closure q.names)))(hlb:∀k,Value.blk vl=some k->k<w5.heap.size)(hr:aQ 4 uP w5.heap.size w5 vr (dV x q (x.closure q.names)))(ht:TabAt w6 gt bt Vt ⟨[],lim,0,false⟩)(ht5:∀k,Mine gt k->w5.heap.size<=k)(O6:O0 w5 w6)(hb:lJ w7 gb bb Vb ⟨[],false,false⟩)(hb6:∀k,Mine gb k->w6.heap.size<=k)(O7:O0 w6 w7):Uu w x q lim (.returned (.pointer (some ⟨w7.heap.size,0,none⟩))) (w7.alloc (.cells #[x1,x2,vq,vl,vr,.pointer (some ⟨bt,0,none⟩),.pointer (some ⟨bb,0,none⟩)] 141)):=by
 have o8:O0 w7 (w7.alloc (.cells #[x1,x2,vq,vl,vr,.pointer (some ⟨bt,0,none⟩),.pointer (some ⟨bb,0,none⟩)] 141)):=zr.alloc _;have o58:=(O6.same O7).same o8;have h65:=O6.size;have h76:=O7.size;refine⟨_,bt,bb,gt,gb,⟨x1,x2,vq,vl,vr⟩,w5.heap.size,rfl,⟨qL w7 _,?_,?_,⟨_,(ht.aN O7).aN o8⟩,⟨_,hb.aN o8⟩,?_⟩,jl.keep hx (Kp.iI o58),mV.keep hq (Kp.iI o58),hl.aN o58,hr.keep uP.keep (Kp.iI o58),?_,hlb,O5.size,by omega,o58.size,O5.same o58⟩;·rw[ht.fresh _ zBk]
 ·rw[hb.fresh _ zBk]
 ·intro k h1 h2;have:=hb6 k h2;unfold Mine at h1;exact h1 (ht.fresh k this)
 rintro k (h|h);·exact ht5 k h
 have:=hb6 k h;omega
theorem DR{x:aH}{q:fV}(hs:rM x)(hq:q.roots.length<=40):ZO x q (x.closure q.names):=
 ⟨by omega,by have:=hs.packs;omega,fun p hp=>by have:=(hs.all p hp).deps;omega,fun p hp=>by have:=(hs.all p hp).cons;omega,by have:=x.qm q.names;have:=hs.packs;omega,fun p hp=>(aH.lH.1 hp).lt⟩
theorem ab9{cs cq:List Value}{x:aH}{q:fV}(h:jl B w cs x)(hq:mV B w cq q)(hBw:B<=w.heap.size)(hs:rM x)(hql:q.roots.length<=40)(n:Int)(hn:bU n)(lim:Nat)(hlim:min (max n 0) 65536=(lim:Int)):Calls Tryz.prog 21 #[.agg cs.toArray,.agg cq.toArray,.int .i64 n] w (Uu w x q lim):=by
 have HH:=zh h;have HQ:=zh hq;have HSm:=zh hs;obtain⟨v1,v2,rfl,h1,h2⟩:=h;obtain⟨ao,cap,rfl,-,-⟩:=h1.shape;obtain⟨oJ,cap2,rfl,-,-⟩:=h2.shape;obtain⟨v3,rfl,h3⟩:=hq;obtain⟨P5,cap3,rfl,-,-⟩:=h3.shape;obtain⟨n1,hn1⟩:=ze x.packs.length;obtain⟨n2,hn2⟩:=ze x.iH.length;obtain⟨n3,hn3⟩:=ze q.roots.length;rw[hn1,hn2]at HH;rw[hn3]at HQ;rw[hn1,hn2,hn3];have HL:=zh hlim;have HQl:=zh hql;have HN:=zh hn;obtain⟨W0,hW0⟩:=zB ((w.alloc (.cells #[.slice ao n1 cap,.slice oJ n2 cap2] 25)).alloc (.cells #[.slice P5 n3 cap3] 28));have bW:Hid (O0 w W0):=zBQ;have aG:Hid (∀W,O0 W0 W->W.cell? ⟨w.heap.size,0,none⟩=some (.slice ao n1 cap)/\W.cell? ⟨w.heap.size,1,none⟩=some (.slice oJ n2 cap2)/\W.cell? ⟨w.heap.size+1,0,none⟩=some (.slice P5 n3 cap3)):=fun W ho=>by
  have b0:W0.heap[w.heap.size]? =some (.cells #[.slice ao n1 cap,.slice oJ n2 cap2] 25):=by rw[hW0];exact dw (qL w _) _
  have b1:W0.heap[w.heap.size+1]? =some (.cells #[.slice P5 n3 cap3] 28):=by rw[hW0];exact alloc_at zAM
  have c0:=aF b0 ho (fun f=>f);have c1:=aF b1 ho (fun f=>f);exact⟨by rw[ah c0];rfl,by rw[ah c0];rfl,by rw[ah c1];rfl⟩
 have HKR:Hid (∀W,O0 W0 W->jl B W [.slice ao n1 cap,.slice oJ n2 cap2] x):=fun W hW=>jl.keep HH.out (Kp.iI (bW.out.same hW):Kp B w W);have HKQ:Hid (∀W,O0 W0 W->mV B W [.slice P5 n3 cap3] q):=fun W hW=>mV.keep HQ.out (Kp.iI (bW.out.same hW):Kp B w W);have HBw:=zh hBw;obtain⟨k0,k1,k2⟩:=aG.out W0 zr;clear h1 h2 h3 hn1 hn2 hn3 hs hlim hql hn hBw;go_enter Tryz.func21,Tryz.ntmps21;go_wp2_with fail;rw[<-hW0];clear hW0;refine(JB (HKR.out W0 zr) (HKQ.out W0 zr) HSm.out (by have:=HQl.out;omega)).mono ?_;rintro e w3 ⟨vl,rfl,hrow,-,O3⟩;have hI:Ints w3 vl (intsOf (x.closure q.names)):=oq hrow fun i hi=>by have:=(aH.lH.1 hi).lt;have:=HSm.out.packs;omega
 have HLb:Hid (∀k,Value.blk vl=some k->k<w3.heap.size):=fun k hk=>dX hrow (by
  obtain⟨a2,c2,rfl,-,-⟩:=aC hrow
  cases a2 with
  |none=>cases hk
  |some ad=>exact hk)
 clear hrow;have HI:=zh hI;have mO:=zh O3;obtain⟨al,cl,rfl,-,-⟩:=hI.shape;obtain⟨nl,hnl⟩:=ze ((intsOf (x.closure q.names)).length);rw[hnl]at HI HLb⊢;clear hI O3 hnl k0 k1 k2;have HK:Hid (∀W,O0 w3 W->W.cell? ⟨w.heap.size,0,none⟩=some (.slice ao n1 cap)/\W.cell? ⟨w.heap.size,1,none⟩=some (.slice oJ n2 cap2)/\W.cell? ⟨w.heap.size+1,0,none⟩=some (.slice P5 n3 cap3)):=fun W hW=>aG.out W (mO.out.same hW);have Uw:Hid (∀W,O0 w3 W->Calls Tryz.prog 71 #[.agg #[.slice ao n1 cap,.slice oJ n2 cap2],.agg #[.slice P5 n3 cap3],.slice al nl cl] W fun e w'=> ∃v,e= .returned v/\jk W w' v (dV x q (x.closure q.names))/\O0 W w'):=fun W hW=>
  ZP (HKR.out W (mO.out.same hW)) (HKQ.out W (mO.out.same hW)) (HI.out.aN hW) (DR HSm.out HQl.out)
 have HAt:Hid (∀W,Calls Tryz.prog 72 #[.int .i64 n] W (LJ W lim)):=fun W=>QV W n HN.out lim HL.out;have HCf:Hid (∀W,Calls Tryz.prog 73 #[] W (LG W)):=fun W=>WV W;have HFin:Hid (∀w5 w6 w7 v bt bb gt gb Vt Vb,O0 w3 w5->jk w3 w5 v (dV x q (x.closure q.names))->TabAt w6 gt bt Vt ⟨[],lim,0,false⟩->(∀k,Mine gt k->w5.heap.size<=k)->O0 w5 w6->lJ w7 gb bb Vb ⟨[],false,false⟩->(∀k,Mine gb k->w6.heap.size<=k)->O0 w6 w7->
   Uu w x q lim (.returned (.pointer (some ⟨w7.heap.size,0,none⟩))) (w7.alloc (.cells #[.slice ao n1 cap,.slice oJ n2 cap2,.slice P5 n3 cap3,.slice al nl cl,v,.pointer (some ⟨bt,0,none⟩),.pointer (some ⟨bb,0,none⟩)] 141))):=by
  intro w5 w6 w7 v bt bb gt gb Vt Vb o5 mM ht ht5 o6 hb hb6 o7
  have O5:=(bW.out.same mO.out).same o5
  have hBs:B<=w5.heap.size:=qR HBw.out O5.size
  have ok:=DR HSm.out HQl.out
  have hI5:=HI.out.aN o5
  refine Uu.of O5 (jl.lift (HKR.out w5 (mO.out.same o5)) hBs (qH _)) (mV.lift (HKQ.out w5 (mO.out.same o5)) hBs (qH _)) hI5 (fun k hk=>?_) (mM.read (JD (HKR.out w5 (mO.out.same o5)) (HKQ.out w5 (mO.out.same o5)) ok)) ht ht5 o6 hb hb6 o7
  have h1:=HLb.out k hk
  have h2:=o5.size
  omega
 have hS0:=HK.out w3.drew (zr.drew);clear aG HKR HKQ HI HH HQ;go_wp2_with fail;refine bH (n:=13) (E:=fun _=>false) (S:=fun W=>W.cell? ⟨w.heap.size,0,none⟩=some (.slice ao n1 cap)/\W.cell? ⟨w.heap.size,1,none⟩=some (.slice oJ n2 cap2)/\W.cell? ⟨w.heap.size+1,0,none⟩=some (.slice P5 n3 cap3)) zk rfl hS0 (fun hHeld=>?_);refine tK 0 ?_;refine tK 1 ?_;refine tW 2 ?_;refine tK 3 ?_;refine tK 4 ?_;refine tW 5 ?_;refine tW 7 ?_;refine tO 6 fun K hK=>?_;(go_simp;refine(Uw.out _ (by exact zAB)).mono ?_;rintro e w5 ⟨v5,rfl,mM,o5⟩;have oA:O0 w3 w5:=Only.same zBj o5;have apn:jk w3 w5 v5 (dV x q (x.closure q.names)):=⟨mM.1,fun k hk=>by have h1:=mM.2 k hk;simpa using h1⟩;obtain⟨a5,c5,rfl,-,-⟩:=aC mM.1;try go_wp2_with fail);refine hK.out _ _ ?_ (fun hHeld=>?_);·(try dsimp only)<;>(exact HK.out _ oA)
 clear hK K;try simp only[Act.put,gJ,gK,gu,gy,gG]
 refine tO 8 fun K hK=>?_;(go_simp;refine(HAt.out _).mono ?_;rintro e w6 ⟨bt,gt,Vt,rfl,htab,htn,o6⟩;have oB:=oA.same o6;try go_wp2_with fail);refine hK.out _ _ ?_ (fun hHeld=>?_);·(try dsimp only)<;>(exact HK.out _ oB)
 clear hK K;try simp only[Act.put,gJ,gU,gK,gu,gy,gG]
 refine tO 9 fun K hK=>?_;(go_simp;refine(HCf.out _).mono ?_;rintro e w7 ⟨bb,gb,Vb,rfl,apo,hbn,o7⟩;have oC:=oB.same o7;try go_wp2_with fail);refine hK.out _ _ ?_ (fun hHeld=>?_);·(try dsimp only)<;>(exact HK.out _ oC)
 clear hK K;try simp only[Act.put,gJ,gU,gK,gu,gy,gG]
 refine tW 10 ?_;refine tO 11 fun K hK=>?_;go_simp;refine hK.out _ _ ?_ (fun hHeld=>?_);·(try dsimp only)<;>(exact HK.out _ (by exact oC.alloc _))
 clear hK K;try simp only[Act.put,gJ,gU,gK,gu,gy,gG]
 refine tW 12 ?_;refine aZ zk ?_ _;have jd:=zh (HFin.out w5 w6 w7 _ bt bb gt gb Vt Vb oA apn htab htn o6 apo hbn o7);go_wp2_with fail;go_ret;exact jd.out
end
end Go.Proofs.YtdmmebjjojimiaaGreatDoor
namespace Go.Proofs
theorem zDw{p:Prop}(h:p:=by
 have:=dO hr hb hB (Kp.iI ho) 0 _ rfl
 rw[qF,yH]at this
 exact this):p:=h
end Go.Proofs
namespace Go.Proofs.YtdmmebjjojimiaaGreatDoor
open Go.RowKit
structure CD where
 rel:Int
 vals:List Int
structure GD where
 x:aH
 q:fV
 c:List CD
 off:List Bool
instance:Inhabited CD:=⟨⟨-1,[]⟩⟩
def J6(_:Nat)(_:World)(cs:List Value)(x:Int):Prop:=cs=[.int .i64 x]/\bU x
def Bo(_:Nat)(_:World)(cs:List Value)(x:Bool):Prop:=cs=[.bool x]
def CC(B:Nat)(w:World)(cs:List Value)(x:CD):Prop:= ∃v1,cs=[.int .i64 x.rel,v1]/\bU x.rel/\aQ 1 J6 B w v1 x.vals
def GC(B:Nat)(w:World)(cs:List Value)(g:GD):Prop:= ∃v1 v2 v3 v4 v5,cs=[v1,v2,v3,v4,v5]/\aQ 8 iU B w v1 g.x.packs/\aQ 3 nS B w v2 g.x.iH/\aQ 4 lY B w v3 g.q.roots/\aQ 2 CC B w v4 g.c/\aQ 1 Bo B w v5 g.off
theorem J6.keep:Keeps J6:=fun _ _ _ _ _ h _=>h
theorem Bo.keep:Keeps Bo:=fun _ _ _ _ _ h _=>h
theorem CC.keep:Keeps CC:=fun _ _ _ _ _ ⟨v1,h,a,b⟩ k=>⟨v1,h,a,b.keep J6.keep k⟩
theorem GC.keep:Keeps GC:=fun _ _ _ _ _ ⟨v1,v2,v3,v4,v5,h,a,b,c,d,e⟩ k=>⟨v1,v2,v3,v4,v5,h,a.keep iU.keep k,b.keep nS.keep k,c.keep lY.keep k,d.keep CC.keep k,e.keep Bo.keep k⟩
theorem J6.lift:Lifts J6:=fun _ _ _ _ _ h _ _=>h
theorem Bo.lift:Lifts Bo:=fun _ _ _ _ _ h _ _=>h
theorem CC.lift:Lifts CC:=fun _ _ _ _ _ ⟨v1,h,a,b⟩ k l=>⟨v1,h,a,b.lift J6.lift k l⟩
theorem GC.lift:Lifts GC:=fun _ _ _ _ _ ⟨v1,v2,v3,v4,v5,h,a,b,c,d,e⟩ k l=>⟨v1,v2,v3,v4,v5,h,a.lift iU.lift k l,b.lift nS.lift k l,c.lift lY.lift k l,d.lift CC.lift k l,e.lift Bo.lift k l⟩
theorem GC.BI{B:Nat}{w:World}{v1 v2 v3 v4 v5:Value}{g:GD}(h:GC B w [v1,v2,v3,v4,v5] g):jl B w [v1,v2] g.x:=by obtain⟨u1,u2,u3,u4,u5,e,a,b,c,d,f⟩:=h;simp only[List.cons.injEq,and_true]at e;obtain⟨rfl,rfl,rfl,rfl,rfl⟩:=e;exact⟨_,_,rfl,a,b⟩
theorem GC.LQ{B:Nat}{w:World}{v1 v2 v3 v4 v5:Value}{g:GD}(h:GC B w [v1,v2,v3,v4,v5] g):mV B w [v3] g.q:=by obtain⟨u1,u2,u3,u4,u5,e,a,b,c,d,f⟩:=h;simp only[List.cons.injEq,and_true]at e;obtain⟨rfl,rfl,rfl,rfl,rfl⟩:=e;exact⟨_,rfl,c⟩
section
variable {w w':World} {B:Nat}
theorem YG{ao:Option Addr}{len cap i:Nat}{xs:List Int}{y:Int}(h:aQ 1 J6 B w (.slice ao len cap) xs)(hx:xs[i]? =some y):∃(b off:Nat),ao=some ⟨b,off,none⟩/\bU y/\∀W,O0 w W->W.cell? ⟨b,off+i,none⟩=some (.int .i64 y):=by obtain⟨b,off,cs,rfl,hb,hB,-,hr,hC⟩:=h.placed hx;obtain⟨rfl,in1⟩:=hC;refine⟨b,off,rfl,in1,fun W ho=>?_⟩;exact zDw
theorem acd{ao:Option Addr}{len cap i:Nat}{xs:List Bool}{y:Bool}(h:aQ 1 Bo B w (.slice ao len cap) xs)(hx:xs[i]? =some y):∃(b off:Nat),ao=some ⟨b,off,none⟩/\∀W,O0 w W->W.cell? ⟨b,off+i,none⟩=some (.bool y):=by obtain⟨b,off,cs,rfl,hb,hB,-,hr,hC⟩:=h.placed hx;obtain rfl:=hC;refine⟨b,off,rfl,fun W ho=>?_⟩;exact zDw
theorem YH{ao:Option Addr}{len cap i:Nat}{xs:List CD}{y:CD}(h:aQ 2 CC B w (.slice ao len cap) xs)(hx:xs[i]? =some y):∃(b off:Nat) (a1:Option Addr) (n1 c1:Nat),ao=some ⟨b,off,none⟩/\y.vals.length=n1/\bU y.rel/\∀W,O0 w W->W.rangeAt b (off+i*2) [.int .i64 y.rel,.slice a1 n1 c1]/\aQ 1 J6 B W (.slice a1 n1 c1) y.vals/\CC B W [.int .i64 y.rel,.slice a1 n1 c1] y:=by obtain⟨b,off,cs,rfl,hb,hB,-,hr,hC⟩:=h.placed hx;have hC0:=hC;obtain⟨v1,rfl,in1,r1⟩:=hC;obtain⟨a1,c1,rfl,-,-⟩:=r1.shape;exact⟨b,off,a1,_,c1,rfl,rfl,in1,fun W ho=>⟨dO hr hb hB (Kp.iI ho),r1.keep J6.keep (Kp.iI ho),CC.keep hC0 (Kp.iI ho)⟩⟩
end
def YI(_:Nat)(_:World)(cs:List Value)(x:Nat):Prop:=cs=[.int .u8 (x:Int)]/\x<256
theorem YI.keep:Keeps YI:=fun _ _ _ _ _ h _=>h
theorem YI.lift:Lifts YI:=fun _ _ _ _ _ h _ _=>h
theorem ahE{w:World}{B:Nat}{ao:Option Addr}{len cap i:Nat}{xs:List Nat}{y:Nat}(h:aQ 1 YI B w (.slice ao len cap) xs)(hx:xs[i]? =some y):∃(b off:Nat),ao=some ⟨b,off,none⟩/\y<256/\∀W,O0 w W->W.cell? ⟨b,off+i,none⟩=some (.int .u8 (y:Int)):=by obtain⟨b,off,cs,rfl,hb,hB,-,hr,hC⟩:=h.placed hx;obtain⟨rfl,hy⟩:=hC;refine⟨b,off,rfl,hy,fun W ho=>?_⟩;exact zDw
def oZ(jG:List Nat)(at_ below:Nat):Nat:=if at_<jG.length/\0<below then jG.getD at_ 0%below else 0
def jK(jG:List Nat)(n:Nat)(vs:List kS)(k:Nat):List Int:=(List.range k).map fun j=>(oZ jG (n+j) (vs.getD j default).values.length:Int)
theorem Ux(jG:List Nat)(n:Nat)(vs:List kS)(k:Nat):jK jG n vs (k+1)=jK jG n vs k++[(oZ jG (n+k) (vs.getD k default).values.length:Int)]:=by unfold jK;rw[List.range_succ,List.map_append];rfl
theorem LU(jG:List Nat)(n:Nat)(vs:List kS)(k:Nat):(jK jG n vs k).length=k:=by unfold jK;simp
def EC(jG:List Nat)(n:Nat)(pk:iT)(inn:Bool):CD×Nat:=
 if inn then (⟨(oZ jG n (pk.bY.length+1):Int)-1,jK jG (n+1) pk.vars pk.vars.length⟩,n+1+pk.vars.length)else (⟨-1,[]⟩,n)
def pq(x:aH)(l:List Nat)(jG:List Nat):Nat->List CD×Nat
 |0=>([],0)
 |i+1=>((pq x l jG i).1++[(EC jG (pq x l jG i).2 (x.pack i) (decide (i∈l))).1],(EC jG (pq x l jG i).2 (x.pack i) (decide (i∈l))).2)
theorem CZ(x:aH)(l:List Nat)(jG:List Nat)(i:Nat):(pq x l jG i).1.length=i:=by
 induction i with
 |zero=>rfl
 |succ i ih=>rw[pq];simp[ih]
def gOf(x:aH)(q:fV)(l:List Nat)(jG:List Nat):GD:=⟨x,q,(pq x l jG x.packs.length).1,[]⟩
theorem LV{jG:List Nat}{at_ below:Nat}(h:0<below):oZ jG at_ below<below:=by
 unfold oZ;split;·exact Nat.mod_lt _ h
 exact h
structure ahG (c:CD) (pk:iT):Prop where
 lo: -1<=c.rel
 hi:c.rel<pk.bY.length
 len:0<=c.rel->c.vals.length=pk.vars.length
 vals:0<=c.rel->∀k,k<pk.vars.length->0<=c.vals.getD k 0/\c.vals.getD k 0<(pk.vars.getD k default).values.length
structure GOk (g:GD):Prop where
 len:g.c.length=g.x.packs.length
 ok:∀p,p<g.x.packs.length->ahG (g.c.getD p default) (g.x.pack p)
theorem ace{jG:List Nat}{n:Nat}{pk:iT}(hv:∀v∈pk.vars,0<v.values.length)(inn:Bool):ahG (EC jG n pk inn).1 pk:=by
 unfold EC;cases inn with
 |false=>exact⟨by show(-1:Int)<= -1;omega,by show(-1:Int)<_;omega,fun h=>by have:(0:Int)<= -1:=h;omega,fun h=>by have:(0:Int)<= -1:=h;omega⟩
 |true=>
  have h1:=LV (jG:=jG) (at_:=n) (show 0<pk.bY.length+1 by omega);refine⟨by show(-1:Int)<=(oZ jG n (pk.bY.length+1):Int)-1;omega,by show(oZ jG n (pk.bY.length+1):Int)-1<_;omega,fun _=>LU _ _ _ _,fun _ k hk=>?_⟩;show 0<=(jK jG (n+1) pk.vars pk.vars.length).getD k 0/\(jK jG (n+1) pk.vars pk.vars.length).getD k 0<_;have e:(jK jG (n+1) pk.vars pk.vars.length).getD k 0=(oZ jG (n+1+k) (pk.vars.getD k default).values.length:Int):=by unfold jK;rw[qC,List.getElem?_map,List.getElem?_range hk];rfl
  rw[e];have hm:pk.vars.getD k default∈pk.vars:=by rw[qC,qA hk];exact qZ hk
  have:=LV (jG:=jG) (at_:=n+1+k) (hv _ hm);omega
theorem LW(x:aH)(l:List Nat)(jG:List Nat):∀(i p:Nat),p<i->∃n,(pq x l jG i).1.getD p default=(EC jG n (x.pack p) (decide (p∈l))).1
 |0,p,h=>by omega
 |i+1,p,h=>by
  rw[pq]
  rcases yK p i with hlt|hge
  ·obtain⟨n,hn⟩:=LW x l jG i p hlt
   refine⟨n,?_⟩
   show((pq x l jG i).1++_).getD p default=_
   rw[qC,yM (by rw[CZ];exact hlt),<-qC]
   exact hn
  ·obtain rfl:p=i:=by omega
   refine⟨(pq x l jG p).2,?_⟩
   show((pq x l jG p).1++_).getD p default=_
   rw[qC,yN (by rw[CZ];omega),CZ]
   simp
theorem ahH{x:aH}{q:fV}{l:List Nat}{jG:List Nat}(hv:∀p∈x.packs,∀v∈p.vars,0<v.values.length):GOk (gOf x q l jG):=by refine⟨CZ _ _ _ _,fun p hp=>?_⟩;have hp':p<x.packs.length:=hp;obtain⟨n,hn⟩:=LW x l jG x.packs.length p hp';show ahG ((pq x l jG x.packs.length).1.getD p default) (x.pack p);rw[hn];refine ace (fun v hv'=>hv (x.pack p) ?_ v hv') _;unfold aH.pack;rw[qC,qA hp'];exact qZ hp'
def fQ(c:List CD)(p:Int):Bool:=decide (0<=p)&&decide (p<c.length)&&decide (0<=(c.getD p.toNat default).rel)
def soC(c:List CD)(a:Int×Int×Int×Int):Bool:=
 if a.1=1 then fQ c a.2.1
 else if a.1=2 then fQ c a.2.1&&decide ((c.getD a.2.1.toNat default).rel=a.2.2.1)
 else if a.1=3 then fQ c a.2.1&&decide (a.2.2.1<(c.getD a.2.1.toNat default).vals.length)&&decide ((c.getD a.2.1.toNat default).vals.getD a.2.2.1.toNat 0=a.2.2.2)
 else false
section
variable {w:World} {B:Nat}
theorem kV{cs:List Value}{x:GD}(h:GC B w cs x):∃(a1:Option Addr) (n1 c1:Nat) (a2:Option Addr) (n2 c2:Nat) (a3:Option Addr) (n3 c3:Nat) (a4:Option Addr) (n4 c4:Nat) (a5:Option Addr) (n5 c5:Nat),cs=[.slice a1 n1 c1,.slice a2 n2 c2,.slice a3 n3 c3,.slice a4 n4 c4,.slice a5 n5 c5]/\n1<=c1/\c1<=9223372036854775807/\n2<=c2/\c2<=9223372036854775807/\n3<=c3/\c3<=9223372036854775807/\n4<=c4/\c4<=9223372036854775807/\n5<=c5/\c5<=9223372036854775807/\Hid (x.x.packs.length=n1)/\Hid (x.x.iH.length=n2)/\Hid (x.q.roots.length=n3)/\Hid (x.c.length=n4)/\Hid (x.off.length=n5)/\∀W0,O0 w W0->Hid (∀W,O0 W0 W->GC B W [.slice a1 n1 c1,.slice a2 n2 c2,.slice a3 n3 c3,.slice a4 n4 c4,.slice a5 n5 c5] x)/\Hid (∀W,O0 W0 W->aQ 8 iU B W (.slice a1 n1 c1) x.x.packs)/\Hid (∀W,O0 W0 W->aQ 3 nS B W (.slice a2 n2 c2) x.x.iH)/\Hid (∀W,O0 W0 W->aQ 4 lY B W (.slice a3 n3 c3) x.q.roots)/\Hid (∀W,O0 W0 W->aQ 2 CC B W (.slice a4 n4 c4) x.c)/\Hid (∀W,O0 W0 W->aQ 1 Bo B W (.slice a5 n5 c5) x.off):=by have h0:=h;obtain⟨u1,u2,u3,u4,u5,rfl,r1,r2,r3,r4,r5⟩:=h;obtain⟨a1,c1,rfl,g1,h1⟩:=r1.shape;obtain⟨a2,c2,rfl,g2,h2⟩:=r2.shape;obtain⟨a3,c3,rfl,g3,h3⟩:=r3.shape;obtain⟨a4,c4,rfl,g4,h4⟩:=r4.shape;obtain⟨a5,c5,rfl,g5,h5⟩:=r5.shape;exact⟨a1,_,c1,a2,_,c2,a3,_,c3,a4,_,c4,a5,_,c5,rfl,g1,h1,g2,h2,g3,h3,g4,h4,g5,h5,rfl,rfl,rfl,rfl,rfl,fun W0 ho=>⟨fun W hW=>GC.keep h0 (Kp.iI (ho.same hW):Kp B w W),fun W hW=>r1.keep iU.keep (Kp.iI (ho.same hW)),fun W hW=>r2.keep nS.keep (Kp.iI (ho.same hW)),fun W hW=>r3.keep lY.keep (Kp.iI (ho.same hW)),fun W hW=>r4.keep CC.keep (Kp.iI (ho.same hW)),fun W hW=>r5.keep Bo.keep (Kp.iI (ho.same hW))⟩⟩
theorem open_bytes{v:Value}{x:List Nat}(h:aQ 1 YI B w v x):∃(a:Option Addr) (n c:Nat),v= .slice a n c/\n<=c/\c<=9223372036854775807/\Hid (x.length=n)/\∀W0,O0 w W0->Hid (∀W,O0 W0 W->aQ 1 YI B W (.slice a n c) x):=by obtain⟨a,c,rfl,g1,h1⟩:=h.shape;exact⟨a,_,c,rfl,g1,h1,rfl,fun W0 ho W hW=>h.keep YI.keep (Kp.iI (ho.same hW))⟩
end
end Go.Proofs.YtdmmebjjojimiaaGreatDoor
