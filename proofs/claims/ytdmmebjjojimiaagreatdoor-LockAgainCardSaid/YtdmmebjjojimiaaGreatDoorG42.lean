/- cooperref28.with: a graph with a line more, whatever it says. Printed by gen_lkwl.py. -/
import Derived.Test.YtdmmebjjojimiaaGreatDoorG41
set_option maxRecDepth 100000
set_option maxHeartbeats 8000000
set_option linter.all false
namespace Go.Proofs
theorem zBq{p:Prop}(h:p:=by rw[hk,Q7.out];exact qH _):p:=h
theorem zCS{p:Prop}(h:p:=by rw[<-hw4,<-hN];exact qL _ _):p:=h
theorem zCU{p:Prop}(h:p:=by rw[List.getElem?_drop,show 2+(i-2)=i by omega];exact hx):p:=h
theorem zCZ{p:Prop}(h:p:=by rw[aj hnd.blk];rfl):p:=h
theorem zF0{p:Prop}(h:p:=by
 have h:=aW hw2 o (fun _ _ f=>f)
 have hi:=(qJ.1 hx).1
 rw[h.cellAt i zAA]
 show(ws.map Value.string)[i]? =_
 rw[List.getElem?_map,hx];rfl):p:=h
theorem zGo{p:Prop}(h:p:=by
 refine CG (R:=R+1) HB2.out.2 rfl rfl rfl ?_
 exact mW.no' HW.out FU.out (jW.out.same aI.out)):p:=h
theorem zHA{p:Prop}(h:p:=by
 rcases r3 k hk with h|h
 ·simp[Value.ownBlock]at h;omega
 ·simp at h;omega):p:=h
end Go.Proofs
namespace Go.Proofs.YtdmmebjjojimiaaGreatDoor
open Go.RowKit
open Lk (kC sG uZ newNode iH cutAt)
theorem KQ(c:UInt8):∀(l:List UInt8),(dZ c l).length<=l.length+1
 | []=>by unfold dZ;simp
 |x::r=>by
  have ih:=KQ c r
  unfold dZ
  by_cases h:x=c
  ·rw[if_pos h];simp;omega
  ·rw[if_neg h]
   cases hc:dZ c r with
   |nil=>simp
   |cons y t=>rw[hc]at ih;simp at ih⊢;omega
theorem Bl:∀(l m:List (List UInt8)),iH (l++m)=(iH l).bind fun s=>(iH m).map fun t=>s++t
 | [],m=>by simp[iH]
 |x::l,m=>by
  have ih:=Bl l m
  have e:∀r,iH (x::r)=match cutAt 61 x with|none=>none|some p=>(iH r).map fun l=>p::l:=fun _=>rfl
  rw[List.cons_append,e,e,ih]
  cases cutAt 61 x with
  |none=>rfl
  |some p=>
   simp only
   cases iH l with
   |none=>rfl
   |some s=>cases iH m<;>rfl
theorem XT{r:List Str}{i:Nat}{x:Str}{S:List dM}{d:dM}(hx:r[i]? =some x)(h:iH ((r.take i).map ByteArray.toList)=some (S.map dM.toB))(hd:cutAt 61 x.toList=some d.toB):iH ((r.take (i+1)).map ByteArray.toList)=some ((S++[d]).map dM.toB):=by
 have e:r.take (i+1)=r.take i++[x]:=by rw[List.take_add_one,hx];rfl
 have e2:iH [x.toList]=some [d.toB]:=by unfold iH;rw[hd];rfl
 rw[e,List.map_append,Bl,h,List.map_singleton,e2];simp
theorem ZI{r:List Str}{i:Nat}{x:Str}(hx:r[i]? =some x)(hd:cutAt 61 x.toList=none):iH (r.map ByteArray.toList)=none:=by
 have e:r=r.take i++x::r.drop (i+1):=by exact zGM
 have e2:iH (x.toList::(r.drop (i+1)).map ByteArray.toList)=none:=by show(match cutAt 61 x.toList with|none=>none|some p=>(iH ((r.drop (i+1)).map ByteArray.toList)).map fun l=>p::l)=none;rw[hd]
 rw[e,List.map_append,List.map_cons,Bl,e2];cases iH (List.map ByteArray.toList (List.take i r))<;>rfl
theorem oD.ver{w:World}{B N:Nat}{a b b':Str}{sv:Value}{S:List dM}(h:oD B w N a b sv S):oD B (w.setCell ⟨N,1,none⟩ (.string b')) N a b' sv S/\w.cell? ⟨N,1,none⟩=some (.string b)/\w.frozen? ⟨N,1,none⟩=false:=by have oS:Only (fun k=>k=N) w (w.setCell ⟨N,1,none⟩ (.string b')):=(Only.refl (fun k=>k=N) w).setCell (p:=⟨N,1,none⟩) (.inl rfl) _;exact⟨⟨heap_setCell_same w N 1 _ 83 _ h.blk,aW h.own oS (fun k hk e=>jw zAH h.own h.blk (e▸hk)),h.oks,h.new⟩,by rw[aj h.blk];rfl,gB h.blk 1⟩
structure jJ (ws:List Str) (i:Nat) (b:Str) (S:List dM):Prop where
 lo:i<=1->b=⟨#[]⟩/\S=[]
 hi:2<=i->ws[1]? =some b/\iH (((ws.drop 2).take (i-2)).map ByteArray.toList)=some (S.map dM.toB)
 len:S.length<=i
theorem jJ.start(ws:List Str):jJ ws 0 ⟨#[]⟩ []:=⟨fun _=>⟨rfl,rfl⟩,fun h=>by omega,qH _⟩
theorem jJ.one{ws:List Str}{b:Str}{S:List dM}(h:jJ ws 0 b S):jJ ws 1 b S:=⟨fun _=>h.lo zAA,fun h=>by omega,by have:=h.len;omega⟩
theorem jJ.two{ws:List Str}{b b':Str}{S:List dM}(h:jJ ws 1 b S)(hb:ws[1]? =some b'):jJ ws 2 b' S:=by obtain⟨-,rfl⟩:=h.lo zAA;exact⟨fun h=>by omega,fun _=>⟨hb,by simp[iH]⟩,by simp⟩
theorem jJ.next{ws:List Str}{i:Nat}{b x:Str}{S:List dM}{d:dM}(h:jJ ws i b S)(hi:2<=i)(hx:ws[i]? =some x)(hd:cutAt 61 x.toList=some d.toB):jJ ws (i+1) b (S++[d]):=by obtain⟨h1,h2⟩:=h.hi hi;refine⟨fun h=>by omega,fun _=>⟨h1,?_⟩,by rw[qK,List.length_singleton];have:=h.len;omega⟩;rw[show i+1-2=(i-2)+1 by omega];exact XT zCU h2 hd
theorem jJ.bad{ws:List Str}{i:Nat}{x:Str}(hi:2<=i)(hx:ws[i]? =some x)(hd:cutAt 61 x.toList=none){l:List UInt8}(hw:ws.map ByteArray.toList=dZ 32 l):newNode l=none:=by
 have hb:=ZI (r:=ws.drop 2) (i:=i-2) (x:=x) zCU hd;unfold newNode;rw[<-hw];match ws,hx,hb with
 | [],_,_=>rfl
 | [_],_,_=>rfl
 |a::b::r,_,hb=>simp only[List.map_cons];have e:(a::b::r).drop 2=r:=rfl;rw[e]at hb;rw[hb];rfl
theorem jJ.short{ws:List Str}(hl:ws.length<2){l:List UInt8}(hw:ws.map ByteArray.toList=dZ 32 l):newNode l=none:=by
 unfold newNode;rw[<-hw];match ws,hl with
 | [],_=>rfl
 | [_],_=>rfl
theorem jJ.fin{ws:List Str}{a b:Str}{S:List dM}(h:jJ ws ws.length b S)(ha:ws[0]? =some a)(hl:2<=ws.length){l:List UInt8}(hw:ws.map ByteArray.toList=dZ 32 l):newNode l=some (aC.toB ⟨a,b,S,[]⟩):=by
 obtain⟨h1,h2⟩:=h.hi hl;unfold newNode;rw[<-hw];match ws,ha,hl,h1,h2 with
 |a'::b'::r,ha,_,h1,h2=>simp only[List.getElem?_cons_zero,qG,List.getElem?_cons_succ]at ha h1;subst ha h1;have e:((a'::b'::r).drop 2).take ((a'::b'::r).length-2)=r:=qI zAP;rw[e]at h2;simp only[List.map_cons,h2,Option.map_some];rfl
def mW(G:Option (List Lk.NB))(w w':World)(e:Ending):Prop:= ∃ao n c ok,e= .returned (.tuple #[.agg #[.slice ao n c],.bool ok])/\O0 w w'/\
 (match G with|none=>ok=false|some G'=>ok=true/\∃L':List LN,fM (L'.map LN.x)=G'/\yS w' (.slice ao n c) L')
theorem mW.no{G:Option (List Lk.NB)}{w w':World}{ao:Option Addr}{n c:Nat}(hG:G=none)(o:O0 w w'):mW G w w' (.returned (.tuple #[.agg #[.slice ao n c],.bool false])):=by subst hG;exact⟨ao,n,c,false,rfl,o,rfl⟩
theorem mW.no'{G:Option (List Lk.NB)}{w w':World}{R:Nat}{ao:Option Addr}{n c:Nat}{cs:Array Value}(hG:G=none)(hR:w.heap.size=R)(o:O0 w w'):mW G w (w'.setRow (R+1) cs) (.returned (.tuple #[.agg #[.slice ao n c],.bool false])):=mW.no hG (o.trans (cZ w' (R+1) cs) fun k hk=>.inr zAA)
theorem mW.yes{G:Option (List Lk.NB)}{w W5:World}{R m c:Nat}{ao:Option Addr}{L0:List LN}{x:LN}{cs:Array Value}(hR:w.heap.size=R)(o5:O0 w W5)(hb:W5.heap[R+1]? =some (.cells cs 31 (0,0)))(own:W5.ownsRow 0 83 4 (.slice ao m c) m (gJ (L0++[x])))(hm:(L0++[x]).length=m)(each:∀W6,Only (fun k=>k=R+1) W5 W6->∀y∈L0++[x],BO 0 W6 y)(hG:G=some (fM ((L0++[x]).map LN.x))):mW G w (W5.setRow (R+1) #[.slice ao m c]) (.returned (.tuple #[.agg #[.slice ao m c],.bool true])):=by subst hG;have oS:=cZ W5 (R+1) #[.slice ao m c];have aj9:=aW own oS (fun k hk e=>jw zAH own hb (e▸hk));exact⟨ao,m,c,true,rfl,o5.trans oS fun k hk=>.inr zAA,rfl,L0++[x],rfl,by rw[hm];exact aj9,each _ oS⟩
section
variable {w w':World} {B:Nat}
theorem ZJ{g:Nat}(h:w.heap[g]? =some (.cells #[] 83)):w.ownsRow 0 83 4 (.slice (some ⟨g,0,none⟩) 0 0) 0 []:=
 ⟨rfl,.inr ⟨g,0,#[],rfl,qE _,h,qH _,by unfold maxLen;omega,rfl,rfl⟩⟩
theorem CG{Q:Ending->World->Prop}{W:World}{R:Nat}{T:Act}{c:Array Value}{gv:Value}{ok:Bool}(hb:W.heap[R]? =some (.cells c 31 (0,0)))(h4:T.tmps.getD 4 undef= .pointer (some ⟨R,0,none⟩))(h5:T.tmps.getD 5 undef= .bool ok)(hd:T.defers=[])(h:Q (.returned (.tuple #[.agg #[gv],.bool ok])) (W.setRow R #[gv])):bodyPost Tryz.prog Tryz.f59 Q Exit.ret T (W.setRow R #[gv]):=by
 refine bodyPost_ret (v:=.tuple #[.agg #[gv],.bool ok]) ?_ hd h;have a2:=setRow_heap W R c #[gv] 31 (0,0) hb;have e:Tryz.f59.results= #[.cell 4 31,.tmp 5]:=rfl;have l2:=run_loadVar_row (P:=Tryz.prog) _ R 31 31 #[gv] (0,0) _ a2 Tryz.underlying31 rfl zk;have g4:T.tmps[4]?.getD undef= .pointer (some ⟨R,0,none⟩):=by simpa using h4
 have g5:T.tmps[5]?.getD undef= .bool ok:=by simpa using h5
 simp only[results,e];simp[Result.andThen,g4,g5,asAddr,l2]
theorem TD{gl cap n0:Nat}{L0:List LN}{m:LN}(h:w.ownsRow 0 83 4 (.slice (some ⟨gl,0,none⟩) (n0+1) cap) (n0+1) (gJ (L0++[m])))(hn:L0.length=n0)(m':LN):(w.setCells gl (n0*4) m'.cells).ownsRow 0 83 4 (.slice (some ⟨gl,0,none⟩) (n0+1) cap) (n0+1) (gJ (L0++[m']))/\w.there gl (n0*4) 4/\w.rangeAt gl (n0*4) m.cells:=by
 have hat:∀j u,m.cells[j]? =some u->w.cell? ⟨gl,n0*4+j,none⟩=some u:=fun j u hu=>by have hj:j<4:=(qJ.1 hu).1;rw[h.cellAt (n0*4+j) zAA];exact zK (L0++[m]) n0 m (by rw[<-hn];simp) j u hu
 refine⟨?_,fun j hj=>⟨?_,h.frozenAt _⟩,fun j u hu=>hat j u hu⟩
 ·have st:=QS m'.cells (n0*4) h;have e:Tj (gJ (L0++[m])) (n0*4) m'.cells=gJ (L0++[m']):=by
   have hl:(gJ L0).length=n0*4:=by rw[J4,hn]
   have:=acn m'.cells (gJ L0) m.cells [] rfl;rw[hl,List.append_nil,List.append_nil]at this;rw[wG,wG];exact this
  rw[<-e];exact st
 have hj4:j<m.cells.length:=hj;rw[hat j _ (qA hj4)];rfl
theorem afF{v:Value}{g:List aC}{L:List LN}(hS:yS w v L)(hLg:L.map LN.x=g)(hlen:g.length<=100000)(ami:∀x∈g,x.needs.length<=100000)(line:Str)(hs:line.size<=1000000):Calls Tryz.prog 59 #[.agg #[v],.string line] w (fun e w'=>mW (kC (fM g) line.toList) w w' e):=by
 have hg:aS 4 dH w.heap.size w v g:=by rw[<-hLg];exact hS.read
 obtain⟨ao,cap,rfl,k1,k2⟩:=hg.shape;have hL1:=hLg;have hL2:∀n∈L,dH w.heap.size w n.cells n.x:=fun n hn=>(hS.each n hn).read;have hL3:∀ad,ao=some ad->∀j u,(gJ L)[j]? =some u->w.cell? (ad.add j)=some u:=fun ad had j u hu=>by
  have hown:=hS.own;have hne:0<L.length:=by have hj:=(qJ.1 hu).1;rw[J4]at hj;omega
  have e:g.length=L.length:=by rw[<-hLg,qM]
  rw[e]at hown;obtain⟨b,c,he,-,-⟩:=gQ hown hne;simp only[qU]at he;obtain⟨rfl,-,-⟩:=he;cases had;exact hown.cells (g:=b) rfl j u hu
 obtain⟨n,hn⟩:=ze g.length;have hLn:L.length=n:=by rw[<-hn,<-hL1,qM]
 rw[hn]at hg k1 hlen⊢;obtain⟨wa,YM⟩:=ze (w.alloc (.cells #[.slice ao n cap] 31));have hba:wa.heap[w.heap.size]? =some (.cells #[.slice ao n cap] 31 (0,0)):=by rw[<-YM];exact qL _ _
 have hsa:wa.heap.size=w.heap.size+1:=by rw[<-YM];exact Array.size_push _
 obtain⟨w0,hw0⟩:=ze (wa.alloc (.cells #[.slice none 0 0] 31));have hbb:w0.heap[w.heap.size+1]? =some (.cells #[.slice none 0 0] 31 (0,0)):=by rw[<-hw0,<-hsa];exact qL _ _
 have hs0:w0.heap.size=w.heap.size+2:=by rw[<-hw0];simp;omega
 have oa:O0 w wa:=by rw[<-YM];exact zr.alloc _
 have ob:O0 wa w0:=zBN;have hbc:=aA hba ob (fun f=>f);obtain⟨R,hR⟩:=ze w.heap.size;rw[hR]at hba hbb hbc hs0 hsa;have FU:=zh hR;have acG:Hid (∀W,O0 w0 W->W.heap[R]? =some (.cells #[.slice ao n cap] 31 (0,0))/\W.heap[R+1]? =some (.cells #[.slice none 0 0] 31 (0,0))):=fun W o=>⟨aA hbc o (fun f=>f),aA hbb o (fun f=>f)⟩;have aF:Hid (∀W,O0 w0 W->W.cell? ⟨R,0,none⟩=some (.slice ao n cap)/\W.cell? ⟨R+1,0,none⟩=some (.slice none 0 0)):=fun W o=>⟨by rw[aj (acG.out W o).1];rfl,by rw[aj (acG.out W o).2];rfl⟩;have jW:=zh (oa.same ob);have TU:=zh hs0;have YU:Hid (L.map LN.x=g/\L.length=n):=⟨hL1,hLn⟩;have aaS:Hid (∀W,Only (fun k=>R<=k) w W->∀m∈L,BO 0 W m):=fun W o m hm=>(hS.each m hm).grow zAA o;have amj:Hid (∀W,O0 w W->∀ad,ao=some ad->∀j u,(gJ L)[j]? =some u->W.cell? (ad.add j)=some u):=fun W o ad ha j u hu=>by have h:=hL3 ad ha j u hu;rw[World.cell?_of_block (w:=w) (o.block _ (World.block_lt_of_cell? _ _ h) (fun f=>f))];exact h
 have amk:Hid (ao=none->n=0/\cap=0):=fun h=>hg.nil n cap (by rw[h]);have QG:Hid (∀u∈gJ L,u.oneCell'=true):=aco hL2;have HFl:Hid ((gJ L).length=n*4):=by rw[Hid,J4,hLn]
 have jK:=zh hs;have apK:=zh ami;obtain⟨bx0,bx1⟩:=aF.out (w0.alloc (.cells #[] 83)) (zr.alloc _);have aml:Hid (∀ao' cap' w1,w1.ownsRow 0 83 4 (.slice ao' n cap') n (gJ L)->Only (fun k=>(Value.slice (some ⟨R+2,0,none⟩) 0 0).ownBlock=some k) (w0.alloc (.cells #[] 83)) w1->TL (w0.alloc (.cells #[] 83)) (.slice (some ⟨R+2,0,none⟩) 0 0) (.slice ao' n cap')->Hid (Pq R w1 (.slice ao' n cap') L)/\Hid (O0 w0 w1)):=fun ao' cap' w1 r1 r2 r3=>by have o1:O0 w0 w1:=((Only.refl (fun _=>False) w0).alloc _).trans r2 fun k hk=>.inr zBD;refine⟨⟨by rw[hLn];exact r1,fun k hk=>?_⟩,o1⟩;exact zHA
 have amm:Hid ((w0.alloc (.cells #[] 83)).ownsRow 0 83 4 (.slice (some ⟨R+2,0,none⟩) 0 0) 0 []):=ZJ (by rw[<-hs0];exact qL _ _);have afG:Hid (∀ad,ao=some ad->∀j u,(gJ L)[j]? =some u->(w0.alloc (.cells #[] 83)).cell? (ad.add j)=some u):=amj.out _ ((oa.same ob).alloc _);clear hS hLg ami hba hbb hbc oa ob hg hL1 hL2 hL3 hs hLn hn;go_enter Tryz.func59,Tryz.ntmps59;go_wp2_with (at_builtin;go_must (refine ahj KO rfl (.tmp 14) (.tmp 16) rfl rfl amm.out rfl HFl.out amk.out afG.out QG.out zAA zHZ ?_));intro ao1 cap1 w1 r1 r2 r3;obtain⟨Z7,aI⟩:=aml.out ao1 cap1 w1 r1 r2 r3;clear r1 r2 r3 aml amm afG bx0 bx1 hR hsa hw0 YM hs0;obtain⟨q1,hq1⟩:=ze (sG.isPrefixOf line.toList);have F7:Hid (∀W,Calls Tryz.prog 133 #[.string line,.string ⟨#[110,111,100,101,32]⟩] W (fun e w'=>e= .returned (.bool q1)/\w'=W)):=fun W=>Ti line ⟨#[110,111,100,101,32]⟩ zCu zAH q1 (by rw[TA];exact hq1);have Io:=zh hq1;clear hq1;go_wp2_with fail;refine(F7.out _).mono ?_;rintro e w2 ⟨rfl,rfl⟩;cases q1 with
 |true=>
  have h5:5<=line.size:=by have h:=Lk.Ub Io.out;have h2:=congrArg List.length h;rw[bC,qK]at h2;simp only[sG,qN,List.length_nil]at h2;omega
  have h5':(5:Int)<=(line.size:Int):=zAA;obtain⟨rest,hrest⟩:=ze (line.extract 5 line.size);have hrl:rest.toList=line.toList.drop 5:=by rw[<-hrest,ext_toList];exact qI zCQ
  have hrs:rest.size<=1000000:=by have:=jK.out;rw[<-bC,hrl,List.length_drop,bC];omega
  have KP:=zh (VX (w:=w2) rest hrs 32 32 rfl);have HRl:=zh hrl;clear hrl hrs F7;go_wp2_with fail;refine KP.out.mono ?_;rintro e w3 ⟨vw,rfl,ht,O3⟩;obtain⟨ws,hw1,hw2,hw3,hw4⟩:=ht;have hwne:0<ws.length:=by rw[<-qM (f:=ByteArray.toList),hw1];exact List.length_pos_iff.2 (Au 32 _)
  obtain⟨gw,cw,rfl,hc1,hc2⟩:=gQ hw2 hwne;obtain⟨nw,hnw⟩:=ze ws.length;have ZG:=zh hnw;rw[hnw]at hwne hw2 hc1⊢;have apM:nw<=1000000+1:=by
   have h:=KQ 32 rest.toList;rw[<-hw1,qM,hnw,bC]at h;have h2:=jK.out;have h3:=HRl.out;have h4:rest.size<=line.size:=by rw[<-bC,h3,List.length_drop,bC];omega
   omega
  obtain⟨a,ha⟩:=zG ws 0 zAA;have HWs:Hid (∀W,O0 w3 W->∀i x,ws[i]? =some x->W.cell? ⟨gw,i,none⟩=some (.string x)):=fun W o i x hx=>by exact zF0
  have kU:Hid (∀s∈ws,okS s):=hw3;have HCw:=zh hw1;have ZK:=zh O3;have amo:=zh (Z7.out.dK O3);have HA:=zh ha;have q0:=HWs.out w3 zr 0 a ha;clear hw1 hw2 hw3 hw4 O3 ha hnw;obtain⟨N,hN⟩:=ze w3.heap.size;go_wp2_with fail;obtain⟨w4,hw4⟩:=ze (w3.alloc (.cells #[.string a,.string ⟨#[]⟩,.slice none 0 0,.slice none 0 0] 83));have hb4:w4.heap[N]? =some (.cells #[.string a,.string ⟨#[]⟩,.slice none 0 0,.slice none 0 0] 83 (0,0)):=zCS;have Ej:Hid (O0 w3 w4):=by rw[<-hw4];exact zr.alloc _
  have amq:Hid (oD N w4 N a ⟨#[]⟩ (.slice none 0 0) []):=⟨hb4,World.ownsRow_nil _ _ _ _,(fun _ h=>by cases h),(fun k hk=>by simp[Value.ownBlock]at hk)⟩;have Q7:=zh hN;rw[hw4];clear hb4 hw4 hN q0;go_loopw [9,10,29] (fun _ _ vi wr=> ∃(i:Nat) (b:Str) (S:List dM) (TF:Option Addr) (TG:Nat),vi= .int .i64 i/\i<=nw/\Hid (oD N wr N a b (.slice TF S.length TG) S)/\Hid (jJ ws i b S)/\Hid (O0 w3 wr)) (fun _ _ v _=>nw-(RowKit.intOf v).toNat);case atStart=>exact⟨0,⟨#[]⟩,[],none,0,rfl,qE _,amq,jJ.start ws,Ej⟩
  case round=>
   clear amq Ej;obtain⟨i,b,S,TF,TG,rfl,hi,BJ,HWt,HO⟩:=hrel;by_cases ci:i<nw
   ·have iE:=zw (i+1);obtain⟨x,hx⟩:=zG ws i (by rw[ZG.out];exact ci);have HX:=zh hx;by_cases c1:i=1
    ·subst c1;obtain⟨hn1,hn2,hn3⟩:=BJ.out.ver (b':=x);have acH:=zh hn1;have afH:=zh (HWt.out.two hx);have q0:=HWs.out wr HO.out 1 x hx;have eF:Hid (O0 w3 (wr.setCell ⟨N,1,none⟩ (.string x))):=HO.out.trans ((Only.refl (fun k=>k=N) wr).setCell (p:=⟨N,1,none⟩) (.inl rfl) _) fun k hk=>.inr zBq;clear hn1 hx;go_wp2_with fail;go_roundw;case rel=>exact⟨2,x,S,TF,TG,by first|rfl|go_num,by omega,acH,afH,eF⟩
     case measure=>simp[RowKit.intOf]<;>omega
    have c1':((i:Int)==1)=false:=by rw[yC];omega
    by_cases c2:i<2
    ·obtain rfl:i=0:=by omega
     have afH:=zh HWt.out.one;clear hx c1';go_wp2_with fail;go_roundw;case rel=>exact⟨1,b,S,TF,TG,by first|rfl|go_num,by omega,BJ,afH,HO⟩
     case measure=>simp[RowKit.intOf]<;>omega
    have HAt:=zh (ajL (w:=wr) x (kU.out x (qT hx)) 61);have q0:=HWs.out wr HO.out i x hx;clear hx;have hwu:=HWt.out.len;go_wp2_with fail;refine HAt.out.mono ?_;rintro e w6 ⟨r,rfl,hat,O6⟩;have Gz:=zh (HO.out.same O6);have acI:=zh (BJ.out.dK O6);have q0:=HWs.out w6 Gz.out i x HX.out;unfold Pm at hat;clear HAt BJ HO;cases hcut:cutAt 61 x.toList with
    |none=>
     rw[hcut]at hat;simp only at hat;subst hat;have HW0:Hid (kC (fM g) line.toList=none):=by show _=_;unfold kC;have hn:=jJ.bad (ws:=ws) zAA HX.out hcut HCw.out;rw[HRl.out]at hn;rw[if_pos Io.out,hn];rfl
     have HB6:=zh (acG.out w6 (aI.out.same (ZK.out.same Gz.out)));obtain⟨bx0,bx1⟩:=aF.out w6 (aI.out.same (ZK.out.same Gz.out));clear hcut O6;go_wp2_with (refine wpList_store_row rfl 31 (.tmp 4) (.tmp 47) rfl (R+1) #[.slice ao n cap] rfl rfl 31 #[.slice none 0 0] HB6.out.2 zk rfl zAF ?_);refine CG (R:=R+1) (W:=w6) HB6.out.2 rfl rfl rfl ?_;exact mW.no' HW0.out FU.out (jW.out.same (aI.out.same (ZK.out.same Gz.out)))
    |some p=>
     rw[hcut]at hat;obtain⟨k,rfl,hk,hp1,hp2⟩:=hat;obtain⟨nS,hnS⟩:=ze S.length;obtain⟨x1,hx1⟩:=ze (x.extract 0 k);obtain⟨x2,hx2⟩:=ze (x.extract (k+1) x.size);have hxs:x.size<=9223372036854775807:=by have:=kU.out x (qT HX.out);unfold okS maxLen at this;omega
     have ewk:=zw (k+1);have t0:((k:Int)<0)=False:=zAP;have t1:(k:Int)+1<=(x.size:Int):=zAA;have t2:(0:Int)<=(k:Int)+1:=zAA;have t3:(k:Int)<=(x.size:Int):=zAA;have hok1:okS x1:=by rw[<-hx1];exact BA (kU.out x (qT HX.out)) _ _
     have hok2:okS x2:=by rw[<-hx2];exact BA (kU.out x (qT HX.out)) _ _
     have afH:Hid (jJ ws (i+1) b (S++[⟨x1,x2⟩])):=HWt.out.next zAA HX.out (by
      rw[hcut]
      show some p=some (x1.toList,x2.toList)
      rw[<-hx1,<-hx2,ext_toList,ext_toList,Nat.sub_zero,List.drop_zero,hp1]
      have e:(x.toList.drop (k+1)).take (x.size-(k+1))=x.toList.drop (k+1):=qI (by rw[List.length_drop,bC];exact qH _)
      rw[e,hp2])
     have HSv:Hid (∀W,O0 w6 W->W.ownsRow 0 117 2 (.slice TF nS TG) nS (xU S)):=fun W o=>by have h:=(acI.out.dK o).own;rw[hnS]at h;exact h
     have HK:Hid (∀W,O0 w6 W->W.cell? ⟨N,2,none⟩=some (.slice TF nS TG)/\W.cell? ⟨gw,i,none⟩=some (.string x)):=fun W o=>by have h:=(acI.out.dK o).blk;rw[hnS]at h;exact⟨by rw[aj h];rfl,HWs.out W (Gz.out.same o) i x HX.out⟩
     have Ce:Hid (∀W v',W.ownsRow 0 117 2 v' (nS+1) (xU S++[.string x1,.string x2])->Only (fun k=>(Value.slice TF nS TG).ownBlock=some k) w6 W->(∀k,v'.ownBlock=some k->(Value.slice TF nS TG).ownBlock=some k\/w6.heap.size<=k)->
       Hid (oD N (W.setCell ⟨N,2,none⟩ v') N a b v' (S++[⟨x1,x2⟩]))/\Hid (O0 w3 (W.setCell ⟨N,2,none⟩ v'))):=fun W v' r1 o r3=>by
      have hnd:=acI.out
      rw[hnS]at hnd
      have hB:N<=w6.heap.size:=by rw[<-Q7.out];exact Gz.out.size
      obtain⟨d1,d2,d3,d4⟩:=hnd.next (d:=⟨x1,x2⟩) (qH _) (by rw[hnS];exact r1) o r3 ⟨hok1,hok2⟩ hB
      exact⟨d1,Gz.out.trans d4 fun k hk=>.inr (by rw[Q7.out];exact hk)⟩
     have HKB:Hid (∀W,Only (fun k=>(Value.slice TF nS TG).ownBlock=some k) w6 W->W.cell? ⟨N,2,none⟩=some (.slice TF nS TG)/\W.frozen? ⟨N,2,none⟩=false):=fun W o=>by have hn:=acI.out;rw[hnS]at hn;have bN:W.heap[N]? =_:=(o.block N (yA.1 hn.blk).1 (fun e=>jw zAH hn.own hn.blk e)).trans hn.blk;exact⟨by rw[aj bN];rfl,gB bN 2⟩
     have HKA:Hid (∀W,Only (fun k=>(Value.slice TF nS TG).ownBlock=some k) w6 W->W.cell? ⟨N,2,none⟩=some (.slice TF nS TG)/\W.cell? ⟨gw,i,none⟩=some (.string x)):=fun W o=>by have hn:=acI.out;rw[hnS]at hn;refine⟨(HKB.out W o).1,HWs.out W (Gz.out.trans o fun k hk=>.inr ?_) i x HX.out⟩;rw[Q7.out];exact hn.new k hk
     have atj:nS<=1000001:=by rw[<-hnS];omega
     have HNs:=zh hnS;have hS0:=HK.out w6.drew (zr.drew);clear hcut hp1 hp2 hok1 hok2 O6 acI Gz hnS hwu;go_wp2_with fail;refine dn (n:=20) (E:=fun j=>j==19) (S:=fun W=>W.cell? ⟨N,2,none⟩=some (.slice TF nS TG)/\W.cell? ⟨gw,i,none⟩=some (.string x)) zk rfl hS0 (fun hHeld=>?_);refine tW 0 ?_;refine tK 1 ?_;refine tW 2 ?_;refine tW 3 ?_;refine tW 4 ?_;refine tK 5 ?_;refine tW 6 ?_;refine tW 7 ?_;refine tW 8 ?_;refine tW 9 ?_;refine tW 10 ?_;refine tK 11 ?_;refine tW 12 ?_;refine tW 13 ?_;refine tW 14 ?_;refine tW 15 ?_;refine tO 16 fun K hK=>?_;go_simp;refine hK.out _ _ ?_ (fun hHeld=>?_);·exact zF6
     clear hK K;try simp only[Act.put,fA,fB,dW,dX,dY]
     refine tO 17 fun K hK=>?_;(refine Nr afA (by rfl) (.tmp 49) (.tmp 64) (by rfl) (by rfl) (HSv.out _ zC5) (by rfl) (news:=[.string x1,.string x2]) (by rfl) zDI (fun ad hd j u hu=>by cases hd;exact uD zDJ hu) (by intro u hu;simp at hu;rcases hu with rfl|rfl<;>rfl) zAA zHP ?_;intro VG cap5 w10 r5 o5 nr5;have oA:Only (fun k=>(Value.slice TF nS TG).ownBlock=some k) w6 w10:=Only.trans zAK o5 (fun k hk=>.inl hk);have rA:∀k,(Value.slice VG (nS+1) cap5).ownBlock=some k->(Value.slice TF nS TG).ownBlock=some k\/w6.heap.size<=k:=fun k hk=>by(rcases nr5 k hk with h|h;exact Or.inl h;exact Or.inr zHO));refine hK.out _ _ ?_ (fun hHeld=>?_);·(try dsimp only)<;>(exact HKA.out w10 oA)
     clear hK K;try simp only[Act.put,fA,fD,fB,dW,dX,dY]
     refine tW 18 ?_;refine dN (rs:=[19]) zk zAP ?_;refine bI.late (i:=19) rfl zk (fun K hK=>?_) ?_
     ·(have c10:=(HKB.out w10 oA).1;have f10:=(HKB.out w10 oA).2;go_simp);refine hK.out _ _ ?_;clear hK K;try simp only[Act.put,fA,fD,fB,dW,dX,dY]
      refine bV zk ?_ _;have HFin:=zh (Ce.out w10 _ r5 oA rA);clear r5 o5 nr5 oA rA;go_wp2_with fail;go_roundw;case rel=>exact⟨i+1,b,S++[⟨x1,x2⟩],VG,cap5,by first|rfl|go_num,by omega,by rw[qK,List.length_singleton,HNs.out];exact HFin.out.1,afH,HFin.out.2⟩
      case measure=>simp[RowKit.intOf]<;>omega
     exact bI.nil
   obtain rfl:i=nw:=by omega
   obtain⟨nS,hnS⟩:=ze S.length;have hnd:=BJ.out;rw[hnS]at hnd;have q0:wr.cell? ⟨N,0,none⟩=some (.string a):=zCZ;have q1:wr.cell? ⟨N,1,none⟩=some (.string b):=zCZ;have q2:wr.cell? ⟨N,2,none⟩=some (.slice TF nS TG):=zCZ;have q3:wr.cell? ⟨N,3,none⟩=some (.slice none 0 0):=zCZ;have HNS:=zh hnS;have acH:=zh hnd;have akb:Hid (∀W,O0 wr W->W.ownsRow 0 83 4 (.slice ao1 n cap1) n (gJ L)):=fun W o=>by have h:=(amo.out.dK (HO.out.same o)).own;rw[YU.out.2]at h;exact h
   have amr:=zh (akb.out _ ((Only.refl (fun _=>False) wr).alloc (.cells #[.string a,.string b,.slice TF nS TG,.slice none 0 0] 83)));clear hnd hnS;go_wp2_with (at_builtin;go_must (refine ahj KO rfl (.tmp 68) (.tmp 70) rfl rfl amr.out rfl (news:=[.string a,.string b,.slice TF nS TG,.slice none 0 0]) rfl zDI (fun ad hd j u hu=>by cases hd;exact uD zDJ hu) (by intro u hu;simp at hu;rcases hu with rfl|rfl|rfl|rfl<;>rfl) zAA zHZ ?_));intro VG cap5 w5 r1 r2 r3;have O5:Only (fun k=>(Value.slice ao1 n cap1).ownBlock=some k) wr w5:=((Only.refl (fun _=>False) wr).alloc _ |>.mono fun _ f=>f.elim).same r2;have HR1:=zh r1;have xK:=zh O5;have akc:Hid (O0 w w5):=(jW.out.same (aI.out.same (ZK.out.same HO.out))).trans O5 fun k hk=>.inr (by rw[FU.out];exact amo.out.new k hk);have hb5:w5.heap[R+1]? =some (.cells #[.slice none 0 0] 31 (0,0)):=by have hb:=(acG.out wr (aI.out.same (ZK.out.same HO.out))).2;exact(O5.block _ (yA.1 hb).1 (fun e=>jw zAH (akb.out wr zr) hb e)).trans hb
   have HB5:=zh hb5;clear r1 r2 r3 O5 hb5 q0 q1 q2 q3 amr;by_cases cn:1<i
   ·have t1:decide ((1:Int)<(i:Int))=true:=qX zAA;have hW:kC (fM g) line.toList=some (fM ((L++[(⟨⟨a,b,S,[]⟩,.slice TF nS TG,.slice none 0 0⟩:LN)]).map LN.x)):=by unfold kC;have hf:=HWt.out;have hn:=jJ.fin (ws:=ws) (a:=a) (b:=b) (S:=S) (by rw[ZG.out];exact hf) HA.out (by rw[ZG.out];omega) HCw.out;rw[HRl.out]at hn;rw[if_pos Io.out,hn,Option.map_some,<-YU.out.1];simp[fM]
    have HW:=zh hW;clear hW;go_wp2_with (refine wpList_store_row rfl 31 (.tmp 4) (.tmp 72) rfl (R+1) #[.slice VG (n+1) cap5] rfl rfl 31 #[.slice none 0 0] HB5.out zk rfl zAF ?_);refine CG (R:=R+1) (W:=w5) HB5.out rfl rfl rfl ?_;refine mW.yes (L0:=L) (x:=⟨⟨a,b,S,[]⟩,.slice TF nS TG,.slice none 0 0⟩) FU.out akc.out HB5.out (by rw[wG];exact HR1.out) (by rw[qK,YU.out.2];rfl) (fun W6 o6 y hy=>?_) HW.out;rcases qW.1 hy with hy|hy;·exact aaS.out W6 ((akc.out.mono fun _ f=>f.elim).trans o6 fun k hk=>.inl zAA) y hy
    rw[yJ.1 hy];have hs5:=aW (acH.out.own) xK.out (fun k hk e=>Dq zAH acH.out.own (akb.out wr zr) hk e);have hs6:=aW hs5 o6 (fun k hk e=>by
     have h1:=acH.out.new k hk
     have h2:=jW.out.same (aI.out.same ZK.out)
     have h3:=h2.size
     have h4:=Q7.out
     have h5:=TU.out
     have h6:=(aI.out.same ZK.out).size
     omega)
    have hns:=HNS.out;exact⟨kU.out a (qT HA.out),kU.out b (qT (HWt.out.hi zAA).1),by rw[<-hns]at hs6⊢;exact hs6,World.ownsRow_nil _ _ _ _,acH.out.oks,(fun _ h=>by cases h),fun _ _=>qE _,fun _ _=>qE _⟩
   have t1:decide ((1:Int)<(i:Int))=false:=qP zAA;have hW:kC (fM g) line.toList=none:=by unfold kC;have hn:=jJ.short (ws:=ws) (by rw[ZG.out];omega) HCw.out;rw[HRl.out]at hn;rw[if_pos Io.out,hn];rfl
   have HW:=zh hW;clear hW;go_wp2_with (refine wpList_store_row rfl 31 (.tmp 4) (.tmp 72) rfl (R+1) #[.slice VG (n+1) cap5] rfl rfl 31 #[.slice none 0 0] HB5.out zk rfl zAF ?_);refine CG (R:=R+1) (W:=w5) HB5.out rfl rfl rfl ?_;exact mW.no' HW.out FU.out akc.out
 |false=>
  obtain⟨q2,hq2⟩:=ze (uZ.isPrefixOf line.toList);have HP2:Hid (∀W,Calls Tryz.prog 133 #[.string line,.string ⟨#[32,32,110,101,101,100,115,32]⟩] W (fun e w'=>e= .returned (.bool q2)/\w'=W)):=fun W=>Ti line ⟨#[32,32,110,101,101,100,115,32]⟩ zCu zAH q2 (by rw[TB];exact hq2);have pI:=zh hq2;have hW1:kC (fM g) line.toList=if q2=true then ((fM g).getLast?).map fun n=>(fM g).dropLast++[{n with needs:=n.needs++[line.toList.drop 8]}]else none:=by unfold kC;rw[if_neg (by rw[Io.out];decide),hq2]
  have HW1:=zh hW1;have HB2:=zh (acG.out w2 aI.out);obtain⟨bx0,bx1⟩:=aF.out w2 aI.out;clear hq2 hW1 F7;go_wp2_with fail;refine(HP2.out _).mono ?_;rintro e w3 ⟨rfl,rfl⟩;cases q2 with
  |false=>
   have HW:Hid (kC (fM g) line.toList=none):=by rw[Hid,HW1.out,if_neg zAH]
   go_wp2_with (refine wpList_store_row rfl 31 (.tmp 4) (.tmp 84) rfl (R+1) #[.slice ao n cap] rfl rfl 31 #[.slice none 0 0] HB2.out.2 zk rfl zAF ?_);exact zGo
  |true=>
   rcases Ib L with Vk| ⟨L0,m,Vk⟩
   ·obtain rfl:n=0:=by rw[<-YU.out.2,Vk];rfl
    have HW:Hid (kC (fM g) line.toList=none):=by
     have hg:g=[]:=by rw[<-YU.out.1,Vk];rfl
     rw[Hid,HW1.out,if_pos rfl,hg];rfl
    clear Vk;go_wp2_with (refine wpList_store_row rfl 31 (.tmp 4) (.tmp 84) rfl (R+1) #[.slice ao 0 cap] rfl rfl 31 #[.slice none 0 0] HB2.out.2 zk rfl zAF ?_);exact zGo
   subst Vk;obtain⟨n0,hn0⟩:=ze L0.length;have hnn:n=n0+1:=by rw[<-YU.out.2,qK,hn0];rfl
   subst hnn;have hcy:=Z7.out;have hown:=hcy.own;rw[YU.out.2]at hown;obtain⟨gl,cl,he1,-,-⟩:=gQ hown zAA;cases he1;have hwo:Only (fun k=>R<=k) w w3:=(jW.out.same aI.out).mono fun _ f=>f.elim;have hm:dH w3.heap.size w3 m.cells m.x:=(aaS.out w3 hwo m zAP).read;obtain⟨mx,mv1,mv2⟩:=m;obtain⟨xn,xv,xs,xd⟩:=mx;obtain⟨v1,v2,hce,ko1,ko2,rw1,rw2⟩:=hm;simp only[LN.cells,List.cons.injEq,and_true,true_and]at hce;obtain⟨rfl,rfl⟩:=hce;dsimp only at ko1 ko2 rw1 rw2;obtain⟨Vj,cs1,rfl,-,-⟩:=rw1.shape;obtain⟨as2,cs2,rfl,hd1,hd2⟩:=rw2.shape;obtain⟨ns,hns⟩:=ze xs.length;obtain⟨nd,hnd⟩:=ze xd.length;have atm:nd<=100000:=by have h:=apK.out ⟨xn,xv,xs,xd⟩ (by rw[<-YU.out.1];simp);rw[<-hnd];exact h
   have h8:8<=line.size:=by have h:=Lk.Ub pI.out;have h2:=congrArg List.length h;rw[bC,qK]at h2;simp only[uZ,qN,List.length_nil]at h2;omega
   have h8':(8:Int)<=(line.size:Int):=zAA;obtain⟨rest,hrest⟩:=ze (line.extract 8 line.size);have hrl:rest.toList=line.toList.drop 8:=by rw[<-hrest,ext_toList];exact qI zCQ
   have hrk:okS rest:=by rw[<-hrest];exact BA zCu _ _
   obtain⟨M',hM'⟩:∃M':Value->LN,M'=fun v=>⟨⟨xn,xv,xs,xd++[rest]⟩,.slice Vj ns cs1,v⟩:=⟨_,rfl⟩;have hW:∀v,kC (fM g) line.toList=some (fM ((L0++[M' v]).map LN.x)):=fun v=>by rw[HW1.out,if_pos rfl,<-YU.out.1];subst hM';simp[fM,aC.toB,hrl]
   have HW:=zh hW;rw[hns]at rw1 hown hcy;rw[hnd]at rw2 hown hcy hd1;obtain⟨-,hth,hrg⟩:=TD hown hn0 (M' undef);have hrg2:w3.rangeAt gl (n0*4) [.string xn,.string xv,.slice Vj ns cs1,.slice as2 nd cs2]:=hrg;obtain⟨N,hN⟩:=ze w3.heap.size;obtain⟨w4,hw4⟩:=ze (w3.alloc (.cells #[.string xn,.string xv,.slice Vj ns cs1,.slice as2 nd cs2] 83));have hb4:w4.heap[N]? =some (.cells #[.string xn,.string xv,.slice Vj ns cs1,.slice as2 nd cs2] 83 (0,0)):=zCS;have o4:O0 w3 w4:=by rw[<-hw4];exact zr.alloc _
   have hs4:w4.heap.size=N+1:=by rw[<-hw4,<-hN];exact Array.size_push _
   have HN4:Hid (∀W,O0 w4 W->W.heap[N]? =some (.cells #[.string xn,.string xv,.slice Vj ns cs1,.slice as2 nd cs2] 83 (0,0))):=fun W o=>aA hb4 o (fun f=>f);have hnews:∀W,O0 w4 W->∀ad,as2=some ad->∀j u,(bZ xd)[j]? =some u->W.cell? (ad.add j)=some u:=fun W o ad had j u hu=>by
    have hj:=(qJ.1 hu).1;have hj2:j<xd.length:=by simpa[bZ]using hj
    have r:=rw2.keep bU.keep (Kp.dV (o4.same o));rw[<-hnd]at r;obtain⟨b,off,rfl,-,hE⟩:=iR r (qA hj2);have h:=(hE W zr).1 0 _ rfl;cases had;rw[qF,yH]at h;rw[Go.WideShapes.add_plain,h,<-hu];unfold bZ;rw[List.getElem?_map,qA hj2];rfl
   have afI:=zh (hnews _ ((Only.refl (fun _=>False) w4).alloc (.cells #[] 9)));have akd:Hid (as2=none->nd=0/\cs2=0):=fun h=>by have:=rw2.nil nd cs2 (by rw[h]);exact this
   have apN:Hid ((bZ xd).length=nd*1):=by show _=_;rw[yH,<-hnd];simp[bZ]
   have amu:Hid (∀u∈bZ xd,u.oneCell'=true):=fun u hu=>by obtain⟨s,-,rfl⟩:=yD.1 hu;rfl
   have aio:Hid ((w4.alloc (.cells #[] 9)).ownsRow 0 9 1 (.slice (some ⟨N+1,0,none⟩) 0 0) 0 []):=by rw[<-hs4];exact zn w4
   have b4:=HN4.out _ ((Only.refl (fun _=>False) w4).alloc (.cells #[] 9));have q3:(w4.alloc (.cells #[] 9)).cell? ⟨N,3,none⟩=some (.slice as2 nd cs2):=by rw[aj b4];rfl
   have e1:IntKind.i64.wrap ((n0:Int)+1-1)=(n0:Int):=zBR;have e2:IntKind.i64.wrap (n0:Int)=(n0:Int):=zBR;have HRg:=zh hrg2;clear hown hcy hth hrg hrg2 b4 hnews hW;go_wp2_with (first| (refine wpList_load_mid rfl 83 (.tmp 89) rfl gl (n0*4) rfl [.string xn,.string xv,.slice Vj ns cs1,.slice as2 nd cs2] _ HRg.out Tryz.underlying83 rfl zk ?_)| (at_builtin;go_must (refine ahj iU rfl (.tmp 92) (.tmp 94) rfl rfl aio.out rfl apN.out akd.out afI.out amu.out zAA zHZ ?_)));intro ao6 cap6 w6 r1 r2 r3;have O6:O0 w4 w6:=((Only.refl (fun _=>False) w4).alloc _).trans r2 fun k hk=>.inr zBD;have aip:∀k,(Value.slice ao6 nd cap6).ownBlock=some k->N+1<=k:=fun k hk=>by exact zHA
   have aiq:=zh aip;have Gz:=zh O6;have HR7:=zh (aW r1 ((Only.refl (fun _=>False) w6).alloc (.cells #[.string rest] 9)) (fun _ _ f=>f));clear r1 r2 r3 O6 aip q3 aio afI;go_wp2_with (at_builtin;go_must (refine Ai (u:=.string rest) iU rfl (.tmp 96) (.tmp 99) rfl rfl rfl (cell_new0 _ _ _) rfl HR7.out zAA zHZ ?_));intro v8 w8 r1 r2 r3;obtain⟨g8,Vu,hv8,-,-,r3⟩:=r3;subst hv8;have O8:O0 w4 w8:=(Gz.out.alloc _).trans r2 fun k hk=>.inr (by rw[hs4];exact aiq.out k hk);have hg8:N+1<=g8:=by
    rcases r3 with h|h;·exact aiq.out g8 h
    have:=Gz.out.size;simp at h;omega
   have b8:=HN4.out w8 O8;have q8:w8.cell? ⟨N,3,none⟩=some (.slice as2 nd cs2):=by rw[aj b8];rfl
   have f8:w8.frozen? ⟨N,3,none⟩=false:=gB b8 3;obtain⟨w9,dR⟩:=ze (w8.setCell ⟨N,3,none⟩ (.slice (some ⟨g8,0,none⟩) (nd+1) Vu));have oS9:Only (fun k=>k=N) w8 w9:=by rw[<-dR];exact(Only.refl (fun k=>k=N) w8).setCell (p:=⟨N,3,none⟩) (.inl rfl) _
   have b9:w9.heap[N]? =some (.cells #[.string xn,.string xv,.slice Vj ns cs1,.slice (some ⟨g8,0,none⟩) (nd+1) Vu] 83 (0,0)):=by rw[<-dR];exact heap_setCell_same w8 N 3 _ 83 _ b8
   have ake:=aW r1 oS9 (fun k hk e=>jw zAH r1 b8 (e▸hk));have O9:O0 w3 w9:=(o4.same O8).trans oS9 fun k hk=>.inr zAA;have amv:=Z7.out.dK O9;have hl9:=amv.own;rw[YU.out.2,hns,hnd]at hl9;have hM:∀v,(M' v).cells=[.string xn,.string xv,.slice Vj ns cs1,v]:=fun v=>by subst hM';rfl
   obtain⟨aaT,hth,-⟩:=TD hl9 hn0 (M' (.slice (some ⟨g8,0,none⟩) (nd+1) Vu));rw[hM]at aaT;obtain⟨w10,amx⟩:=ze (w9.setCells gl (n0*4) [.string xn,.string xv,.slice Vj ns cs1,.slice (some ⟨g8,0,none⟩) (nd+1) Vu]);have afJ:Only (fun k=>k=gl) w9 w10:=by rw[<-amx];exact Po gl _ w9 _
   have hgl:R<=gl:=Z7.out.new gl rfl;rw[amx]at aaT;have afK:=aW ake afJ (fun k hk e=>Dq zAH ake hl9 (k:=k) hk (by rw[e];rfl));have amy:=(acG.out w3 aI.out).2;have ahz:w9.heap[R+1]? =some (.cells #[.slice none 0 0] 31 (0,0)):=aA amy O9 (fun f=>f);have hbR:w10.heap[R+1]? =some (.cells #[.slice none 0 0] 31 (0,0)):=(afJ.block _ (yA.1 ahz).1 (fun e=>jw zAH hl9 ahz (by rw[e];rfl))).trans ahz;have apP:Only (fun k=>R<=k) w3 w10:=(O9.mono fun _ f=>f.elim).trans afJ fun k hk=>.inl zAA;have akf:O0 w w10:=(jW.out.same (aI.out.same O9)).trans afJ fun k hk=>.inr (by rw[FU.out,hk];exact hgl);have HFin:Hid (mW (kC (fM g) line.toList) w (w10.setRow (R+1) #[.slice (some ⟨gl,0,none⟩) (n0+1) cap1]) (.returned (.tuple #[.agg #[.slice (some ⟨gl,0,none⟩) (n0+1) cap1],.bool true]))):=by
    refine mW.yes (L0:=L0) (x:=M' (.slice (some ⟨g8,0,none⟩) (nd+1) Vu)) FU.out akf hbR aaT (by rw[qK,hn0];rfl) (fun W6 o6 y hy=>?_) (HW.out _);have oW:Only (fun k=>R<=k) w W6:=(akf.mono fun _ f=>f.elim).trans o6 fun k hk=>.inl zAA;rcases qW.1 hy with hy|hy;·exact aaS.out W6 oW y (List.mem_append_left _ hy)
    rw[yJ.1 hy];have aj9:=aW afK o6 (fun k hk e=>jw zAH afK hbR (e▸hk));have ho:=aaS.out W6 oW ⟨⟨xn,xv,xs,xd⟩,.slice Vj xs.length cs1,.slice as2 xd.length cs2⟩ zAP;have hse:=ho.sets;subst hM';refine⟨ko1,ko2,?_,?_,ho.k3,fun s hs=>?_,fun _ _=>qE _,fun _ _=>qE _⟩;·show W6.ownsRow 0 _ 2 (.slice Vj ns cs1) xs.length (xU xs);change W6.ownsRow 0 _ 2 (.slice Vj xs.length cs1) xs.length (xU xs)at hse;rw[hns]at hse⊢;exact hse
    ·show W6.ownsRow 0 _ 1 (.slice (some ⟨g8,0,none⟩) (nd+1) Vu) (xd++[rest]).length (bZ (xd++[rest]));rw[qK,hnd];simpa[bZ]using aj9
    have hs':s∈xd++[rest]:=hs;rcases qW.1 hs' with h|h;·exact ho.k4 s h
    rw[yJ.1 h];exact hrk
   have HbR:=zh hbR;have HTh:Hid (w9.there gl (n0*4) 4):=hth;have c0:w9.cell? ⟨N,0,none⟩=some (.string xn):=by rw[aj b9];rfl
   have c1:w9.cell? ⟨N,1,none⟩=some (.string xv):=by rw[aj b9];rfl
   have c2:w9.cell? ⟨N,2,none⟩=some (.slice Vj ns cs1):=by rw[aj b9];rfl
   have c3:w9.cell? ⟨N,3,none⟩=some (.slice (some ⟨g8,0,none⟩) (nd+1) Vu):=by rw[aj b9];rfl
   clear r1 r2 r3 O8 b8 oS9 b9 ake O9 amv hl9 aaT hth afJ afK amy ahz hbR apP akf rw1 rw2 HR7;have ti:(Tryz.prog.info? 83).map (·.size)=some 4:=by kernel_rfl
   have tc:(#[.string xn,.string xv,.slice Vj ns cs1,.slice (some ⟨g8,0,none⟩) (nd+1) Vu]:Array Value).all (·.oneCell')=true:=zC9;have HTi:=zh ti;have HTc:=zh tc;clear ti tc;go_wp2_with (first| (refine wpList_store_mid (cells:= #[.string xn,.string xv,.slice Vj ns cs1,.slice (some ⟨g8,0,none⟩) (nd+1) Vu]) rfl 83 (.tmp 107) (.tmp 106) rfl gl (n0*4) rfl rfl HTh.out HTi.out HTc.out ?_)| (refine wpList_store_row rfl 31 (.tmp 4) (.tmp 109) rfl (R+1) #[.slice (some ⟨gl,0,none⟩) (n0+1) cap1] rfl rfl 31 #[.slice none 0 0] HbR.out zk rfl zAF ?_));refine CG (R:=R+1) HbR.out rfl rfl rfl ?_;exact HFin.out
end
end Go.Proofs.YtdmmebjjojimiaaGreatDoor
