/- cooperref28.Parse: walked. Printed by gen_lkwm.py.; LockParses: which graph any text is, or the line that is wrong, is the document's; what is -/
import Derived.Test.YtdmmebjjojimiaaGreatDoorG42
set_option maxRecDepth 100000
set_option maxHeartbeats 8000000
set_option linter.all false
namespace Go.Proofs
theorem zA7{p:Prop}(h:p:=by rw[<-dR];exact(Only.refl (fun k=>k=N) w8).setCell (p:=⟨N,0,none⟩) (.inl rfl) _):p:=h
theorem zBI{p:Prop}(h:p:=by repeat (first|exact Only.refl _ _|apply Only.drew|apply Only.alloc)):p:=h
theorem zBT{p:Prop}(h:p:=by exact qL _ _):p:=h
theorem zBY{p:Prop}(h:p:=by rw[<-dR];exact heap_setCell_same w8 N 0 _ 31 _ hbN):p:=h
theorem zBk{p:Prop}(h:p:=by rw[PX.out];rfl):p:=h
theorem zBp{p:Prop}(h:p:=by rw[aj (aA Ya.out O8 (fun f=>f))];rfl):p:=h
theorem zBr{p:Prop}(h:p:=by rw[<-hw7];exact(Only.refl (fun k=>k=wr.heap.size) w6).setCell (p:=⟨wr.heap.size,0,none⟩) (.inl rfl) _):p:=h
theorem zCY{p:Prop}(h:p:=by rw[<-hw7,<-hX];exact heap_setCell_same w6 _ 0 _ 31 _ bX):p:=h
theorem zCg{p:Prop}(h:p:=by rw[aj Ya.out];rfl):p:=h
theorem zCm{p:Prop}(h:p:=by first|rfl|omega|simp):p:=h
theorem zDN{p:Prop}(h:p:=by
 have pz:=zh O7
 have Ya:=zh b7
 have HM:=zh hm
 clear O7 ob hm
 have n1:w7.cell? ⟨X,0,none⟩=some (.slice an nn cn):=zCg
 have PW:Hid (O0 w3 w7):=Qm.out.only.same pz.out
 cases okn with
 |false=>
  have sJ:Hid (eG s.toList= .error (i+1)):=uI.out (by
   unfold iy
   cases hw:kC (fM (L.map LN.x)) x.toList with
   |none=>rfl
   |some G'=>have h:=HM.out;rw[hw]at h;cases h.1)
  have Jo:=zh (HB0.out w7 (kD.out.same PW.out))
  have uH:Hid (O0 w w7):=qp.out.same pz.out
  clear n1
  go_wp2_with (refine wpList_store_row rfl 47 (.tmp 2) (.tmp 59) rfl R #[.slice none 0 0,.int .i64 ((i:Int)+1)] rfl rfl 47 #[.slice none 0 0,.int .i64 0] Jo.out zk rfl zAF ?_)
  refine ji (R:=R) Jo.out rfl rfl ?_
  exact fH.err (n:=i+1) sJ.out zAA zCm FU.out uH.out
 |true=>
  obtain⟨G',hw⟩:∃G',kC (fM (L.map LN.x)) x.toList=some G':=by
   cases hw:kC (fM (L.map LN.x)) x.toList with
   |none=>have h:=HM.out;rw[hw]at h;cases h
   |some G'=>exact⟨G',rfl⟩
  have hmm:=HM.out
  rw[hw]at hmm
  obtain⟨-,L',hL',hrow⟩:=hmm
  have FV:=zh (pO.out L' hrow)
  obtain⟨r,hr⟩:=ze (dL (fM (L'.map LN.x)))
  have PX:Hid (iy (fM (L.map LN.x)) x.toList=if r=true then some (fM (L'.map LN.x))else none):=by
   show _=_
   unfold iy
   rw[hw,<-hL',Option.filter_some,hr]
  have Bo:=zh (yB FV.out.read r hr)
  have HGr:=zh hr
  clear hrow hw hL' HM pO hr
  go_wp2_with fail
  refine Bo.out.mono ?_
  rintro e w8 ⟨rfl,O8⟩
  have DT:Hid (O0 w3 w8):=PW.out.same O8
  have uH:Hid (O0 w w8):=(qp.out.same pz.out).same O8
  have Jo:=zh (HB0.out w8 (kD.out.same DT.out))
  have n1:w8.cell? ⟨X,0,none⟩=some (.slice an nn cn):=zBp
  have PY:=zh (FV.out.dK O8)
  have hbN:=aA Qm.out.blk (pz.out.same O8) (fun f=>f)
  clear O8 Bo
  cases r with
  |false=>
   have sJ:Hid (eG s.toList= .error (i+1)):=uI.out zBk
   clear n1 hbN
   go_wp2_with (refine wpList_store_row rfl 47 (.tmp 2) (.tmp 59) rfl R #[.slice none 0 0,.int .i64 ((i:Int)+1)] rfl rfl 47 #[.slice none 0 0,.int .i64 0] Jo.out zk rfl zAF ?_)
   refine ji (R:=R) Jo.out rfl rfl ?_
   exact fH.err (n:=i+1) sJ.out zAA zCm FU.out uH.out
  |true=>
   have n2:w8.cell? ⟨N,0,none⟩=some (.slice ao n c):=by rw[aj hbN];rfl
   have n3:w8.frozen? ⟨N,0,none⟩=false:=gB hbN 0
   obtain⟨w9,dR⟩:=ze (w8.setCell ⟨N,0,none⟩ (.slice an nn cn))
   have b9:w9.heap[N]? =some (.cells #[.slice an nn cn] 31 (0,0)):=zBY
   have oS:Only (fun k=>k=N) w8 w9:=zA7
   have fK:Hid (O0 w3 w9):=DT.out.trans oS fun k hk=>.inr zBq
   have XU:=zh (PY.out.blk hbN zC6 zHZ zAH oS)
   have HB9:=zh b9
   have hst:iy (fM (L.map LN.x)) x.toList=some (fM (L'.map LN.x)):=zBk
   have Ij:=zh hst
   clear hst b9 oS hbN
   have sJ:Hid (eG s.toList= .error (i+2)):=Fb.out _ Ij.out
   have afM:=zh (HB0.out w9 (kD.out.same fK.out))
   have akh:Hid (O0 w w9):=jW.out.same (kD.out.same fK.out)
   go_wp2_with (refine wpList_store_row rfl 47 (.tmp 2) (.tmp 68) rfl R #[.slice none 0 0,.int .i64 ((i:Int)+2)] rfl rfl 47 #[.slice none 0 0,.int .i64 0] afM.out zk rfl zAF ?_)
   refine ji (R:=R) afM.out rfl rfl ?_
   exact fH.err (n:=i+2) sJ.out zAA zCm FU.out akh.out):p:=h
theorem zDP{p:Prop}(h:p:=by
 have pz:=zh O7
 have Ya:=zh b7
 have HM:=zh hm
 clear O7 ob hm
 have n1:w7.cell? ⟨X,0,none⟩=some (.slice an nn cn):=zCg
 have PW:Hid (O0 w3 w7):=Qm.out.only.same pz.out
 cases okn with
 |false=>
  have sJ:Hid (eG s.toList= .error (i+1)):=uI.out (by
   unfold iy
   cases hw:kC (fM (L.map LN.x)) x.toList with
   |none=>rfl
   |some G'=>have h:=HM.out;rw[hw]at h;cases h.1)
  have Jo:=zh (HB0.out w7 (kD.out.same PW.out))
  have uH:Hid (O0 w w7):=qp.out.same pz.out
  clear n1
  go_wp2_with (refine wpList_store_row rfl 47 (.tmp 2) (.tmp 59) rfl R #[.slice none 0 0,.int .i64 ((i:Int)+1)] rfl rfl 47 #[.slice none 0 0,.int .i64 0] Jo.out zk rfl zAF ?_)
  refine ji (R:=R) Jo.out rfl rfl ?_
  exact fH.err (n:=i+1) sJ.out zAA zCm FU.out uH.out
 |true=>
  obtain⟨G',hw⟩:∃G',kC (fM (L.map LN.x)) x.toList=some G':=by
   cases hw:kC (fM (L.map LN.x)) x.toList with
   |none=>have h:=HM.out;rw[hw]at h;cases h
   |some G'=>exact⟨G',rfl⟩
  have hmm:=HM.out
  rw[hw]at hmm
  obtain⟨-,L',hL',hrow⟩:=hmm
  have FV:=zh (pO.out L' hrow)
  obtain⟨r,hr⟩:=ze (dL (fM (L'.map LN.x)))
  have PX:Hid (iy (fM (L.map LN.x)) x.toList=if r=true then some (fM (L'.map LN.x))else none):=by
   show _=_
   unfold iy
   rw[hw,<-hL',Option.filter_some,hr]
  have Bo:=zh (yB FV.out.read r hr)
  have HGr:=zh hr
  clear hrow hw hL' HM pO hr
  go_wp2_with fail
  refine Bo.out.mono ?_
  rintro e w8 ⟨rfl,O8⟩
  have DT:Hid (O0 w3 w8):=PW.out.same O8
  have uH:Hid (O0 w w8):=(qp.out.same pz.out).same O8
  have Jo:=zh (HB0.out w8 (kD.out.same DT.out))
  have n1:w8.cell? ⟨X,0,none⟩=some (.slice an nn cn):=zBp
  have PY:=zh (FV.out.dK O8)
  have hbN:=aA Qm.out.blk (pz.out.same O8) (fun f=>f)
  clear O8 Bo
  cases r with
  |false=>
   have sJ:Hid (eG s.toList= .error (i+1)):=uI.out zBk
   clear n1 hbN
   go_wp2_with (refine wpList_store_row rfl 47 (.tmp 2) (.tmp 59) rfl R #[.slice none 0 0,.int .i64 ((i:Int)+1)] rfl rfl 47 #[.slice none 0 0,.int .i64 0] Jo.out zk rfl zAF ?_)
   refine ji (R:=R) Jo.out rfl rfl ?_
   exact fH.err (n:=i+1) sJ.out zAA zCm FU.out uH.out
  |true=>
   have n2:w8.cell? ⟨N,0,none⟩=some (.slice ao n c):=by rw[aj hbN];rfl
   have n3:w8.frozen? ⟨N,0,none⟩=false:=gB hbN 0
   obtain⟨w9,dR⟩:=ze (w8.setCell ⟨N,0,none⟩ (.slice an nn cn))
   have b9:w9.heap[N]? =some (.cells #[.slice an nn cn] 31 (0,0)):=zBY
   have oS:Only (fun k=>k=N) w8 w9:=zA7
   have fK:Hid (O0 w3 w9):=DT.out.trans oS fun k hk=>.inr zBq
   have XU:=zh (PY.out.blk hbN zC6 zHZ zAH oS)
   have HB9:=zh b9
   have hst:iy (fM (L.map LN.x)) x.toList=some (fM (L'.map LN.x)):=zBk
   have Ij:=zh hst
   clear hst b9 oS hbN
   have HPn:Hid (PJ s ws w3 w9 N (i+1) an nn cn L'):=⟨HB9.out,XU.out,HGr.out,fun _=>Fb.out _ Ij.out,fK.out⟩
   go_wp2_with fail
   exact⟨⟨i+1,an,nn,cn,L',by first|rfl|go_num,by omega,HPn⟩,by simp[RowKit.intOf]<;>omega⟩):p:=h
theorem zEn{p:Prop}(h:p:=by
 clear ch hS0
 go_wp2_with (refine wpList_store_row rfl 47 (.tmp 2) (.tmp 40) rfl R #[.slice none 0 0,.int .i64 (1)] rfl rfl 47 #[.slice none 0 0,.int .i64 0] OC.out zk rfl zAF ?_)
 refine ji (R:=R) OC.out rfl rfl ?_
 exact fH.err (n:=1) sJ.out zAA zCm FU.out qp.out):p:=h
theorem zFo{p:Prop}(h:p:=by(try dsimp only)<;>(exact HK.out _ (hHeld.2.2.same O6))):p:=h
theorem zFp{p:Prop}(h:p:=by(try dsimp only)<;>(exact HK.out _ (hHeld.2.2.alloc _))):p:=h
end Go.Proofs
namespace Go.Proofs.YtdmmebjjojimiaaGreatDoor
open Go.RowKit
open Lk (kC iy goB eG dL mO)
def acJ(s:Str)(w w':World)(e:Ending):Prop:= ∃ao n c ln,e= .returned (.agg #[.slice ao n c,.int .i64 ln])/\O0 w w'/\
 (match eG s.toList with| .ok G=>ln=0/\∃g,fM g=G/\aS 4 dH w'.heap.size w' (.slice ao n c) g| .error k=>ln=(k:Int)/\0<k)
def fH(s:Str)(w w':World)(e:Ending):Prop:= ∃ao n c ln,e= .returned (.agg #[.slice ao n c,.int .i64 ln])/\O0 w w'/\
 (match eG s.toList with| .ok G=>ln=0/\∃L:List LN,fM (L.map LN.x)=G/\yS w' (.slice ao n c) L| .error k=>ln=(k:Int)/\0<k)
theorem fH.weak{s:Str}{w w':World}{e:Ending}(h:fH s w w' e):acJ s w w' e:=by
 obtain⟨ao,n,c,ln,he,ho,hm⟩:=h;refine⟨ao,n,c,ln,he,ho,?_⟩;cases hp:eG s.toList with
 |error n=>rw[hp]at hm;exact hm
 |ok G=>rw[hp]at hm;obtain⟨h1,L,h3,h4⟩:=hm;exact⟨h1,L.map LN.x,h3,h4.read⟩
section
variable {w w':World} {B:Nat}
theorem ji{Q:Ending->World->Prop}{W:World}{R:Nat}{T:Act}{c:Array Value}{gv:Value}{ln:Int}(hb:W.heap[R]? =some (.cells c 47 (0,0)))(h2:T.tmps.getD 2 undef= .pointer (some ⟨R,0,none⟩))(hd:T.defers=[])(h:Q (.returned (.agg #[gv,.int .i64 ln])) (W.setRow R #[gv,.int .i64 ln])):bodyPost Tryz.prog Tryz.f16 Q Exit.ret T (W.setRow R #[gv,.int .i64 ln]):=by refine bodyPost_ret (v:=.agg #[gv,.int .i64 ln]) ?_ hd h;have a2:=setRow_heap W R c #[gv,.int .i64 ln] 47 (0,0) hb;have e:Tryz.f16.results= #[.cell 2 47]:=rfl;have l2:=run_loadVar_row (P:=Tryz.prog) _ R 47 47 #[gv,.int .i64 ln] (0,0) _ a2 Tryz.underlying47 rfl zk;have g2:T.tmps[2]?.getD undef= .pointer (some ⟨R,0,none⟩):=zB0;simp only[results,e];simp[g2,asAddr,l2]
theorem fH.err{s:Str}{W:World}{R n:Nat}{k:Int}{cs:Array Value}{ao:Option Addr}{m c:Nat}(hp:eG s.toList= .error n)(h0:0<n)(hk:k=(n:Int))(hR:w.heap.size=R)(o:O0 w W):fH s w (W.setRow R cs) (.returned (.agg #[.slice ao m c,.int .i64 k])):=by subst hk;refine⟨_,_,_,_,rfl,o.trans (cZ W R cs) fun k hk=>.inr zAA,?_⟩;rw[hp];exact⟨rfl,h0⟩
theorem fH.ok{s:Str}{W:World}{R:Nat}{cs c:Array Value}{ao:Option Addr}{m cc:Nat}{L:List LN}(hp:eG s.toList= .ok (fM (L.map LN.x)))(hR:w.heap.size=R)(o:O0 w W)(hb:W.heap[R]? =some (.cells c 47 (0,0)))(h:yS W (.slice ao m cc) L):fH s w (W.setRow R cs) (.returned (.agg #[.slice ao m cc,.int .i64 0])):=by refine⟨_,_,_,_,rfl,o.trans (cZ W R cs) fun k hk=>.inr zAA,?_⟩;rw[hp];exact⟨rfl,L,rfl,h.blk hb zC6 zHZ zAH (cZ W R cs)⟩
structure PJ (s:Str) (ls:List Str) (w3 wr:World) (N i:Nat) (ao:Option Addr) (n c:Nat) (L:List LN):Prop where
 blk:wr.heap[N]? =some (.cells #[.slice ao n c] 31 (0,0))
 row:yS wr (.slice ao n c) L
 gb:dL (fM (L.map LN.x))=true
 go:i<ls.length->goB ((ls.map ByteArray.toList).drop i) i (fM (L.map LN.x))=eG s.toList
 only:O0 w3 wr
theorem afL(s:Str)(hs:s.size<=1000000):Calls Tryz.prog 16 #[.string s] w (fun e w'=>fH s w w' e):=by
 obtain⟨w0,hw0⟩:=ze (w.alloc (.cells #[.slice none 0 0,.int .i64 0] 47));obtain⟨R,hR⟩:=ze w.heap.size;have hb0:w0.heap[R]? =some (.cells #[.slice none 0 0,.int .i64 0] 47 (0,0)):=by rw[<-hw0,<-hR];exact qL _ _
 have o0:O0 w w0:=zBN;have KP:=zh (VX (w:=w0) s hs 10 10 rfl);have jW:=zh o0;have HB0:Hid (∀W,O0 w0 W->W.heap[R]? =some (.cells #[.slice none 0 0,.int .i64 0] 47 (0,0))):=fun W o=>aA hb0 o (fun f=>f);have jK:=zh hs;have FU:=zh hR;clear hs hb0 o0;go_enter Tryz.func16,Tryz.ntmps16;go_wp2_with fail;refine KP.out.mono ?_;rintro e w3 ⟨vw,rfl,ht,O3⟩;obtain⟨ws,hw1,hw2,hw3,hw4⟩:=ht;have hwne:0<ws.length:=by rw[<-qM (f:=ByteArray.toList),hw1];exact List.length_pos_iff.2 (Au 10 _)
 obtain⟨gw,cw,rfl,hc1,hc2⟩:=gQ hw2 hwne;obtain⟨nw,hnw⟩:=ze ws.length;have ZG:=zh hnw;rw[hnw]at hwne hw2 hc1⊢;have apM:nw<=1000000+1:=by have h:=KQ 10 s.toList;rw[<-hw1,qM,hnw,bC]at h;have h2:=jK.out;omega
 have HWs:Hid (∀W,O0 w3 W->∀i x,ws[i]? =some x->W.cell? ⟨gw,i,none⟩=some (.string x)):=fun W o i x hx=>by exact zF0
 have HWl:Hid (∀x∈ws,x.size<=1000000):=fun x hx=>by have:=Hy (c:=10) s.toList x.toList (by rw[<-hw1];exact List.mem_map_of_mem hx);rw[bC,bC]at this;have:=jK.out;omega
 have HCw:=zh hw1;have kD:=zh O3;clear hw1 hw2 hw3 hw4 O3 hnw hR hw0;obtain⟨N,hN⟩:=ze w3.heap.size;go_wp2_with fail;obtain⟨w4,hw4⟩:=ze (w3.alloc (.cells #[.slice none 0 0] 31));have hb4:w4.heap[N]? =some (.cells #[.slice none 0 0] 31 (0,0)):=zCS;have amz:Hid (PJ s ws w3 w4 N 0 none 0 0 []):=⟨hb4,yS.nil rfl,rfl,fun _=>by rw[HCw.out];rfl,by rw[<-hw4];exact zr.alloc _⟩;have Q7:=zh hN;rw[hw4];clear hb4 hw4 hN;go_loopw [5,6,7,13] (fun _ _ _ vi wr=> ∃(i:Nat) (ao:Option Addr) (n c:Nat) (L:List LN),vi= .int .i64 i/\i<nw/\Hid (PJ s ws w3 wr N i ao n c L)) (fun _ _ _ v _=>nw-(RowKit.intOf v).toNat);case atStart=>exact⟨0,none,0,0,[],rfl,hwne,amz⟩
 case round=>
  clear amz;obtain⟨i,ao,n,c,L,rfl,hi,Qm⟩:=hrel;have ci:=hi;have iE:=zw (i+1);have atr:=zw ((i:Int)+2);have ewn:=zw ((nw:Int)-1);obtain⟨x,hx⟩:=zG ws i (by rw[ZG.out];exact ci);have HX:=zh hx;have hxB:(ws.map ByteArray.toList)[i]? =some x.toList:=by rw[List.getElem?_map,hx];rfl
  have HXB:=zh hxB;have hgo:=Qm.out.go (by rw[ZG.out];exact ci);have q0:=HWs.out wr Qm.out.only i x hx;have q1:wr.cell? ⟨N,0,none⟩=some (.slice ao n c):=by rw[aj Qm.out.blk];rfl
  have HGo:=zh hgo;have OC:=zh (HB0.out wr (kD.out.same Qm.out.only));have qp:Hid (O0 w wr):=jW.out.same (kD.out.same Qm.out.only);clear hx hxB hgo;have HWi:Hid (∀W,(W.cell? ⟨N,0,none⟩=some (.slice ao n c)/\W.cell? ⟨gw,i,none⟩=some (.string x)/\O0 wr W)->Calls Tryz.prog 59 #[.agg #[.slice ao n c],.string x] W (fun e w'=>mW (kC (fM (L.map LN.x)) x.toList) W w' e)):=fun W hW=>by
   have hs:=XR (P:=0) Qm.out.gb;exact afF (Qm.out.row.dK hW.2.2) rfl (by rw[qM];omega) (fun y hy=>by
    obtain⟨m,hm,rfl⟩:=yD.1 hy
    have:=hs.2 m hm;omega) x (HWl.out x (qT HX.out))
  have HK:Hid (∀W,O0 wr W->W.cell? ⟨N,0,none⟩=some (.slice ao n c)/\W.cell? ⟨gw,i,none⟩=some (.string x)/\O0 wr W):=fun W o=>⟨by rw[aj (aA Qm.out.blk o (fun f=>f))];rfl,HWs.out W (Qm.out.only.same o) i x HX.out,o⟩;have hS0:=HK.out wr.drew (zr.drew);by_cases cl:i+1=nw
  ·have tl:((i:Int)==(nw:Int)-1)=true:=by rw[beq_iff_eq];omega
   have hg:=aaQ (G:=fM (L.map LN.x)) HXB.out (by rw[qM,ZG.out];exact cl);rw[HGo.out]at hg;have HG:=zh hg;clear hg;by_cases c0:i=0
   ·subst c0;obtain rfl:nw=1:=by omega
    by_cases ch:x.toList=mO
    ·have hbe:(x.toList==[108,111,99,107,32,49])=true:=by rw[ch];decide
     have sJ:Hid (eG s.toList= .error 2):=by rw[Hid,HG.out,if_neg (fun h=>by omega),if_pos rfl,if_pos ch]
     clear ch hS0;go_wp2_with (refine wpList_store_row rfl 47 (.tmp 2) (.tmp 68) rfl R #[.slice none 0 0,.int .i64 (2)] rfl rfl 47 #[.slice none 0 0,.int .i64 0] OC.out zk rfl zAF ?_);refine ji (R:=R) OC.out rfl rfl ?_;exact fH.err (n:=2) sJ.out zAA zCm FU.out qp.out
    have hbe:(x.toList==[108,111,99,107,32,49])=false:=by rw[yC];exact ch
    have sJ:Hid (eG s.toList= .error 1):=by rw[Hid,HG.out,if_neg (fun h=>by omega),if_pos rfl,if_neg ch]
    exact zEn
   have t0:((i:Int)==0)=false:=by rw[yC];omega
   have tg:decide ((0:Int)<(i:Int))=true:=qX zAA;by_cases ce:x.size=0
   ·obtain rfl:=wB ce;have sJ:Hid (eG s.toList= .ok (fM (L.map LN.x))):=by rw[Hid,HG.out,if_pos ⟨by omega,by rw[toList_data]⟩]
    clear ce hS0;go_wp2_with (refine wpList_store_row rfl 47 (.tmp 2) (.tmp 33) rfl R #[.slice ao n c,.int .i64 0] rfl rfl 47 #[.slice none 0 0,.int .i64 0] OC.out zk rfl zAF ?_);refine ji (R:=R) OC.out rfl rfl ?_;exact fH.ok sJ.out FU.out qp.out OC.out Qm.out.row
   have hbe:=size_pos (s:=x) zAA;have hxn:x.toList≠[]:=Ro zAA;have uI:Hid (iy (fM (L.map LN.x)) x.toList=none->Hid (eG s.toList= .error (i+1))):=fun h=>by rw[Hid,HG.out,if_neg (fun h=>hxn h.2),if_neg c0,h]
   have Fb:Hid (∀G',iy (fM (L.map LN.x)) x.toList=some G'->Hid (eG s.toList= .error (i+2))):=fun G' h=>by rw[Hid,HG.out,if_neg (fun h=>hxn h.2),if_neg c0,h]
   clear hxn;go_wp2_with fail;refine dn (n:=12) (E:=fun j=>j==10) (S:=fun W=>W.cell? ⟨N,0,none⟩=some (.slice ao n c)/\W.cell? ⟨gw,i,none⟩=some (.string x)/\O0 wr W) zk rfl hS0 (fun hHeld=>?_);refine tK 0 ?_;refine tW 1 ?_;refine tW 2 ?_;refine tW 3 ?_;refine tK 4 ?_;refine dN (rs:=[5,9]) zk zAP ?_;refine bI.cons (i:=5) rfl (fun K hK=>?_) ?_
   ·(go_simp;refine(HWi.out _ hHeld).mono ?_;rintro e w6 ⟨an,nn,cn,okn,rfl,O6,hm⟩;try go_wp2_with fail);refine hK.out _ _ ?_ (fun hHeld=>?_);·exact zFo
    clear hK K;try simp only[Act.put,fA,fD,fB,dW,dX,dY]
    refine tW 6 ?_;refine tW 7 ?_;refine tW 8 ?_;refine tO 9 fun K hK=>?_;go_simp;refine hK.out _ _ ?_ (fun hHeld=>?_);·exact zFp
    clear hK K;try simp only[Act.put,fA,fD,fB,dW,dX,dY]
    refine dN (rs:=[10]) zk zAP ?_;refine bI.late (i:=10) rfl zk (fun K hK=>?_) ?_
    ·(first| (have bX:=aA (b:=wr.heap.size) zBT O6 (fun f=>f);have cX:w6.cell? ⟨wr.heap.size,0,none⟩=some (.slice none 0 0):=(by rw[aj bX];rfl);have fX:w6.frozen? ⟨wr.heap.size,0,none⟩=false:=gB bX 0;go_simp)|go_simp);refine hK.out _ _ ?_;clear hK K;try simp only[Act.put,fA,fD,fB,dW,dX,dY]
     refine tW 11 ?_ (hS:=.inl zk);refine bV zk ?_ _;obtain⟨X,hX⟩:=ze w6.heap.size;obtain⟨w7,hw7⟩:=ze (w6.alloc (.cells #[.slice an nn cn] 31));have b7:w7.heap[X]? =some (.cells #[.slice an nn cn] 31 (0,0)):=by rw[<-hw7,<-hX];exact qL _ _
     have ob:O0 w6 w7:=by rw[<-hw7];exact zr.alloc _
     have pO:Hid (∀L':List LN,yS w6 (.slice an nn cn) L'->yS w7 (.slice an nn cn) L'):=fun L' h=>h.dK ob;have O7:O0 wr w7:=(Only.same zBI O6).same ob;exact zDN
    exact bI.nil
   refine bI.cons (i:=9) rfl (fun K hK=>?_) ?_
   ·go_simp;refine hK.out _ _ ?_ (fun hHeld=>?_);·exact zFp
    clear hK K;try simp only[Act.put,fA,fD,fB,dW,dX,dY]
    refine tO 5 fun K hK=>?_;(go_simp;refine(HWi.out _ hHeld).mono ?_;rintro e w6 ⟨an,nn,cn,okn,rfl,O6,hm⟩;try go_wp2_with fail);refine hK.out _ _ ?_ (fun hHeld=>?_);·exact zFo
    clear hK K;try simp only[Act.put,fA,fD,fB,dW,dX,dY]
    refine tW 6 ?_;refine tW 7 ?_;refine tW 8 ?_;refine dN (rs:=[10]) zk zAP ?_;refine bI.late (i:=10) rfl zk (fun K hK=>?_) ?_
    ·(first| (have bX:=aA (b:=wr.heap.size) zBT O6 (fun f=>f);have cX:w6.cell? ⟨wr.heap.size,0,none⟩=some (.slice none 0 0):=(by rw[aj bX];rfl);have fX:w6.frozen? ⟨wr.heap.size,0,none⟩=false:=gB bX 0;go_simp)|go_simp);refine hK.out _ _ ?_;clear hK K;try simp only[Act.put,fA,fD,fB,dW,dX,dY]
     refine tW 11 ?_ (hS:=.inl zk);refine bV zk ?_ _;obtain⟨X,hX⟩:=ze wr.heap.size;have bX:=aA (b:=wr.heap.size) zBT O6 (fun f=>f);obtain⟨w7,hw7⟩:=ze (w6.setCell ⟨wr.heap.size,0,none⟩ (.slice an nn cn));have b7:w7.heap[X]? =some (.cells #[.slice an nn cn] 31 (0,0)):=zCY;have ob:Only (fun k=>k=wr.heap.size) w6 w7:=zBr;have pO:Hid (∀L':List LN,yS w6 (.slice an nn cn) L'->yS w7 (.slice an nn cn) L'):=fun L' h=>h.blk bX zC6 zHZ zAH ob;have O7:O0 wr w7:=(Only.same zBI O6).trans ob fun k hk=>.inr (by rw[hk];exact qH _);rw[hw7];exact zDN
    exact bI.nil
   exact bI.nil
  have tl:((i:Int)==(nw:Int)-1)=false:=by rw[yC];omega
  have hg:=go_on (G:=fM (L.map LN.x)) HXB.out (by rw[qM,ZG.out];omega);rw[HGo.out]at hg;have HG:=zh hg;clear hg;by_cases c0:i=0
  ·subst c0;by_cases ch:x.toList=mO
   ·have hbe:(x.toList==[108,111,99,107,32,49])=true:=by rw[ch];decide
    have HPn:Hid (PJ s ws w3 wr N 1 ao n c L):=⟨Qm.out.blk,Qm.out.row,Qm.out.gb,fun _=>by rw[HG.out,if_pos rfl,if_pos ch],Qm.out.only⟩;clear ch hS0;go_wp2_with fail;exact⟨⟨1,ao,n,c,L,rfl,by omega,HPn⟩,by simp[RowKit.intOf]<;>omega⟩
   have hbe:(x.toList==[108,111,99,107,32,49])=false:=by rw[yC];exact ch
   have sJ:Hid (eG s.toList= .error 1):=by rw[Hid,HG.out,if_pos rfl,if_neg ch]
   exact zEn
  have t0:((i:Int)==0)=false:=by rw[yC];omega
  have uI:Hid (iy (fM (L.map LN.x)) x.toList=none->Hid (eG s.toList= .error (i+1))):=fun h=>by rw[Hid,HG.out,if_neg c0,h]
  have Fb:Hid (∀G',iy (fM (L.map LN.x)) x.toList=some G'->goB ((ws.map ByteArray.toList).drop (i+1)) (i+1) G'=eG s.toList):=fun G' h=>by rw[HG.out,if_neg c0,h]
  go_wp2_with fail;refine dn (n:=12) (E:=fun j=>j==10) (S:=fun W=>W.cell? ⟨N,0,none⟩=some (.slice ao n c)/\W.cell? ⟨gw,i,none⟩=some (.string x)/\O0 wr W) zk rfl hS0 (fun hHeld=>?_);refine tK 0 ?_;refine tW 1 ?_;refine tW 2 ?_;refine tW 3 ?_;refine tK 4 ?_;refine dN (rs:=[5,9]) zk zAP ?_;refine bI.cons (i:=5) rfl (fun K hK=>?_) ?_
  ·(go_simp;refine(HWi.out _ hHeld).mono ?_;rintro e w6 ⟨an,nn,cn,okn,rfl,O6,hm⟩;try go_wp2_with fail);refine hK.out _ _ ?_ (fun hHeld=>?_);·exact zFo
   clear hK K;try simp only[Act.put,fA,fB,dW,dX,dY]
   refine tW 6 ?_;refine tW 7 ?_;refine tW 8 ?_;refine tO 9 fun K hK=>?_;go_simp;refine hK.out _ _ ?_ (fun hHeld=>?_);·exact zFp
   clear hK K;try simp only[Act.put,fA,fD,fB,dW,dX,dY]
   refine dN (rs:=[10]) zk zAP ?_;refine bI.late (i:=10) rfl zk (fun K hK=>?_) ?_
   ·(first| (have bX:=aA (b:=wr.heap.size) zBT O6 (fun f=>f);have cX:w6.cell? ⟨wr.heap.size,0,none⟩=some (.slice none 0 0):=(by rw[aj bX];rfl);have fX:w6.frozen? ⟨wr.heap.size,0,none⟩=false:=gB bX 0;go_simp)|go_simp);refine hK.out _ _ ?_;clear hK K;try simp only[Act.put,fA,fD,fB,dW,dX,dY]
    refine tW 11 ?_ (hS:=.inl zk);refine bV zk ?_ _;obtain⟨X,hX⟩:=ze w6.heap.size;obtain⟨w7,hw7⟩:=ze (w6.alloc (.cells #[.slice an nn cn] 31));have b7:w7.heap[X]? =some (.cells #[.slice an nn cn] 31 (0,0)):=by rw[<-hw7,<-hX];exact qL _ _
    have ob:O0 w6 w7:=by rw[<-hw7];exact zr.alloc _
    have pO:Hid (∀L':List LN,yS w6 (.slice an nn cn) L'->yS w7 (.slice an nn cn) L'):=fun L' h=>h.dK ob;have O7:O0 wr w7:=(Only.same zBI O6).same ob;exact zDP
   exact bI.nil
  refine bI.cons (i:=9) rfl (fun K hK=>?_) ?_
  ·go_simp;refine hK.out _ _ ?_ (fun hHeld=>?_);·exact zFp
   clear hK K;try simp only[Act.put,fA,fD,fB,dW,dX,dY]
   refine tO 5 fun K hK=>?_;(go_simp;refine(HWi.out _ hHeld).mono ?_;rintro e w6 ⟨an,nn,cn,okn,rfl,O6,hm⟩;try go_wp2_with fail);refine hK.out _ _ ?_ (fun hHeld=>?_);·exact zFo
   clear hK K;try simp only[Act.put,fA,fD,fB,dW,dX,dY]
   refine tW 6 ?_;refine tW 7 ?_;refine tW 8 ?_;refine dN (rs:=[10]) zk zAP ?_;refine bI.late (i:=10) rfl zk (fun K hK=>?_) ?_
   ·(first| (have bX:=aA (b:=wr.heap.size) zBT O6 (fun f=>f);have cX:w6.cell? ⟨wr.heap.size,0,none⟩=some (.slice none 0 0):=(by rw[aj bX];rfl);have fX:w6.frozen? ⟨wr.heap.size,0,none⟩=false:=gB bX 0;go_simp)|go_simp);refine hK.out _ _ ?_;clear hK K;try simp only[Act.put,fA,fD,fB,dW,dX,dY]
    refine tW 11 ?_ (hS:=.inl zk);refine bV zk ?_ _;obtain⟨X,hX⟩:=ze wr.heap.size;have bX:=aA (b:=wr.heap.size) zBT O6 (fun f=>f);obtain⟨w7,hw7⟩:=ze (w6.setCell ⟨wr.heap.size,0,none⟩ (.slice an nn cn));have b7:w7.heap[X]? =some (.cells #[.slice an nn cn] 31 (0,0)):=zCY;have ob:Only (fun k=>k=wr.heap.size) w6 w7:=zBr;have pO:Hid (∀L':List LN,yS w6 (.slice an nn cn) L'->yS w7 (.slice an nn cn) L'):=fun L' h=>h.blk bX zC6 zHZ zAH ob;have O7:O0 wr w7:=(Only.same zBI O6).trans ob fun k hk=>.inr (by rw[hk];exact qH _);rw[hw7];exact zDP
   exact bI.nil
  exact bI.nil
end
end Go.Proofs.YtdmmebjjojimiaaGreatDoor
namespace Go.Proofs.YtdmmebjjojimiaaGreatDoor
open Go.RowKit
open Lk (Aw dL eG)
section
variable {w w':World}
theorem XV{g:List aC}(h:dL (fM g)=true):H7 g:=by
 obtain⟨h1,-,h3⟩:=Lk.qh h;have hname:∀s:Str,Lk.nameB s.toList=true->s.size<=24:=fun s hs=>by unfold Lk.nameB at hs;simp only[Bool.and_eq_true,yP,bC]at hs;exact hs.1.1.2
 have hval:∀s:Str,Lk.gW s.toList=true->s.size<=24:=fun s hs=>by
  unfold Lk.gW at hs;simp only[Bool.or_eq_true,Bool.and_eq_true,yP,bC]at hs;rcases hs with hs|hs;·exact hname s hs
  omega
 have hlen:(fM g).length=g.length:=by simp[fM]
 refine⟨by omega,fun n hn=>?_⟩;have f:=h1 n.toB (List.mem_map_of_mem hn);have fs:∀s∈n.sets,s.name.size<=24/\s.value.size<=24:=fun s hs=>by have:=f.sets s.toB (List.mem_map_of_mem hs);exact⟨hname _ this.1,hval _ this.2⟩
 have fn:∀s∈n.needs,s.size<=24:=fun s hs=>hname _ (f.needs s.toList (List.mem_map_of_mem hs));have e1:n.toB.sets.length=n.sets.length:=by simp[aC.toB]
 have e2:n.toB.needs.length=n.needs.length:=by simp[aC.toB]
 have a1:=hname _ f.name;have a2:n.version.size<=40:=JX f.ver;have a3:=f.s4;have a4:=f.n24;exact⟨by omega,by omega,by omega,fun s hs=>by have:=fs s hs;omega,by omega,fun s hs=>by have:=fn s hs;omega⟩
end
end Go.Proofs.YtdmmebjjojimiaaGreatDoor
