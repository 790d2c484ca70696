/- lock.wants: a line of what the last node needs. Printed by gen_lkw5.py. -/
import Derived.Test.YtdmmebjjojimiaaGreatDoorG31
set_option maxRecDepth 100000
set_option maxHeartbeats 8000000
set_option linter.all false
namespace Go.Proofs
theorem zAJ{p:Prop}(h:p:=by(intro w hSw;(try dsimp only at hSw);have q3:=(HQ.out w hSw).1;have q4:=(HQ.out w hSw).2;go_simp<;>(try with_reducible rfl))):p:=h
theorem zCW{p:Prop}(h:p:=by rw[iD,hlt]):p:=h
theorem zEO{p:Prop}(h:p:=by
 have hB3:B<=(w2.alloc (.cells #[.string name] 9)).heap.size:=qR EU.out kD.out.size
 have hnd:=HR3.out.need HN0.out kU.out r1' r2' r3' hB3
 have c4:=hnd.2.2.1
 have f4:=hnd.2.2.2
 rw[uN.out,XA.out]at c4
 have Ce:=zh (Ph QO.out kD.out HR3.out HN0.out kU.out r1' r2' r3' hB3 HWy.out)
 clear r1 r2 r3 r1' r2' r3' hB3 hnd q3
 go_wp2_with fail
 go_ret
 exact Ce.out):p:=h
theorem zEW{p:Prop}(h:p:=by(intro w hSw;exact(HN.out w).mono fun _ _ ⟨he,hw⟩=>⟨he,hSw.same hw⟩)):p:=h
theorem zEX{p:Prop}(h:p:=by
 refine wpQuiet_nil ?_
 intro w2 O2
 have eF:=zh O2
 clear O2
 go_wp2_with fail
 go_ret
 exact G6.out w2 eF.out):p:=h
theorem zE1{p:Prop}(h:p:=by(intro w;go_simp<;>(try with_reducible rfl))):p:=h
end Go.Proofs
namespace Go.Proofs.YtdmmebjjojimiaaGreatDoor
open Go.RowKit
open Lk (nameB gW xM lastB vg)
section
variable {w w':World} {B:Nat}
def GB(B:Nat)(w:World)(P:Nat)(L:List LN):Prop:= ∃rv,w.heap[P]? =some (.cells #[rv] 31 (0,0))/\vU B w rv L
def jP(B P:Nat)(G:Option (List Lk.NB))(L:List LN)(w w':World)(e:Ending):Prop:=
 ∃b,e= .returned (.bool b)/\Only (fun k=>B<=k\/k=P) w w'/\(match G with|none=>b=false/\GB B w' P L|some g=>b=true/\∃L',fM (L'.map LN.x)=g/\GB B w' P L')
theorem GB.dK{P:Nat}{L:List LN}(h:GB B w P L)(ho:O0 w w'):GB B w' P L:=by obtain⟨rv,h1,h2⟩:=h;exact⟨rv,(ho.block P (yA.1 h1).1 (fun f=>f)).trans h1,h2.dK ho⟩
theorem jP.no{P:Nat}{G:Option (List Lk.NB)}{L:List LN}{e:Ending}(hG:G=none)(h:GB B w P L)(ho:O0 w w')(he:e= .returned (.bool false)):jP B P G L w w' e:=by subst hG;exact⟨false,he,ho.mono fun _ f=>f.elim,rfl,h.dK ho⟩
theorem Ib{α:Type}(L:List α):L=[]\/ ∃L0 m,L=L0++[m]:=by
 rcases List.eq_nil_or_concat L with h| ⟨a,b,h⟩;·exact .inl h
 exact .inr ⟨a,b,by rw[h,List.concat_eq_append]⟩
theorem Xz{L:List LN}:(fM (L.map LN.x)).getLast?=(L.getLast?).map fun n=>n.x.toB:=by unfold fM;rw[List.getLast?_map,List.getLast?_map];cases L.getLast?<;>rfl
theorem Zu{P:Nat}{name:Str}{e:Ending}(h:GB B w P [])(ho:O0 w w')(he:e= .returned (.bool false)):jP B P (xM (fM (([]:List LN).map LN.x)) name.toList) [] w w' e:=jP.no rfl h ho he
theorem Td:∀(L0:List LN) (m:LN) (v:Value),(gJ (L0++[m])).set (L0.length*4+3) v=gJ (L0++[{m with v2:=v}])
 | [],m,v=>rfl
 |n::L0,m,v=>by
  have ih:=Td L0 m v
  have e:gJ (n::L0++[m])=n.cells++gJ (L0++[m]):=rfl
  have e2:gJ (n::L0++[{m with v2:=v}])=n.cells++gJ (L0++[{m with v2:=v}]):=rfl
  have hl:n.cells.length=4:=rfl
  rw[e,e2,List.set_append_right _ _ (by rw[hl,qN];omega),hl,<-ih]
  congr 2
  rw[qN];omega
def LN.more(m:LN)(name:Str)(v:Value):LN:={x:={m.x with needs:=m.x.needs++[name]},v1:=m.v1,v2:=v}
theorem vU.need{w4:World}{g cap n0:Nat}{L0:List LN}{m:LN}{name:Str}{v':Value}(h:vU B w (.slice (some ⟨g,0,none⟩) (n0+1) cap) (L0++[m]))(hn:L0.length=n0)(hk:okS name)(hown:w4.ownsRow 0 9 1 v' (m.x.needs.length+1) (bZ m.x.needs++[.string name]))(o:Only (fun j=>m.v2.ownBlock=some j) w w4)(hnew:∀j,v'.ownBlock=some j->m.v2.ownBlock=some j\/w.heap.size<=j)(hB:B<=w.heap.size):vU B (w4.setCell ⟨g,n0*4+3,none⟩ v') (.slice (some ⟨g,0,none⟩) (n0+1) cap) (L0++[m.more name v'])/\B<=g/\w4.cell? ⟨g,n0*4+3,none⟩=some m.v2/\w4.frozen? ⟨g,n0*4+3,none⟩=false:=by
 have hm:=h.each m zAP;have hg:B<=g:=h.new g rfl;have hlen:(L0++[m]).length=n0+1:=by rw[qK,hn];rfl
 have hlen2:(L0++[m.more name v']).length=n0+1:=by rw[qK,hn];rfl
 have hap:=List.pairwise_append.1 h.apart;have o4:w4.ownsRow 0 83 4 (.slice (some ⟨g,0,none⟩) (n0+1) cap) (n0+1) (gJ (L0++[m])):=by have:=h.own;rw[hlen]at this;exact aW this o (fun k hk e=>Dq zAH this hm.needs hk e)
 have oS:Only (fun k=>k=g) w4 (w4.setCell ⟨g,n0*4+3,none⟩ v'):=(Only.refl (fun k=>k=g) w4).setCell (p:=⟨g,n0*4+3,none⟩) (.inl rfl) _;have ahg:∀{t:TypeId} {sz n:Nat} {v:Value} {xs:List Value},83≠t->w4.ownsRow 0 t sz v n xs->∀k,v.ownBlock=some k->k≠g:=fun ht hv k hk e=>Dq ht o4 hv (k:=g) rfl (e▸hk);have f0:∀n∈L0,BO B w4 n:=fun n hn=>by have hnn:=h.each n (List.mem_append_left _ hn);exact hnn.only o (fun k hk e=>Dq zAH hnn.sets hm.needs hk e) (fun k hk e=>hap.2.2 n hn m zCt k hk e)
 refine⟨⟨?_,h.new,fun n hnm=>?_,?_⟩,hg,?_,o4.frozenAt _⟩
 ·rw[hlen2];have st:=(o4.stored (n0*4+3) v').1;rw[<-hn,Td,hn]at st;have e:gJ (L0++[m.more name v'])=gJ (L0++[{m with v2:=v'}]):=by rw[wG,wG];rfl
  rw[e];exact st
 ·rcases qW.1 hnm with q|q;·have q4:=f0 n q;exact q4.only oS (fun k hk e=>ahg zHZ q4.sets k hk e) (fun k hk e=>ahg zAH q4.needs k hk e)
  rw[yJ.1 q];have hs4:=aW hm.sets o (fun k hk e=>Dq zAH hm.sets hm.needs hk e);have hn4:w4.ownsRow 0 9 1 v' (m.x.needs++[name]).length (bZ (m.x.needs++[name])):=by
   have e1:(m.x.needs++[name]).length=m.x.needs.length+1:=zAP;have e2:bZ (m.x.needs++[name])=bZ m.x.needs++[.string name]:=by simp[bZ]
   rw[e1,e2];exact hown
  refine⟨hm.k1,hm.k2,aW hs4 oS (fun k hk e=>ahg zHZ hs4 k hk e),aW hn4 oS (fun k hk e=>ahg zAH hn4 k hk e),hm.k3,fun s hs=>?_,hm.new1,fun k hk=>?_⟩
  ·rcases qW.1 hs with r|r;·exact hm.k4 s r
   rw[yJ.1 r];exact hk
  rcases hnew k hk with r|r;·exact hm.new2 k r
  omega
 ·rw[List.pairwise_append];refine⟨hap.1,List.pairwise_singleton _ _,fun a ha b hb k hka hkb=>?_⟩;rw[yJ.1 hb]at hkb;rcases hnew k hkb with r|r;·exact hap.2.2 a ha m zAP k hka r
  have:=pq (h.each a (List.mem_append_left _ ha)).needs hka;omega
 rw[o4.cellAt (n0*4+3) zAA];exact zK (L0++[m]) n0 m (by rw[<-hn];simp) 3 m.v2 rfl
theorem afe{L0:List LN}{m:LN}{name:Str}{v:Value}:fM ((L0++[m.more name v]).map LN.x)=(fM ((L0++[m]).map LN.x)).dropLast++[{m.x.toB with needs:=m.x.toB.needs++[name.toList]}]:=by
 have e1:fM ((L0++[m]).map LN.x)=fM (L0.map LN.x)++[m.x.toB]:=by simp[fM]
 have e2:fM ((L0++[m.more name v]).map LN.x)=fM (L0.map LN.x)++[(m.more name v).x.toB]:=by simp[fM]
 rw[e1,e2,List.dropLast_concat];congr 2;show aC.toB _=_;unfold aC.toB;simp[LN.more]
theorem Ph{w3 w4:World}{P g cap n0:Nat}{L0:List LN}{m:LN}{name:Str}{v':Value}{G:Option (List Lk.NB)}(hb:w.heap[P]? =some (.cells #[.slice (some ⟨g,0,none⟩) (n0+1) cap] 31 (0,0)))(o3:O0 w w3)(h:vU B w3 (.slice (some ⟨g,0,none⟩) (n0+1) cap) (L0++[m]))(hn:L0.length=n0)(hk:okS name)(hown:w4.ownsRow 0 9 1 v' (m.x.needs.length+1) (bZ m.x.needs++[.string name]))(o:Only (fun j=>m.v2.ownBlock=some j) w3 w4)(hnew:∀j,v'.ownBlock=some j->m.v2.ownBlock=some j\/w3.heap.size<=j)(hB:B<=w3.heap.size)(hG:G=some ((fM ((L0++[m]).map LN.x)).dropLast++[{m.x.toB with needs:=m.x.toB.needs++[name.toList]}])):jP B P G (L0++[m]) w (w4.setCell ⟨g,n0*4+3,none⟩ v') (.returned (.bool true)):=by obtain⟨h1,h2,-,-⟩:=h.need hn hk hown o hnew hB;have hm:=h.each m zAP;have b3:w3.heap[P]? =some (.cells #[.slice (some ⟨g,0,none⟩) (n0+1) cap] 31 (0,0)):=(o3.block P (yA.1 hb).1 (fun f=>f)).trans hb;have b4:w4.heap[P]? =some (.cells #[.slice (some ⟨g,0,none⟩) (n0+1) cap] 31 (0,0)):=(o.block P (yA.1 b3).1 (fun e=>jw zAH hm.needs b3 e)).trans b3;have hPg:P≠g:=fun e=>jw zAH h.own b3 (by rw[e];rfl);have oS:Only (fun k=>k=g) w4 (w4.setCell ⟨g,n0*4+3,none⟩ v'):=(Only.refl (fun k=>k=g) w4).setCell (p:=⟨g,n0*4+3,none⟩) (.inl rfl) _;have b5:=(oS.block P (yA.1 b4).1 hPg).trans b4;subst hG;refine⟨true,rfl,?_,rfl,L0++[m.more name v'],afe,_,b5,h1⟩;refine Only.mono (F:=fun k=>B<=k) (((o3.mono fun _ f=>f.elim).trans (G:=fun j=>m.v2.ownBlock=some j) o fun i hi=>.inl (hm.new2 i hi)).trans oS fun i hi=>.inl (by rw[hi];exact h2)) fun _ h=>.inl h
attribute [local irreducible] wpQuiet in
theorem ahh{P:Nat}{L:List LN}(name:Str)(hk:okS name)(h:GB B w P L)(hl:L.length<=24)(hn:∀n∈L,n.x.needs.length<=24)(hB:B<=w.heap.size):Calls Tryz.prog 181 #[.pointer (some ⟨P,0,none⟩),.string name] w (fun e w'=>jP B P (xM (fM (L.map LN.x)) name.toList) L w w' e):=by
 have HGB:=zh h;obtain⟨rv,hb,hr⟩:=h;obtain⟨na,hna⟩:=ze (nameB name.toList);have HN:Hid (∀W,Calls Tryz.prog 258 #[.string name] W (fun e w'=>e= .returned (.bool na)/\O0 W w')):=fun W=>IW name hk na hna;rcases Ib L with rfl| ⟨L0,m,rfl⟩
 ·obtain⟨ao,cap,rfl,-,-⟩:=bg hr.own;have TV:=zh (Xy (P:=P) (ao:=ao) (cap:=cap) (by rw[aj hb];rfl));clear hb hr hk hna hl hn;go_enter Tryz.func181,Tryz.ntmps181;go_wp2_with fail;refine TV.out.mono ?_;rintro e w1 ⟨rfl,O1⟩;have aI:=zh O1;clear O1 TV;have G6:Hid (∀w2,O0 w1 w2->jP B P (xM (fM (([]:List LN).map LN.x)) name.toList) [] w w2 (.returned (.bool false))):=fun w2 o=>Zu HGB.out (aI.out.same o) rfl;go_wp2_with fail;refine aU (fun w'=>O0 w1 w') zk zk (by exact zr.drew) ?_;iterate 3 refine qV ?_
  iterate 3 refine qS ?_
  iterate 2 refine qV ?_
  iterate 6 refine qS ?_
  iterate 2 refine qV ?_
  iterate 22 refine qS ?_
  refine qV ?_;exact zEX
 have hml:(fM ((L0++[m]).map LN.x)).getLast?=some m.x.toB:=by rw[Xz,List.getLast?_concat];rfl
 obtain⟨g,cap,rfl,hc1,hc2⟩:=gQ hr.own (by rw[qK];simp);obtain⟨n0,hn0⟩:=ze L0.length;have hlen:(L0++[m]).length=n0+1:=by rw[qK,hn0];rfl
 rw[hlen]at hl hb hc1 hr;have hm:=hr.each m zAP;obtain⟨a2,c2,hv2,hv3,hv4⟩:=bg hm.needs;have hmn:m.x.needs.length<=24:=hn m zAP;have hcell:w.cell? ⟨g,n0*4+3,none⟩=some (.slice a2 m.x.needs.length c2):=by have h1:=zK (L0++[m]) n0 m (by rw[<-hn0];simp) 3 m.v2 rfl;rw[<-hv2,<-h1];have:=hr.own;rw[hlen]at this;exact this.cellAt (n0*4+3) zAA
 obtain⟨k,hkn⟩:=ze m.x.needs.length;have XA:=zh hkn;rw[hkn]at hcell hv3 hmn;have pO:=zh hr;have QO:=zh hb;have aie:=zh hcell;have uN:=zh hv2;have HN0:=zh hn0;have kU:=zh hk;have EU:=zh hB;have HMl:=zh hml;have NI:=zh hna;have TV:=zh (Tc (P:=P) (g:=g) (n:=n0) (cap:=cap) (by rw[aj hb];rfl) zAA);clear hb hr hk hna hn hcell hv2 hn0 hm hlen hkn hml;go_enter Tryz.func181,Tryz.ntmps181;go_wp2_with fail;refine TV.out.mono ?_;rintro e w1 ⟨rfl,O1⟩;have aI:=zh O1;clear O1 TV;have hwp:∀r,(decide (nameB name.toList=true/\m.x.toB.needs.length≠24/\vg m.x.toB name.toList=true))=r->xM (fM ((L0++[m]).map LN.x)) name.toList=if r=true then some ((fM ((L0++[m]).map LN.x)).dropLast++[{m.x.toB with needs:=m.x.toB.needs++[name.toList]}])else none:=fun r hr=>by unfold xM;rw[HMl.out];subst hr;simp only[yP]
 have HWp:=zh hwp;clear hwp;have aif:m.x.toB.needs.length=k:=by show(m.x.needs.map ByteArray.toList).length=k;rw[qM,XA.out]
 have aff:=zh aif;have G6:(decide (nameB name.toList=true/\m.x.toB.needs.length≠24/\vg m.x.toB name.toList=true))=false->Hid (∀w2,O0 w1 w2->jP B P (xM (fM ((L0++[m]).map LN.x)) name.toList) (L0++[m]) w w2 (.returned (.bool false))):=fun hf w2 o=>jP.no (by rw[HWp.out false hf];rfl) HGB.out (aI.out.same o) rfl;have yj:Hid (∀W,O0 w1 W->W.cell? ⟨g,n0*4+3,none⟩=some (.slice a2 k c2)):=fun W o=>by rw[World.cell?_of_block (w:=w) ((aI.out.same o).block _ (World.block_lt_of_cell? _ _ aie.out) (fun f=>f))];exact aie.out
 have FK:=zh G6;clear G6 aif;cases na with
 |false=>
  have G6:=FK.out (by rw[qP];intro h;rw[NI.out]at h;exact absurd h.1 zAH);clear FK;go_wp2_with fail;refine aU (fun w'=>O0 w1 w') zk zk (by exact zr.drew) ?_;iterate 4 refine qV ?_
  refine bF (v:=.bool false) (f:=258) (args:= #[.string name]) (by rfl) ?_ ?_ ?_;·exact zE1
  ·exact zEW
  try simp only[Act.put,dW,dX,dY]
  iterate 3 refine qV ?_
  iterate 6 refine qS ?_
  iterate 2 refine qV ?_
  iterate 22 refine qS ?_
  refine qV ?_;exact zEX
 |true=>
  by_cases c24:k=24
  ·subst c24;have G6:=FK.out (by rw[qP];intro h;exact absurd aff.out h.2.1);clear FK;have HQ:Hid (∀W,O0 w1 W->W.cell? ⟨g,n0*4+3,none⟩=some (.slice a2 24 c2)/\True):=fun W o=>⟨yj.out W o,trivial⟩;go_wp2_with fail;refine aU (fun w'=>O0 w1 w') zk zk (by exact zr.drew) ?_;iterate 4 refine qV ?_ (hy:=zAJ)
   refine bF (v:=.bool true) (f:=258) (args:= #[.string name]) (by rfl) ?_ ?_ ?_;·exact zE1
   ·exact zEW
   try simp only[Act.put,dW,dX,dY]
   iterate 11 refine qV ?_ (hy:=zAJ)
   iterate 22 refine qS ?_
   refine qV ?_ (hy:=zAJ);exact zEX
  have ao4:¬((k:Int)=24):=by omega
  have b24:((k:Int)==24)=false:=by rw[yC];exact ao4
  by_cases ck:k=0
  ·subst ck;have hne:m.x.needs=[]:=yF XA.out;have HWy:=zh (HWp.out true (by rw[yP];exact⟨NI.out,by rw[aff.out];exact c24,by show lastB (m.x.needs.map ByteArray.toList) _=true;rw[hne];rfl⟩));clear FK hne;have HQ:Hid (∀W,O0 w1 W->W.cell? ⟨g,n0*4+3,none⟩=some (.slice a2 0 c2)/\True):=fun W o=>⟨yj.out W o,trivial⟩;go_wp2_with fail;refine aU (fun w'=>O0 w1 w') zk zk (by exact zr.drew) ?_;iterate 4 refine qV ?_ (hy:=zAJ)
   refine bF (v:=.bool true) (f:=258) (args:= #[.string name]) (by rfl) ?_ ?_ ?_;·exact zE1
   ·exact zEW
   try simp only[Act.put,dW,dX,dY]
   iterate 18 refine qV ?_ (hy:=zAJ)
   iterate 14 refine qS ?_
   iterate 2 refine qV ?_ (hy:=zAJ)
   refine wpQuiet_nil ?_;intro w2 O2;have eF:=zh O2;clear O2;have q3:=(HQ.out w2 eF.out).1;have HR3:=zh (pO.out.dK ((aI.out.same eF.out).alloc (.cells #[.string name] 9)));have kD:=zh ((aI.out.same eF.out).alloc (.cells #[.string name] 9));have Ic:=(HR3.out.each m zAP).needs;rw[uN.out,XA.out]at Ic;have HNe:=zh Ic;clear Ic;go_wp2_with (at_builtin;go_must (refine Ai (u:=.string name) iU rfl (.tmp 51) (.tmp 53) rfl rfl rfl (cell_new0 _ _ _) rfl HNe.out zAA zHZ ?_));intro v4 w4 r1 r2 r3;obtain⟨g4,cap4,hv4,-,-,r3⟩:=r3;subst hv4;have r1':w4.ownsRow 0 9 1 (.slice (some ⟨g4,0,none⟩) (0+1) cap4) (m.x.needs.length+1) (bZ m.x.needs++[.string name]):=by rw[XA.out];exact r1
   have r2':Only (fun j=>m.v2.ownBlock=some j) (w2.alloc (.cells #[.string name] 9)) w4:=by rw[uN.out,XA.out];exact r2
   have r3':∀j,(Value.slice (some ⟨g4,0,none⟩) (0+1) cap4).ownBlock=some j->m.v2.ownBlock=some j\/(w2.alloc (.cells #[.string name] 9)).heap.size<=j:=fun j hj=>by simp only[Value.ownBlock,qG]at hj;subst hj;rw[uN.out,XA.out];exact r3
   exact zEO
  obtain⟨b2,c2',ajK,-,-⟩:=gQ (pO.out.each m zAP).needs (by rw[XA.out];omega);obtain⟨k',rfl⟩:∃k',k=k'+1:=⟨k-1,by omega⟩;have hv2:=uN.out;rw[ajK,XA.out]at hv2;simp only[qU]at hv2;obtain⟨rfl,-,rfl⟩:=hv2;obtain⟨y,hy⟩:=zG m.x.needs k' (by rw[XA.out];omega);have hl1:m.x.needs.getLast?=some y:=by rw[List.getLast?_eq_getElem?,XA.out];exact hy
  have hln:vg m.x.toB name.toList=decide (y.toList<name.toList):=by show lastB (m.x.needs.map ByteArray.toList) name.toList=_;unfold lastB;rw[List.getLast?_map,hl1];rfl
  have hy1:∀W,O0 w1 W->W.cell? ⟨b2,k',none⟩=some (.string y):=fun W o=>by have hnn:=aW (pO.out.each m zAP).needs (aI.out.same o) (fun _ _ f=>f);rw[ajK,XA.out]at hnn;rw[hnn.cellAt k' zAA];show(m.x.needs.map Value.string)[k']? =_;rw[List.getElem?_map,hy];rfl
  have HQ:Hid (∀W,O0 w1 W->W.cell? ⟨g,n0*4+3,none⟩=some (.slice (some ⟨b2,0,none⟩) (k'+1) c2')/\W.cell? ⟨b2,k',none⟩=some (.string y)):=fun W o=>⟨yj.out W o,hy1 W o⟩;have ewk:IntKind.i64.wrap ((k':Int)+1-1)=(k':Int):=zBR;have al2:IntKind.i64.wrap (k':Int)=(k':Int):=zBR;have hk0:(0:Int)<(k':Int)+1:=zAA;have hkk:(k':Int)<(k':Int)+1:=zAA;have asW:((k':Int)+1==24)=false:=zBd;have HLn:=zh hln;clear hln hl1 hy hy1 ajK;cases hlt:decide (y.toList<name.toList)with
  |false=>
   have G6:=FK.out (by rw[qP];intro h;rw[HLn.out,hlt]at h;exact absurd h.2.2 zAH);have hbl:Op.bytesLess y.toList name.toList=false:=zCW;clear FK hlt;go_wp2_with fail;refine aU (fun w'=>O0 w1 w') zk zk (by exact zr.drew) ?_;iterate 4 refine qV ?_ (hy:=zAJ)
   refine bF (v:=.bool true) (f:=258) (args:= #[.string name]) (by rfl) ?_ ?_ ?_;·exact zE1
   ·exact zEW
   try simp only[Act.put,dW,dX,dY]
   iterate 34 refine qV ?_ (hy:=zAJ)
   exact zEX
  |true=>
   have HWy:=zh (HWp.out true (by rw[yP];exact⟨NI.out,by rw[aff.out];exact c24,by rw[HLn.out,hlt]⟩));have hbl:Op.bytesLess y.toList name.toList=true:=zCW;clear FK hlt;go_wp2_with fail;refine aU (fun w'=>O0 w1 w') zk zk (by exact zr.drew) ?_;iterate 4 refine qV ?_ (hy:=zAJ)
   refine bF (v:=.bool true) (f:=258) (args:= #[.string name]) (by rfl) ?_ ?_ ?_;·exact zE1
   ·exact zEW
   try simp only[Act.put,dW,dX,dY]
   iterate 34 refine qV ?_ (hy:=zAJ)
   refine wpQuiet_nil ?_;intro w2 O2;have eF:=zh O2;clear O2;have q3:=(HQ.out w2 eF.out).1;have HR3:=zh (pO.out.dK ((aI.out.same eF.out).alloc (.cells #[.string name] 9)));have kD:=zh ((aI.out.same eF.out).alloc (.cells #[.string name] 9));have Ic:=(HR3.out.each m zAP).needs;rw[uN.out,XA.out]at Ic;have HNe:=zh Ic;clear Ic;go_wp2_with (at_builtin;go_must (refine Ai (u:=.string name) iU rfl (.tmp 51) (.tmp 53) rfl rfl rfl (cell_new0 _ _ _) rfl HNe.out zAA zHZ ?_));intro v4 w4 r1 r2 r3;obtain⟨g4,cap4,hv4,-,-,r3⟩:=r3;subst hv4;have r1':w4.ownsRow 0 9 1 (.slice (some ⟨g4,0,none⟩) ((k'+1)+1) cap4) (m.x.needs.length+1) (bZ m.x.needs++[.string name]):=by rw[XA.out];exact r1
   have r2':Only (fun j=>m.v2.ownBlock=some j) (w2.alloc (.cells #[.string name] 9)) w4:=by rw[uN.out,XA.out];exact r2
   have r3':∀j,(Value.slice (some ⟨g4,0,none⟩) ((k'+1)+1) cap4).ownBlock=some j->m.v2.ownBlock=some j\/(w2.alloc (.cells #[.string name] 9)).heap.size<=j:=fun j hj=>by simp only[Value.ownBlock,qG]at hj;subst hj;rw[uN.out,XA.out];exact r3
   exact zEO
end
end Go.Proofs.YtdmmebjjojimiaaGreatDoor
