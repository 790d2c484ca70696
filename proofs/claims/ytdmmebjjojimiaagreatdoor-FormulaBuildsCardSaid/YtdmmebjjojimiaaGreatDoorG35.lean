/- The document's virtual names, weak: some texts. Printed by gen_so1.py.; The document's graphs of choices: Need, spec; So at the atoms of edges, names, rules, wish -/
import Derived.Test.YtdmmebjjojimiaaGreatDoorG34
set_option maxRecDepth 100000
set_option maxHeartbeats 8000000
set_option linter.all false
namespace Go.Proofs
theorem zCS{p:Prop}(h:p:=by
 have h1:(0:Int)<=(k:Int)/\(k:Int)<=(cap:Int):=⟨by omega,by omega⟩
 cases ao with
 |none=>simp[Instr.slice,Instr.sliceBounds,Instr.sliceBound,run_underlying ht,sizeOf,typeInfo,hi,hs,asIntOf,Addr.add,hk,h1]
 |some a=>simp[Instr.slice,Instr.sliceBounds,Instr.sliceBound,run_underlying ht,sizeOf,typeInfo,hi,hs,asIntOf,Addr.add,hk,h1]):p:=h
end Go.Proofs
namespace Go.Proofs.YtdmmebjjojimiaaGreatDoor
open Go.RowKit
section
variable {w w':World} {B:Nat}
theorem Oh{P:Program}{t e:TypeId}{i:TypeInfo}(ht:P.underlying t=some (.slice e))(hi:P.info? e=some i)(hs:i.size=1)(ao:Option Addr)(m k cap:Nat)(hk:k<=cap)(W:World):(Instr.slice t (.slice ao m cap) none (some (.int .i64 (k:Int))) none).run P W= .ok (.slice ao k cap) W:=by exact zCS
def adN(n:Nat)(w w':World)(e:Ending):Prop:= ∃v l,e= .returned v/\aQ 1 dN w'.heap.size w' v l/\l.length<=n/\O0 w w'
theorem adN.own{n:Nat}{v:Value}{m:Nat}{l:List Str}{e:Ending}(he:e= .returned v)(hl:l.length=m)(h:w'.ownsRow 0 9 1 v m (fH l))(hk:∀s∈l,okS s)(hn:m<=n)(ho:O0 w w'):adN n w w' e:=
 ⟨v,l,he,sG hl h hk,by omega,ho⟩
end
noncomputable def aF.sees (x:aF) (q:dH):List Str:=(q.names++(x.closure q.names).flatMap fun p=>(x.pack p).deps.map fun d=>d.on.name).filter x.nS
noncomputable def aF.names (x:aF) (q:dH):List Str:=iR (uF (x.sees q))
theorem aF.PN(x:aF)(q:dH):(x.names q).length<=(x.sees q).length:=by unfold aF.names;have:=Ri (uF (x.sees q));rwa[CJ]at this
theorem aF.aaJ{x:aF}{q:dH}{s:Str}(h:s∈x.names q):s∈x.sees q:=(LW _).mem_iff.1 (Rj h)
section
variable {w w':World} {B:Nat}
theorem Ik{cs:List Value}{x:aF}(h:gy B w cs x)(hlen:x.packs.length<=1000000)(s:Str):Calls Tryz.prog 156 #[.agg cs.toArray,.string s] w fun e w'=>e= .returned (.bool (x.nS s))/\O0 w w':=by
 have HH:=zh h;obtain⟨v1,v2,rfl,h1,h2⟩:=h;obtain⟨ao,cap,rfl,-,-⟩:=h1.shape;obtain⟨nJ,cap2,rfl,-,-⟩:=h2.shape;unfold aF.nS;obtain⟨f,hf⟩:=ze (x.find s);have HF:=zh (qc (gy.keep HH.out (Kp.gV ((Only.refl (fun _=>False) w).alloc (.cells #[.slice ao x.packs.length cap,.slice nJ x.cO.length cap2] 25)))) s);have VL:=fun W hO=>zh (nO (w:=W) (gy.keep HH.out (Kp.gV hO)) hlen s);rw[hf]at HF;rw[hf];clear hf h1 h2;obtain⟨np,hnp⟩:=ze ((x.dh s).length);rw[hnp]at VL⊢;clear hnp;by_cases hf0:f<0
 ·obtain⟨bz,hbz⟩:∃z,decide (0<np)=z:=⟨_,rfl⟩;have e1:(decide (f<0)&&decide (0<np))=bz:=by rw[qX hf0,hbz];rfl
  rw[e1];have HZ:Hid (decide ((np:Int)>0)=bz):=by rw[Hid,<-hbz];exact decide_eq_decide.2 zAB
  clear e1 hbz;go_enter Tryz.func156,Tryz.ntmps156;go_wp2_with fail;refine HF.out.mono ?_;rintro e w1 ⟨rfl,O1⟩;have aW:=zh (((Only.refl (fun _=>False) w).alloc _).same O1);have hw1:=O1.size;simp only[World.size_alloc]at hw1;have hcell:w1.cell? ⟨w.heap.size,0,none⟩=some (.slice ao x.packs.length cap)/\w1.cell? ⟨w.heap.size,1,none⟩=some (.slice nJ x.cO.length cap2):=by
   constructor;·exact zCO
   exact zCO
  obtain⟨hc1,hc2⟩:=hcell;have abD:=VL w1 aW.out;clear O1 VL HF;go_wp2_with fail;refine abD.out.mono ?_;rintro e w2 ⟨v,rfl,r1,r2,r3⟩;have iO:=zh (aW.out.same r3);obtain⟨av,cv,rfl,-,-⟩:=aJ r1;have hz:=HZ.out;clear r1 r2 r3 abD aW;go_wp2_with fail;go_ret;refine⟨?_,iO.out⟩;first|rfl| (rw[<-HZ.out];first|rfl|simp)
 have e1:(decide (f<0)&&decide (0<np))=false:=by rw[qP hf0];rfl
 rw[e1];clear e1;go_enter Tryz.func156,Tryz.ntmps156;go_wp2_with fail;refine HF.out.mono ?_;rintro e w1 ⟨rfl,O1⟩;have aW:=zh (((Only.refl (fun _=>False) w).alloc _).same O1);clear O1 HF;go_wp2_with fail;go_ret;exact⟨rfl,aW.out⟩
def NmV(W0:World)(bo:Nat)(v:Value)(l:List Str)(W:World):Prop:=
 W.heap[bo]? =some (.cells #[v] 81 (0,0))/\W.ownsRow 0 9 1 v l.length (fH l)/\(∀k,v.ownBlock=some k->W0.heap.size<=k)/\bo<W0.heap.size/\Only (fun k=>k=bo) W0 W
theorem Vj{W0:World}{bx bo:Nat}{l:List Str}{ao nJ:Option Addr}{n1 cap n2 cap2:Nat}{x:aF}(h:gy B w [.slice ao n1 cap,.slice nJ n2 cap2] x)(hlen:x.packs.length<=1000000)(hbx:w.cell? ⟨bx,0,none⟩=some (.slice ao n1 cap)/\w.cell? ⟨bx,1,none⟩=some (.slice nJ n2 cap2)){v:Value}(H:NmV W0 bo v l w)(hl:l.length<=100000)(s:Str):Calls Tryz.prog 155 #[.string s,.pointer (some ⟨bx,0,none⟩),.pointer (some ⟨bo,0,none⟩)] w fun e w'=>e= .returned (.tuple #[])/\∃v',NmV W0 bo v' (l++if x.nS s=true then [s]else []) w'/\Only (fun k=>k=bo\/v.ownBlock=some k) w w'/\∀k,v'.ownBlock=some k->v.ownBlock=some k\/w.heap.size<=k:=by
 have HV:=zh (Ik h hlen s);obtain⟨hv,hr,hb,RF,ho⟩:=H;obtain⟨h0,h1⟩:=hbx;have HC:=zh (And.intro hv (And.intro hr (And.intro hb (And.intro RF ho))));clear h hv hr hb RF ho;generalize hz:x.nS s=z at*;clear hz;cases z with
 |false=>
  go_enter Tryz.func155,Tryz.ntmps155;go_wp2_with fail;refine HV.out.mono ?_;rintro e w1 ⟨rfl,O1⟩;have aW:=zh O1;clear O1 HV;go_wp2_with fail;go_end0;obtain⟨hv,hr,hb,RF,ho⟩:=HC.out;have h2:l++(if false=true then [s]else [])=l:=zAF;try rw[h2]
  exact⟨rfl,v,⟨aC hv aW.out (fun f=>f),aG hr aW.out (fun _ _ f=>f),hb,RF,ho.same (aW.out.mono fun _ f=>f.elim)⟩,aW.out.mono fun _ f=>f.elim,fun k hk=>.inl hk⟩
 |true=>
  go_enter Tryz.func155,Tryz.ntmps155;go_wp2_with fail;refine HV.out.mono ?_;rintro e w1 ⟨rfl,O1⟩;obtain⟨hv,hr,hb,RF,ho⟩:=HC.out;have hv1:=aC hv O1 (fun f=>f);have hr1:=aG hr O1 (fun _ _ f=>f);have ho1:=ho.same (O1.mono fun _ f=>f.elim);have hc1:w1.cell? ⟨bo,0,none⟩=some v:=by rw[aj hv1];rfl
  have aW:=zh O1;have HW1:=zh (And.intro hv1 (And.intro hr1 (And.intro hb (And.intro RF ho1))));obtain⟨nl,hnl⟩:=ze l.length;have uh:=zh hnl;rw[hnl]at hl;have HR1:Hid (w1.ownsRow 0 9 1 v nl (fH l)):=by rw[<-hnl];exact zh hr1
  have avk:bo<w1.heap.size:=(yA.1 hv1).1;clear O1 HV hv hr hb RF ho hv1 hr1 ho1 HC hnl h0 h1;go_wp2_with (at_builtin;go_must (refine AL (u:=.string s) zM rfl (.tmp 7) (.tmp 9) rfl rfl rfl (cell_new0 _ _ _) rfl (aG HR1.out ((Only.refl (fun _=>False) _).alloc _) (fun _ _ f=>f)) zAB zBV ?_));intro v' w2 r2 o2 a2;obtain⟨hv1,hr1,hb,RF,ho1⟩:=HW1.out;have amd:v.ownBlock≠some bo:=fun e=>by have:=hb bo e;omega
  have hv2:w2.heap[bo]? =some (.cells #[v] 81 (0,0)):=by rw[o2.block bo zAU amd];exact cZ hv1 _
  obtain⟨g,cap',rfl,hg1,hg2,hg3⟩:=a2;have hc2:w2.cell? ⟨bo,0,none⟩=some v:=by rw[aj hv2];rfl
  have hf2:w2.frozen? ⟨bo,0,none⟩=false:=by simp[World.frozen?,hv2]
  have hg:W0.heap.size<=g:=by
   rcases hg3 with e|e;·exact hb g e
   have:=ho1.size;simp at e;omega
  have hgb:g≠bo:=zAB;have oo:Only (fun k=>k=bo\/v.ownBlock=some k) w1 w2:=((Only.refl (fun k=>k=bo\/v.ownBlock=some k) w1).alloc _).same (o2.mono fun k hk=>.inr hk);have hgn:v.ownBlock=some g\/w1.heap.size<=g:=by
   rcases hg3 with e|e;·exact .inl e
   right;simp at e;omega
  have HW2:=zh (And.intro hv2 (And.intro r2 (And.intro oo (And.intro ho1 (And.intro RF (And.intro hg (And.intro hb hgn)))))));clear hv1 hr1 hb RF ho1 amd hv2 r2 o2 hg1 hg2 hg3 oo hg hgn HW1 hc1 HR1;go_wp2_with fail;go_end0;obtain⟨hv2,r2,oo,ho1,RF,hg,hb,hgn⟩:=HW2.out;have o3:Only (fun k=>k=bo\/v.ownBlock=some k) w1 (w2.setCell ⟨bo,0,none⟩ (.slice (some ⟨g,0,none⟩) (nl+1) cap')):=oo.setCell (p:=⟨bo,0,none⟩) (.inl (.inl rfl)) _;refine⟨rfl,.slice (some ⟨g,0,none⟩) (nl+1) cap',⟨heap_setCell_box_a _ hv2,?_,fun k hk=>?_,RF,?_⟩,(aW.out.mono fun _ f=>f.elim).same o3,fun k hk=>?_⟩
  ·have h2:l++(if true=true then [s]else [])=l++[s]:=by simp
   try rw[h2]
   rw[qK,uh.out];have e3:fH (l++[s])=fH l++[.string s]:=by simp[fH]
   rw[e3];exact aG r2 ((Only.refl (fun k=>k=bo) w2).setCell (p:=⟨bo,0,none⟩) (.inl rfl) _) (fun k hk e=>by cases hk;exact hgb e)
  ·cases hk;exact hg
  ·exact ho1.trans o3 fun k hk=>hk.imp id (hb k)
  cases hk;exact hgn.imp id (fun h=>qR aW.out.size h)
theorem NmV.aH{W0 W W':World}{bo:Nat}{v:Value}{l:List Str}(H:NmV W0 bo v l W)(o:O0 W W'):NmV W0 bo v l W':=by obtain⟨hv,hr,hb,RF,ho⟩:=H;exact⟨aC hv o (fun f=>f),aG hr o (fun _ _ f=>f),hb,RF,ho.same (o.mono fun _ f=>f.elim)⟩
theorem Il{α β:Type}{M:Nat}{f:α->List β}:∀{l:List α},(∀y∈l,(f y).length<=M)->(l.flatMap f).length<=M*l.length
 | [],_=>by simp
 |a::r,h=>by
  have h1:=Il (l:=r) fun y hy=>h y (yE _ hy)
  have h2:=h a qQ
  rw[List.flatMap_cons,qK,qN,Nat.mul_add]
  omega
theorem Gp(x:aF)(l:List Str)(s:Str):l.filter x.nS++(if x.nS s=true then [s]else [])=(l++[s]).filter x.nS:=by rw[List.filter_append];congr 1;cases h:x.nS s<;>simp[h]
theorem agb{cs cq:List Value}{x:aF}{q:dH}(h:gy B w cs x)(hq:lW B w cq q)(hs:uj x)(hl:q.roots.length<=1000):Calls Tryz.prog 77 #[.agg cs.toArray,.agg cq.toArray] w fun e w'=> ∃v,e= .returned v/\w'.ownsRow 0 9 1 v (x.names q).length (fH (x.names q))/\(∀k,v.ownBlock=some k->w.heap.size<=k)/\O0 w w':=by
 have HH:=zh h;have HQ:=zh hq;have HS:=zh hs;obtain⟨v1,v2,rfl,h1,h2⟩:=h;obtain⟨ao,cap,rfl,-,-⟩:=h1.shape;obtain⟨nJ,cap2,rfl,-,-⟩:=h2.shape;obtain⟨v3,rfl,h3⟩:=hq;obtain⟨NP,cap3,rfl,g3,g3'⟩:=h3.shape;obtain⟨n1,hn1⟩:=ze x.packs.length;obtain⟨n2,hn2⟩:=ze x.cO.length;obtain⟨n3,hn3⟩:=ze q.roots.length;rw[hn1,hn2]at HH;rw[hn1]at h1;rw[hn3]at h3 HQ g3 hl;rw[hn1,hn2,hn3];have R1:=zh h1;have R3:=zh h3;have N1:=zh hn1;have N3:=zh hn3;obtain⟨bo,RF⟩:=ze (w.heap.size+2);obtain⟨W0,hW0⟩:=zB (((w.alloc (.cells #[.slice ao n1 cap,.slice nJ n2 cap2] 25)).alloc (.cells #[.slice NP n3 cap3] 28)).alloc (.cells #[dF] 81));have bM:Hid (O0 w W0):=by rw[hW0];exact((zr.alloc _).alloc _).alloc _
 have vC:Hid (W0.heap.size=w.heap.size+3):=by rw[hW0];simp[Hid]
 have HOw:Hid (∀W,Only (fun k=>k=bo) W0 W->O0 w W):=fun W o=>bM.out.trans o fun k hk=>.inr zAB;have aU:Hid (∀W,Only (fun k=>k=bo) W0 W->W.cell? ⟨w.heap.size,0,none⟩=some (.slice ao n1 cap)/\W.cell? ⟨w.heap.size,1,none⟩=some (.slice nJ n2 cap2)/\W.cell? ⟨w.heap.size+1,0,none⟩=some (.slice NP n3 cap3)):=fun W ho=>by
  have b0:W0.heap[w.heap.size]? =some (.cells #[.slice ao n1 cap,.slice nJ n2 cap2] 25):=by rw[hW0];exact cZ (cZ (alloc_at rfl) _) _
  have d0:=aC b0 ho zAB;have b1:W0.heap[w.heap.size+1]? =some (.cells #[.slice NP n3 cap3] 28):=by rw[hW0];exact cZ (alloc_at zAF) _
  have d1:=aC b1 ho zAB;exact⟨by rw[aj d0];rfl,by rw[aj d0];rfl,by rw[aj d1];rfl⟩
 have ame:Hid (NmV W0 bo dF [] W0):=⟨by rw[hW0,<-RF];exact alloc_at zAF,World.ownsRow_nil _ _ _ _,fun k hk=>(by cases hk),by have:=vC.out;omega,Only.refl _ _⟩;obtain⟨k0,k1,k2⟩:=aU.out W0 zr;rw[hW0]at k0 k1 k2;clear h1 h2 h3 hn1 hn2 hn3 hs;go_enter Tryz.func77,Tryz.ntmps77;go_wp2_with fail;rw[<-hW0]at k0 k1 k2⊢;clear hW0 k0 k1 k2 RF;go_loopw [17] (fun vi wr=> ∃(i:Nat) (v:Value),vi= .int .i64 i/\i<=n3/\Hid (NmV W0 bo v ((q.names.take i).filter x.nS) wr)) (fun v _=>n3-(RowKit.intOf v).toNat);case atStart=>exact⟨0,dF,rfl,qE _,ame⟩
 case round=>
  clear ame;obtain⟨i,v,rfl,hi,HV⟩:=hrel;have hO:=HV.out.2.2.2.2;obtain⟨k0,k1,k2⟩:=aU.out wr hO;have HR1:=zh (gy.keep HH.out (Kp.gV (HOw.out wr hO)));by_cases ci:i<n3
  ·have h2:=R3.out;rw[<-N3.out]at h2;obtain⟨b,off,he,-,-⟩:=h2.at zBF;subst he;obtain⟨y,hx⟩:=zG q.roots i (by rw[N3.out];exact ci);obtain⟨cs,hl2,hr,hC⟩:=(h2.keep lM.keep (Kp.gV (HOw.out wr hO))).get hx;have iG:=zw (i+1);obtain⟨c1,rfl,hS,-⟩:=hC;obtain⟨p1,p2,d1,d2,rfl,-,-,-⟩:=hS.cells;have HR:=zh hr;have Ku:Hid (q.names.take (i+1)=q.names.take i++[y.spec.name]):=wH (fun r:Dn=>r.spec.name) hx;have HLe:Hid (((q.names.take i).filter x.nS).length<=100000):=by have h1:=yO x.nS (q.names.take i);have h2:(q.names.take i).length<=i:=zAp;show _<=_;omega
   have kN:Hid (∀o,Calls Tryz.prog 155 #[.string y.spec.name,.pointer (some ⟨w.heap.size,0,none⟩),.pointer (some ⟨bo,0,none⟩)] (wr.alloc o) fun e w'=>e= .returned (.tuple #[])/\∃v',NmV W0 bo v' ((q.names.take (i+1)).filter x.nS) w'):=fun o=>by have oo:=(Only.refl (fun _=>False) wr).alloc o;rw[Ku.out,<-Gp];exact(Vj (gy.keep HR1.out (Kp.gV oo)) zBQ ⟨aY k0 oo (fun f=>f),aY k1 oo (fun f=>f)⟩ (HV.out.aH oo) HLe.out y.spec.name).mono fun e w' ⟨he,v',h,_⟩=>⟨he,v',h⟩
   clear hr hx h2 hl2 hS hO HV HR1;go_wp2_with (first| (refine wpList_load_mid rfl 110 (.tmp 19) rfl b (off+i*4) rfl _ _ HR.out Tryz.underlying110 rfl zk ?_)|fail);refine(kN.out _).mono ?_;rintro e w2 ⟨rfl,v',hv'⟩;have IG:=zh hv';clear hv' kN;go_wp2_with fail;go_roundw;case rel=>exact⟨i+1,v',by first|rfl|go_num,by omega,IG⟩
   case measure=>simp[RowKit.intOf]<;>omega
  obtain rfl:n3=i:=by omega
  have hnl:q.names.length=n3:=by unfold dH.names;rw[qM,N3.out]
  rw[qI (yG hnl)]at HV;have HCl:=zh (IU HR1.out (lW.keep HQ.out (Kp.gV (HOw.out wr hO))) HS.out zBF);clear hO HR1 ci hi hnl;go_wp2_with fail;refine HCl.out.mono ?_;rintro e w1 ⟨vc,rfl,rc,bc,oc⟩;obtain⟨nc,hnc⟩:=ze ((x.closure q.names).length);rw[hnc]at rc;have HNc:=zh hnc;have asw:nc<=1000:=by rw[<-hnc];have:=x.tV q.names;have:=HS.out.packs;omega
  obtain⟨ac,cc,rfl,-,-⟩:=aJ rc;have Eo:=zh rc;have GX:=zh (HV.out.aH oc);have HB1:Hid (∀k,v.ownBlock=some k->(Value.slice ac nc cc).ownBlock≠some k):=fun k hk h=>by have h1:=bc k h;have h2:=dP HV.out.2.1 hk;omega
  have HBc:Hid (∀k,(Value.slice ac nc cc).ownBlock=some k->k≠bo):=fun k hk e=>by have h1:=bc k hk;have h2:=(yA.1 HV.out.1).1;omega
  clear HCl rc bc oc hnc k0 k1 k2 HV;go_wp2_with fail;go_loopw [31] (fun vj wr=> ∃(j:Nat) (v:Value),vj= .int .i64 j/\j<=nc/\Hid (NmV W0 bo v ((q.names++((x.closure q.names).take j).flatMap fun p=>(x.pack p).deps.map fun d=>d.on.name).filter x.nS) wr)/\Hid (wr.ownsRow 0 3 1 (.slice ac nc cc) nc (gW (x.closure q.names)))/\Hid (∀k,v.ownBlock=some k->(Value.slice ac nc cc).ownBlock≠some k)) (fun v _=>nc-(RowKit.intOf v).toNat);case atStart=>exact⟨0,v,rfl,qE _,by simpa using GX,Eo,HB1⟩
  case round=>
   clear GX Eo HB1;obtain⟨j,v,rfl,hj,HV,HR,HB⟩:=hrel;have hO:=HV.out.2.2.2.2;obtain⟨k0,k1,k2⟩:=aU.out wr hO;by_cases cj:j<nc
   ·obtain⟨kT,aox,he,-,-⟩:=dU HR.out zAB;simp only[qU]at he;obtain⟨rfl,-,rfl⟩:=he;obtain⟨t,htt⟩:=zG (x.closure q.names) j (by rw[HNc.out];exact cj);have hcell:wr.cell? ⟨kT,j,none⟩=some (.int .i64 (t:Int)):=by rw[HR.out.cellAt j zAB];simp[gW,htt]
    have WJ:=zw (j+1);have htn:t<n1:=by have:=(aF.jA.1 (qT htt)).lt;rw[N1.out]at this;exact this
    have aoy:n1<=30:=by rw[<-N1.out];exact HS.out.packs
    have hpx:x.packs[t]? =some (x.pack t):=by unfold aF.pack;rw[qC,qA (by rw[N1.out];exact htn)];rfl
    have hsn:((x.closure q.names).take (j+1)).flatMap (fun p=>(x.pack p).deps.map fun d=>d.on.name)=(((x.closure q.names).take j).flatMap fun p=>(x.pack p).deps.map fun d=>d.on.name)++(x.pack t).deps.map fun d=>d.on.name:=by rw[List.take_add_one,htt];simp
    have h2:=R1.out;rw[<-N1.out]at h2;obtain⟨b,off,he,-,-⟩:=h2.at zAq;subst he;obtain⟨YB,-,Nz,OH⟩:=h2.get hpx;obtain⟨p,hp⟩:=ze (x.pack t);have TR:p∈x.packs:=by rw[<-hp];exact qT hpx
    rw[hp]at OH hsn;obtain⟨q1,q2,q3,q4,q5,q6,z1,z2,z3,z4,z5,z6,rfl,-,-,-,-,-,b4,-,-⟩:=OH.cells;have hcd:=sZ Nz (HOw.out wr hO) 5 _ rfl;have hdl:=(HS.out.all p TR).deps;obtain⟨nd,hnd⟩:=ze p.deps.length;rw[hnd]at hcd b4 hdl;have EF:=zh hnd;obtain⟨_,_,e4,g4,g4'⟩:=b4.shape;simp only[qU]at e4;obtain⟨-,-,rfl⟩:=e4;rw[hnd]at g4;have HD:Hid (∀W,Only (fun k=>k=bo) W0 W->aQ 7 nH B W (.slice q4 nd z4) p.deps):=fun W hW=>b4.keep nH.keep (Kp.gV (HOw.out W hW));obtain⟨A,hA⟩:∃A,q.names++(((x.closure q.names).take j).flatMap fun p=>(x.pack p).deps.map fun d=>d.on.name)=A:=⟨_,rfl⟩;have Ku:Hid (q.names++((x.closure q.names).take (j+1)).flatMap (fun p=>(x.pack p).deps.map fun d=>d.on.name)=A++p.deps.map fun d=>d.on.name):=by rw[Hid,hsn,<-hA,yW]
    have hAl:A.length<=10000:=by
     rw[<-hA,qK];have h1:q.names.length<=1000:=by unfold dH.names;rw[qM,N3.out];exact hl
     have h3:=Il (M:=40) (f:=fun p=>(x.pack p).deps.map fun d=>d.on.name) (l:=(x.closure q.names).take j) (fun y hy=>by
      rw[qM]
      have hy2:=(aF.jA.1 (List.mem_of_mem_take hy)).lt
      exact(HS.out.all _ (aF.iQ hy2)).deps)
     have h4:((x.closure q.names).take j).length<=30:=by have h5:=x.tV q.names;have h6:=HS.out.packs;rw[List.length_take];omega
     have h5:40*((x.closure q.names).take j).length<=40*30:=Nat.mul_le_mul_left _ h4;omega
    have HV0:Hid (NmV W0 bo v ((A++(p.deps.map fun d=>d.on.name).take 0).filter x.nS) wr):=by rw[List.take_zero,List.append_nil,<-hA];exact HV
    clear htt hpx hsn hp OH Nz b4 TR h2 HV hO hnd hA;go_wp2_with fail;generalize wr=wm at*;go_loopw [42] (fun vl wr=> ∃(l:Nat) (v:Value),vl= .int .i64 l/\l<=nd/\Hid (NmV W0 bo v ((A++(p.deps.map fun d=>d.on.name).take l).filter x.nS) wr)/\Hid (wr.ownsRow 0 3 1 (.slice (some ⟨kT,0,none⟩) nc cc) nc (gW (x.closure q.names)))/\Hid (∀k,v.ownBlock=some k->(Value.slice (some ⟨kT,0,none⟩) nc cc).ownBlock≠some k)) (fun v _=>nd-(RowKit.intOf v).toNat);case atStart=>exact⟨0,v,rfl,qE _,HV0,HR,HB⟩
    case round=>
     clear HV0 HR HB k0 k1 k2 hcell hcd;obtain⟨l,v,rfl,hl2,HV,HR,HB⟩:=hrel;have hO:=HV.out.2.2.2.2;obtain⟨k0,k1,k2⟩:=aU.out wr hO;by_cases cl:l<nd
     ·have hd2:=HD.out wr hO;rw[<-EF.out]at hd2;obtain⟨b',off',he',-,-⟩:=hd2.at (by have:=EF.out;omega);subst he';obtain⟨d,hdd⟩:=zG p.deps l (by rw[EF.out];exact cl);obtain⟨cs7,-,ZV,hC7⟩:=hd2.get hdd;obtain⟨c1,c2,rfl,hS1,hS2,-⟩:=hC7;obtain⟨p1,p2,d1,d2,rfl,-,-,-⟩:=hS1.cells;obtain⟨p3,p4,d3,d4,rfl,-,-,-⟩:=hS2.cells;have TS:=zh (show wr.rangeAt b' (off'+l*7) [.string d.on.name,.slice p1 d.on.spans.length d1,.slice p2 d.on.sets.length d2,.string d.cond.name,.slice p3 d.cond.spans.length d3,.slice p4 d.cond.sets.length d4,.int .i64 d.line] from ZV);have ewl:=zw (l+1);have amf:(p.deps.map fun d=>d.on.name).take (l+1)=(p.deps.map fun d=>d.on.name).take l++[d.on.name]:=wH (fun d:tJ=>d.on.name) hdd;have hle:((A++(p.deps.map fun d=>d.on.name).take l).filter x.nS).length<=100000:=by have h1:=yO x.nS (A++(p.deps.map fun d=>d.on.name).take l);have h2:((p.deps.map fun d=>d.on.name).take l).length<=l:=zAp;rw[qK]at h1;omega
      have HRx:=zh (gy.keep HH.out (Kp.gV (HOw.out wr hO)));have kN:Hid (∀o,Calls Tryz.prog 155 #[.string d.on.name,.pointer (some ⟨w.heap.size,0,none⟩),.pointer (some ⟨bo,0,none⟩)] (wr.alloc o) fun e w'=>e= .returned (.tuple #[])/\∃v',NmV W0 bo v' ((A++(p.deps.map fun d=>d.on.name).take (l+1)).filter x.nS) w'/\w'.ownsRow 0 3 1 (.slice (some ⟨kT,0,none⟩) nc cc) nc (gW (x.closure q.names))/\∀k,v'.ownBlock=some k->(Value.slice (some ⟨kT,0,none⟩) nc cc).ownBlock≠some k):=fun o=>by
       have oo:=(Only.refl (fun _=>False) wr).alloc o;rw[amf,<-yW,<-Gp];refine(Vj (gy.keep HRx.out (Kp.gV oo)) zBQ ⟨aY k0 oo (fun f=>f),aY k1 oo (fun f=>f)⟩ (HV.out.aH oo) hle d.on.name).mono fun e w' ⟨he,v',h,o2,h3⟩=>⟨he,v',h,aG (aG HR.out oo (fun _ _ f=>f)) o2 (fun k hk e=>?_),fun k hk e=>?_⟩
       ·rcases e with e|e;·exact HBc.out k hk e
        exact HB.out k e hk
       rcases h3 k hk with h4|h4;·exact HB.out k h4 e
       have h5:=dP HR.out e;have h6:=oo.size;omega
      clear hd2 hdd ZV hS1 hS2 amf hle HRx HV HR HB hO;go_wp2_with (first| (refine wpList_load_mid rfl 132 (.tmp 44) rfl b' (off'+l*7) rfl _ _ TS.out Tryz.underlying132 rfl zk ?_)|fail);refine(kN.out _).mono ?_;rintro e w3 ⟨rfl,v',hv',hr',hb'⟩;have HV3:=zh hv';have HR3:=zh hr';have HB3:=zh hb';clear hv' hr' hb' kN;go_wp2_with fail;go_roundw;case rel=>exact⟨l+1,v',by first|rfl|go_num,by omega,HV3,HR3,HB3⟩
      case measure=>simp[RowKit.intOf]<;>omega
     obtain rfl:nd=l:=by omega
     have HV3:=HV;rw[qI (by rw[qM,EF.out];exact qH _),<-Ku.out]at HV3;clear HV hO;go_wp2_with fail;go_roundw;case rel=>exact⟨j+1,v,by first|rfl|go_num,by omega,HV3,HR,HB⟩
     case measure=>simp[RowKit.intOf]<;>omega
   obtain rfl:nc=j:=by omega
   rw[qI (yG HNc.out)]at HV;obtain⟨l,hl0⟩:∃l,(q.names++(x.closure q.names).flatMap fun p=>(x.pack p).deps.map fun d=>d.on.name).filter x.nS=l:=⟨_,rfl⟩;rw[hl0]at HV;have HL:Hid (x.sees q=l):=hl0;obtain⟨hv,hr,hb,RF,ho⟩:=HV.out;obtain⟨av,cv,rfl,-,-⟩:=aJ hr;obtain⟨nl,hnl⟩:=ze l.length;rw[hnl]at hr hv hb;have hc0:wr.cell? ⟨bo,0,none⟩=some (.slice av nl cv):=by rw[aj hv];rfl
   have aiz:nl<=1000000:=by
    rw[<-hnl,<-hl0];refine qR (yO _ _) ?_;rw[qK];have h1:q.names.length<=1000:=by unfold dH.names;rw[qM,N3.out];exact hl
    have h3:=Il (M:=40) (f:=fun p=>(x.pack p).deps.map fun d=>d.on.name) (l:=x.closure q.names) (fun y hy=>by
     rw[qM]
     exact(HS.out.all _ (aF.iQ (aF.jA.1 hy).lt)).deps)
    rw[HNc.out]at h3;omega
   have GR:=zh (Rk hnl hr aiz);have HB2:=zh hb;have HOo:=zh ho;have hvb:(Value.slice av nl cv).ownBlock≠some bo:=fun e=>by have:=hb bo e;omega
   have HVB:=zh hvb;have HV5:=zh hv;have uh:=zh hnl;clear hv hr hb RF ho hl0 hnl HV hvb hO;go_wp2_with fail;refine GR.out.mono ?_;rintro e w5 ⟨rfl,r5,o5⟩;have hv5:=aC HV5.out o5 HVB.out;have hc5:w5.cell? ⟨bo,0,none⟩=some (.slice av nl cv):=by rw[aj hv5];rfl
   have HCp:=zh (LY (l:=uF l) (by rw[CJ];exact uh.out) r5);have Ar:=zh o5;clear r5 o5 hv5 GR hc0 k0 k1 k2;go_wp2_with fail;refine HCp.out.mono ?_;rintro e w6 ⟨v6,rfl,r6,b6,o6⟩;have HF6:=zh (And.intro r6 (And.intro b6 o6));clear r6 b6 o6 HCp hc5;go_wp2_with fail;go_ret;obtain⟨r6,b6,o6⟩:=HF6.out;unfold aF.names;rw[HL.out];have o56:Only (fun k=>(Value.slice av nl cv).ownBlock=some k) wr w6:=Ar.out.same o6;refine⟨_,rfl,r6,fun k hk=>?_,?_⟩;·have hk2:v6.ownBlock=some k:=hk;rw[b6]at hk2;have h1:=HB2.out k hk2;have h2:=vC.out;omega
   exact(HOw.out wr HOo.out).trans o56 fun k hk=>.inr (by
    have h1:=HB2.out k hk
    have h2:=vC.out
    omega)
end
end Go.Proofs.YtdmmebjjojimiaaGreatDoor
namespace Go.Proofs
theorem zAM{p:Prop}(h:p:=by(intro w hSw;obtain⟨k0,k1,k2,k3,k4⟩:=aU.out w hSw;have fE:=(jk.out w hSw).1;have Ee:=fE 0 _ rfl;have NI:=fE 1 _ rfl;have gy2:=fE 2 _ rfl;have gy3:=fE 3 _ rfl;have gy4:=fE 4 _ rfl;have gy5:=fE 5 _ rfl;have gy6:=fE 6 _ rfl;have gy7:=fE 7 _ rfl;rw[qF]at Ee;clear fE;go_simp<;>(try with_reducible rfl))):p:=h
theorem zCD{p:Prop}(h:p:=by
 obtain⟨a2,c2,e,h1,h2⟩:=h.shape
 simp only[qU]at e
 obtain⟨rfl,rfl,rfl⟩:=e
 refine⟨⟨ao,cap,by rw[List.length_take];congr 1;omega,by rw[List.length_take];omega,h2⟩,fun ao' len' cap' hv hp=>?_,fun len' cap' hv=>?_⟩
 ·simp only[qU]at hv
  obtain⟨rfl,-,-⟩:=hv
  rw[List.length_take]at hp
  obtain⟨b,off,e2,hb,hB,hc⟩:=h.cells _ _ _ rfl zAB
  refine⟨b,off,e2,hb,hB,fun j hj=>?_⟩
  rw[List.length_take]at hj
  obtain⟨cs,g1,g2,g3⟩:=hc j zAB
  exact⟨cs,g1,g2,by rw[List.getElem_take];exact g3⟩
 ·simp only[qU]at hv
  obtain⟨rfl,rfl,rfl⟩:=hv
  have:=h.nil _ _ rfl
  omega):p:=h
theorem zCc{p:Prop}(h:p:=by
 subst hres
 clear bD
 go_wp2_with fail
 go_ret
 exact⟨rfl,bM.out.same Ar.out⟩):p:=h
theorem zDh{p:Prop}(h:p:=by
 go_wp2_with fail
 go_roundw
 case rel=>exact⟨HOv,j+1,by first|rfl|go_num,by omega,HVv,HBv⟩
 case measure=>simp[RowKit.intOf]<;>omega):p:=h
theorem zEG{p:Prop}(h:p:=by
 go_wp2_with fail
 go_ret
 exact⟨rfl,oA⟩):p:=h
end Go.Proofs
namespace Go.Proofs.YtdmmebjjojimiaaGreatDoor
open Go.RowKit
section
variable {w w':World} {B:Nat}
attribute [local irreducible] wpQuiet
theorem Md{α:Type}(p:α->Bool)(xs:List α):decide (0<=kR p xs)=xs.any p:=by
 unfold kR;cases h:xs.any p with
 |true=>rw[if_pos rfl];exact qX zAB
 |false=>rw[if_neg zBZ];exact qP zAB
theorem Jf{α:Type}(p:α->Bool)(xs:List α):(!xs.any fun a=> !p a)=xs.all p:=by rw[List.all_eq_not_any_not]
theorem aaK:∀args w,(callFunc 267 args).run Tryz.prog w= .ok (.enter 267 args) w:=enters_of Tryz.func267 zk rfl
theorem XY:∀args w,(callFunc 269 args).run Tryz.prog w= .ok (.enter 269 args) w:=enters_of Tryz.func269 zk rfl
theorem aiX(gs:Nat)(s:kC)(h0:w.cell? ⟨gs,0,none⟩=some (.string s.name))(h1:w.cell? ⟨gs,1,none⟩=some (.string s.value)):wZ jM B 269 #[.pointer (some ⟨gs,0,none⟩)] (Jo s) w:=by
 intro W cs v hO hC;obtain⟨v1,rfl,-,hv⟩:=hC;obtain⟨a1,c1,rfl,-,-⟩:=hv.shape;obtain⟨n1,hn1⟩:=ze v.values.length;rw[hn1]at hv⊢;have oA:O0 W (W.alloc (.cells #[.string v.name,.slice a1 n1 c1] 145)):=zr.alloc _;have q0:=aY h0 (hO.same oA) (fun f=>f);have q1:=aY h1 (hO.same oA) (fun f=>f);have hd:=lu v.name s.name;obtain⟨r,hr⟩:=ze (iT v.values s.value);have VW:=zh (sV (hv.keep dN.keep (Kp.gV oA)) s.value);rw[hr]at VW;unfold Jo;rw[hr];clear h0 h1 hO hv hr hn1;go_enter Tryz.func269,Tryz.ntmps269;by_cases hy:v.name=s.name;·rw[qX hy]at hd⊢;clear hy;rw[yR];go_wp2_with fail;refine VW.out.mono ?_;rintro e w2 ⟨rfl,rfl⟩;exact zEG
 rw[qP hy]at hd⊢;clear hy;rw[yQ];exact zEG
theorem amg{gp:Nat}{a:Option Addr}{n c:Nat}(p:fP)(h3:w.cell? ⟨gp,3,none⟩=some (.slice a n c))(hp:aQ 2 jM B w (.slice a n c) p.vars):wZ ji B 267 #[.pointer (some ⟨gp,0,none⟩)] (fun s=> !IK p s) w:=by intro W cs s hO hC;obtain⟨rfl,-,-⟩:=hC;have oA:O0 W (W.alloc (.cells #[.string s.name,.string s.value] 117)):=zr.alloc _;have q3:=aY h3 (hO.same oA) (fun f=>f);have b0:(W.alloc (.cells #[.string s.name,.string s.value] 117)).heap[W.heap.size]? =some (.cells #[.string s.name,.string s.value] 117):=qL W _;obtain⟨r,hr⟩:=ze (IK p s);have VW:=zh (Jt (hp.keep jM.keep (Kp.gV (hO.same oA))) XY (aiX W.heap.size s (by rw[aj b0];rfl) (by rw[aj b0];rfl)) r (by rw[Md];exact hr));show Calls Tryz.prog _ _ W fun e w'=>e= .returned (.bool (!IK p s))/\O0 W w';rw[hr];clear h3 hO hp hr b0;go_enter Tryz.func267,Tryz.ntmps267;go_wp2_with fail;refine VW.out.mono ?_;rintro e w2 ⟨rfl,O2⟩;go_wp2_with fail;go_ret;exact⟨rfl,oA.same O2⟩
theorem aiY{YB:List Value}{p:fP}(hp:fQ B w YB p){vl:Value}{l:List kC}(hl:aQ 2 ji B w vl l):Calls Tryz.prog 186 #[.agg YB.toArray,vl] w fun e w'=>e= .returned (.bool (fJ p l))/\O0 w w':=by
 obtain⟨l9,mg,mD,kV,jv,kW,iq,iw,iy,qp,iC,mF,qy,iD,mG,kG,kH,kJ,rfl,yh,yj,Bd,Bf,mY,mZ,Fv,Fz,FB,FC,vF,vG,yx,wC,ng,um,uo,vH,F_p⟩:=BO hp;clear hp;obtain⟨a_l,uJ,YA,rfl,g_l,TL,Ap,TM⟩:=Ov hl;clear hl;obtain⟨W0,hW0,bM,vC,aU⟩:=aku w (.string p.name) (.int .i64 p.line) (.slice l9 mg mD) (.slice kV jv kW) (.slice iq iw iy) (.slice qp iC mF) (.slice qy iD mG) (.slice kG kH kJ) 101;obtain⟨WU,vI,sJ,lC,vJ,vK,sK⟩:=F_p W0 bM.out;clear F_p;have yg:=TM W0 bM.out;clear TM;obtain⟨r,hr⟩:=ze (fJ p l);have hr2:(l.any fun s=> !IK p s)= !r:=by rw[<-hr];unfold fJ;rw[<-Jf,Bool.not_not]
 rw[hr];have VW:=zh (Js (yg.out W0 zr) aaK (amg (gp:=w.heap.size) p (aU.out W0 zr).2.2.2.1 (sJ.out W0 zr)) (!r) (by rw[Md];exact hr2));clear hr hr2;go_enter Tryz.func186,Tryz.ntmps186;go_wp2_with fail;rw[<-hW0];clear hW0;refine VW.out.mono ?_;rintro e w2 ⟨rfl,O2⟩;go_wp2_with fail;go_ret;exact⟨by first|rfl| (rw[Bool.not_not];rfl),bM.out.same O2⟩
theorem aaL{ao:Option Addr}{n cap:Nat}{l:List Str}(h:aQ 1 dN B w (.slice ao n cap) l){i:Nat}(hi:i<=n):aQ 1 dN B w (.slice ao i cap) (l.take i):=by exact zCD
theorem JO{vl:Value}{l:List Str}(hl:aQ 1 dN B w vl l):Calls Tryz.prog 183 #[vl] w fun e w'=>e= .returned (.bool (!dA l))/\O0 w w':=by
 obtain⟨a_l,uJ,YA,rfl,g_l,TL,Ap,TM⟩:=open_strs hl;clear hl;obtain⟨W0,hW0⟩:=zB w;have bM:Hid (O0 w W0):=zAw;have yg:=TM W0 bM.out;clear TM;obtain⟨r,hr⟩:=ze (!dA l);rw[hr];have bD:=zh hr;clear hr;subst hW0;go_enter Tryz.func183,Tryz.ntmps183;go_wp2_with fail;go_loopw [7] (fun vi fM=>Hid (O0 W0 fM)/\∃i:Nat,vi= .int .i64 i/\i<=uJ/\Hid (dA (l.take i)=true)) (fun v _=>uJ-(RowKit.intOf v).toNat);case atStart=>exact⟨show Hid _ from Only.refl _ _,0,rfl,qE _,show Hid _ from by simp[Hid,dA]⟩
 case round=>
  obtain⟨fM,rfl⟩:=zB wr;obtain⟨xK,i,rfl,hi,Xe⟩:=hrel;by_cases ci:i<uJ
  ·have iG:=zw (i+1);obtain⟨yu,hxu⟩:=zG l i zAh;obtain⟨bku,aga,heu,apU,adL⟩:=zL (yg.out W0 zr) hxu;first|subst heu| (simp only[qG,qO,and_true]at heu;obtain⟨rfl,rfl⟩:=heu)
   have HEu:=zh adL;have HXu:=zh hxu;clear adL hxu;have FI:=(HEu.out fM xK.out).1;have gu0:=FI 0 _ rfl;rw[qF]at gu0;rw[yH]at gu0;clear FI;have avq:∀W,(Instr.slice 81 (.slice (some ⟨bku,aga,none⟩) uJ YA) none (some (.int .i64 (i:Int))) none).run Tryz.prog W= .ok (.slice (some ⟨bku,aga,none⟩) i YA) W:=fun W=>by obtain⟨ii,zz,t1,t2,t3,-,-⟩:=zM.info;exact Oh (P:=Tryz.prog) zM.und t1 t3 (some ⟨bku,aga,none⟩) uJ i YA zAB W
   have VW:=zh (sV (aaL (yg.out fM xK.out) hi) yu);obtain⟨b,hb⟩:=ze (iT (l.take i) yu);rw[hb]at VW;have HTw:=zh (IV HXu.out Xe.out);rw[hb]at HTw;clear hb;go_wp2_with fail;refine VW.out.mono ?_;rintro e w2 ⟨rfl,rfl⟩;cases b with
   |true=>
    have hf:r=true:=by rw[<-bD.out,KT (i:=i+1) HTw.out];rfl
    subst hf;clear HTw bD;exact zC4
   |false=>
    have HN2:Hid (dA (l.take (i+1))=true):=HTw.out;go_wp2_with fail;go_roundw;case rel=>exact⟨xK,i+1,by first|rfl|go_num,by omega,HN2⟩
    case measure=>simp[RowKit.intOf]<;>omega
  obtain rfl:uJ=i:=by omega
  have hf:r=false:=by have h:=Xe.out;rw[qI (yG Ap.out)]at h;rw[<-bD.out,h];rfl
  subst hf;exact zC4
theorem aiZ{v:Value}{l:List lV}(h:aQ 2 oh B w v l):∀r∈l,okS r.version:=fun r hr=>by
 obtain⟨cs,hC⟩:=h.all r hr
 exact hC.2
theorem XZ{vl:Value}{l:List lV}(hl:aQ 2 oh B w vl l)(hlen:l.length<=1000000):Calls Tryz.prog 184 #[vl] w fun e w'=> ∃v,e= .returned v/\aQ 1 dN w'.heap.size w' v (l.map lV.version)/\O0 w w':=by
 obtain⟨a_l,YA,rfl,g_l,TL⟩:=hl.shape;obtain⟨uJ,e1⟩:=ze l.length;have Ap:=zh e1;rw[e1]at hl g_l hlen⊢;have yg:Hid (∀W,O0 w W->aQ 2 oh B W (.slice a_l uJ YA) l):=fun W ho=>hl.keep oh.keep (Kp.gV ho);have vw:=zh (aiZ hl);clear e1 hl;obtain⟨W0,hW0⟩:=zB w;subst hW0;go_enter Tryz.func184,Tryz.ntmps184;go_wp2_with fail;go_loopw [3,8] (fun vo vj iJ=>Hid (O0 W0 iJ)/\∃j:Nat,vj= .int .i64 j/\j<=uJ/\Hid (iJ.ownsRow 0 9 1 vo j (fH (oD l j)))/\Hid (∀k,vo.ownBlock=some k->W0.heap.size<=k)) (fun _ v _=>uJ-(RowKit.intOf v).toNat);case atStart=>exact⟨show Hid _ from Only.refl _ _,0,rfl,qE _,World.ownsRow_nil _ _ _ _,fun k hk=>by cases hk⟩
 case round=>
  obtain⟨iJ,rfl⟩:=zB wr;obtain⟨Di,j,rfl,hj,HV,Zi⟩:=hrel;by_cases cj:j<uJ
  ·have iG:=zw (j+1);obtain⟨yz,hxz⟩:=zG l j zAh;obtain⟨NG,xM,wE,Ky,mJ⟩:=JA (yg.out W0 zr) hxz;first|subst wE| (simp only[qG,qO,and_true]at wE;obtain⟨rfl,rfl⟩:=wE)
   have vM:=zh mJ;have Bg:=zh hxz;clear mJ hxz;have lG:Hid (iJ.rangeAt NG (xM+j*2) [.string yz.version,.bool yz.old]):=(vM.out iJ Di.out).1;have H6z:Hid ((iJ.alloc (.cells #[.string ⟨#[]⟩,.bool false] 130)).heap[iJ.heap.size]? =some (.cells #[.string ⟨#[]⟩,.bool false] 130)):=qL iJ _;have HB7:Hid (((iJ.alloc (.cells #[.string ⟨#[]⟩,.bool false] 130)).setRow iJ.heap.size #[.string yz.version,.bool yz.old]).heap[iJ.heap.size]? =some (.cells #[.string yz.version,.bool yz.old] 130 (0,0))):=setRow_heap _ _ _ _ _ _ H6z.out;have pG:Hid (O0 iJ ((iJ.alloc (.cells #[.string ⟨#[]⟩,.bool false] 130)).setRow iJ.heap.size #[.string yz.version,.bool yz.old])):=(zr.alloc _).trans (aP _ _ _) fun k hk=>.inr (yG hk.symm);have q0:=aj HB7.out 0;obtain⟨ao,co,rfl,-,-⟩:=aJ HV.out;go_wp2_with (first
    | (refine wpList_load_mid rfl 130 (.tmp 10) rfl NG (xM+j*2) rfl _ _ lG.out Tryz.underlying130 rfl zk ?_)
    | (refine wpList_store_row rfl 130 (.tmp 5) (.tmp 11) rfl iJ.heap.size #[.string yz.version,.bool yz.old] rfl rfl 130 #[.string ⟨#[]⟩,.bool false] H6z.out zk rfl zk ?_)
    | (at_builtin;go_must (refine AL (u:=.string yz.version) zM rfl (.tmp 12) (.tmp 15) rfl rfl rfl (by have h:=cell_new0 ((iJ.alloc (.cells #[.string ⟨#[]⟩,.bool false] 130)).setRow iJ.heap.size #[.string yz.version,.bool yz.old]) (.string yz.version) 9;simpa using h) rfl (aG HV.out (pG.out.alloc _) (fun _ _ f=>f)) zAB zBV ?_)))
   intro v' w2 r1 r2 r3;have HVv:Hid (w2.ownsRow 0 9 1 v' (j+1) (fH (oD l (j+1)))):=by rw[IL Bg.out];simpa[fH,Hid]using r1
   have HOv:Hid (O0 W0 w2):=(Di.out.same (pG.out.alloc _)).trans r2 fun k hk=>.inr (Zi.out k hk);have HBv:Hid (∀k,v'.ownBlock=some k->W0.heap.size<=k):=by
    intro k hk;obtain⟨g,cap',rfl,-,-,h|h⟩:=r3;·exact zDl
    simp[Value.ownBlock]at hk;subst hk;have h9:=Di.out.size;simp at h;omega
   obtain⟨g,cap',rfl,-,-,-⟩:=r3;clear r1 r2 q0;exact zDh
  obtain rfl:uJ=j:=by omega
  obtain⟨ao,co,rfl,-,-⟩:=aJ HV.out;go_wp2_with fail;go_ret;have hall:oD l uJ=l.map lV.version:=by unfold oD;rw[qI (yG Ap.out)]
  refine⟨_,rfl,?_,Di.out⟩;have h:=HV.out;rw[hall]at h;refine sG (by rw[qM];exact Ap.out) h fun s hs=>?_;obtain⟨r,hr,rfl⟩:=yD.1 hs;exact vw.out r hr
theorem adP(a b:Str)(W:World):(binOp .eql 128 (.agg #[.string a,.string b]) (.agg #[.string ⟨#[]⟩,.string ⟨#[]⟩])).run Tryz.prog W= .ok (.bool (a.toList.isEmpty&&b.toList.isEmpty)) W:=by
 by_cases h1:a.toList=[]
 ·by_cases h2:b.toList=[];·rw[h1,h2];go_simp
  have e2:b.toList.isEmpty=false:=by rw[List.isEmpty_eq_false_iff];exact h2
  rw[h1,e2];go_simp
 have e1:a.toList.isEmpty=false:=by rw[List.isEmpty_eq_false_iff];exact h1
 rw[e1];go_simp
theorem X0{pR:List Value}{x:aF}(hx:gy B w pR x){css:List Value}{s:gZ}(hs:dB B w css s)(hlen:x.packs.length<=1000000):Calls Tryz.prog 107 #[.agg pR.toArray,.agg css.toArray] w fun e w'=>e= .returned (.int .u8 (x.wish s))/\O0 w w':=by
 obtain⟨aV,ak,aS,aT,aK,aO,rfl,fV,fZ,dQ,dR,aB,bJ,qo⟩:=open_rec hx;clear hx;try rw[aB.out]
 obtain⟨Cb,oZ,Cc,yB,nU,yS,rfl,ZM,ZN,acg,ach,pq,KA,F_s⟩:=Ou hs;clear hs;obtain⟨W0,hW0,bM,vC,aU⟩:=abE w (.slice aV ak aS) (.slice aT aK aO) (.string s.name) (.slice Cb oZ Cc) (.slice yB nU yS) 25 108;obtain⟨gI,bK,bT⟩:=qo W0 bM.out;clear qo;obtain⟨aor,Ec,Hl⟩:=F_s W0 bM.out;clear F_s;rw[aB.out]at hlen;obtain⟨f,hf⟩:=ze (x.find s.name);obtain⟨vb,hvb⟩:=ze (x.nS s.name);obtain⟨sa,hsa⟩:=ze (Hg s.spans);have V3:=zh hsa;have NH:=x.pY s.name;rw[hf,aB.out]at NH;have HF:Hid (∀W,O0 W0 W->Calls Tryz.prog 182 #[.agg #[.slice aV ak aS,.slice aT aK aO],.string s.name] W fun e w'=>e= .returned (.int .i64 f)/\O0 W w'):=fun W hW=>by rw[<-hf];exact qc (gI.out W hW) s.name
 have HVt:Hid (∀W,O0 W0 W->Calls Tryz.prog 156 #[.agg #[.slice aV ak aS,.slice aT aK aO],.string s.name] W fun e w'=>e= .returned (.bool vb)/\O0 W w'):=fun W hW=>by rw[<-hvb];exact Ik (gI.out W hW) zAN s.name
 obtain⟨r,hr⟩:=ze (x.wish s);rw[hr];have bD:Hid (r=if 0<=f then (if fJ (x.pack f.toNat) s.sets then 0 else 8)
  else if vb then (if 0<nU then 9 else if sa then 0 else 9)else 7):=by
  rw[<-hr,aF.wish,hf,hvb,KA.out,hsa]
  exact rfl
 clear hf hvb hr hsa;obtain⟨k0,k1,k2,k3,k4⟩:=aU.out W0 zr;rw[hW0]at k0 k1 k2 k3 k4;go_enter Tryz.func107,Tryz.ntmps107;go_wp2_with fail;rw[<-hW0]at k0 k1 k2 k3 k4⊢;clear hW0;refine(HF.out W0 zr).mono ?_;rintro e w1 ⟨rfl,O1⟩;have aW:=zh O1;clear O1 HF k0 k1 k2 k3 k4;obtain⟨k0,k1,k2,k3,k4⟩:=aU.out w1 aW.out;go_upto_region 2 with fail;go_cut [6] (fun v6 wx=>v6= .bool sa/\wx=w1);case first=>
  by_cases hone:oZ=1
  ·subst hone;have hrow:=Ec.out w1 aW.out;obtain⟨y,hy⟩:∃y,s.spans=[y]:=List.length_eq_one_iff.1 pq.out;have hrow1:aQ 2 eY B w1 (.slice Cb s.spans.length Cc) s.spans:=by rw[pq.out];exact hrow
   obtain⟨bS,QO,eS,-,-⟩:=hrow1.at (by rw[pq.out];omega);subst eS;obtain⟨csS,-,hrS,rfl,-,-⟩:=hrow.get (i:=0) (x:=y) (by rw[hy];rfl);have HRS:Hid (w1.rangeAt bS QO [.string y.lo,.string y.hi]):=by simpa[Hid]using hrS
   have apW:=adP y.lo y.hi;have hsp:(y.lo.toList.isEmpty&&y.hi.toList.isEmpty)=sa:=by have:=V3.out;rw[hy]at this;exact this
   rw[hsp]at apW;clear hrS hrow hrow1 hy hsp;have q3:w1.cell? ⟨bS,QO,none⟩=some (.string y.lo):=HRS.out 0 _ rfl;have q4:w1.cell? ⟨bS,QO+1,none⟩=some (.string y.hi):=HRS.out 1 _ rfl;go_wp2_with fail;go_meet;exact⟨rfl,rfl⟩
  have hs0:sa=false:=by
   rw[<-V3.out];unfold Hg;split;·rename_i h;exact absurd (by rw[<-pq.out,h];rfl) hone
   rfl
  have hne:((oZ:Int)==1)=false:=by rw[yC];omega
  subst hs0;go_wp2_with fail;go_meet;exact⟨rfl,rfl⟩
 case rest=>
  obtain⟨rfl,e9⟩:=hcut;have e9:=e9.symm;subst e9;clear V3;by_cases hf:0<=f
  ·obtain⟨i,rfl⟩:∃i:Nat,f=i:=⟨f.toNat,by omega⟩;have ci:i<ak:=zAB;obtain⟨yy,hxy⟩:=zG x.packs i zAV;obtain⟨Ah,kX,lD,iL,lF,pU,pV,pW,vN,rP,vO,wS,uq,wU,Dy,zH,Dz,Au,xq,Aw,nN,jX,ny,sN,sO,wF,wG,yV,Ed,jw⟩:=jH (bK.out W0 zr) hxy;first|subst nN| (simp only[qG,qO,and_true]at nN;obtain⟨rfl,rfl⟩:=nN)
   have jk:=zh jw;have xO:=zh hxy;clear jw hxy jX ny sN sO wF wG;have HCy:Hid (∀W,O0 W0 W->fQ B W [.string yy.name,.int .i64 yy.line,.slice lD iL lF,.slice pU pV pW,.slice vN rP vO,.slice wS uq wU,.slice Dy zH Dz,.slice Au xq Aw] yy):=fun W ho=>(jk.out W ho).2.2.2.2.2.2.2;have hpk:x.pack i=yy:=zAk;obtain⟨sb,hsb⟩:=ze (fJ yy s.sets);have HR2:Hid (r=if sb then 0 else 8):=by have hres:=bD.out;rw[if_pos hf,yT,hpk,hsb]at hres;exact hres
   clear bD;have bD:=HR2;clear HR2;have GR:Hid (∀W,O0 W0 W->Calls Tryz.prog 186 #[.agg #[.string yy.name,.int .i64 yy.line,.slice lD iL lF,.slice pU pV pW,.slice vN rP vO,.slice wS uq wU,.slice Dy zH Dz,.slice Au xq Aw],.slice yB nU yS] W fun e w'=>e= .returned (.bool sb)/\O0 W w'):=fun W hW=>by rw[<-hsb];exact aiY (HCy.out W hW) (Hl.out W hW)
   clear hpk hsb;have hge:decide (0<=(i:Int))=true:=qX zAB;have hlt0:decide ((i:Int)<0)=false:=qP zAB;go_wp2_with fail;refine bC (n:=14) (E:=fun _=>false) (S:=fun W=>O0 W0 W) zk rfl (by exact(aW.out).drew) (fun hHeld=>?_);refine tW 0 ?_;refine tW 1 ?_;refine tW 2 ?_;refine tW 3 ?_;refine tK 4 ?_ (hy:=zAM);refine tW 5 ?_;refine tW 6 ?_;refine tK 7 ?_ (hy:=zAM);refine tW 8 ?_;refine tK 9 ?_ (hy:=zAM);refine tO 10 fun K hK=>?_;(go_simp;refine(GR.out _ hHeld).mono ?_;rintro e w5 ⟨rfl,o5⟩;try go_wp2_with fail);refine hK.out _ _ ?_ (fun hHeld=>?_);·exact zDW
   clear hK K;try simp only[Act.put,eF,fA,eG,dW,dX,dY]
   refine tW 11 ?_;refine tW 12 ?_;refine tW 13 ?_;refine bf zk ?_ _;have Ar:=zh hHeld;clear hHeld;obtain⟨k0,k1,k2,k3,k4⟩:=aU.out w5 Ar.out;cases sb with
   |true=>have hres:=bD.out;rw[if_pos rfl]at hres;exact zCc
   |false=>have hres:=bD.out;rw[if_neg zAF]at hres;exact zCc
  have HfN:Hid (f<0):=by(simp only[Hid];omega)
  have hge:decide (0<=f)=false:=qP hf;have hlt0:decide (f<0)=true:=qX zAB;go_wp2_with fail;refine(HVt.out w1 aW.out).mono ?_;rintro e w2 ⟨rfl,O2⟩;have iO:=zh (aW.out.same O2);clear O2 k0 k1 k2 k3 k4;obtain⟨k0,k1,k2,k3,k4⟩:=aU.out w2 iO.out;cases vb with
  |false=>have hres:=bD.out;rw[if_neg (Int.not_le.2 HfN.out),if_neg zAF]at hres;exact zFD
  |true=>
   go_wp2_with fail;refine bC (n:=14) (E:=fun _=>false) (S:=fun W=>O0 W0 W) zk rfl (by exact(iO.out).drew) (fun hHeld=>?_);refine tW 0 ?_;refine tW 1 ?_;refine tW 2 ?_;refine tS 3 ?_;refine tS 4 ?_;refine tS 5 ?_;refine tS 6 ?_;refine tS 7 ?_;refine tS 8 ?_;refine tS 9 ?_;refine tS 10 ?_;refine tS 11 ?_;refine tW 12 ?_;refine tW 13 ?_;refine bf zk ?_ _;have Ar:=zh hHeld;clear hHeld k0 k1 k2 k3 k4;obtain⟨k0,k1,k2,k3,k4⟩:=aU.out w2.drew Ar.out;cases sa with
   |false=>
    have hres:r=9:=by have h:=bD.out;simpa[Int.not_le.2 HfN.out]using h
    exact zCc
   |true=>
    by_cases hn:0<nU
    ·have hres:r=9:=by have h:=bD.out;simpa[Int.not_le.2 HfN.out,hn]using h
     exact zCc
    have hres:r=0:=by have h:=bD.out;simpa[Int.not_le.2 HfN.out,hn]using h
    exact zCc
end
end Go.Proofs.YtdmmebjjojimiaaGreatDoor
