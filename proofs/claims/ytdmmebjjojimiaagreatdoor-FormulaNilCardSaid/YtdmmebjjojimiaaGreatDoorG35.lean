/- Package needs: Virtual, Names. -/
import Derived.Test.YtdmmebjjojimiaaGreatDoorG31
set_option maxRecDepth 100000
set_option maxHeartbeats 8000000
set_option linter.all false
namespace Go.Proofs.YtdmmebjjojimiaaGreatDoor
open Go.RowKit
noncomputable def aC.sees (x:aC) (q:dG):List Str:=(q.names++(x.closure q.names).flatMap fun p=>(x.pack p).deps.map fun d=>d.on.name).filter x.pz
noncomputable def aC.names (x:aC) (q:dG):List Str:=fM (oh (x.sees q))
theorem aC.JH(x:aC)(q:dG):(x.names q).length<=(x.sees q).length:=by unfold aC.names;have:=LH (oh (x.sees q));rwa[wL]at this
theorem aC.WB{x:aC}{q:dG}{s:Str}(h:s∈x.names q):s∈x.sees q:=(Gv _).mem_iff.1 (LJ h)
section
variable {w w':World} {B:Nat}
theorem Df{cs:List Value}{x:aC}(h:gG B w cs x)(hlen:x.packs.length<=1000000)(s:Str):Calls Tryz.prog 156 #[.agg cs.toArray,.string s] w fun e w'=>e= .returned (.bool (x.pz s))/\O0 w w':=by
 have HH:=zh h;obtain⟨v1,v2,rfl,h1,h2⟩:=h;obtain⟨ao,cap,rfl,-,-⟩:=h1.shape;obtain⟨ku,cap2,rfl,-,-⟩:=h2.shape;unfold aC.pz;obtain⟨f,hf⟩:=ze (x.find s);have HF:=zh (lK (gG.keep HH.out (Kp.fU ((Only.refl (fun _=>False) w).alloc (.cells #[.slice ao x.packs.length cap,.slice ku x.cO.length cap2] 25)))) s);have HPv:=fun W hO=>zh (kG (w:=W) (gG.keep HH.out (Kp.fU hO)) hlen s);rw[hf]at HF;rw[hf];clear hf h1 h2;obtain⟨np,hnp⟩:=ze ((x.bZ s).length);rw[hnp]at HPv⊢;clear hnp;by_cases hf0:f<0
 ·obtain⟨bz,hbz⟩:∃z,decide (0<np)=z:=⟨_,rfl⟩;have e1:(decide (f<0)&&decide (0<np))=bz:=by rw[qX hf0,hbz];rfl
  rw[e1];have HZ:Hid (decide ((np:Int)>0)=bz):=by rw[Hid,<-hbz];exact decide_eq_decide.2 zBB
  clear e1 hbz;go_enter Tryz.func156,Tryz.ntmps156;go_wp2_with fail;refine HF.out.mono ?_;rintro e w1 ⟨rfl,O1⟩;have bg:=zh (((Only.refl (fun _=>False) w).alloc _).same O1);have hw1:=O1.size;simp only[World.size_alloc]at hw1;have hcell:w1.cell? ⟨w.heap.size,0,none⟩=some (.slice ao x.packs.length cap)/\w1.cell? ⟨w.heap.size,1,none⟩=some (.slice ku x.cO.length cap2):=by
   constructor;·exact zBo
   exact zBo
  obtain⟨hc1,hc2⟩:=hcell;have Xt:=HPv w1 bg.out;clear O1 HPv HF;go_wp2_with fail;refine Xt.out.mono ?_;rintro e w2 ⟨v,rfl,r1,r2,r3⟩;have jG:=zh (bg.out.same r3);obtain⟨av,cv,rfl,-,-⟩:=aH r1;have hz:=HZ.out;clear r1 r2 r3 Xt bg;go_wp2_with fail;go_ret;refine⟨?_,jG.out⟩;first|rfl| (rw[<-HZ.out];first|rfl|simp)
 have e1:(decide (f<0)&&decide (0<np))=false:=by rw[qP hf0];rfl
 rw[e1];clear e1;go_enter Tryz.func156,Tryz.ntmps156;go_wp2_with fail;refine HF.out.mono ?_;rintro e w1 ⟨rfl,O1⟩;have bg:=zh (((Only.refl (fun _=>False) w).alloc _).same O1);clear O1 HF;go_wp2_with fail;go_ret;exact⟨rfl,bg.out⟩
def Xn(W0:World)(bo:Nat)(v:Value)(l:List Str)(W:World):Prop:=
 W.heap[bo]? =some (.cells #[v] 81 (0,0))/\W.ownsRow 0 9 1 v l.length (dZ l)/\(∀k,v.ownBlock=some k->W0.heap.size<=k)/\bo<W0.heap.size/\Only (fun k=>k=bo) W0 W
theorem PW{W0:World}{bx bo:Nat}{l:List Str}{ao ku:Option Addr}{n1 cap n2 cap2:Nat}{x:aC}(h:gG B w [.slice ao n1 cap,.slice ku n2 cap2] x)(hlen:x.packs.length<=1000000)(hbx:w.cell? ⟨bx,0,none⟩=some (.slice ao n1 cap)/\w.cell? ⟨bx,1,none⟩=some (.slice ku n2 cap2)){v:Value}(H:Xn W0 bo v l w)(hl:l.length<=100000)(s:Str):Calls Tryz.prog 155 #[.string s,.pointer (some ⟨bx,0,none⟩),.pointer (some ⟨bo,0,none⟩)] w fun e w'=>e= .returned (.tuple #[])/\∃v',Xn W0 bo v' (l++if x.pz s=true then [s]else []) w'/\Only (fun k=>k=bo\/v.ownBlock=some k) w w'/\∀k,v'.ownBlock=some k->v.ownBlock=some k\/w.heap.size<=k:=by
 have HV:=zh (Df h hlen s);obtain⟨hv,hr,hb,LX,ho⟩:=H;obtain⟨h0,h1⟩:=hbx;have HC:=zh (And.intro hv (And.intro hr (And.intro hb (And.intro LX ho))));clear h hv hr hb LX ho;generalize hz:x.pz s=z at*;clear hz;cases z with
 |false=>
  go_enter Tryz.func155,Tryz.ntmps155;go_wp2_with fail;refine HV.out.mono ?_;rintro e w1 ⟨rfl,O1⟩;have bg:=zh O1;clear O1 HV;go_wp2_with fail;go_end0;obtain⟨hv,hr,hb,LX,ho⟩:=HC.out;have h2:l++(if false=true then [s]else [])=l:=zAE;try rw[h2]
  exact⟨rfl,v,⟨ak hv bg.out (fun f=>f),aB hr bg.out (fun _ _ f=>f),hb,LX,ho.same (bg.out.mono fun _ f=>f.elim)⟩,bg.out.mono fun _ f=>f.elim,fun k hk=>.inl hk⟩
 |true=>
  go_enter Tryz.func155,Tryz.ntmps155;go_wp2_with fail;refine HV.out.mono ?_;rintro e w1 ⟨rfl,O1⟩;obtain⟨hv,hr,hb,LX,ho⟩:=HC.out;have hv1:=ak hv O1 (fun f=>f);have hr1:=aB hr O1 (fun _ _ f=>f);have ho1:=ho.same (O1.mono fun _ f=>f.elim);have hc1:w1.cell? ⟨bo,0,none⟩=some v:=by rw[aj hv1];rfl
  have bg:=zh O1;have HW1:=zh (And.intro hv1 (And.intro hr1 (And.intro hb (And.intro LX ho1))));obtain⟨nl,hnl⟩:=ze l.length;have oD:=zh hnl;rw[hnl]at hl;have HR1:Hid (w1.ownsRow 0 9 1 v nl (dZ l)):=by rw[<-hnl];exact zh hr1
  have apM:bo<w1.heap.size:=(yA.1 hv1).1;clear O1 HV hv hr hb LX ho hv1 hr1 ho1 HC hnl h0 h1;go_wp2_with (at_builtin;go_must (refine zJ (u:=.string s) vJ rfl (.tmp 7) (.tmp 9) rfl rfl rfl (cell_new0 _ _ _) rfl (aB HR1.out ((Only.refl (fun _=>False) _).alloc _) (fun _ _ f=>f)) zBB zBC ?_));intro v' w2 r2 o2 a2;obtain⟨hv1,hr1,hb,LX,ho1⟩:=HW1.out;have ahN:v.ownBlock≠some bo:=fun e=>by have:=hb bo e;omega
  have hv2:w2.heap[bo]? =some (.cells #[v] 81 (0,0)):=by rw[o2.block bo zAK ahN];exact bC hv1 _
  obtain⟨g,cap',rfl,hg1,hg2,hg3⟩:=a2;have hc2:w2.cell? ⟨bo,0,none⟩=some v:=by rw[aj hv2];rfl
  have hf2:w2.frozen? ⟨bo,0,none⟩=false:=by simp[World.frozen?,hv2]
  have hg:W0.heap.size<=g:=by
   rcases hg3 with e|e;·exact hb g e
   have:=ho1.size;simp at e;omega
  have hgb:g≠bo:=zBB;have oo:Only (fun k=>k=bo\/v.ownBlock=some k) w1 w2:=((Only.refl (fun k=>k=bo\/v.ownBlock=some k) w1).alloc _).same (o2.mono fun k hk=>.inr hk);have hgn:v.ownBlock=some g\/w1.heap.size<=g:=by
   rcases hg3 with e|e;·exact .inl e
   right;simp at e;omega
  have HW2:=zh (And.intro hv2 (And.intro r2 (And.intro oo (And.intro ho1 (And.intro LX (And.intro hg (And.intro hb hgn)))))));clear hv1 hr1 hb LX ho1 ahN hv2 r2 o2 hg1 hg2 hg3 oo hg hgn HW1 hc1 HR1;go_wp2_with fail;go_end0;obtain⟨hv2,r2,oo,ho1,LX,hg,hb,hgn⟩:=HW2.out;have o3:Only (fun k=>k=bo\/v.ownBlock=some k) w1 (w2.setCell ⟨bo,0,none⟩ (.slice (some ⟨g,0,none⟩) (nl+1) cap')):=oo.setCell (p:=⟨bo,0,none⟩) (.inl (.inl rfl)) _;refine⟨rfl,.slice (some ⟨g,0,none⟩) (nl+1) cap',⟨heap_setCell_box_a _ hv2,?_,fun k hk=>?_,LX,?_⟩,(bg.out.mono fun _ f=>f.elim).same o3,fun k hk=>?_⟩
  ·have h2:l++(if true=true then [s]else [])=l++[s]:=by simp
   try rw[h2]
   rw[qK,oD.out];have e3:dZ (l++[s])=dZ l++[.string s]:=by simp[dZ]
   rw[e3];exact aB r2 ((Only.refl (fun k=>k=bo) w2).setCell (p:=⟨bo,0,none⟩) (.inl rfl) _) (fun k hk e=>by cases hk;exact hgb e)
  ·cases hk;exact hg
  ·exact ho1.trans o3 fun k hk=>hk.imp id (hb k)
  cases hk;exact hgn.imp id (fun h=>qR bg.out.size h)
theorem Xn.aF{W0 W W':World}{bo:Nat}{v:Value}{l:List Str}(H:Xn W0 bo v l W)(o:O0 W W'):Xn W0 bo v l W':=by obtain⟨hv,hr,hb,LX,ho⟩:=H;exact⟨ak hv o (fun f=>f),aB hr o (fun _ _ f=>f),hb,LX,ho.same (o.mono fun _ f=>f.elim)⟩
theorem Dh{α β:Type}{M:Nat}{f:α->List β}:∀{l:List α},(∀y∈l,(f y).length<=M)->(l.flatMap f).length<=M*l.length
 | [],_=>by simp
 |a::r,h=>by
  have h1:=Dh (l:=r) fun y hy=>h y (yE _ hy)
  have h2:=h a qQ
  rw[List.flatMap_cons,qK,qN,Nat.mul_add]
  omega
theorem Bc(x:aC)(l:List Str)(s:Str):l.filter x.pz++(if x.pz s=true then [s]else [])=(l++[s]).filter x.pz:=by rw[List.filter_append];congr 1;cases h:x.pz s<;>simp[h]
theorem abD{cs cq:List Value}{x:aC}{q:dG}(h:gG B w cs x)(hq:lI B w cq q)(hs:sQ x)(hl:q.roots.length<=1000):Calls Tryz.prog 77 #[.agg cs.toArray,.agg cq.toArray] w fun e w'=> ∃v,e= .returned v/\w'.ownsRow 0 9 1 v (x.names q).length (dZ (x.names q))/\(∀k,v.ownBlock=some k->w.heap.size<=k)/\O0 w w':=by
 have HH:=zh h;have HQ:=zh hq;have HS:=zh hs;obtain⟨v1,v2,rfl,h1,h2⟩:=h;obtain⟨ao,cap,rfl,-,-⟩:=h1.shape;obtain⟨ku,cap2,rfl,-,-⟩:=h2.shape;obtain⟨v3,rfl,h3⟩:=hq;obtain⟨Ip,cap3,rfl,g3,g3'⟩:=h3.shape;obtain⟨n1,hn1⟩:=ze x.packs.length;obtain⟨n2,hn2⟩:=ze x.cO.length;obtain⟨n3,hn3⟩:=ze q.roots.length;rw[hn1,hn2]at HH;rw[hn1]at h1;rw[hn3]at h3 HQ g3 hl;rw[hn1,hn2,hn3];have R1:=zh h1;have R3:=zh h3;have N1:=zh hn1;have N3:=zh hn3;obtain⟨bo,LX⟩:=ze (w.heap.size+2);obtain⟨W0,hW0⟩:=zB (((w.alloc (.cells #[.slice ao n1 cap,.slice ku n2 cap2] 25)).alloc (.cells #[.slice Ip n3 cap3] 28)).alloc (.cells #[bK] 81));have ig:Hid (O0 w W0):=by rw[hW0];exact((zr.alloc _).alloc _).alloc _
 have DU:Hid (W0.heap.size=w.heap.size+3):=by rw[hW0];simp[Hid]
 have HOw:Hid (∀W,Only (fun k=>k=bo) W0 W->O0 w W):=fun W o=>ig.out.trans o fun k hk=>.inr zBB;have bJ:Hid (∀W,Only (fun k=>k=bo) W0 W->W.cell? ⟨w.heap.size,0,none⟩=some (.slice ao n1 cap)/\W.cell? ⟨w.heap.size,1,none⟩=some (.slice ku n2 cap2)/\W.cell? ⟨w.heap.size+1,0,none⟩=some (.slice Ip n3 cap3)):=fun W ho=>by
  have b0:W0.heap[w.heap.size]? =some (.cells #[.slice ao n1 cap,.slice ku n2 cap2] 25):=by rw[hW0];exact bC (bC (alloc_at rfl) _) _
  have d0:=ak b0 ho zBB;have b1:W0.heap[w.heap.size+1]? =some (.cells #[.slice Ip n3 cap3] 28):=by rw[hW0];exact bC (alloc_at zAE) _
  have d1:=ak b1 ho zBB;exact⟨by rw[aj d0];rfl,by rw[aj d0];rfl,by rw[aj d1];rfl⟩
 have ahO:Hid (Xn W0 bo bK [] W0):=⟨by rw[hW0,<-LX];exact alloc_at zAE,World.ownsRow_nil _ _ _ _,fun k hk=>(by cases hk),by have:=DU.out;omega,Only.refl _ _⟩;obtain⟨k0,k1,k2⟩:=bJ.out W0 zr;rw[hW0]at k0 k1 k2;clear h1 h2 h3 hn1 hn2 hn3 hs;go_enter Tryz.func77,Tryz.ntmps77;go_wp2_with fail;rw[<-hW0]at k0 k1 k2⊢;clear hW0 k0 k1 k2 LX;go_loopw [17] (fun vi wr=> ∃(i:Nat) (v:Value),vi= .int .i64 i/\i<=n3/\Hid (Xn W0 bo v ((q.names.take i).filter x.pz) wr)) (fun v _=>n3-(RowKit.intOf v).toNat);case atStart=>exact⟨0,bK,rfl,qE _,ahO⟩
 case round=>
  clear ahO;obtain⟨i,v,rfl,hi,HV⟩:=hrel;have hO:=HV.out.2.2.2.2;obtain⟨k0,k1,k2⟩:=bJ.out wr hO;have HR1:=zh (gG.keep HH.out (Kp.fU (HOw.out wr hO)));by_cases ci:i<n3
  ·have h2:=R3.out;rw[<-N3.out]at h2;obtain⟨b,off,he,-,-⟩:=h2.at zAu;subst he;obtain⟨y,hx⟩:=zG q.roots i (by rw[N3.out];exact ci);obtain⟨cs,hl2,hr,hC⟩:=(h2.keep kX.keep (Kp.fU (HOw.out wr hO))).get hx;have jg:=zw (i+1);obtain⟨c1,rfl,hS,-⟩:=hC;obtain⟨p1,p2,d1,d2,rfl,-,-,-⟩:=hS.cells;have HR:=zh hr;have EZ:Hid (q.names.take (i+1)=q.names.take i++[y.spec.name]):=yY (fun r:zM=>r.spec.name) hx;have HLe:Hid (((q.names.take i).filter x.pz).length<=100000):=by have h1:=yO x.pz (q.names.take i);have h2:(q.names.take i).length<=i:=zAZ;show _<=_;omega
   have jr:Hid (∀o,Calls Tryz.prog 155 #[.string y.spec.name,.pointer (some ⟨w.heap.size,0,none⟩),.pointer (some ⟨bo,0,none⟩)] (wr.alloc o) fun e w'=>e= .returned (.tuple #[])/\∃v',Xn W0 bo v' ((q.names.take (i+1)).filter x.pz) w'):=fun o=>by have oo:=(Only.refl (fun _=>False) wr).alloc o;rw[EZ.out,<-Bc];exact(PW (gG.keep HR1.out (Kp.fU oo)) zA7 ⟨aK k0 oo (fun f=>f),aK k1 oo (fun f=>f)⟩ (HV.out.aF oo) HLe.out y.spec.name).mono fun e w' ⟨he,v',h,_⟩=>⟨he,v',h⟩
   clear hr hx h2 hl2 hS hO HV HR1;go_wp2_with (first| (refine wpList_load_mid rfl 110 (.tmp 19) rfl b (off+i*4) rfl _ _ HR.out Tryz.underlying110 rfl zk ?_)|fail);refine(jr.out _).mono ?_;rintro e w2 ⟨rfl,v',hv'⟩;have MH:=zh hv';clear hv' jr;go_wp2_with fail;go_roundw;case rel=>exact⟨i+1,v',by first|rfl|go_num,by omega,MH⟩
   case measure=>simp[RowKit.intOf]<;>omega
  obtain rfl:n3=i:=by omega
  have hnl:q.names.length=n3:=by unfold dG.names;rw[qM,N3.out]
  rw[qI (yG hnl)]at HV;have HCl:=zh (Dx HR1.out (lI.keep HQ.out (Kp.fU (HOw.out wr hO))) HS.out zAu);clear hO HR1 ci hi hnl;go_wp2_with fail;refine HCl.out.mono ?_;rintro e w1 ⟨vc,rfl,rc,bc,oc⟩;obtain⟨nc,hnc⟩:=ze ((x.closure q.names).length);rw[hnc]at rc;have HNc:=zh hnc;have anp:nc<=1000:=by rw[<-hnc];have:=x.nM q.names;have:=HS.out.packs;omega
  obtain⟨ac,cc,rfl,-,-⟩:=aH rc;have zo:=zh rc;have Nk:=zh (HV.out.aF oc);have HB1:Hid (∀k,v.ownBlock=some k->(Value.slice ac nc cc).ownBlock≠some k):=fun k hk h=>by have h1:=bc k h;have h2:=dn HV.out.2.1 hk;omega
  have HBc:Hid (∀k,(Value.slice ac nc cc).ownBlock=some k->k≠bo):=fun k hk e=>by have h1:=bc k hk;have h2:=(yA.1 HV.out.1).1;omega
  clear HCl rc bc oc hnc k0 k1 k2 HV;go_wp2_with fail;go_loopw [31] (fun vj wr=> ∃(j:Nat) (v:Value),vj= .int .i64 j/\j<=nc/\Hid (Xn W0 bo v ((q.names++((x.closure q.names).take j).flatMap fun p=>(x.pack p).deps.map fun d=>d.on.name).filter x.pz) wr)/\Hid (wr.ownsRow 0 3 1 (.slice ac nc cc) nc (iK (x.closure q.names)))/\Hid (∀k,v.ownBlock=some k->(Value.slice ac nc cc).ownBlock≠some k)) (fun v _=>nc-(RowKit.intOf v).toNat);case atStart=>exact⟨0,v,rfl,qE _,by simpa using Nk,zo,HB1⟩
  case round=>
   clear Nk zo HB1;obtain⟨j,v,rfl,hj,HV,HR,HB⟩:=hrel;have hO:=HV.out.2.2.2.2;obtain⟨k0,k1,k2⟩:=bJ.out wr hO;by_cases cj:j<nc
   ·obtain⟨kT,ajL,he,-,-⟩:=dB HR.out zBB;simp only[qU]at he;obtain⟨rfl,-,rfl⟩:=he;obtain⟨t,htt⟩:=zG (x.closure q.names) j (by rw[HNc.out];exact cj);have hcell:wr.cell? ⟨kT,j,none⟩=some (.int .i64 (t:Int)):=by rw[HR.out.cellAt j zBB];simp[iK,htt]
    have TT:=zw (j+1);have htn:t<n1:=by have:=(aC.iJ.1 (qT htt)).lt;rw[N1.out]at this;exact this
    have ajM:n1<=30:=by rw[<-N1.out];exact HS.out.packs
    have hpx:x.packs[t]? =some (x.pack t):=by unfold aC.pack;rw[qC,qA (by rw[N1.out];exact htn)];rfl
    have hsn:((x.closure q.names).take (j+1)).flatMap (fun p=>(x.pack p).deps.map fun d=>d.on.name)=(((x.closure q.names).take j).flatMap fun p=>(x.pack p).deps.map fun d=>d.on.name)++(x.pack t).deps.map fun d=>d.on.name:=by rw[List.take_add_one,htt];simp
    have h2:=R1.out;rw[<-N1.out]at h2;obtain⟨b,off,he,-,-⟩:=h2.at (by have:=N1.out;omega);subst he;obtain⟨csp,-,Ij,Je⟩:=h2.get hpx;obtain⟨p,hp⟩:=ze (x.pack t);have NV:p∈x.packs:=by rw[<-hp];exact qT hpx
    rw[hp]at Je hsn;obtain⟨q1,q2,q3,q4,q5,q6,z1,z2,z3,z4,z5,z6,rfl,-,-,-,-,-,b4,-,-⟩:=Je.cells;have hcd:=xH Ij (HOw.out wr hO) 5 _ rfl;have hdl:=(HS.out.all p NV).deps;obtain⟨nd,hnd⟩:=ze p.deps.length;rw[hnd]at hcd b4 hdl;have zD:=zh hnd;obtain⟨_,_,e4,g4,g4'⟩:=b4.shape;simp only[qU]at e4;obtain⟨-,-,rfl⟩:=e4;rw[hnd]at g4;have HD:Hid (∀W,Only (fun k=>k=bo) W0 W->aJ 7 l7 B W (.slice q4 nd z4) p.deps):=fun W hW=>b4.keep l7.keep (Kp.fU (HOw.out W hW));obtain⟨A,hA⟩:∃A,q.names++(((x.closure q.names).take j).flatMap fun p=>(x.pack p).deps.map fun d=>d.on.name)=A:=⟨_,rfl⟩;have EZ:Hid (q.names++((x.closure q.names).take (j+1)).flatMap (fun p=>(x.pack p).deps.map fun d=>d.on.name)=A++p.deps.map fun d=>d.on.name):=by rw[Hid,hsn,<-hA,yW]
    have hAl:A.length<=10000:=by
     rw[<-hA,qK];have h1:q.names.length<=1000:=by unfold dG.names;rw[qM,N3.out];exact hl
     have h3:=Dh (M:=40) (f:=fun p=>(x.pack p).deps.map fun d=>d.on.name) (l:=(x.closure q.names).take j) (fun y hy=>by
      rw[qM]
      have hy2:=(aC.iJ.1 (List.mem_of_mem_take hy)).lt
      exact(HS.out.all _ (aC.gX hy2)).deps)
     have h4:((x.closure q.names).take j).length<=30:=by have h5:=x.nM q.names;have h6:=HS.out.packs;rw[List.length_take];omega
     have h5:40*((x.closure q.names).take j).length<=40*30:=Nat.mul_le_mul_left _ h4;omega
    have HV0:Hid (Xn W0 bo v ((A++(p.deps.map fun d=>d.on.name).take 0).filter x.pz) wr):=by rw[List.take_zero,List.append_nil,<-hA];exact HV
    clear htt hpx hsn hp Je Ij b4 NV h2 HV hO hnd hA;go_wp2_with fail;generalize wr=wm at*;go_loopw [42] (fun vl wr=> ∃(l:Nat) (v:Value),vl= .int .i64 l/\l<=nd/\Hid (Xn W0 bo v ((A++(p.deps.map fun d=>d.on.name).take l).filter x.pz) wr)/\Hid (wr.ownsRow 0 3 1 (.slice (some ⟨kT,0,none⟩) nc cc) nc (iK (x.closure q.names)))/\Hid (∀k,v.ownBlock=some k->(Value.slice (some ⟨kT,0,none⟩) nc cc).ownBlock≠some k)) (fun v _=>nd-(RowKit.intOf v).toNat);case atStart=>exact⟨0,v,rfl,qE _,HV0,HR,HB⟩
    case round=>
     clear HV0 HR HB k0 k1 k2 hcell hcd;obtain⟨l,v,rfl,hl2,HV,HR,HB⟩:=hrel;have hO:=HV.out.2.2.2.2;obtain⟨k0,k1,k2⟩:=bJ.out wr hO;by_cases cl:l<nd
     ·have hd2:=HD.out wr hO;rw[<-zD.out]at hd2;obtain⟨b',off',he',-,-⟩:=hd2.at (by have:=zD.out;omega);subst he';obtain⟨d,hdd⟩:=zG p.deps l (by rw[zD.out];exact cl);obtain⟨cs7,-,Vs,hC7⟩:=hd2.get hdd;obtain⟨c1,c2,rfl,hS1,hS2,-⟩:=hC7;obtain⟨p1,p2,d1,d2,rfl,-,-,-⟩:=hS1.cells;obtain⟨p3,p4,d3,d4,rfl,-,-,-⟩:=hS2.cells;have NW:=zh (show wr.rangeAt b' (off'+l*7) [.string d.on.name,.slice p1 d.on.spans.length d1,.slice p2 d.on.sets.length d2,.string d.cond.name,.slice p3 d.cond.spans.length d3,.slice p4 d.cond.sets.length d4,.int .i64 d.line] from Vs);have ewl:=zw (l+1);have ahP:(p.deps.map fun d=>d.on.name).take (l+1)=(p.deps.map fun d=>d.on.name).take l++[d.on.name]:=yY (fun d:oO=>d.on.name) hdd;have hle:((A++(p.deps.map fun d=>d.on.name).take l).filter x.pz).length<=100000:=by have h1:=yO x.pz (A++(p.deps.map fun d=>d.on.name).take l);have h2:((p.deps.map fun d=>d.on.name).take l).length<=l:=zAZ;rw[qK]at h1;omega
      have HRx:=zh (gG.keep HH.out (Kp.fU (HOw.out wr hO)));have jr:Hid (∀o,Calls Tryz.prog 155 #[.string d.on.name,.pointer (some ⟨w.heap.size,0,none⟩),.pointer (some ⟨bo,0,none⟩)] (wr.alloc o) fun e w'=>e= .returned (.tuple #[])/\∃v',Xn W0 bo v' ((A++(p.deps.map fun d=>d.on.name).take (l+1)).filter x.pz) w'/\w'.ownsRow 0 3 1 (.slice (some ⟨kT,0,none⟩) nc cc) nc (iK (x.closure q.names))/\∀k,v'.ownBlock=some k->(Value.slice (some ⟨kT,0,none⟩) nc cc).ownBlock≠some k):=fun o=>by
       have oo:=(Only.refl (fun _=>False) wr).alloc o;rw[ahP,<-yW,<-Bc];refine(PW (gG.keep HRx.out (Kp.fU oo)) zA7 ⟨aK k0 oo (fun f=>f),aK k1 oo (fun f=>f)⟩ (HV.out.aF oo) hle d.on.name).mono fun e w' ⟨he,v',h,o2,h3⟩=>⟨he,v',h,aB (aB HR.out oo (fun _ _ f=>f)) o2 (fun k hk e=>?_),fun k hk e=>?_⟩
       ·rcases e with e|e;·exact HBc.out k hk e
        exact HB.out k e hk
       rcases h3 k hk with h4|h4;·exact HB.out k h4 e
       have h5:=dn HR.out e;have h6:=oo.size;omega
      clear hd2 hdd Vs hS1 hS2 ahP hle HRx HV HR HB hO;go_wp2_with (first| (refine wpList_load_mid rfl 132 (.tmp 44) rfl b' (off'+l*7) rfl _ _ NW.out Tryz.underlying132 rfl zk ?_)|fail);refine(jr.out _).mono ?_;rintro e w3 ⟨rfl,v',hv',hr',hb'⟩;have HV3:=zh hv';have HR3:=zh hr';have HB3:=zh hb';clear hv' hr' hb' jr;go_wp2_with fail;go_roundw;case rel=>exact⟨l+1,v',by first|rfl|go_num,by omega,HV3,HR3,HB3⟩
      case measure=>simp[RowKit.intOf]<;>omega
     obtain rfl:nd=l:=by omega
     have HV3:=HV;rw[qI (by rw[qM,zD.out];exact qH _),<-EZ.out]at HV3;clear HV hO;go_wp2_with fail;go_roundw;case rel=>exact⟨j+1,v,by first|rfl|go_num,by omega,HV3,HR,HB⟩
     case measure=>simp[RowKit.intOf]<;>omega
   obtain rfl:nc=j:=by omega
   rw[qI (yG HNc.out)]at HV;obtain⟨l,hl0⟩:∃l,(q.names++(x.closure q.names).flatMap fun p=>(x.pack p).deps.map fun d=>d.on.name).filter x.pz=l:=⟨_,rfl⟩;rw[hl0]at HV;have HL:Hid (x.sees q=l):=hl0;obtain⟨hv,hr,hb,LX,ho⟩:=HV.out;obtain⟨av,cv,rfl,-,-⟩:=aH hr;obtain⟨nl,hnl⟩:=ze l.length;rw[hnl]at hr hv hb;have hc0:wr.cell? ⟨bo,0,none⟩=some (.slice av nl cv):=by rw[aj hv];rfl
   have ad4:nl<=1000000:=by
    rw[<-hnl,<-hl0];refine qR (yO _ _) ?_;rw[qK];have h1:q.names.length<=1000:=by unfold dG.names;rw[qM,N3.out];exact hl
    have h3:=Dh (M:=40) (f:=fun p=>(x.pack p).deps.map fun d=>d.on.name) (l:=x.closure q.names) (fun y hy=>by
     rw[qM]
     exact(HS.out.all _ (aC.gX (aC.iJ.1 hy).lt)).deps)
    rw[HNc.out]at h3;omega
   have MN:=zh (LK hnl hr ad4);have HB2:=zh hb;have HOo:=zh ho;have hvb:(Value.slice av nl cv).ownBlock≠some bo:=fun e=>by have:=hb bo e;omega
   have HVB:=zh hvb;have HV5:=zh hv;have oD:=zh hnl;clear hv hr hb LX ho hl0 hnl HV hvb hO;go_wp2_with fail;refine MN.out.mono ?_;rintro e w5 ⟨rfl,r5,o5⟩;have hv5:=ak HV5.out o5 HVB.out;have hc5:w5.cell? ⟨bo,0,none⟩=some (.slice av nl cv):=by rw[aj hv5];rfl
   have HCp:=zh (Gy (l:=oh l) (by rw[wL];exact oD.out) r5);have Aq:=zh o5;clear r5 o5 hv5 MN hc0 k0 k1 k2;go_wp2_with fail;refine HCp.out.mono ?_;rintro e w6 ⟨v6,rfl,r6,b6,o6⟩;have HF6:=zh (And.intro r6 (And.intro b6 o6));clear r6 b6 o6 HCp hc5;go_wp2_with fail;go_ret;obtain⟨r6,b6,o6⟩:=HF6.out;unfold aC.names;rw[HL.out];have o56:Only (fun k=>(Value.slice av nl cv).ownBlock=some k) wr w6:=Aq.out.same o6;refine⟨_,rfl,r6,fun k hk=>?_,?_⟩;·have hk2:v6.ownBlock=some k:=hk;rw[b6]at hk2;have h1:=HB2.out k hk2;have h2:=DU.out;omega
   exact(HOw.out wr HOo.out).trans o56 fun k hk=>.inr (by
    have h1:=HB2.out k hk
    have h2:=DU.out
    omega)
end
end Go.Proofs.YtdmmebjjojimiaaGreatDoor
