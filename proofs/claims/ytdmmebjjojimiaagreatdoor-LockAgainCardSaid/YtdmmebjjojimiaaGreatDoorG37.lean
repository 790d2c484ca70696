/- Package graph, exact: shape. Printed by gen_gwh.py. -/
import Derived.Test.YtdmmebjjojimiaaGreatDoorG36
set_option maxRecDepth 100000
set_option maxHeartbeats 8000000
set_option linter.all false
namespace Go.Proofs
theorem zAS{p:Prop}(h:p:=by(intro w hSw;(try dsimp only at hSw);obtain⟨p0,p1,p2,p3⟩:=oZ.out w (Nc.out.same (Bj.out.same hSw));have pc:=aF.out w (FM.out.same (Bj.out.same hSw));have fJ:=(jq.out w (Bj.out.same hSw)).1;have Bv:=fJ 0 _ rfl;rw[qF]at Bv;clear fJ;go_simp<;>(try with_reducible rfl))):p:=h
theorem zAv{p:Prop}(h:p:=by(intro w hSw;obtain⟨p0,p1,p2,p3⟩:=oZ.out w (Nc.out.same (jD.out.same hSw));have pc:=aF.out w (FM.out.same (jD.out.same hSw));have c4:=jY X6.out hSw;go_simp<;>(try with_reducible rfl))):p:=h
theorem zAw{p:Prop}(h:p:=by(intro w hSw;obtain⟨p0,p1,p2,p3⟩:=oZ.out w (Nc.out.same (iP.out.same hSw));have pc:=aF.out w (FM.out.same (iP.out.same hSw));have s0:=EU.out w hSw;go_simp<;>(try with_reducible rfl))):p:=h
theorem zBA{p:Prop}(h:p:=by rw[<-hW3];exact qL w2 _):p:=h
theorem zCV{p:Prop}(h:p:=by rw[H9.out,h10];rfl):p:=h
theorem zDM{p:Prop}(h:p:=by
 clear hK K
 try simp only[Act.put,fA,fD,fB,dW,dX,dY]
 refine dN (rs:=[7]) zk zAP ?_
 refine bI.late (i:=7) rfl zk (fun K hK=>?_) ?_
 ·(rw[if_pos zk];first| ((have hb8:w7.heap[bD.heap.size]? =some (.cells #[.map none] 211 (0,0)):=aA (qL bD.drew (.cells #[.map none] 211)) O7 (fun f=>f));(have hc8:w7.cell? ⟨bD.heap.size,0,none⟩=some (.map none):=by rw[aj hb8];rfl);(have hf8:w7.frozen? ⟨bD.heap.size,0,none⟩=false:=by simp[World.frozen?,hb8]);go_simp)|go_simp)
  refine hK.out _ _ ?_
  clear hK K
  try simp only[Act.put,fA,fD,fB,dW,dX,dY]
  refine bV zk ?_ _
  have afu:br<bD.heap.size:=(yA.1 HVe.out.blk).1
  first
   | (obtain⟨W8,hW8,DT,HM8,ZC⟩:=aaM (bi:=bD.heap.size) (show w7.heap[bD.heap.size]? =some (.cells #[.map none] 211 (0,0)) from aA (qL bD.drew (.cells #[.map none] 211)) O7 (fun f=>f)) hHeld (qH _) hM X6.out afu;rw[<-hW8];generalize bD.heap.size=bi at ZC hW8⊢)
   | (obtain⟨W8,hW8,DT,HM8,ZC⟩:=XI 211 (((Only.refl (fun _=>False) bD).drew).same O7) hM X6.out;rw[<-hW8];generalize w7.heap.size=bi at ZC hW8⊢)
  clear hW8 hM O7 hHeld afu
  try clear hb8 hc8 hf8
  have U9:Hid (O0 W3 W8):=jD.out.same DT.out
  have HI8:Hid (Ints W8 v (intsOf (mJ x q g))):=HI.out.dK DT.out
  clear HI HVe HBe X6
  cases r10 with
  |none=>
   have h10:=H10.out
   have HF2:Hid (Calls Tryz.prog 109 #[.pointer (some ⟨bp,0,none⟩),.int .u8 10,.func (.func 208) #[] #[.pointer (some ⟨bi,0,none⟩),.pointer (some ⟨br,0,none⟩)]] W8 fun e w'=>e= .returned (.agg #[.int .u8 0,.string ByteArray.empty])/\O0 W8 w'):=by
    have h:=oM (Jp.out.only (Nc.out.same U9.out)) 10 yV (Jr HM8.out HI8.out ZC.out HGl.out)
    rw[h10]at h
    exact h
   obtain⟨p0,p1,p2,p3⟩:=oZ.out W8 (Nc.out.same U9.out)
   have pc:=aF.out W8 (FM.out.same U9.out)
   go_wp2_with fail
   clear p0 p1 p2 p3 pc
   refine HF2.out.mono ?_
   rintro e w9 ⟨rfl,O9⟩
   have jZ:Hid (O0 W1 w9):=CB.out.same (U9.out.same O9)
   clear O9 HF2 HM8 HI8 ZC
   obtain⟨rfl,rfl⟩:0=rc/\ByteArray.empty=rs:=by
    have h:dB [(9,aX g fun i _=>vZ g i),(10,aX g fun i _=>pG x q g i)]=(0,ByteArray.empty):=zCV
    have h2:=h.symm.trans aZ.out
    exact⟨congrArg Prod.fst h2,congrArg Prod.snd h2⟩
   go_wp2_with (refine wpList_store_row rfl 38 (.tmp 2) (.tmp 71) rfl W0.heap.size #[.int .u8 0,.string ByteArray.empty] rfl rfl 38 #[.int .u8 0,.string ⟨#[]⟩] (iM.out w9 jZ.out) zk rfl zk ?_)
   refine cO (p:=2) rfl rfl rfl (run_loadVar_row _ _ _ _ _ (0,0) _ (setRow_heap _ _ _ _ _ _ (iM.out w9 jZ.out)) Tryz.underlying38 rfl zk) ?_
   exact⟨rfl,(aV.out.same (aI.out.same jZ.out)).trans (aK _ _ _) fun k hk=>.inr zAO⟩
  |some s=>
   have h10:=H10.out
   have HF2:Hid (Calls Tryz.prog 109 #[.pointer (some ⟨bp,0,none⟩),.int .u8 10,.func (.func 208) #[] #[.pointer (some ⟨bi,0,none⟩),.pointer (some ⟨br,0,none⟩)]] W8 fun e w'=>e= .returned (.agg #[.int .u8 10,.string s])/\O0 W8 w'):=by
    have h:=oM (Jp.out.only (Nc.out.same U9.out)) 10 yV (Jr HM8.out HI8.out ZC.out HGl.out)
    rw[h10]at h
    exact h
   obtain⟨p0,p1,p2,p3⟩:=oZ.out W8 (Nc.out.same U9.out)
   have pc:=aF.out W8 (FM.out.same U9.out)
   go_wp2_with fail
   clear p0 p1 p2 p3 pc
   refine HF2.out.mono ?_
   rintro e w9 ⟨rfl,O9⟩
   have jZ:Hid (O0 W1 w9):=CB.out.same (U9.out.same O9)
   clear O9 HF2 HM8 HI8 ZC
   obtain⟨rfl,rfl⟩:10=rc/\s=rs:=by
    have h:dB [(9,aX g fun i _=>vZ g i),(10,aX g fun i _=>pG x q g i)]=(10,s):=zCV
    have h2:=h.symm.trans aZ.out
    exact⟨congrArg Prod.fst h2,congrArg Prod.snd h2⟩
   go_wp2_with (refine wpList_store_row rfl 38 (.tmp 2) (.tmp 71) rfl W0.heap.size #[.int .u8 10,.string s] rfl rfl 38 #[.int .u8 0,.string ⟨#[]⟩] (iM.out w9 jZ.out) zk rfl zk ?_)
   refine cO (p:=2) rfl rfl rfl (run_loadVar_row _ _ _ _ _ (0,0) _ (setRow_heap _ _ _ _ _ _ (iM.out w9 jZ.out)) Tryz.underlying38 rfl zk) ?_
   exact⟨rfl,(aV.out.same (aI.out.same jZ.out)).trans (aK _ _ _) fun k hk=>.inr zAO⟩
 exact bI.nil):p:=h
theorem zFf{p:Prop}(h:p:=by
 have o:=aV.out.same aI.out
 have h:=oM (Jp.out.only o) 9 Jq (XH (bc:=w.heap.size) (Jp.out.only o) (fun V hV=>aF.out V (aI.out.same hV)) HFw.out)
 rw[h9]at h
 exact h):p:=h
end Go.Proofs
namespace Go.Proofs.YtdmmebjjojimiaaGreatDoor
open Go.RowKit
section
variable {w w':World} {B:Nat}
attribute [local irreducible] wpQuiet
structure ZB (br:Nat) (w:World) (v:Value) (L:List Nat):Prop where
 blk:w.heap[br]? =some (.cells #[v] 78 (0,0))
 row:w.ownsRow 0 3 1 v L.length (eP L)
 new:∀k,v.ownBlock=some k->br<k
theorem ZB.only{br:Nat}{v:Value}{L:List Nat}(h:ZB br w v L)(o:O0 w w'):ZB br w' v L:=⟨aA h.blk o (fun f=>f),aW h.row o (fun _ _ f=>f),h.new⟩
theorem ZB.push{br:Nat}{v v5:Value}{L:List Nat}{c:Array Value}{k:Nat}{t:TypeId}{w5:World}(h:ZB br w v L)(r:w5.ownsRow 0 3 1 v5 (L.length+1) (eP L++[.int .i64 (k:Int)]))(o:Only (fun k=>v.ownBlock=some k) (w.alloc (.cells c t)) w5)(a:Rk (w.alloc (.cells c t)) v v5 (L.length+1)):w5.heap[br]? =some (.cells #[v] 78 (0,0))/\ZB br (w5.setCell ⟨br,0,none⟩ v5) v5 (L++[k])/\Only (fun k=>k=br\/v.ownBlock=some k) w (w5.setCell ⟨br,0,none⟩ v5)/\(∀k,v5.ownBlock=some k->v.ownBlock=some k\/w.heap.size<k):=by
 have hbl:br<w.heap.size:=(yA.1 h.blk).1;have agP:v.ownBlock≠some br:=fun e=>by have:=h.new br e;omega
 have hb2:w5.heap[br]? =some (.cells #[v] 78 (0,0)):=by rw[o.block br zBL agP];exact dF h.blk _
 obtain⟨g,cap,rfl,h1,h2,h3⟩:=a;have hg:g≠br/\br<g:=by
  rcases h3 with h3|h3;·have:=h.new g h3;omega
  simp at h3;omega
 refine⟨hb2,⟨heap_setCell_box_a _ hb2,?_,fun q hq=>?_⟩,?_,fun q hq=>?_⟩;·rw[qK,List.length_singleton,Pz];exact aW r ((Only.refl (fun k=>k=br) w5).setCell (p:=⟨br,0,none⟩) (.inl rfl) _) (fun k hk e=>by cases hk;exact hg.1 e)
 ·simp only[Value.ownBlock,qG]at hq;rw[<-hq];exact hg.2
 ·refine Only.setCell (p:=⟨br,0,none⟩) ?_ (.inl (.inl rfl)) _;exact((Only.refl (fun k=>k=br\/v.ownBlock=some k) w).alloc _).same (o.mono fun q hq=>.inr hq)
 simp only[Value.ownBlock,qG]at hq;rw[<-hq];rcases h3 with h3|h3;·exact .inl h3
 right;simp at h3;omega
theorem aaM{wr w8:World}{bi bm br:Nat}{g:List aC}{fr:List Nat}{ks:List Int}{f:Int->Int}{v:Value}{t:TypeId}(hb:w8.heap[bi]? =some (.cells #[.map none] t (0,0)))(o:O0 wr w8)(hbi:wr.heap.size<=bi)(hM:Ee w8 bm g fr ks f)(hv:wr.cell? ⟨br,0,none⟩=some v)(hbr:br<wr.heap.size):∃W8,W8=w8.setCell ⟨bi,0,none⟩ (.map (some bm))/\Hid (O0 wr W8)/\Hid (Ee W8 bm g fr ks f)/\Hid (W8.cell? ⟨bi,0,none⟩=some (.map (some bm))/\W8.cell? ⟨br,0,none⟩=some v):=by
 have o1:Only (fun k=>k=bi) w8 (w8.setCell ⟨bi,0,none⟩ (.map (some bm))):=(Only.refl (fun k=>k=bi) w8).setCell (p:=⟨bi,0,none⟩) (.inl rfl) _;have o2:O0 wr (w8.setCell ⟨bi,0,none⟩ (.map (some bm))):=o.trans o1 fun k hk=>.inr (by rw[hk];exact hbi);have hne:¬bm=bi:=fun e=>by obtain⟨D,⟨es,clock,hbm,-,-,-⟩,-⟩:=hM.map.own;rw[e,hb]at hbm;cases hbm
 have hb2:(w8.setCell ⟨bi,0,none⟩ (.map (some bm))).heap[bi]? =some (.cells #[.map (some bm)] t (0,0)):=heap_setCell_box_a _ hb;exact⟨_,rfl,o2,⟨hM.map.only o1 hne,hM.way,hM.pos⟩,by rw[aj hb2];rfl,jY hv o2⟩
theorem XI{wr w7:World}{bm br:Nat}{g:List aC}{fr:List Nat}{ks:List Int}{f:Int->Int}{v:Value}(t:TypeId)(o:O0 wr w7)(hM:Ee w7 bm g fr ks f)(hv:wr.cell? ⟨br,0,none⟩=some v):
  ∃W8,W8=w7.alloc (.cells #[.map (some bm)] t)/\Hid (O0 wr W8)/\Hid (Ee W8 bm g fr ks f)/\Hid (W8.cell? ⟨w7.heap.size,0,none⟩=some (.map (some bm))/\W8.cell? ⟨br,0,none⟩=some v):=
 ⟨_,rfl,o.alloc _,hM.dK (zr.alloc _),by rw[aj (qL w7 _)];rfl,jY hv (o.alloc _)⟩
def Yd(x:aQ)(g:List aC)(ps:List Nat):List Nat:=((ps.map fun p=>jG g (x.pack p).name).filter fun i=>decide (0<=i)).map Int.toNat
def PD(x:aQ)(g:List aC)(l:List tN):List Nat:=l.flatMap fun r=>Yd x g (x.targets r.spec.name)
theorem afr(x:aQ)(q:dD)(g:List aC):mJ x q g=PD x g q.roots:=rfl
theorem acC{x:aQ}{g:List aC}{l:List tN}{i:Nat}{s:tN}(h:l[i]? =some s):PD x g (l.take (i+1))=PD x g (l.take i)++Yd x g (x.targets s.spec.name):=by unfold PD;rw[List.take_add_one,h,List.flatMap_append];simp
theorem afs{x:aQ}{g:List aC}{ps:List Nat}{j p:Nat}(h:ps[j]? =some p){f:Int}(hf:jG g (x.pack p).name=f):Yd x g (ps.take (j+1))=Yd x g (ps.take j)++(if 0<=f then [f.toNat]else []):=by
 unfold Yd;rw[List.take_add_one,h,List.map_append,List.filter_append,List.map_append];congr 1;by_cases h0:0<=f;·rw[if_pos h0];simp[hf,h0]
 rw[if_neg h0];simp[hf];omega
theorem aaN(x:aQ)(g:List aC)(ps:List Nat):(Yd x g ps).length<=ps.length:=by unfold Yd;rw[qM];refine qR (yO _ _) ?_;rw[qM];exact qH _
theorem PE(x:aQ)(g:List aC):∀l:List tN,(PD x g l).length<=l.length*(x.packs.length+1)
 | []=>by simp[PD]
 |a::r=>by
  have h1:=PE x g r
  have h2:=qR (aaN x g (x.targets a.spec.name)) (nX x a.spec.name)
  unfold PD at h1⊢
  rw[List.flatMap_cons,qK,qN,Nat.add_mul]
  omega
theorem aft{bp:Nat}{x:aQ}{q:dD}{g:List aC}(hc:lH B w bp x q g)(hw:afq g)(hql:q.roots.length<=990)(hpl:x.packs.length<=1000):Calls Tryz.prog 123 #[.pointer (some ⟨bp,0,none⟩)] w fun e w'=>iY (dB [(9,aX g fun i _=>vZ g i),(10,aX g fun i _=>pG x q g i)]) w w' e:=by
 have Jp:=zh hc;have HFw:=zh hw;obtain⟨a1,n1,c1,a2,n2,c2,a3,n3,c3,a4,n4,c4,N1,N3,N4,-,-,-,oZ,HK0,-,HG0,HX0,HQ0,-⟩:=hc.open;rw[N3.out]at hql;rw[N1.out]at hpl;obtain⟨W0,hW0,aV,jK,aF⟩:=agW w (.pointer (some ⟨bp,0,none⟩)) 180;clear hc hw;obtain⟨rc,rs,hr⟩:∃c s,dB [(9,aX g fun i _=>vZ g i),(10,aX g fun i _=>pG x q g i)]=(c,s):=⟨_,_,rfl⟩;have aZ:=zh hr;rw[hr];unfold iY;dsimp only;obtain⟨W1,hW1⟩:=ze (W0.alloc (.cells #[.int .u8 0,.string ⟨#[]⟩] 38));have aI:Hid (O0 W0 W1):=zAc;have iM:Hid (∀W,O0 W1 W->W.heap[W0.heap.size]? =some (.cells #[.int .u8 0,.string ⟨#[]⟩] 38 (0,0))):=fun W ho=>by exact zDt
 clear hr;have hW0':=hW0.symm;clear hW0;obtain⟨r9,h9⟩:∃r,(aX g fun i _=>vZ g i)=r:=⟨_,rfl⟩;cases r9 with
 |some s=>
  have HF1:Hid (Calls Tryz.prog 109 #[.pointer (some ⟨bp,0,none⟩),.int .u8 9,.func (.func 205) #[] #[.pointer (some ⟨w.heap.size,0,none⟩)]] W1 fun e w'=>e= .returned (.agg #[.int .u8 9,.string s])/\O0 W1 w'):=by exact zFf
  have H9:=zh h9;have pc:=aF.out W1 aI.out;clear h9;go_enter Tryz.func123,Tryz.ntmps123;go_wp2_with fail;clear hW1 hW0' pc;refine HF1.out.mono ?_;rintro e w2 ⟨rfl,O2⟩;obtain⟨W3,hW3⟩:=ze (w2.alloc (.cells #[.int .u8 9,.string s] 38));have HB3:Hid (W3.heap[w2.heap.size]? =some (.cells #[.int .u8 9,.string s] 38 (0,0))):=zBA;have CB:Hid (O0 W1 W3):=by rw[<-hW3];exact O2.alloc _
  have n0:W3.cell? ⟨w2.heap.size,0,none⟩=some (.int .u8 9):=zAq;have n1:W3.cell? ⟨w2.heap.size,1,none⟩=some (.string s):=zAq;clear O2 HB3 HF1;obtain⟨rfl,rfl⟩:9=rc/\s=rs:=by
   have h:dB [(9,aX g fun i _=>vZ g i),(10,aX g fun i _=>pG x q g i)]=(9,s):=by rw[H9.out];rfl
   exact zDS
  go_wp2_with (refine wpList_store_row rfl 38 (.tmp 2) (.tmp 17) rfl W0.heap.size #[.int .u8 9,.string s] rfl rfl 38 #[.int .u8 0,.string ⟨#[]⟩] (iM.out W3 CB.out) zk rfl zk ?_);refine cO (p:=2) rfl rfl rfl (run_loadVar_row _ _ _ _ _ (0,0) _ (setRow_heap _ _ _ _ _ _ (iM.out W3 CB.out)) Tryz.underlying38 rfl zk) ?_;exact⟨rfl,(aV.out.same (aI.out.same CB.out)).trans (aK _ _ _) fun k hk=>.inr zAO⟩
 |none=>
  have HF1:Hid (Calls Tryz.prog 109 #[.pointer (some ⟨bp,0,none⟩),.int .u8 9,.func (.func 205) #[] #[.pointer (some ⟨w.heap.size,0,none⟩)]] W1 fun e w'=>e= .returned (.agg #[.int .u8 0,.string ByteArray.empty])/\O0 W1 w'):=by exact zFf
  have H9:=zh h9;have pc:=aF.out W1 aI.out;clear h9;go_enter Tryz.func123,Tryz.ntmps123;go_wp2_with fail;clear hW1 hW0' pc;refine HF1.out.mono ?_;rintro e w2 ⟨rfl,O2⟩;obtain⟨W3,hW3⟩:=ze (w2.alloc (.cells #[.int .u8 0,.string ByteArray.empty] 38));have HB3:Hid (W3.heap[w2.heap.size]? =some (.cells #[.int .u8 0,.string ByteArray.empty] 38 (0,0))):=zBA;have CB:Hid (O0 W1 W3):=by rw[<-hW3];exact O2.alloc _
  have n0:W3.cell? ⟨w2.heap.size,0,none⟩=some (.int .u8 0):=zAq;have z1:W3.cell? ⟨w2.heap.size,1,none⟩=some (.string ByteArray.empty):=zAq;clear O2 HB3 HF1;have FM:Hid (O0 W0 W3):=aI.out.same CB.out;have Nc:Hid (O0 w W3):=aV.out.same FM.out;obtain⟨br,hbr⟩:=ze W3.heap.size;have OC:Hid (W3.heap.size<=br):=by rw[hbr];exact qH _
  obtain⟨W5,hW5⟩:=ze (W3.alloc (.cells #[.slice none 0 0] 78));have xI:Hid (O0 W3 W5):=by rw[<-hW5];exact zr.alloc _
  have HRt:Hid (ZB br W5 (.slice none 0 0) (PD x g (q.roots.take 0))):=by refine⟨by rw[<-hW5,<-hbr];exact qL W3 _,World.ownsRow_nil _ _ _ _,fun k hk=>by cases hk⟩
  have eX:Hid (∀W,O0 W3 W->fO B W [.slice a1 n1 c1,.slice a2 n2 c2] x):=fun W hW=>HK0.out W (Nc.out.same hW);have ahk:Hid (∀W,O0 W3 W->rU B W [.slice a4 n4 c4] g):=fun W hW=>HG0.out W (Nc.out.same hW);have ajO:Hid (∀W,O0 W3 W->aS 8 gY B W (.slice a1 n1 c1) x.packs):=fun W hW=>HX0.out W (Nc.out.same hW);have acr:Hid (∀W,O0 W3 W->aS 4 mM B W (.slice a3 n3 c3) q.roots):=fun W hW=>HQ0.out W (Nc.out.same hW);clear HK0 HG0 HX0 HQ0;obtain⟨p0,p1,p2,p3⟩:=oZ.out W5 (Nc.out.same xI.out);have pc:=aF.out W5 (FM.out.same xI.out);go_wp2_with fail;clear hW3 hW5 n0 z1;clear p0 p1 p2 p3 pc;try rw[hbr]
  clear hbr;go_loopw [24] (fun vi bD=>Hid (O0 W3 bD)/\∃(i:Nat) (v:Value),vi= .int .i64 i/\i<=n3/\Hid (ZB br bD v (PD x g (q.roots.take i)))) (fun v _=>n3-(RowKit.intOf v).toNat);case atStart=>exact⟨xI,0,_,rfl,qE _,HRt⟩
  case round=>
   obtain⟨bD,rfl⟩:=zB wr;clear xI HRt;obtain⟨jD,i,v,rfl,hi,HV⟩:=hrel;by_cases ci:i<n3
   ·have iE:=zw (i+1);obtain⟨yr,hxr⟩:=zG q.roots i (by rw[N3.out];omega);obtain⟨bkr,Ou,Ew,Ey,Ez,EC,ED,EF,her,Fe,Fg,Ov,Y8,zM⟩:=pU (acr.out W3 zr) hxr;first|subst her| (simp only[qG,qO,and_true]at her;obtain⟨rfl,rfl⟩:=her)
    have GL:=zh zM;have QJ:=zh hxr;clear zM hxr Fe Fg;obtain⟨L0,hL0⟩:=ze (PD x g (q.roots.take i));have HL0:Hid (L0.length<=1000000):=by rw[<-hL0];refine qR (PE x g _) ?_;have h1:(q.roots.take i).length<=990:=zCG;exact zFI
    have ajP:=zh hL0;rw[hL0]at HV;clear hL0;obtain⟨nT,hnT⟩:=ze ((x.targets yr.spec.name).length);have HTn:=zh hnT;have aph:nT<=2000:=by have h:=nX x yr.spec.name;rw[hnT,N1.out]at h;omega
    obtain⟨tJ,vV⟩:=ze (bD.alloc (.cells #[.string yr.spec.name,.slice Ew Ey Ez,.slice EC ED EF,.int .i64 yr.line] 110));have Am:Hid (tJ.heap[bD.heap.size]? =some (.cells #[.string yr.spec.name,.slice Ew Ey Ez,.slice EC ED EF,.int .i64 yr.line] 110 (0,0))):=zCJ;have qp:Hid (O0 bD tJ):=zCE;have iP:Hid (O0 W3 tJ):=jD.out.same qp.out;have EU:Hid (∀W,O0 tJ W->W.cell? ⟨bD.heap.size,0,none⟩=some (.string yr.spec.name)):=fun W hW=>by rw[aj (aA Am.out hW (fun f=>f))];rfl
    have Rq:Hid (∀W,O0 tJ W->Calls Tryz.prog 148 #[.agg #[.slice a1 n1 c1,.slice a2 n2 c2],.string yr.spec.name] W fun e w'=> ∃v,e= .returned v/\w'.ownsRow 0 3 1 v nT (eP (x.targets yr.spec.name))/\(∀k,v.ownBlock=some k->W.heap.size<=k)/\O0 W w'):=fun W hW=>by have h:=EI (eX.out W (iP.out.same hW)) zBh yr.spec.name;rw[hnT]at h;exact h
    have hr1:=zh (GL.out bD jD.out).1;clear hnT Am;go_wp2_with (refine wpList_load_mid rfl 110 (.tmp 26) rfl bkr (Ou+i*4) rfl _ _ hr1.out Tryz.underlying110 rfl zk ?_);clear vV hr1;refine dn (n:=10) (E:=fun _=>false) (S:=fun W=>O0 tJ W) zk rfl (by exact(Only.refl (fun _=>False) tJ).drew) (fun hHeld=>?_);refine tK 0 ?_ (hy:=zAw);refine tW 1 ?_;refine tW 2 ?_;refine tK 3 ?_ (hy:=zAw);refine tW 4 ?_;refine tW 5 ?_;refine tK 6 ?_ (hy:=zAw);refine tW 9 ?_;refine tO 7 fun K hK=>?_;(go_simp;refine(Rq.out _ hHeld).mono ?_;rintro e w4 ⟨vT,rfl,hT,hTb,O4⟩;obtain⟨aT,cT,rfl,-,-⟩:=bg hT;try go_wp2_with fail);refine hK.out _ _ ?_ (fun hHeld=>?_);·exact zG2
    clear hK K;try simp only[Act.put,fA,fD,fB,dW,dX,dY]
    refine tW 8 ?_;refine bV zk ?_ _;have O24:=hHeld;have rF:=zh (iP.out.same O24);have MF:Hid (ZB br w4 v (L0++Yd x g ((x.targets yr.spec.name).take 0))):=by have h:=HV.out.only (qp.out.same O24);simpa[Yd,Hid]using h
    have HT4:=zh hT;have amb:Hid (∀q,(Value.slice aT nT cT).ownBlock=some q->v.ownBlock≠some q/\q≠br):=fun q hq=>by
     have h1:tJ.heap.size<=q:=hTb q hq;have h2:=qp.out.size;refine⟨fun h=>?_,fun h=>?_⟩;·have:=pq HV.out.row h;omega
     have:=(yA.1 HV.out.blk).1;omega
    clear hT hTb O4 O24 hHeld HV Rq;try clear hC
    go_wp2_with fail;go_loopw [37] (fun vj gV=>Hid (O0 W3 gV)/\∃(j:Nat) (v:Value),vj= .int .i64 j/\j<=nT/\Hid (ZB br gV v (L0++Yd x g ((x.targets yr.spec.name).take j)))/\Hid (gV.ownsRow 0 3 1 (.slice aT nT cT) nT (eP (x.targets yr.spec.name)))/\Hid (∀q,(Value.slice aT nT cT).ownBlock=some q->v.ownBlock≠some q/\q≠br)) (fun v _=>nT-(RowKit.intOf v).toNat);case atStart=>exact⟨rF,0,v,rfl,qE _,MF,HT4,amb⟩
    case round=>
     obtain⟨gV,rfl⟩:=zB wr;clear rF MF HT4 amb;clear v;obtain⟨Bj,j,v,rfl,hj,HV,HT,HTb⟩:=hrel;by_cases cj:j<nT
     ·have iE:=zw (j+1);obtain⟨p,hpj⟩:=zG (x.targets yr.spec.name) j (by rw[HTn.out];exact cj);have CY:=zh hpj;have cp:p<n1:=by have h:=aQ.mD (qT hpj);rw[N1.out]at h;exact h
      obtain⟨kT,aiC,heT,-,-⟩:=gQ HT.out zAA;simp only[qU]at heT;obtain⟨rfl,-,rfl⟩:=heT;have hcell:gV.cell? ⟨kT,j,none⟩=some (.int .i64 (p:Int)):=by rw[HT.out.cellAt j zAA];simp[eP,hpj]
      clear hpj;obtain⟨yy,hxy⟩:=zG x.packs p zBh;obtain⟨AY,mF,og,jo,oh,sO,sQ,sS,xE,uT,xG,yc,uG,yg,EN,AZ,EO,CV,zA,CW,oq,kF,nP,rQ,qB,uU,uV,yh,Ef,je⟩:=jy (ajO.out W3 zr) hxy;first|subst oq| (simp only[qG,qO,and_true]at oq;obtain⟨rfl,rfl⟩:=oq)
      have jq:=zh je;have xR:=zh hxy;clear je hxy kF nP rQ qB uU uV;have hpk:x.pack p=yy:=zA6;obtain⟨f,hf⟩:=ze (jG g yy.name);have HF:Hid (∀W,O0 gV W->Calls Tryz.prog 207 #[.agg #[.slice a4 n4 c4],.string yy.name] W fun e w'=>e= .returned (.int .i64 f)/\O0 W w'):=fun W hW=>by rw[<-hf];exact MZ (ahk.out W (Bj.out.same hW)) yy.name
      have HSj:Hid (Yd x g ((x.targets yr.spec.name).take (j+1))=Yd x g ((x.targets yr.spec.name).take j)++(if 0<=f then [f.toNat]else [])):=afs CY.out (by rw[hpk];exact hf);clear hf hpk;go_wp2_with fail;clear hcell;refine aU (fun w'=>O0 gV w') zk zk (by exact((Only.refl (fun _=>False) gV)).drew) ?_;refine qV ?_ (hy:=zAS);iterate 2 refine qV ?_
      iterate 2 refine qV ?_ (hy:=zAS)
      iterate 3 refine qV ?_
      refine qV ?_ (hy:=zAS);iterate 3 refine qV ?_
      refine qV ?_ (hy:=zAS);refine bF (v:=.int .i64 f) (f:=207) (args:= #[.agg #[.slice a4 n4 c4],.string yy.name]) (by rfl) ?_ ?_ ?_;·exact zDQ
      ·exact zDj
      try simp only[Act.put,fA,fD,fB,dW,dX,dY]
      refine qV ?_;refine wpQuiet_nil ?_;(intro w9 dR;have fK:=zh dR;clear dR);have jZ:=zh (Bj.out.same fK.out);have Tn:=zh (HV.out.only fK.out);have HT9:=zh (aW HT.out fK.out (fun _ _ f=>f));clear HV HT HF fK;by_cases h0:0<=f
      ·obtain⟨k,rfl⟩:∃k:Nat,f=k:=⟨f.toNat,by omega⟩;have d0:decide ((0:Int)<=(k:Int))=true:=qX h0;obtain⟨L,Vk⟩:=ze (L0++Yd x g ((x.targets yr.spec.name).take j));have hlen:L.length<=1000000+2000:=by rw[<-Vk,qK];have h1:=HL0.out;have h2:=aaN x g ((x.targets yr.spec.name).take j);rw[List.length_take]at h2;have h3:=nX x yr.spec.name;have h4:=N1.out;omega
       rw[Vk]at Tn;have ajQ:Hid (L0++Yd x g ((x.targets yr.spec.name).take (j+1))=L++[k]):=by have h:=HSj.out;rw[if_pos h0,yT]at h;rw[Hid,h,<-Vk,yW]
       obtain⟨nl,hnl⟩:=ze L.length;have afi:Hid (∀W,O0 w9 W->W.ownsRow 0 3 1 v nl (eP L)):=fun W o=>by rw[<-hnl];exact aW Tn.out.row o (fun _ _ f=>f)
       have Ak:=zh hnl;rw[hnl]at hlen;have c4:w9.cell? ⟨br,0,none⟩=some v:=by rw[aj Tn.out.blk];rfl
       clear hnl Vk HSj;go_wp2_with (at_builtin;go_must (refine Ai (u:=.int .i64 (k:Int)) Vl rfl (.tmp 57) (.tmp 59) rfl rfl rfl (cell_new0 _ _ _) rfl (afi.out _ (zr.alloc _)) zAA zHZ ?_));intro v5 w5 r5 o5 r6;obtain⟨hb5,hV5,hO5,hN5⟩:=ZB.push Tn.out (by rw[Ak.out];exact r5) o5 (by rw[Ak.out];exact r6);have hc5:w5.cell? ⟨br,0,none⟩=some v:=by rw[aj hb5];rfl
       have hf5:w5.frozen? ⟨br,0,none⟩=false:=by simp[World.frozen?,hb5]
       have xI:Hid (O0 W3 (w5.setCell ⟨br,0,none⟩ v5)):=jZ.out.trans hO5 fun q hq=>.inr (by
        have h1:=OC.out
        rcases hq with h|h
        ·omega
        ·have:=Tn.out.new q h;omega)
       have HT5:Hid ((w5.setCell ⟨br,0,none⟩ v5).ownsRow 0 3 1 (.slice (some ⟨kT,0,none⟩) nT cT) nT (eP (x.targets yr.spec.name))):=aW HT9.out hO5 fun q hq e=>by
        have h1:=HTb.out q hq;rcases e with e|e;·exact h1.2 e
        exact h1.1 e
       have apo:Hid (∀q,(Value.slice (some ⟨kT,0,none⟩) nT cT).ownBlock=some q->v5.ownBlock≠some q/\q≠br):=fun q hq=>by
        have h1:=HTb.out q hq;refine⟨fun h=>?_,h1.2⟩;rcases hN5 q h with h2|h2;·exact h1.1 h2
        have:=pq HT9.out hq;omega
       have HV5:Hid (ZB br (w5.setCell ⟨br,0,none⟩ v5) v5 (L0++Yd x g ((x.targets yr.spec.name).take (j+1)))):=by rw[ajQ.out];exact hV5
       obtain⟨VG,co5,rfl,-,-⟩:=bg r5;clear r5 o5 r6 hV5 hO5 hN5 Tn HT9 HTb c4;go_wp2_with fail;clear hb5 hc5 hf5;go_roundw;case rel=>exact⟨xI,j+1,_,by first|rfl|go_num,by omega,HV5,HT5,apo⟩
       case measure=>simp[RowKit.intOf]<;>omega
      have d0:decide ((0:Int)<=f)=false:=qP h0;have uN:Hid (ZB br w9 v (L0++Yd x g ((x.targets yr.spec.name).take (j+1)))):=by have h:=HSj.out;rw[if_neg h0,List.append_nil]at h;rw[h];exact Tn
      go_wp2_with fail;go_roundw;case rel=>exact⟨jZ,j+1,v,by first|rfl|go_num,by omega,uN,HT9,HTb⟩
      case measure=>simp[RowKit.intOf]<;>omega
     obtain rfl:nT=j:=by omega
     have uN:Hid (ZB br gV v (PD x g (q.roots.take (i+1)))):=by have h:=HV.out;rw[qI (yG HTn.out),<-ajP.out]at h;rw[acC QJ.out];exact h
     clear HT HTb;go_wp2_with fail;go_roundw;case rel=>exact⟨Bj,i+1,v,by first|rfl|go_num,by omega,uN⟩
     case measure=>simp[RowKit.intOf]<;>omega
   obtain rfl:n3=i:=by omega
   have HVe:Hid (ZB br bD v (mJ x q g)):=by have h:=HV.out;rw[qI (yG N3.out)]at h;exact h
   have hlen:(mJ x q g).length<=1000000:=by
    rw[afr];refine qR (PE x g _) ?_;have h1:q.roots.length<=990:=by rw[N3.out];omega
    exact zFI
   have HGl:=zh HFw.out.len;have hri:∀r∈mJ x q g,r<g.length:=fun r hr=>SE hr;have HI:=zh (uX HVe.out.row fun i hi=>by have:=hri i hi;have:=HGl.out;omega);have X6:Hid (bD.cell? ⟨br,0,none⟩=some v):=by rw[Hid,aj HVe.out.blk];rfl
   have HBe:Hid (∀W,O0 bD W->Calls Tryz.prog 206 #[.agg #[.slice a4 n4 c4],v] W fun e w'=> ∃bm ks f,e= .returned (.map (some bm))/\Ee w' bm g (mJ x q g) ks f/\O0 W w'):=fun W hW=>
    XF (ahk.out W (jD.out.same hW)) (HI.out.dK hW) hri HGl.out hlen HFw.out.needs
   obtain⟨r10,h10⟩:∃r,(aX g fun i _=>pG x q g i)=r:=⟨_,rfl⟩;have H10:=zh h10;clear HV hlen hri h10;obtain⟨p0,p1,p2,p3⟩:=oZ.out bD (Nc.out.same jD.out);have pc:=aF.out bD (FM.out.same jD.out);go_wp2_with fail;clear p0 p1 p2 p3 pc;refine dn (n:=8) (E:=fun k=>k=7) (S:=fun W=>O0 bD W) zk rfl (by exact(Only.refl (fun _=>False) bD).drew) (fun hHeld=>?_);refine tK 0 ?_ (hy:=zAv);refine tW 1 ?_;refine tW 2 ?_;refine tK 3 ?_ (hy:=zAv);refine tK 4 ?_ (hy:=zAv);refine dN (rs:=[5,6]) zk zAP ?_;refine bI.cons (i:=5) rfl (fun K hK=>?_) ?_
   ·(go_simp;refine(HBe.out _ hHeld).mono ?_;rintro e w7 ⟨bm,ks,f,rfl,hM,O7⟩;try go_wp2_with fail);refine hK.out _ _ ?_ (fun hHeld=>?_);·(try dsimp only)<;>(exact Only.same hHeld O7)
    clear hK K;try simp only[Act.put,fA,fD,fB,dW,dX,dY]
    refine tO 6 fun K hK=>?_;(go_simp);refine hK.out _ _ ?_ (fun hHeld=>?_);·exact zG3
    exact zDM
   refine bI.cons (i:=6) rfl (fun K hK=>?_) ?_
   ·(go_simp);refine hK.out _ _ ?_ (fun hHeld=>?_);·exact zG3
    clear hK K;try simp only[Act.put,fA,fD,fB,dW,dX,dY]
    refine tO 5 fun K hK=>?_;(go_simp;refine(HBe.out _ hHeld).mono ?_;rintro e w7 ⟨bm,ks,f,rfl,hM,O7⟩;try go_wp2_with fail);refine hK.out _ _ ?_ (fun hHeld=>?_);·(try dsimp only)<;>(exact Only.same hHeld O7)
    exact zDM
   exact bI.nil
end
end Go.Proofs.YtdmmebjjojimiaaGreatDoor
