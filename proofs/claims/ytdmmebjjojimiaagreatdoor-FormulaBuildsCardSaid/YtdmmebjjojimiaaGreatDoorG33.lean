/- Package formula: Read. Printed by gen_fm3.py.; Package formula: Clauses; Read of a nil formula. -/
import Derived.Test.YtdmmebjjojimiaaGreatDoorG32
set_option maxRecDepth 100000
set_option maxHeartbeats 8000000
set_option linter.all false
namespace Go.Proofs.YtdmmebjjojimiaaGreatDoor
open Go.RowKit
def FN.nv(x:FN):Str×Str:=(x.name,x.ver)
def Ak(l:List At)(D:xC)(m:List Bool)(j:Nat):List (Str×Str):=((D.l.take j).filter fun p=>Gj (numOf l (aI p)) m).map fun p=>((D.x.pack p).name,L8 l (D.x.pack p).aX m p)
theorem XQ{l:List At}{D:xC}{m:List Bool}{j t:Nat}(h:D.l[j]? =some t):Ak l D m (j+1)=Ak l D m j++(if Gj (numOf l (aI t)) m=true then [((D.x.pack t).name,L8 l (D.x.pack t).aX m t)]else []):=by
 unfold Ak;rw[List.take_add_one,h];simp only[Option.toList,List.filter_append,List.map_append];congr 1;by_cases hs:Gj (numOf l (aI t)) m=true;·rw[if_pos hs];simp[hs]
 rw[if_neg hs];simp[hs]
theorem aiR:Az Tryz.prog 29 83 4 80:=Az.mk' (z:=.agg #[.string .empty,.string .empty,.slice none 0 0,.slice none 0 0]) Tryz.underlying29 zk rfl zAD
structure GfW (B:Nat) (w:World) (N:Nat) (v:Value) (n:Nat) (L:List FN):Prop where
 blk:w.heap[N]? =some (.cells #[v] 31 (0,0))
 own:w.ownsRow 0 83 4 v n (jZ L)
 len:L.length=n
 new:∀k,v.ownBlock=some k->B<=k
 lo:B<=N
section
variable {w w':World} {B N n:Nat} {v:Value} {L:List FN}
theorem GfW.aH(h:GfW B w N v n L)(ho:O0 w w'):GfW B w' N v n L:=⟨aC h.blk ho (fun f=>f),aG h.own ho (fun _ _ f=>f),h.len,h.new,h.lo⟩
theorem GfW.add{w9 w10:World}(h:GfW B w N v n L)(o9:O0 w w9){v':Value}{x:FN}(r1:w10.ownsRow 0 83 4 v' (n+1) (jZ L++x.cells))(o:Only (fun k=>v.ownBlock=some k) w9 w10)(r3:∀k,v'.ownBlock=some k->v.ownBlock=some k\/w9.heap.size<=k)(hB:B<=w.heap.size):w10.cell? ⟨N,0,none⟩=some v/\w10.frozen? ⟨N,0,none⟩=false/\GfW B (w10.setCell ⟨N,0,none⟩ v') N v' (n+1) (L++[x])/\Only (fun k=>B<=k) w (w10.setCell ⟨N,0,none⟩ v'):=by
 have h9:=h.aH o9;have b10:w10.heap[N]? =some (.cells #[v] 31 (0,0)):=aC h9.blk o (fun e=>jV zAD h9.own h9.blk e);have oS:Only (fun k=>k=N) w10 (w10.setCell ⟨N,0,none⟩ v'):=(Only.refl (fun k=>k=N) w10).setCell (p:=⟨N,0,none⟩) (.inl rfl) _;have hs:=o9.size;refine⟨by rw[aj b10];rfl,by simp[World.frozen?,b10],⟨heap_setCell_same w10 N 0 _ 31 _ b10,?_,by rw[qK,List.length_singleton,h.len],fun k hk=>?_,h.lo⟩,?_⟩;·rw[U1];exact zEQ
 ·rcases r3 k hk with q|q;·exact h.new k q
  omega
 exact(o9.mono fun _ f=>f.elim).same ((o.mono fun k hk=>h.new k hk).same (oS.mono fun k hk=>by rw[hk];exact h.lo))
end
section
variable {w w':World} {gt gb:Tag} {f c bt bb:Nat} {G:GL} {Bs:Nat} {D:xC} {S:TB} {cv:Value} {cls:List (List Int)}
theorem adI(H:Y8 w gt gb f c bt bb G Bs D S cv cls){v:Value}{m:List Bool}(hm:Bools w v m)(hpl:D.x.packs.length<=1000000)(hpk:∀y∈D.x.packs,y.aX.length<=1000000/\y.vars.length<=1000000/\∀u∈y.vars,u.values.length<=1000000)(hl:∀t∈D.l,t<D.x.packs.length)(hln:D.l.length<=1000000):Calls Tryz.prog 36 #[.pointer (some ⟨f,0,none⟩),v] w fun e w'=> ∃(ao:Option Addr) (n cap:Nat) (ys:List FN),e= .returned (.agg #[.slice ao n cap])/\w'.ownsRow 0 83 4 (.slice ao n cap) n (jZ ys)/\ys.length=n/\(ys.map FN.nv).Perm (Ak S.1.l D m D.l.length)/\(ys.Pairwise fun a b=>¬b.name.toList<a.name.toList)/\O0 w w':=by
 have H0:=zh H;have HLl:=zh hl;have HSo:Hid (∀W,O0 w W->∀x:At,nK x->∀b,Gj (numOf S.1.l x) m=b->Calls Tryz.prog 91 #[.pointer (some ⟨f,0,none⟩),v,iY x] W fun e w'=>e= .returned (.bool b)/\O0 W w'):=fun W hW x hx b hb=>alV (H0.out.aH hW) (hm.aH hW) hx b hb;have Cj:Hid (∀W,O0 w W->∀p,p<D.x.packs.length->Calls Tryz.prog 92 #[.pointer (some ⟨f,0,none⟩),v,.int .i64 (p:Int)] W fun e w'=> ∃(x1 x2:Str) (y1:Option Addr) (y2 y3:Nat) (y4:Option Addr) (y5 y6:Nat),e= .returned (.agg #[.string x1,.string x2,.slice y1 y2 y3,.slice y4 y5 y6])/\(x1,x2)=((D.x.pack p).name,L8 S.1.l (D.x.pack p).aX m p)/\O0 W w'):=fun W hW p hp=>(af2 (H0.out.aH hW) (hm.aH hW) hp hpl hpk hl hln _ rfl).mono fun e w' ⟨n,h1,h2,h3,h4⟩=>⟨n.name,n.ver,n.a1,n.n1,n.c1,n.a2,n.n2,n.c2,h1,by rw[h2,h3],h4⟩;obtain⟨am,cm,rfl,-,-⟩:=hm.shape;obtain⟨nm,hnm⟩:=ze m.length;rw[hnm]at HSo Cj⊢;obtain⟨nl,hnl⟩:=ze D.l.length;have uh:=zh hnl;obtain⟨nx,hnx⟩:=ze D.x.packs.length;have kN:=zh hnx;rw[hnl]at hln⊢;rw[hnx]at hpl;obtain⟨V0,hV0⟩:=ze (w.alloc (.cells #[.slice none 0 0] 31));obtain⟨V1,hV1⟩:=ze (V0.alloc (.cells #[.slice none 0 0] 31));have o1:O0 w V1:=by rw[<-hV1,<-hV0];exact(zr.alloc _).alloc _
 have aW:=zh o1;obtain⟨N,hN⟩:=ze V0.heap.size;have MX:Hid (w.heap.size+1=N):=by rw[<-hN,<-hV0];simp[Hid]
 have HR1:Hid (V1.heap[w.heap.size]? =some (.cells #[.slice none 0 0] 31)):=by rw[<-hV1,<-hV0];exact cZ (qL w _) _
 have HG1:Hid (GfW N V1 N (.slice none 0 0) 0 []):=⟨by rw[<-hN,<-hV1];exact qL V0 _,World.ownsRow_nil _ _ _ _,rfl,(fun k hk=>by cases hk),qH _⟩;have HGr:=zh (Ie (H0.out.aH o1));have Dt:Hid (Calls Tryz.prog 74 #[.pointer (some ⟨c,0,none⟩)] V1 fun e w'=> ∃v',e= .returned v'/\w'.ownsRow 0 3 1 v' nl ((intsOf D.l).map cI)/\(∀k,v'.ownBlock=some k->V1.heap.size<=k)/\O0 V1 w'):=by
  have hg:=H0.out.gr.aH o1;have h1:=x9 hg.gr hg.l (by unfold intsOf;rw[qM,uh.out];omega);have h2:(intsOf D.l).length=nl:=by unfold intsOf;rw[qM,uh.out]
  rw[h2]at h1;exact h1
 clear hm hnm hnl hnx hpk hl H o1;go_enter Tryz.func36,Tryz.ntmps36;go_wp2_with fail;refine HGr.out.mono ?_;rintro e w2 ⟨rfl,e2⟩;have e2':=e2.symm;subst e2';go_wp2_with fail;refine Dt.out.mono ?_;rintro e W6 ⟨vl,rfl,rl,nl1,O6⟩;obtain⟨al,cl,rfl,-,-⟩:=aJ rl;have HG6:=zh (HG1.out.aH O6);have HOv:Hid (Only (fun k=>N<=k) V1 W6):=O6.mono fun _ f=>f.elim;have HUw:Hid (∀W,Only (fun k=>N<=k) V1 W->O0 w W):=fun W h=>aW.out.trans h fun k hk=>.inr (by have:=MX.out;omega);clear O6 Dt HGr nl1;go_wp2_with fail;go_loopw [12] (fun vi wr=>Hid (Only (fun k=>N<=k) V1 wr)/\Hid (wr.ownsRow 0 3 1 (.slice al nl cl) nl ((intsOf D.l).map cI))/\∃j:Nat,vi= .int .i64 j/\j<=nl/\∃(a9:Option Addr) (ne ce:Nat) (L:List FN),Hid (GfW N wr N (.slice a9 ne ce) ne L)/\ne<=j/\Hid (L.map FN.nv=Ak S.1.l D m j)) (fun v _=>nl-(RowKit.intOf v).toNat);case atStart=>exact⟨HOv,rl,0,rfl,qE _,none,0,0,[],HG6,qH _,rfl⟩
 case round=>
  obtain⟨wj,rfl⟩:=zB wr;obtain⟨Di,HRj,j,rfl,hj,a9,ne,ce,L,HGj,hL,TJ⟩:=hrel;by_cases cj:j<nl
  ·have WJ:=zw (j+1);obtain⟨t,ht⟩:=zG D.l j zA6;have htx:=HLl.out t (qT ht);obtain⟨b9,e9,hct⟩:=mO HRj.out uh.out ht;first|subst e9| (simp only[qG,qO,and_true]at e9;subst e9)
   obtain⟨b,hb⟩:=ze (Gj (numOf S.1.l (aI t)) m);have hsc:=XQ (l:=S.1.l) (m:=m) ht;rw[hb]at hsc;have HSc:=zh hsc;have htb:t<=1000000:=by have:=kN.out;omega
   have HSk:Hid (Calls Tryz.prog 91 #[.pointer (some ⟨f,0,none⟩),.slice am nm cm,.agg #[.int .u8 1,.int .i64 (t:Int),.int .i64 0,.int .i64 0]] wj fun e w'=>e= .returned (.bool b)/\O0 wj w'):=HSo.out wj (HUw.out wj Di.out) (aI t) (Xy ⟨by omega,by omega⟩) b hb;have HTx:=zh htx;clear ht hb hsc htx;go_wp2_with fail;refine HSk.out.mono ?_;rintro e w7 ⟨rfl,O7⟩;have pG:Hid (Only (fun k=>N<=k) V1 w7):=Di.out.same (O7.mono fun _ f=>f.elim);have TS:=zh (aG HRj.out O7 (fun _ _ f=>f));have HG7:=zh (HGj.out.aH O7);clear O7 HSk hct;cases b with
   |true=>
    have EF:Hid (∀W,O0 w7 W->Calls Tryz.prog 92 #[.pointer (some ⟨f,0,none⟩),.slice am nm cm,.int .i64 (t:Int)] W fun e w'=> ∃(x1 x2:Str) (y1:Option Addr) (y2 y3:Nat) (y4:Option Addr) (y5 y6:Nat),e= .returned (.agg #[.string x1,.string x2,.slice y1 y2 y3,.slice y4 y5 y6])/\(x1,x2)=((D.x.pack t).name,L8 S.1.l (D.x.pack t).aX m t)/\O0 W w'):=fun W hW=>Cj.out W ((HUw.out w7 pG.out).same hW) t HTx.out;have hown:=HG7.out.own;have rG:Hid (∀W,O0 w7 W->W.ownsRow 0 83 4 (.slice a9 ne ce) ne (jZ L)):=fun W o=>aG hown o fun _ _ f=>f;have c8:w7.cell? ⟨N,0,none⟩=some (.slice a9 ne ce):=by rw[aj HG7.out.blk];rfl
    have hNb:∀k,(Value.slice a9 ne ce).ownBlock=some k->k≠N:=fun k hk e=>jV zAD hown HG7.out.blk (e▸hk);have HS:Hid (∀W,Only (fun k=>(Value.slice a9 ne ce).ownBlock=some k) w7 W->W.cell? ⟨N,0,none⟩=some (.slice a9 ne ce)):=fun W o=>aY c8 o (fun h=>hNb _ h rfl);have hS0:=HS.out w7.drew zr.drew;have hneb:ne<=1000000:=zAB;have hB7:N<=w7.heap.size:=HG7.out.lo|>fun _=>by have:=bU HG7.out.blk;omega
    clear c8 hown hNb;go_wp2_with fail;refine bC (n:=10) (E:=fun j=>j==9) (S:=(fun W:World=>W.cell? ⟨N,0,none⟩=some (.slice a9 ne ce))) zk rfl hS0 (fun hHeld=>?_);refine tW 0 ?_;refine tK 1 ?_;refine tW 2 ?_;refine tW 3 ?_;refine tW 4 ?_;refine tO 5 fun K hK=>?_;(go_simp;refine(EF.out _ zBT).mono ?_;rintro e w8 ⟨x1,x2,y1,y2,y3,y4,y5,y6,rfl,RY,O8⟩;have HNw:=zh RY;clear RY;have o8:O0 w7 w8:=Only.same (F:=fun _=>False) zAA O8;try go_wp2_with fail);refine hK.out _ _ ?_ (fun hHeld=>?_);·exact zCq
    clear hK K;try simp only[Act.put,eF,fA,eG,dW,dX,dY]
    refine tO 6 fun K hK=>?_;go_simp;refine hK.out _ _ ?_ (fun hHeld=>?_);·exact zCq
    clear hK K;try simp only[Act.put,eF,fA,eG,dW,dX,dY]
    refine tO 7 fun K hK=>?_;(refine G9 aiR (by rfl) (.tmp 22) (.tmp 27) (by rfl) (by rfl) (rG.out _ zBw) (by rfl) (news:=[.string x1,.string x2,.slice y1 y2 y3,.slice y4 y5 y6]) (by rfl) (by intro h;cases h) (fun ad hd j u hu=>by cases hd;exact Et zB1 hu) (by intro u hu;simp at hu;rcases hu with rfl|rfl|rfl|rfl<;>rfl) zAB zBV ?_;intro ao5 cap5 w10 r5 o5 nr5;have oA:Only (fun k=>(Value.slice a9 ne ce).ownBlock=some k) w7 w10:=Only.same (F:=fun k=>(Value.slice a9 ne ce).ownBlock=some k) (Only.mono (F:=fun _=>False) zBm fun _ f=>f.elim) o5;have hnx:=HG7.out.add (w9:=w7) (w10:=w10) zr (x:=⟨x1,x2,y1,y2,y3,y4,y5,y6⟩) (by exact r5) oA (fun k hk=>by rcases nr5 k hk with h|h;exact Or.inl h;exact Or.inr (qR (o8.size) (by simp at h;omega))) hB7);refine hK.out _ _ ?_ (fun hHeld=>?_);·(try dsimp only)<;>(exact HS.out _ oA)
    clear hK K;try simp only[Act.put,eF,fA,eG,dW,dX,dY]
    refine tW 8 ?_;refine fF (rs:=[9]) zk zAF ?_;refine bQ.late (i:=9) rfl zk (fun K hK=>?_) ?_
    ·(obtain⟨c10,f10,adH,o11⟩:=hnx;have HGx:=zh adH;have adG:Hid (Only (fun k=>N<=k) V1 _):=pG.out.same o11;have aiQ:=zh (aG (aG TS.out oA (fun k hk h=>LZ zBV (rG.out w7 zr) TS.out h hk)) ((Only.refl (fun k=>k=N) w10).setCell (p:=⟨N,0,none⟩) (.inl rfl) (.slice ao5 (ne+1) cap5)) (fun k hk h=>jV zAD TS.out HG7.out.blk (h▸hk)));have aiT:Hid ((L++[(⟨x1,x2,y1,y2,y3,y4,y5,y6⟩:FN)]).map FN.nv=Ak S.1.l D m (j+1)):=(by show _=_;rw[HSc.out,List.map_append,TJ.out];simp[FN.nv];exact Prod.mk.inj HNw.out);clear adH o11 oA o5 nr5 r5;go_simp);refine hK.out _ _ ?_;clear hK K;try simp only[Act.put,eF,fA,eG,dW,dX,dY]
     refine bf zk ?_ _;go_wp2_with fail;go_roundw;case rel=>exact⟨adG,aiQ,j+1,by first|rfl|go_num,by omega,_,_,_,_,HGx,by omega,aiT⟩
     case measure=>simp[RowKit.intOf]<;>omega
    exact bQ.nil
   |false=>
    have aiT:Hid (L.map FN.nv=Ak S.1.l D m (j+1)):=by show _=_;rw[HSc.out,TJ.out];simp
    go_wp2_with fail;go_roundw;case rel=>exact⟨pG,TS,j+1,by first|rfl|go_num,by omega,a9,ne,ce,L,HG7,by omega,aiT⟩
    case measure=>simp[RowKit.intOf]<;>omega
  obtain rfl:j=nl:=by omega
  have hown:=HGj.out.own;rw[<-HGj.out.len]at hown;have hneb:L.length<=1000000:=by have:=HGj.out.len;omega
  have hsr:=afY hown hneb;rw[HGj.out.len]at hsr;have HSr:=zh hsr;have c8:wj.cell? ⟨N,0,none⟩=some (.slice a9 ne ce):=by rw[aj HGj.out.blk];rfl
  clear hown hsr;go_wp2_with fail;refine HSr.out.mono ?_;rintro e w9 ⟨ys,rfl,hp,hso,r9,O9⟩;have Jr:=zh (And.intro hp hso);have hB9:w9.heap[N]? =some (.cells #[.slice a9 ne ce] 31 (0,0)):=aC HGj.out.blk O9 (fun e=>jV zAD HGj.out.own HGj.out.blk e);have BZ:Hid (Only (fun k=>N<=k) V1 w9):=Di.out.same (O9.mono fun k hk=>HGj.out.new k hk);have HRb:Hid (w9.heap[w.heap.size]? =some (.cells #[.slice none 0 0] 31)):=aC HR1.out BZ.out (fun h=>by have:=MX.out;omega);have hrow:Hid (w9.rangeAt N 0 [.slice a9 ne ce]):=fun i u hu=>by
   match i,hu with
   |0,hu=>simp at hu;subst hu;rw[aj hB9];rfl
   |i+1,hu=>simp at hu
  have HR9:=zh r9;clear r9 O9 HSr c8 hp hso hB9;go_wp2_with (first
   | (refine wpList_load_mid rfl 31 (.tmp 5) rfl N 0 rfl _ _ hrow.out Tryz.underlying31 rfl zk ?_)
   | (refine wpList_store_row rfl 31 (.tmp 4) (.tmp 34) rfl w.heap.size #[.slice a9 ne ce] rfl rfl 31 #[.slice none 0 0] HRb.out zk rfl zk ?_))
  have HZ:Hid ((w9.setRow w.heap.size #[.slice a9 ne ce]).heap[w.heap.size]? =some (.cells #[.slice a9 ne ce] 31 (0,0))):=setRow_heap _ _ _ _ _ _ HRb.out;(try simp only[Exit.inBlock,Exit.then]);refine bodyPost_ret (results_cell_row rfl _ _ w.heap.size 31 #[.slice a9 ne ce] (0,0) _ rfl HZ.out Tryz.underlying31 rfl zk) rfl ?_;refine⟨a9,ne,ce,ys,rfl,?_,?_,?_,Jr.out.2,(HUw.out w9 BZ.out).trans (aP _ _ _) fun k hk=>.inr (yG hk.symm)⟩;·have h1:=HR9.out;exact aG h1 (aP _ _ _) (fun k hk e=>jV zAD h1 HRb.out (e▸hk))
  ·rw[Jr.out.1.length_eq,HGj.out.len]
  rw[<-TJ.out];exact Jr.out.1.map _
end
section
variable {w w':World} {gt gb:Tag} {f c bt bb:Nat} {G:GL} {Bs:Nat} {D:xC} {S:TB} {cv:Value} {cls:List (List Int)}
theorem Eu(H:Y8 w gt gb f c bt bb G Bs D S cv cls)(hfew:cls.length<=262144)(hshort:∀c∈cls,c.length<=1099511627):Calls Tryz.prog 35 #[.pointer (some ⟨f,0,none⟩)] w fun e w'=> ∃v us,e= .returned v/\zK w w' v us cls/\O0 w w':=by
 have hI:=H.cls;have HSh:=zh hshort;have q0:w.cell? ⟨f,1,none⟩=some cv:=zAf;obtain⟨ac,cc,hvl,hc1,hc2⟩:=hI.shape;rw[hvl]at q0 hI;clear hvl H hshort;go_enter Tryz.func35,Tryz.ntmps35;go_wp2_with fail;go_loopw [3,13] (fun vo v wr=> ∃(k:Nat) (us:List Value),v= .int .i64 k/\k<=cls.length/\us.length<=k/\zK w wr vo us (cls.take k)/\O0 w wr) (fun _ v _=>cls.length-(intOf v).toNat);case atStart=>exact⟨0,[],rfl,qE _,qE _,zK.nil w w,Only.refl _ _⟩
 case round=>
  obtain⟨k,us,rfl,hk,hus,hS,hO⟩:=hrel;by_cases ck:k<cls.length
  ·obtain⟨bb,off,u,rfl,_,q,hu⟩:=(hI.aH hO).at ck;have hcb:=HSh.out _ (mW [] ck);have hts:=JW cls k ck;obtain⟨au,cu,rfl,_,_⟩:=hu.shape;have HTS:=zh hts;clear hts;generalize cls.getD k []=c at*;have hC:=G5 hu zAB;have HC:=zh hC;clear hC;go_wp2_with fail;refine HC.out.mono ?_;rintro e w2 ⟨vf,rfl,R1,N1,O2⟩;have hIf:=Ints.dV R1 hu.range;have hS2:=hS.aH O2;have hO2:=hO.same O2;have hap:0<c.length->∀j,Value.blk vf=some j->u3.ownBlock≠some j:=by exact zCl
   have HAp:=zh hap;clear hap;obtain⟨af,cf,rfl,_,_⟩:=hIf.shape;go_wp2_with (at_builtin;go_must (refine AL (u:=.slice af c.length cf) Wh rfl (.tmp 17) (.tmp 20) rfl rfl rfl (GU _ _ _ _ rfl) rfl (aG hS2.row ((Only.refl (fun _=>False) _).alloc _) (fun _ _ f=>f)) zAB zBV ?n3));exact zCH
  have hk':k=cls.length:=by omega
  have hfin:zK w wr u3 us cls:=by rw[hk',qI (qH _)]at hS;exact hS
  exact zEX
end
def af7{α:Type}(F:Fence)(n:Nat)(P:Program)(g:Nat)(lb:Array Value)(enc:α->Value)(C D:Nat->Prop)(xs:List α)(w:World):Prop:=
 ∀(l:Nat) (J Jx:List α->World->Prop) (W:World),zV C w W->w.heap.size<=W.heap.size->AbC D J->AbC D Jx->
  (∀pre x suf W1,J pre W1->xs=pre++x::suf->YieldAt F (n-1) P l #[enc x] W1 fun e W'=>
   (e= .returned (.bool true)/\J (pre++[x]) W'/\zV C W1 W'/\W1.heap.size<=W'.heap.size)\/(e= .returned (.bool false)/\Jx (pre++[x]) W'))->
  J [] W->
  CallsIn F n P g (#[.func (.yield l) #[] #[]]++lb) W fun e W'=>(∃v,e= .returned v)/\(J xs W'\/ ∃pre,pre<+:xs/\Jx pre W')
variable {F:Fence} {n:Nat} {P:Program}
theorem aaD{α:Type}{g:Operand}{ps:Array Tmp}{assign body:Code}{Q:Exit->Act->World->Prop}{a:Act}{w:World}
  (hro:F.round=none) (h1:1<=n) {gf:Nat} {lb:Array Value} (hg:a.eval g= .func (.func gf) #[] lb) (hFg:F.fn gf) (eg:∀args w,(callFunc gf args).run P w= .ok (.enter gf args) w)
  {enc:α->Value} {C D:Nat->Prop} {xs:List α} {w0:World} (hseq:af7 F (n-1) P gf lb enc C D xs w0)
  (hC:∀k,C k->k<w.heap.size) (hD:∀k,D k->k<w.heap.size) (hw0:zV C w0 w) (hsz:w0.heap.size<=w.heap.size) (hps:ps.size=1)
  (G:Nat->Prop) (hG:∀k,G k->¬C k/\k≠w.heap.size/\k≠w.heap.size+1)
  (I Ir:List α->World->Prop)
  (hI:∀s W W',I s W->Only (fun k=>D k\/k=w.heap.size\/k=w.heap.size+1) W W'->I s W')
  (hIr:∀s W W',Ir s W->Only (fun k=>D k\/k=w.heap.size\/k=w.heap.size+1) W W'->Ir s W')
  (h0:I [] w) (a₁:α->Act)
  (hassign:∀(l:Nat) (x:α) (W:World) (K:Act->World->Prop),K (a₁ x) W->
   assign.wpIn (F.inRound l) (n-1-1) P (Exit.then K (fun _ _ _=>False)) {tmps:=(ps.zip #[enc x]).foldl (fun t (p,v)=>t.setIfInBounds p v) a.tmps,defers:=[]} W)
  (hbody:∀(l:Nat) (pre:List α) (x:α) (suf:List α) (W:World),w.heap.size+2<=W.heap.size->I pre W->xs=pre++x::suf->body.wpIn (F.inRound l) (n-1-1) P (YO G I Ir (pre++[x]) W) (a₁ x) W)
  (hdone:∀(W:World),I xs W->W.heap[w.heap.size]? =some (.deferred (some []))->Q .normal {a with defers:={target:=.collected w.heap.size,args:= #[]}::a.defers} W)
  (hstop:∀(pre:List α) (W:World),pre<+:xs->Ir pre W->W.heap[w.heap.size]? =some (.deferred (some []))->Code.ret.wpIn F n P Q {a with defers:={target:=.collected w.heap.size,args:= #[]}::a.defers} W):
  (Code.rangeFunc g ps assign body).wpIn F n P Q a w:=by
 refine wpIn_rangeFunc ?_
 intro fn hfn
 rw[hro]
 obtain⟨rec,hrec⟩:∃rec:LoopState->Option Code->Loop,rec=fun st pe=>{state:=st,pending:=pe,fn,tmps:=a.tmps,params:=ps,assign,body,defers:=w.heap.size}:=⟨_,rfl⟩
 obtain⟨W1,hW1⟩:=ze ((w.alloc (.deferred (some []))).alloc (.loop (rec .ready none)))
 have hL1:W1.heap[w.heap.size+1]? =some (.loop (rec .ready none)):=by
  exact zD0
 have hK1:W1.heap[w.heap.size]? =some (.deferred (some [])):=by
  exact zEv
 have TD:O0 w W1:=by rw[<-hW1];exact((Only.refl _ w).alloc _).alloc _
 have hS1:W1.heap.size=w.heap.size+2:=by rw[<-hW1];simp
 have hput:∀(W:World) (o:Obj),Only (fun k=>D k\/k=w.heap.size\/k=w.heap.size+1) W (W.putObj (w.heap.size+1) o):=fun W o=>
  ⟨rfl,rfl,rfl,by simp,fun k _ hn=>World.putObj_heap_other (fun e=>hn (.inr (.inr e)))⟩
 have hcw:∀{W W':World},Only D W W'->Only (fun k=>D k\/k=w.heap.size\/k=w.heap.size+1) W W':=fun h=>h.mono fun _ hk=>.inl hk
 have hnc:∀k,w.heap.size<=k->¬D k:=fun k hk hc=>by have:=hD k hc;omega
 exact zB2
attribute [local go_sem] Oper.semAt_some
section
variable {w w':World} {B:Nat}
abbrev af8(s:Str):Value:=.string s
theorem L9{C:Nat->Prop}{W W':World}(h:zV C W W'){b i:Nat}{u:Value}(hb:C b)(hc:W.cell? ⟨b,i,none⟩=some u):W'.cell? ⟨b,i,none⟩=some u:=by have e:=h b hb;unfold World.cell? at hc⊢;rw[e];exact hc
theorem XR(n:Nat)(hn:1<=n){bx:Nat}{v:Value}{l:List Str}(hc:w.cell? ⟨bx,0,none⟩=some v)(hR:aQ 1 dN B w v l)(hlen:l.length<=1000000):
  af7 Fence.wide n Tryz.prog 373 #[.pointer (some ⟨bx,0,none⟩)] af8 (fun k=>k=bx\/0<l.length/\k<B) (fun _=>False) l w:=fun y J Jx W hC hsz hJ hJx hY h0=>by
 have HY:=zh hY
 have HC:=zh hC
 have HCx:=zh hc
 have c0:=L9 hC (.inl rfl) hc
 obtain⟨ao,cap,rfl,-,-⟩:=hR.shape
 have HR:=zh hR
 obtain⟨m,hm⟩:=ze l.length
 have HM:=zh hm
 rw[hm]at c0 hlen HCx
 clear hY hC hR hJ hJx hc hm
 refine callsIn_of_wp Tryz.func373 rfl trivial ?_ rfl
 simp only[Tryz.ntmps373,List.size_toArray,qN,List.length_nil,Nat.reduceAdd,Nat.reduceSub,Array.replicate_succ,Array.replicate_zero,List.push_toArray,List.append_toArray,List.nil_append,List.cons_append]
 gi_wp2
 gi_loopw [7] (fun vi wr=> ∃i:Nat,vi= .int .i64 i/\i<=m/\Hid (zV (fun k=>k=bx\/0<l.length/\k<B) w wr)/\Hid (J (l.take i) wr)) (fun v _=>m-(RowKit.intOf v).toNat)
 case atStart=>exact⟨0,rfl,qE _,HC,h0⟩
 case round=>
  obtain⟨i,rfl,hi,HCi,HJi⟩:=hrel
  by_cases ci:i<m
  ·obtain⟨x,hx⟩:=zG l i zBf
   have hil:i<l.length:=zBf
   obtain⟨b2,off2,rfl,hb2,hBb,hcell⟩:=HR.out.cells _ _ _ rfl zAB
   obtain⟨cs,g1,g2,g3,-⟩:=hcell i hil
   have hxe:l[i]=x:=by
    have:=qA hil
    rw[hx]at this
    exact(Option.some.inj this).symm
   rw[hxe]at g3
   subst g3
   have hce:=g2 0 _ rfl
   rw[qF,yH]at hce
   have ce:=L9 HCi.out (.inr ⟨by omega,hb2⟩) hce
   have c1:=L9 HCi.out (.inl rfl) HCx.out
   have hsplit:l=l.take i++x::l.drop (i+1):=by
    have h1:=List.take_append_drop i l
    rw[List.drop_eq_getElem_cons hil,hxe]at h1
    exact h1.symm
   obtain⟨fn,tmps,assign,body,hy,hRd⟩:=HY.out (l.take i) x (l.drop (i+1)) wr HJi.out hsplit
   have HRd:=zh hRd
   have kN:Hid (l.take i++[x]=l.take (i+1)):=by
    show _=_
    rw[List.take_add_one,hx];rfl
   have iG:=zw (i+1)
   clear hRd hsplit hce hcell g1 g2 hxe hx HY
   gi_wp2
   refine HRd.out.mono ?_
   rintro e W2 (⟨rfl,hJ2,hC2,hS2⟩| ⟨rfl,hJx⟩)
   ·rw[kN.out]at hJ2
    have H2:=zh (And.intro (HCi.out.trans hC2) hJ2)
    clear hJ2 hC2 HRd ce c1 hy
    gi_wp2
    go_roundw
    case rel=>exact⟨i+1,by first|rfl|go_num,by omega,H2.out.1,H2.out.2⟩
    case measure=>simp[RowKit.intOf]<;>omega
   ·rw[kN.out]at hJx
    gi_wp2
    refine bodyPost_ret (results_none rfl _ _ _) rfl ?_
    exact⟨⟨_,rfl⟩,.inr ⟨_,List.take_prefix _ _,hJx⟩⟩
  ·obtain rfl:m=i:=by omega
   have hJ:=HJi.out
   rw[qI (yG HM.out)]at hJ
   gi_wp2
   go_end0
   exact⟨⟨_,rfl⟩,.inl hJ⟩
def ApI(w:World)(b0 base:Nat)(pre:List Str)(W:World):Prop:= ∃v,Boxed W b0 81 v/\W.ownsRow base 9 1 v pre.length (fH pre)/\O0 w W
theorem ApI.keep{w:World}{b0 base:Nat}{pre:List Str}{W W':World}{F:Nat->Prop}(h:ApI w b0 base pre W)(ho:Only F W W')(h0:¬F b0)(hb:∀k,base<=k->¬F k)(hw:∀k,F k->k<w.heap.size->False):ApI w b0 base pre W':=by obtain⟨v,g1,g2,g3⟩:=h;exact⟨v,Boxed.only g1 ho h0,aG g2 ho (fun k hk=>hb k (g2.lt k hk).1),g3.trans ho fun k hk=>.inr (Nat.le_of_not_lt fun h=>hw k hk h)⟩
theorem Rl{bx:Nat}{l:List Str}(hS:∀n,1<=n->af7 Fence.wide n Tryz.prog 373 #[.pointer (some ⟨bx,0,none⟩)] af8 (fun k=>k=bx\/0<l.length/\k<B) (fun _=>False) l w)(hbx:bx<w.heap.size)(hB:0<l.length->B<=w.heap.size)(hlen:l.length<=1000000):Calls Tryz.prog 404 #[.slice none 0 0,.func (.func 373) #[] #[.pointer (some ⟨bx,0,none⟩)]] w fun e w'=> ∃v,e= .returned v/\w'.ownsRow 0 9 1 v l.length (fH l)/\(∀k,v.ownBlock=some k->w.heap.size<=k)/\O0 w w':=by
 refine(callsIn_wide (n:=9)).1 ?_;refine callsIn_of_wp_marks Tryz.func404 rfl trivial ?_ rfl;simp only[Tryz.ntmps404,List.size_toArray,qN,List.length_nil,Nat.reduceAdd,Nat.reduceSub,Array.replicate_succ,Array.replicate_zero,List.push_toArray,List.append_toArray,List.nil_append,List.cons_append];obtain⟨m,hm⟩:=ze w.heap.size;obtain⟨W0,hW0⟩:=ze (w.alloc (.cells #[.slice none 0 0] 81));have hb0:Boxed W0 m 81 (.slice none 0 0):=by rw[<-hW0,<-hm];exact Boxed.new w _ _
 have o0:O0 w W0:=by rw[<-hW0];exact(Only.refl _ w).alloc _
 have hs0:W0.heap.size=m+1:=by rw[<-hW0,<-hm];simp
 have HW:=zh (And.intro hb0 (And.intro o0 hs0));have HS:=zh hS;have HM:=zh hm;clear hb0 o0 hs0 hS;gi_wp2;obtain⟨hb0,o0,hs0⟩:=HW.out;have hm:=HM.out;refine aaD rfl zAB (gf:=373) (lb:= #[.pointer (some ⟨bx,0,none⟩)]) (C:=fun k=>k=bx\/0<l.length/\k<B) (enc:=af8) rfl trivial (enters_of Tryz.func373 zk rfl)
  (HS.out 8 zBU) (fun k hk=>by omega) (fun _ f=>f.elim) (fun k hk=>o0.block k (by have h:k=bx\/0<l.length/\k<B:=hk;omega) (fun f=>f)) zAB rfl
  (fun k=>k=m\/m+3<=k) (fun k hk=>by omega)
  (ApI w m (m+3)) (fun _ _=>False)
  (fun p W W' h ho=>h.keep (F:=fun k=>k=m+1\/k=m+2) (ho.mono fun k hk=>hk.elim (fun f=>f.elim) (fun h=>by omega)) zAB (fun k hk=>by omega) (fun k hk=>by omega))
  (fun p W W' h ho=>h)
  ⟨_,hb0,World.ownsRow_nil _ _ _ _,o0⟩ (a₁:=?a1) ?assign ?body ?done ?stop
 case assign=>intro l x W K hK;gi_wp2;exact hK
 case body=>
  rintro y pre x suf W hsz ⟨v,g1,g2,g3⟩ hx;have hpl:pre.length<=1000000:=by have:=congrArg List.length hx;simp at this;omega
  obtain⟨ao,cap,rfl,l1,l2⟩:=aJ g2;obtain⟨i0,z0,hi,hz0,hz1,hz2,hz3⟩:=zM.info;have HI0:=zh (And.intro hi (And.intro hz0 (And.intro hz1 (And.intro hz2 hz3))));obtain⟨W4,JB⟩:=ze (W.alloc (.cells #[.string x] 9));have o4:O0 W W4:=by rw[<-JB];exact zr.alloc _
  have hn4:W4.heap[W.heap.size]? =some (.cells #[.string x] 9 (0,0)):=by rw[<-JB];exact qL W _
  have HC4:Hid (∀(j:Nat) (u:Value),[Value.string x][j]? =some u->W4.cell? ((⟨W.heap.size,0,none⟩:Addr).add j)=some u):=fun j u hu=>by
   match j,hu with
   |0,hu=>simp at hu;subst hu;simp[World.cell?,Addr.add,hn4]
   |k+1,hu=>simp at hu
  have HOW:=zh (aG g2 o4 (fun _ _ f=>f));have HB4:=zh (Boxed.only g1 o4 (fun f=>f));have HNE:Hid (some m≠(Value.slice ao pre.length cap).ownBlock):=fun e=>by have:=(HOW.out.lt _ e.symm).1;omega
  have KY:=zh o4;have hs4:m+3<=W4.heap.size:=by have:=o4.size;omega
  have HG:=zh (And.intro g1 (And.intro g2 g3));have q4:=g1.cell;have f4:=g1.frozen;have q5:=HB4.out.cell;have f5:=HB4.out.frozen;have HsZ:=zh hsz;clear g1 g2 g3 o4 hn4 hi hz0 hz1 hz2 hz3 hx hb0 o0 hs0 HW;gi_wp2_with (gi_at_builtin;obtain⟨hi,hz0,hz1,hz2,hz3⟩:=HI0.out;refine wpListIn_append_own _ rfl _ _ 81 rfl (m+3) 9 i0 z0 1 16 zM.und hi hz0 hz1 hz2 hz3 zBV _ _ _ rfl HOW.out ⟨W.heap.size,0,none⟩ 1 1 [.string x] rfl rfl HC4.out (by simp[Value.oneCell']) zB0 zAB hs4 ?_;intro v' w5 hown' hgrow _;obtain⟨g5,cap5,rfl⟩:=ownsRow_succ hown';have hb5:=HB4.out.kept hgrow HNE.out;have cb5:=hb5.cell;have fb5:=hb5.frozen);obtain⟨g1,g2,g3⟩:=HG.out;have hsz:=HsZ.out;have hrow:∀k,(Value.slice ao pre.length cap).ownBlock=some k->m+3<=k:=fun k hk=>(HOW.out.lt _ hk).1;have acR:∀k,(Value.slice (some ⟨g5,0,none⟩) (pre.length+1) cap5).ownBlock=some k->m+3<=k:=fun k hk=>(hown'.lt _ hk).1;have oW:Only (fun k=>k=m\/m+3<=k) W w5:=(KY.out.mono fun _ f=>f.elim).grown hgrow fun k hk=>.inl (.inr (hrow k hk));have ow5:O0 w w5:=(g3.same KY.out).grown hgrow fun k hk=>.inr (by have:=hrow k hk;omega);refine⟨oW.setCell (p:=⟨m,0,none⟩) (.inl (.inl rfl)) _,_,hb5.set _,?_,ow5.setCell (p:=⟨m,0,none⟩) (.inr (by show _<=m;omega)) _⟩;have e9:fH (pre++[x])=fH pre++[.string x]:=by simp[fH]
  rw[qK,e9];exact aG hown' ((Only.refl (fun k=>k=m) w5).setCell (p:=⟨m,0,none⟩) (.inl rfl) _) (fun k hk e=>by have:=acR k hk;omega)
 case done=>rintro W ⟨v,g1,g2,g3⟩ hK;obtain⟨ao,cap,rfl,l1,l2⟩:=aJ g2;have q1:=g1.cell;have HG:=zh (And.intro g1 (And.intro g2 g3));have HK:=zh hK;have hD:=hs0;clear g1 g2 g3 hK;gi_wp2;obtain⟨g1,g2,g3⟩:=HG.out;refine⟨by simp,.inl ⟨_,_,rfl,run_takeDeferred HK.out,?_⟩⟩;have o3:Only (fun k=>k=W0.heap.size) W (W.putObj W0.heap.size (.deferred none)):=⟨rfl,rfl,rfl,by simp,fun k _ hn=>World.putObj_heap_other hn⟩;have hrow:∀k,(Value.slice ao l.length cap).ownBlock=some k->m+3<=k:=fun k hk=>(g2.lt _ hk).1;refine⟨_,results_tmp rfl _ _ _,_,rfl,Ul (aG g2 o3 fun k hk e=>by have:=hrow k hk;omega),fun k hk=>by have:=hrow k hk;omega,g3.trans o3 fun k hk=>.inr zAB⟩
 case stop=>exact fun pre W h hf=>hf.elim
end
section
variable {w w':World} {B:Nat}
abbrev aiU(bx:Nat):Value:=.func (.func 373) #[] #[.pointer (some ⟨bx,0,none⟩)]
theorem aaF(ao:Option Addr)(n c:Nat)(w:World):Calls Tryz.prog 334 #[.slice ao n c] w fun e w'=>e= .returned (aiU w.heap.size)/\w'=w.alloc (.cells #[.slice ao n c] 81):=by go_enter Tryz.func334,Tryz.ntmps334;exact zCG
structure U6 (w:World) (B bx:Nat) (l:List Str):Prop where
 seq:∀n,1<=n->af7 Fence.wide n Tryz.prog 373 #[.pointer (some ⟨bx,0,none⟩)] af8 (fun k=>k=bx\/0<l.length/\k<B) (fun _=>False) l w
 box:bx<w.heap.size
 low:0<l.length->B<=w.heap.size
 len:l.length<=1000000
theorem U6.of{ao:Option Addr}{c:Nat}{l:List Str}(h:aQ 1 dN B w (.slice ao l.length c) l)(hl:l.length<=1000000):U6 (w.alloc (.cells #[.slice ao l.length c] 81)) B w.heap.size l:=by have o:O0 w (w.alloc (.cells #[.slice ao l.length c] 81)):=zr.alloc _;refine⟨fun n hn=>XR n hn (by rw[aj (qL w _)];rfl) (h.keep dN.keep (Kp.gV o)) hl,by simp,fun h0=>?_,hl⟩;obtain⟨_,_,_,_,hB,_⟩:=h.cells _ _ _ rfl h0;exact qR hB o.size
theorem XV{bx:Nat}{l:List Str}(h:U6 w B bx l):Calls Tryz.prog 372 #[aiU bx] w fun e w'=> ∃v,e= .returned v/\w'.ownsRow 0 9 1 v l.length (fH l)/\(∀k,v.ownBlock=some k->w.heap.size<=k)/\O0 w w':=by have HC:=zh (Rl h.seq h.box h.low h.len);clear h;go_enter Tryz.func372,Tryz.ntmps372;go_wp2_with fail;refine HC.out.mono ?_;rintro e w1 ⟨v,rfl,r1,b1,o1⟩;have H:=zh (And.intro r1 (And.intro b1 o1));obtain⟨ao,c,rfl,-,-⟩:=aJ r1;clear r1 b1 o1;go_wp2_with fail;go_ret;exact⟨_,rfl,H.out⟩
theorem aaG{bx:Nat}{l:List Str}(h:U6 w B bx l):Calls Tryz.prog 333 #[aiU bx] w fun e w'=> ∃v,e= .returned v/\w'.ownsRow 0 9 1 v l.length (fH (uF l))/\(∀k,v.ownBlock=some k->w.heap.size<=k)/\O0 w w':=by have HC:=zh (XV h);have hl:=h.len;obtain⟨n,hn⟩:=ze l.length;have HN:=zh hn;rw[hn]at HC hl⊢;clear h hn;go_enter Tryz.func333,Tryz.ntmps333;go_wp2_with fail;refine HC.out.mono ?_;rintro e w1 ⟨v,rfl,r1,b1,o1⟩;have HS:=zh (Rk HN.out r1 hl);have H:=zh (And.intro b1 o1);obtain⟨ao,c,rfl,-,-⟩:=aJ r1;clear r1 b1 o1;go_wp2_with fail;refine HS.out.mono ?_;rintro e w2 ⟨rfl,r2,o2⟩;have H2:=zh (And.intro r2 o2);clear r2 o2;go_wp2_with fail;go_ret;obtain⟨b1,o1⟩:=H.out;exact⟨_,rfl,H2.out.1,b1,o1.trans H2.out.2 fun k hk=>.inr (b1 k hk)⟩
theorem U7{v:Value}{l:List Str}(h:aQ 1 dN B w v l)(hl:l.length<=1000000):Calls Tryz.prog 265 #[v] w fun e w'=>e= .returned (.bool (!dA l))/\O0 w w':=by
 obtain⟨ao,c,rfl,-,-⟩:=h.shape;have HV:=zh (aaF ao l.length c w);have HS:=zh (aaG (U6.of h hl));rw[<-aaE];obtain⟨W0,hW0⟩:=ze (w.alloc (.cells #[.slice ao l.length c] 81));have iZ:Hid (O0 w W0):=by rw[<-hW0];exact zr.alloc _
 rw[hW0]at HV HS;obtain⟨m,hm⟩:=ze ((iR (uF l)).length);obtain⟨n,hn⟩:=ze l.length;have HM:=zh (And.intro hm hn);rw[hn]at HV HS hl⊢;rw[hm];clear h hm hn hW0;go_enter Tryz.func265,Tryz.ntmps265;go_wp2_with fail;refine HV.out.mono ?_;rintro e w1 ⟨rfl,rfl⟩;go_wp2_with fail;refine HS.out.mono ?_;rintro e w2 ⟨v2,rfl,r2,b2,o2⟩;have HC:=zh (LY (by rw[CJ];exact HM.out.2) r2);have H2:=zh (And.intro b2 o2);obtain⟨nJ,c2,rfl,-,-⟩:=aJ r2;clear r2 b2 o2;rw[HM.out.1]at HC;go_wp2_with fail;refine HC.out.mono ?_;rintro e w3 ⟨v3,rfl,r3,-,o3⟩;have H3:=zh o3;obtain⟨NP,c3,rfl,-,-⟩:=aJ r3;clear r3 o3;have hd:decide ((m:Int)<(n:Int))=decide (m<n):=decide_eq_decide.2 zAB;go_wp2_with fail;go_ret;refine⟨by first|rfl| (rw[hd]),iZ.out.same (H2.out.2.trans H3.out fun k hk=>.inr (H2.out.1 k hk))⟩
end
end Go.Proofs.YtdmmebjjojimiaaGreatDoor
namespace Go.Proofs.YtdmmebjjojimiaaGreatDoor
open Go.RowKit Go.Shelf
end Go.Proofs.YtdmmebjjojimiaaGreatDoor
namespace Go.Proofs
theorem zCI{p:Prop}(h:p:=by
 go_wp2_with fail
 refine H.out.mono ?_
 rintro e w1 ⟨rfl,O1⟩
 go_wp2_with fail
 go_ret
 refine⟨?_,O1⟩
 first
  |rfl
  | (rw[<-hr];rfl)
  | (rw[<-hr];simp)
  |simp):p:=h
end Go.Proofs
namespace Go.Proofs.YtdmmebjjojimiaaGreatDoor
open Go.RowKit Go.Shelf
section
variable {w w':World} {B:Nat}
theorem Ro{v:Value}{xs:List kC}(h:aQ 2 ji B w v xs){g:Nat}{cb:Array Value}{p:kC->Bool}(eg:∀args w,(callFunc g args).run Tryz.prog w= .ok (.enter g args) w)(hp:wZ ji B g cb p w):Calls Tryz.prog 335 #[v,.func (.func g) #[] cb] w fun e w'=>e= .returned (.int .i64 (kR p xs))/\O0 w w':=by
 obtain⟨ao,cap,rfl,hc1,hc2⟩:=h.shape;have HH:=zh h;have Jm:=zh hp;obtain⟨n,hn⟩:=ze xs.length;have HN:=zh hn;rw[hn]at hc1⊢;clear h hp hn;go_enter Tryz.func335,Tryz.ntmps335;go_wp2_with fail;go_loopw [5,8] (fun _ vi wr=>Hid (O0 w wr)/\∃i:Nat,vi= .int .i64 i/\i<=n/\Hid (∀x∈xs.take i,p x=false)) (fun _ v _=>n-(intOf v).toNat);case atStart=>exact⟨show Hid _ from Only.refl _ _,0,rfl,qE _,show Hid _ from fun x hx=>by simp at hx⟩
 case round=>
  obtain⟨HO,i,rfl,hi,HZ⟩:=hrel;by_cases ci:i<n
  ·have h2:=HH.out;rw[HN.out]at h2;obtain⟨b,off,he,-,-⟩:=h2.at zAi;subst he;obtain⟨x,hx⟩:=zG xs i zAT;obtain⟨cs,hl,hr,hC⟩:=(h2.keep ji.keep (Kp.gV HO.out)).get hx;have iG:=zw (i+1);have HR:=zh hr;have HL:=zh hl;have HX:=zh hx;have HC:=zh (Jm.out wr cs x HO.out hC);obtain⟨y,hy⟩:=ze (p x);rw[hy]at HC;have HY:=zh hy;clear hr hx hy h2 hl hC;cases y with
   |true=>go_wp2_with (refine wpList_load_mid rfl 117 (.tmp 14) rfl b (off+i*2) rfl cs _ HR.out Tryz.underlying117 rfl zAg ?_);exact zCE
   |false=>go_wp2_with (refine wpList_load_mid rfl 117 (.tmp 14) rfl b (off+i*2) rfl cs _ HR.out Tryz.underlying117 rfl zAg ?_);exact zB3
  exact zCB
theorem Js{v:Value}{xs:List kC}(h:aQ 2 ji B w v xs){g:Nat}{cb:Array Value}{p:kC->Bool}(eg:∀args w,(callFunc g args).run Tryz.prog w= .ok (.enter g args) w)(hp:wZ ji B g cb p w)(r:Bool)(hr:decide (0<=kR p xs)=r):Calls Tryz.prog 266 #[v,.func (.func g) #[] cb] w fun e w'=>e= .returned (.bool r)/\O0 w w':=by have H:=zh (Ro h eg hp);obtain⟨i,hi⟩:=ze (kR p xs);rw[hi]at H hr;clear h hp hi;go_enter Tryz.func266,Tryz.ntmps266;exact zCI
theorem Rq{v:Value}{xs:List eP}(h:aQ 2 jM B w v xs){g:Nat}{cb:Array Value}{p:eP->Bool}(eg:∀args w,(callFunc g args).run Tryz.prog w= .ok (.enter g args) w)(hp:wZ jM B g cb p w):Calls Tryz.prog 336 #[v,.func (.func g) #[] cb] w fun e w'=>e= .returned (.int .i64 (kR p xs))/\O0 w w':=by
 obtain⟨ao,cap,rfl,hc1,hc2⟩:=h.shape;have HH:=zh h;have Jm:=zh hp;obtain⟨n,hn⟩:=ze xs.length;have HN:=zh hn;rw[hn]at hc1⊢;clear h hp hn;go_enter Tryz.func336,Tryz.ntmps336;go_wp2_with fail;go_loopw [5,8] (fun _ vi wr=>Hid (O0 w wr)/\∃i:Nat,vi= .int .i64 i/\i<=n/\Hid (∀x∈xs.take i,p x=false)) (fun _ v _=>n-(intOf v).toNat);case atStart=>exact⟨show Hid _ from Only.refl _ _,0,rfl,qE _,show Hid _ from fun x hx=>by simp at hx⟩
 case round=>
  obtain⟨HO,i,rfl,hi,HZ⟩:=hrel;by_cases ci:i<n
  ·have h2:=HH.out;rw[HN.out]at h2;obtain⟨b,off,he,-,-⟩:=h2.at zAi;subst he;obtain⟨x,hx⟩:=zG xs i zAT;obtain⟨cs,hl,hr,hC⟩:=(h2.keep jM.keep (Kp.gV HO.out)).get hx;have iG:=zw (i+1);have HR:=zh hr;have HL:=zh hl;have HX:=zh hx;have HC:=zh (Jm.out wr cs x HO.out hC);obtain⟨y,hy⟩:=ze (p x);rw[hy]at HC;have HY:=zh hy;clear hr hx hy h2 hl hC;cases y with
   |true=>go_wp2_with (refine wpList_load_mid rfl 145 (.tmp 14) rfl b (off+i*2) rfl cs _ HR.out Tryz.underlying145 rfl zAg ?_);exact zCE
   |false=>go_wp2_with (refine wpList_load_mid rfl 145 (.tmp 14) rfl b (off+i*2) rfl cs _ HR.out Tryz.underlying145 rfl zAg ?_);exact zB3
  exact zCB
theorem Jt{v:Value}{xs:List eP}(h:aQ 2 jM B w v xs){g:Nat}{cb:Array Value}{p:eP->Bool}(eg:∀args w,(callFunc g args).run Tryz.prog w= .ok (.enter g args) w)(hp:wZ jM B g cb p w)(r:Bool)(hr:decide (0<=kR p xs)=r):Calls Tryz.prog 268 #[v,.func (.func g) #[] cb] w fun e w'=>e= .returned (.bool r)/\O0 w w':=by have H:=zh (Rq h eg hp);obtain⟨i,hi⟩:=ze (kR p xs);rw[hi]at H hr;clear h hp hi;go_enter Tryz.func268,Tryz.ntmps268;exact zCI
theorem Ob{v:Value}{xs:List uQ}(h:aQ 3 lK B w v xs){g:Nat}{cb:Array Value}{p:uQ->Bool}(eg:∀args w,(callFunc g args).run Tryz.prog w= .ok (.enter g args) w)(hp:wZ lK B g cb p w):Calls Tryz.prog 270 #[v,.func (.func g) #[] cb] w fun e w'=>e= .returned (.int .i64 (kR p xs))/\O0 w w':=by
 obtain⟨ao,cap,rfl,hc1,hc2⟩:=h.shape;have HH:=zh h;have Jm:=zh hp;obtain⟨n,hn⟩:=ze xs.length;have HN:=zh hn;rw[hn]at hc1⊢;clear h hp hn;go_enter Tryz.func270,Tryz.ntmps270;go_wp2_with fail;go_loopw [5,8] (fun _ vi wr=>Hid (O0 w wr)/\∃i:Nat,vi= .int .i64 i/\i<=n/\Hid (∀x∈xs.take i,p x=false)) (fun _ v _=>n-(intOf v).toNat);case atStart=>exact⟨show Hid _ from Only.refl _ _,0,rfl,qE _,show Hid _ from fun x hx=>by simp at hx⟩
 case round=>
  obtain⟨HO,i,rfl,hi,HZ⟩:=hrel;by_cases ci:i<n
  ·have h2:=HH.out;rw[HN.out]at h2;obtain⟨b,off,he,-,-⟩:=h2.at zAi;subst he;obtain⟨x,hx⟩:=zG xs i zAT;obtain⟨cs,hl,hr,hC⟩:=(h2.keep lK.keep (Kp.gV HO.out)).get hx;have iG:=zw (i+1);have HR:=zh hr;have HL:=zh hl;have HX:=zh hx;have HC:=zh (Jm.out wr cs x HO.out hC);obtain⟨y,hy⟩:=ze (p x);rw[hy]at HC;have HY:=zh hy;clear hr hx hy h2 hl hC;cases y with
   |true=>go_wp2_with (refine wpList_load_mid rfl 103 (.tmp 14) rfl b (off+i*3) rfl cs _ HR.out Tryz.underlying103 rfl zAg ?_);exact zCE
   |false=>go_wp2_with (refine wpList_load_mid rfl 103 (.tmp 14) rfl b (off+i*3) rfl cs _ HR.out Tryz.underlying103 rfl zAg ?_);exact zB3
  exact zCB
theorem Ii{v:Value}{xs:List uQ}(h:aQ 3 lK B w v xs){g:Nat}{cb:Array Value}{p:uQ->Bool}(eg:∀args w,(callFunc g args).run Tryz.prog w= .ok (.enter g args) w)(hp:wZ lK B g cb p w)(r:Bool)(hr:decide (0<=kR p xs)=r):Calls Tryz.prog 187 #[v,.func (.func g) #[] cb] w fun e w'=>e= .returned (.bool r)/\O0 w w':=by have H:=zh (Ob h eg hp);obtain⟨i,hi⟩:=ze (kR p xs);rw[hi]at H hr;clear h hp hi;go_enter Tryz.func187,Tryz.ntmps187;exact zCI
end
end Go.Proofs.YtdmmebjjojimiaaGreatDoor
