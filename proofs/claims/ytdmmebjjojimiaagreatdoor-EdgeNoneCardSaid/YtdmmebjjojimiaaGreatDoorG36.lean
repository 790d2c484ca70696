/- EdgeNone: the walk. Printed by gen_ednone.py. -/
import Derived.Test.YtdmmebjjojimiaaGreatDoorG35
set_option maxRecDepth 100000
set_option maxHeartbeats 8000000
set_option linter.all false
namespace Go.Proofs.YtdmmebjjojimiaaGreatDoor
open Go.RowKit
section
variable {w w':World} {B:Nat}
attribute [local irreducible] wpQuiet
theorem Yi{v:Value}{bs:List Bool}{n:Nat}(hn:bs.length=n)(h:w.ownsRow 0 4 1 v n (bs.map Value.bool)):aQ 1 Bo w.heap.size w v bs:=by
 subst hn;refine aQ.fH h fun i hi=>⟨[.bool bs[i]],rfl,fun j u hu=>?_,rfl⟩;obtain rfl:j=0:=by have:=(qJ.1 hu).1;simp at this;exact this
 rw[yH,qF,List.getElem?_map,qA hi];exact hu
theorem aeb{g:GD}(h:g.off=List.replicate (dV g.x g.q (g.x.closure g.q.names)).length true):¬sN g:=by rintro⟨n,hn,ho⟩;unfold onB at ho;rw[h,List.length_replicate,qP zBk,Bool.false_or]at ho;simp[qC,hn]at ho
theorem aa0{x:aH}{q:fV}(hs:rM x)(hq:q.roots.length<=40)(h:GZ x q)(jG:List Nat):GR (gOf x q (x.closure q.names) jG):=by
 have ok:=DR hs hq;refine⟨ok,?_,ahH fun p hp v hv=>((h.all p hp).vars.2 v hv).1⟩;show(dV x q (x.closure q.names)).length<=100000;unfold dV;rw[qK];have h1:(eU q q.roots.length).length=q.roots.length:=by unfold eU;simp
 have h2:=AO (x:=x) (l:=x.closure q.names) fun p hp=>by have:=ok.lt p hp;have hm:x.pack p∈x.packs:=aH.iW this;exact FD (ok.deps _ hm) (ok.cons _ hm)
 have h3:=Nat.mul_le_mul_right 2000 (show(x.closure q.names).length<=8 by have:=x.qm q.names;have:=h.packs;omega);rw[h1];omega
theorem aec{x:aH}{l jG:List Nat}{t:Nat}(ht:t<x.packs.length)(h:fQ (pq x l jG x.packs.length).1 (t:Int)=true):t∈l:=by
 obtain⟨p,e1,h2,h3⟩:=qg h;have e:p=t:=zBk;subst e;obtain⟨n,hn⟩:=LW x l jG x.packs.length p ht;rw[hn]at h3;by_cases hm:p∈l;·exact hm
 rw[qP hm]at h3;have:(0:Int)<= -1:=h3;omega
theorem OZ{tZ:List Value}{x:aH}(hx:jl B w tZ x){Iy:List Value}{q:fV}(hq:mV B w Iy q){adP:Value}{jG:List Nat}(adQ:aQ 1 YI B w adP jG)(hBw:B<=w.heap.size)(hLd:Laid w):Calls Tryz.prog 4 #[.agg tZ.toArray,.agg Iy.toArray,adP] w fun e w'=>e= .returned (.bool true)/\O0 w w':=by
 obtain⟨bQ,aj,aT,bg,aP,aU,rfl,jm,jo,iO,iP,aB,fO,uK⟩:=open_rec hx;clear hx;try rw[aB.out]
 obtain⟨dJ,bF,dL,rfl,qy,qB,fC,JE⟩:=rH hq;clear hq;try rw[fC.out]
 obtain⟨agJ,agK,agL,rfl,amc,aiM,amd,Vx⟩:=open_bytes adQ;clear adQ;obtain⟨W0,hW0,bW,nR,aG⟩:=Aj w (.slice bQ aj aT) (.slice bg aP aU) (.slice dJ bF dL) 25 28;obtain⟨kC,dP,eP⟩:=uK W0 bW.out;clear uK;obtain⟨zQ,jA⟩:=JE W0 bW.out;clear JE;have XV:=Vx W0 bW.out;clear Vx;have HGt:=zh (Q8 (kC.out W0 zr) (zQ.out W0 zr));obtain⟨k0,k1,k2⟩:=aG.out W0 zr;rw[hW0]at k0 k1 k2;go_enter Tryz.func4,Tryz.ntmps4;go_wp2_with fail;rw[<-hW0]at k0 k1 k2⊢;clear hW0;refine HGt.out.mono ?_;rintro e w2 ⟨b2,rfl,hf2,O2⟩;have fK:=zh O2;have ajm:Hid (O0 w w2):=bW.out.same O2;clear O2 HGt k0 k1 k2;obtain⟨k0,k1,k2⟩:=aG.out w2 fK.out;cases b2 with
 |true=>clear hf2;go_wp2_with fail;refine(JV (hLd.only ajm.out)).mono ?_;rintro e w9 ⟨rfl,O9⟩;have rY:=zh (fK.out.same O9);clear O9;exact zCr
 |false=>
  replace hf2:=hf2 rfl;obtain⟨hs,hq,hch,hsp⟩:=hf2;have HE:Hid (jf x q):=⟨hs,hch,hsp⟩;have arO:Hid (∀s∈x.names q,okS s):=aea (kC.out w2 fK.out) (zQ.out w2 fK.out);have anh:=zh (ab9 (kC.out w2 fK.out) (zQ.out w2 fK.out) (qR hBw ajm.out.size) hs hq 20000 ⟨by decide,by decide⟩ 20000 zAG);have ani:Hid (Laid w2):=hLd.only ajm.out;clear hs hq hch hsp;go_wp2_with fail;refine anh.out.mono ?_;rintro e W1 ⟨ca,bta,bba,gta,gba,Ga,Bsa,rfl,hG,hx',hq',hI',hR',hM,hLb,hB3,hBc,hB5,O4⟩;have ac6:=zh (fK.out.same O4);have hX1:DV W1 gta gba ca bta bba Ga Bsa (VP x q) (T20,xA.B0):=⟨hG,hx',hq',hI',hLb,hR',hM,hB5,((zY.of ani.out (qH _)).more hB3).keep (Kp.iI O4),fun j hj=>by have:j<0:=hj;omega⟩;have HX1:=zh hX1;have anj:Hid (O0 w2 W1):=O4;have HCh:=zh (Xh hG hx' hI' HE.out.lt HE.out.mid hM hB5 (by have:=HE.out.len;omega));have YE:Hid (∀k,Mine gta k\/Mine gba k->w2.heap.size<=k):=fun k hk=>by have:=hM k hk;omega
  clear hG hx' hq' hI' hR' hM hLb hB3 hBc hB5 O4 hX1 anh;obtain⟨k0,k1,k2⟩:=aG.out W1 ac6.out;go_wp2_with fail;refine HCh.out.mono ?_;rintro e w3 ⟨rfl,hG3⟩;have hX3:=HX1.out.step (S2:=TB.choices (T20,xA.B0) x (x.closure q.names)) hG3 (iQ.choices x _ (S:=(T20,xA.B0)) (fun j hj=>by have:j<0:=hj;omega));clear hG3 HCh;obtain⟨gt3,gb3,ank,hA3,hB3,O3⟩:=hX3;have HX3:=zh ank;have mO:Hid (O0 w2 w3):=by have h1:O0 w2 W1:=anj.out;exact h1.trans O3 fun k hk=>.inr (YE.out k hk)
  have HMb:Hid (∀k,Mine gt3 k\/Mine gb3 k->w2.heap.size<=k):=fun k hk=>by
   rcases yK k W1.heap.size with h|h;·refine YE.out k ?_;unfold Mine at hk⊢;rwa[hA3 k h,hB3 k h]at hk
   exact qR anj.out.size h
  clear ank hA3 hB3 O3 HX1 k0 k1 k2;have HEd:=zh (Zk HX3.out (HE.out.edq arO.out));go_wp2_with fail;refine HEd.out.mono ?_;rintro e w4 ⟨rfl,vM,vN,hX4,hA4,hB4,O4⟩;have HGa:Hid (nD w4 vM vN ca bta bba Ga (Bg x q).1 (Bg x q).2):=hX4.gr;have xw:Hid (O0 W0 w4):=(fK.out.same mO.out).trans O4 fun k hk=>.inr (by have:=HMb.out k hk;have:=fK.out.size;omega);have anl:Hid (O0 w2 w4):=mO.out.trans O4 fun k hk=>.inr (HMb.out k hk);clear hX4 hA4 hB4 O4 HEd HX3 YE HMb;obtain⟨S,hS⟩:=ze (Bg x q);have HS:=zh hS;rw[hS]at HGa;clear hS;obtain⟨k0,k1,k2⟩:=aG.out w4 xw.out;have HOf:=zh (aiL (kC.out w4 xw.out) (zQ.out w4 xw.out) (XV.out w4 xw.out) HE.out.mid HE.out.lt (qR hBw (bW.out.same xw.out).size));go_wp2_with fail;refine HOf.out.mono ?_;rintro e w5 ⟨csm,rfl,hGm,O5,hnil⟩;have FI:=zh (xw.out.same O5);have af9:=zh O5;have HGm:=zh hGm;obtain⟨u1,u2,u3,u4,u5,rfl,r1,r2,r3,r4,r5⟩:=hGm;obtain⟨p1,c1,rfl,-,-⟩:=r1.shape;obtain⟨p2,c2,rfl,-,-⟩:=r2.shape;obtain⟨p3,c3,rfl,-,-⟩:=r3.shape;obtain⟨p4,c4,rfl,-,-⟩:=r4.shape;have Wy:u5=bP:=hnil;subst Wy;clear hnil r5;obtain⟨n1,e1⟩:=ze ((gOf x q (x.closure q.names) jG).x.packs.length);obtain⟨n2,e2⟩:=ze ((gOf x q (x.closure q.names) jG).x.iH.length);obtain⟨n3,e3⟩:=ze ((gOf x q (x.closure q.names) jG).q.roots.length);obtain⟨n4,e4⟩:=ze ((gOf x q (x.closure q.names) jG).c.length);rw[e1]at r1;rw[e2]at r2;rw[e3]at r3;rw[e4]at r4;rw[e1,e2,e3,e4]at HGm⊢;have HR1:=zh r1;have HR2:=zh r2;have HR3:=zh r3;have HR4:=zh r4;clear O5 HOf r1 r2 r3 r4 e1 e2 e3 e4 k0 k1 k2;obtain⟨nL,OL⟩:=ze ((dV x q (x.closure q.names)).length);have HNL:=zh OL;have apS:nL<=200:=by rw[<-OL];exact HE.out.rules
  have H6z:Hid ((w5.alloc (.cells #[bP,bP,bP,bP,bP] 60)).heap[w5.heap.size]? =some (.cells #[bP,bP,bP,bP,bP] 60)):=qL w5 _;have ajn:Hid (O0 w5 ((w5.alloc (.cells #[bP,bP,bP,bP,bP] 60)).setRow w5.heap.size #[.slice p1 n1 c1,.slice p2 n2 c2,.slice p3 n3 c3,.slice p4 n4 c4,bP])):=(zr.alloc _).trans (dN _ _ _) fun k hk=>.inr (yG hk.symm);have yx:Hid (O0 W0 ((w5.alloc (.cells #[bP,bP,bP,bP,bP] 60)).setRow w5.heap.size #[.slice p1 n1 c1,.slice p2 n2 c2,.slice p3 n3 c3,.slice p4 n4 c4,bP])):=FI.out.same ajn.out;have HB7:Hid (((w5.alloc (.cells #[bP,bP,bP,bP,bP] 60)).setRow w5.heap.size #[.slice p1 n1 c1,.slice p2 n2 c2,.slice p3 n3 c3,.slice p4 n4 c4,bP]).heap[w5.heap.size]? =some (.cells #[.slice p1 n1 c1,.slice p2 n2 c2,.slice p3 n3 c3,.slice p4 n4 c4,bP] 60 (0,0))):=setRow_heap _ _ _ _ _ _ H6z.out;have Uw:Hid (∀W,O0 W0 W->Calls Tryz.prog 25 #[.agg #[.slice bQ aj aT,.slice bg aP aU],.agg #[.slice dJ bF dL]] W fun e w'=> ∃a cp,e= .returned (.slice a nL cp)/\O0 W w'):=fun W ho=>by refine(yB (kC.out W ho) (zQ.out W ho) (DR HE.out.sm (by have:=HE.out.ch.roots;omega))).mono ?_;rintro e w' ⟨v,he,hr,h3⟩;obtain⟨a,cp,rfl,-,-⟩:=aC hr.1;rw[HNL.out]at he;exact⟨a,cp,he,h3⟩
  clear OL;obtain⟨k0,k1,k2⟩:=aG.out w5 FI.out;go_wp2_with (refine wpList_store_row rfl 60 (.tmp 8) (.tmp 25) rfl w5.heap.size #[.slice p1 n1 c1,.slice p2 n2 c2,.slice p3 n3 c3,.slice p4 n4 c4,bP] rfl rfl 60 #[bP,bP,bP,bP,bP] H6z.out zk rfl zk ?_;obtain⟨k0,k1,k2⟩:=aG.out _ yx.out);refine(Uw.out _ yx.out).mono ?_;rintro e w8 ⟨a8,c8,rfl,O8⟩;obtain⟨R,hR⟩:=ze w5.heap.size;have aga:Hid (O0 w5 w8):=ajn.out.same O8;have HB8:Hid (w8.heap[R]? =some (.cells #[.slice p1 n1 c1,.slice p2 n2 c2,.slice p3 n3 c3,.slice p4 n4 c4,bP] 60 (0,0))):=by rw[<-hR];exact aF HB7.out O8 (fun f=>f)
  have SA:Hid (W0.heap.size<=R):=by rw[<-hR];exact FI.out.size
  have Iu:Hid (O0 W0 w8):=FI.out.same aga.out;have HR5:Hid (w5.heap.size=R):=hR;rw[hR];clear O8 hR H6z ajn yx HB7 Uw k0 k1 k2;go_wp2_with fail;go_loopw [30] (fun vi dG=>Hid (Only (fun k=>k=R) w8 dG)/\∃i:Nat,vi= .int .i64 i/\i<=nL/\∃vo:Value,Hid (dG.heap[R]? =some (.cells #[.slice p1 n1 c1,.slice p2 n2 c2,.slice p3 n3 c3,.slice p4 n4 c4,vo] 60 (0,0)))/\Hid (dG.ownsRow 0 4 1 vo i ((List.replicate i true).map Value.bool))/\Hid (∀k,vo.ownBlock=some k->w8.heap.size<=k)) (fun v _=>nL-(RowKit.intOf v).toNat);case atStart=>exact⟨show Hid _ from Only.refl _ _,0,rfl,qE _,bP,HB8,World.ownsRow_nil _ _ _ _,fun k hk=>by cases hk⟩
  case round=>
   obtain⟨dG,rfl⟩:=zB wr;obtain⟨gV,i,rfl,hi,vo,HB,HVo,HBo⟩:=hrel;obtain⟨k0,k1,k2⟩:=aG.out dG (Iu.out.trans gV.out fun k hk=>.inr (by rw[hk];exact SA.out));by_cases ci:i<nL
   ·clear k0 k1 k2;have jh:=zw (i+1);have q4:=ah HB.out 4;have hVl:=HVo.out;obtain⟨ao,co,rfl,-,-⟩:=aC HVo.out;go_wp2_with (at_builtin;go_must (refine tC (u:=.bool true) Hl rfl (.tmp 33) (.tmp 34) rfl rfl rfl (cell_new0 _ _ _) rfl (aI HVo.out ((Only.refl (fun _=>False) _).alloc _) (fun _ _ f=>f)) zBk zBl ?_));intro v9 w9 s1 s2 s3;have awZ:R<w8.heap.size:=dR HB8.out;have o9:Only (fun k=>(.slice ao i co:Value).ownBlock=some k) dG w9:=(zr.alloc _).same s2;have HB9:Hid (w9.heap[R]? =some (.cells #[.slice p1 n1 c1,.slice p2 n2 c2,.slice p3 n3 c3,.slice p4 n4 c4,.slice ao i co] 60 (0,0))):=aF HB.out o9 (fun hk=>by have:=HBo.out R hk;omega);have qf:=iG HB9.out 4;have qc:w9.cell? ⟨R,4,none⟩=some (.slice ao i co):=by have h:=ah HB9.out 4;exact h
    have rY:Hid (Only (fun k=>k=R) w8 w9):=gV.out.trans o9 fun k hk=>.inr (HBo.out k hk);have anm:Hid (∀k,v9.ownBlock=some k->w8.heap.size<=k):=by
     intro k hk;obtain⟨g,cap',rfl,-,-,h|h⟩:=s3;·simp[Value.ownBlock]at hk;subst hk;exact HBo.out _ h
     simp[Value.ownBlock]at hk;subst hk;have:=gV.out.size;simp at h;omega
    have HV9:Hid (w9.ownsRow 0 4 1 v9 (i+1) ((List.replicate (i+1) true).map Value.bool)):=by
     have e:(List.replicate (i+1) true).map Value.bool=List.replicate i (.bool true)++[.bool true]:=by rw[List.map_replicate,List.replicate_succ']
     rw[e];exact zh (by simpa using s1)
    obtain⟨g6,c6,rfl,-,-,-⟩:=s3;have arR:Hid ((w9.setCell ⟨R,4,none⟩ (.slice (some ⟨g6,0,none⟩) (i+1) c6)).heap[R]? =some (.cells #[.slice p1 n1 c1,.slice p2 n2 c2,.slice p3 n3 c3,.slice p4 n4 c4,.slice (some ⟨g6,0,none⟩) (i+1) c6] 60 (0,0))):=jX HB9.out 4 _;have RD:Hid (Only (fun k=>k=R) w8 (w9.setCell ⟨R,4,none⟩ (.slice (some ⟨g6,0,none⟩) (i+1) c6))):=rY.out.setCell (p:=⟨R,4,none⟩) (.inl rfl) _;have arS:Hid ((w9.setCell ⟨R,4,none⟩ (.slice (some ⟨g6,0,none⟩) (i+1) c6)).ownsRow 0 4 1 (.slice (some ⟨g6,0,none⟩) (i+1) c6) (i+1) ((List.replicate (i+1) true).map Value.bool)):=aI HV9.out ((Only.refl (fun k=>k=R) _).setCell (p:=⟨R,4,none⟩) (.inl rfl) _) fun k hk e=>by have:=anm.out k hk;omega
    clear s1 s2 o9 q4 hVl;go_wp2_with fail;go_roundw;case rel=>exact⟨RD,i+1,by first|rfl|go_num,by omega,_,arR,arS,anm⟩
    case measure=>simp[RowKit.intOf]<;>omega
   obtain rfl:nL=i:=by omega
   obtain⟨wl,hwl⟩:=zB dG;subst hwl;obtain⟨ao,co,rfl,-,-⟩:=aC HVo.out;have arT:Hid (O0 W0 wl):=Iu.out.trans gV.out fun k hk=>.inr (by rw[hk];exact SA.out);have ano:=arT;have arU:Hid (O0 w2 wl):=(anl.out.same (af9.out.same aga.out)).trans gV.out fun k hk=>.inr (by rw[hk];have h1:=HR5.out;have h2:=(anl.out.same af9.out).size;omega);have arV:Hid (O0 w4 wl):=(af9.out.same aga.out).trans gV.out fun k hk=>.inr (by rw[hk];have h1:=HR5.out;have h2:=af9.out.size;omega);obtain⟨gM,hgM⟩:∃g,(⟨x,q,(pq x (x.closure q.names) jG x.packs.length).1,List.replicate nL true⟩:GD)=g:=⟨_,rfl⟩;have HgM:=zh hgM;have HGM:Hid (∀W,O0 wl W->GC wl.heap.size W [.slice p1 n1 c1,.slice p2 n2 c2,.slice p3 n3 c3,.slice p4 n4 c4,.slice ao nL co] gM):=fun W ho=>by have o5l:O0 w5 wl:=aga.out.trans gV.out fun k hk=>.inr (by rw[hk];exact yG HR5.out);have kp:=Kp.iI (B:=w5.heap.size) (o5l.same ho);have hle:=o5l.size;have hle2:=ho.size;rw[<-HgM.out];refine⟨_,_,_,_,_,rfl,(HR1.out.keep iU.keep kp).lift iU.lift hle hle2,(HR2.out.keep nS.keep kp).lift nS.lift hle hle2,(HR3.out.keep lY.keep kp).lift lY.lift hle hle2,(HR4.out.keep CC.keep kp).lift CC.lift hle hle2,(Yi zAM HVo.out).keep Bo.keep (Kp.iI ho)⟩
   have HQ:Hid (∀W,O0 wl W->W.cell? ⟨R,0,none⟩=some (.slice p1 n1 c1)/\W.cell? ⟨R,1,none⟩=some (.slice p2 n2 c2)/\W.cell? ⟨R,2,none⟩=some (.slice p3 n3 c3)/\W.cell? ⟨R,3,none⟩=some (.slice p4 n4 c4)/\W.cell? ⟨R,4,none⟩=some (.slice ao nL co)):=fun W ho=>by have b1:=aF HB.out ho (fun f=>f);exact⟨by rw[ah b1];rfl,by rw[ah b1];rfl,by rw[ah b1];rfl,by rw[ah b1];rfl,by rw[ah b1];rfl⟩
   have MV:Hid (∀W,O0 wl W->∀p:Nat,p<=1000000->Calls Tryz.prog 26 #[.agg #[.slice p1 n1 c1,.slice p2 n2 c2,.slice p3 n3 c3,.slice p4 n4 c4,.slice ao nL co],.int .i64 (p:Int)] W fun e w'=>e= .returned (.bool (fQ gM.c (p:Int)))/\O0 W w'):=fun W ho p hp=>lF (ou:=[.slice p1 n1 c1,.slice p2 n2 c2,.slice p3 n3 c3,.slice p4 n4 c4,.slice ao nL co]) (HGM.out W ho) p ⟨by omega,by omega⟩;have hn8:aj<=8:=by rw[<-aB.out];exact HE.out.ch.packs
   clear HR1 HR2 HR3 HR4 HVo HBo HB HGm hgM HB8;go_wp2_with fail;clear k0 k1 k2;go_loopw [9,41] (fun vn vp wrp=>Hid (O0 wl wrp)/\∃p:Nat,vp= .int .i64 p/\p<=aj/\∃bn:Bool,vn= .bool bn/\Hid (bn=true↔ ∀j,j<p->fQ gM.c (j:Int)=false)) (fun _ v _=>aj-(RowKit.intOf v).toNat);case atStart=>exact⟨show Hid _ from Only.refl _ _,0,rfl,qE _,true,rfl,show Hid _ from⟨fun _ j hj=>by omega,fun _=>rfl⟩⟩
   case round=>
    obtain⟨wrp,rfl⟩:=zB wr;obtain⟨HOp,p,rfl,hp,bn,rfl,HBn⟩:=hrel;obtain⟨k0,k1,k2⟩:=aG.out wrp (ano.out.same HOp.out);by_cases cp:p<aj
    ·have jh:=zw (p+1);obtain⟨q0,q1,q2,q3,q4⟩:=HQ.out wrp HOp.out;cases bn with
     |false=>
      have HN2:Hid (false=true↔ ∀j,j<p+1->fQ gM.c (j:Int)=false):=⟨fun h=>False.elim (by cases h),fun h=>HBn.out.2 fun j hj=>h j zBk⟩;go_wp2_with fail;go_roundw;case rel=>exact⟨HOp,p+1,by first|rfl|go_num,by omega,false,rfl,HN2⟩
      case measure=>simp[RowKit.intOf]<;>omega
     |true=>
      obtain⟨bT,EH⟩:∃b,fQ gM.c (p:Int)=b:=⟨_,rfl⟩;have HbT:=zh EH;have aee:=MV.out wrp HOp.out p zBk;rw[EH]at aee;have aee:=zh aee;clear EH;go_wp2_with fail;refine aee.out.mono ?_;rintro e Y9 ⟨rfl,O11⟩;have arW:=zh (HOp.out.same O11);have HN2:Hid ((!bT)=true↔ ∀j,j<p+1->fQ gM.c (j:Int)=false):=by
       rw[<-HbT.out];refine⟨fun h j hj=>?_,fun h=>by rw[h p zBk];rfl⟩;rcases yK j p with h1|h1;·exact HBn.out.1 (by trivial) j h1
       have e:j=p:=by omega
       rw[e];simpa using h
      clear O11 aee HbT q0 q1 q2 q3 q4 k0 k1 k2;go_wp2_with fail;go_roundw;case rel=>exact⟨arW,p+1,by first|rfl|go_num,by omega,!bT,rfl,HN2⟩
      case measure=>simp[RowKit.intOf]<;>omega
    obtain rfl:aj=p:=by omega
    have jd:Hid (∀m0 ms,m0.length=S.1.l.length->(∀i,i<S.1.l.length->SoP gM (S.1.l.getD i default) (m0.getD i false))->sQ S.1 m0 ms->iE.holdsB S.2.cls ms=bn):=fun m0 ms hm0 hso hh=>by
     have hS:=HS.out
     have hoff:¬sN gM:=aeb (by rw[<-HgM.out];show List.replicate nL true=_;rw[HNL.out])
     have hgx:gM.x=x:=by rw[<-HgM.out]
     cases bn with
     |true=>
      have hno:∀p:Nat,fQ gM.c (p:Int)=false:=fun p=>by
       rcases yK p aj with h|h
       ·exact HBn.out.1 (by trivial) p h
       ·unfold fQ
        have hcl:gM.c.length=aj:=by rw[<-HgM.out,<-aB.out];exact CZ _ _ _ _
        rw[hcl,qP (show¬(p:Int)<(aj:Int) by omega)]
        simp
      refine none_true (g:=gM) (T:=S.1) (by rw[<-hS];exact HE.out.neg) (by rw[<-hS,hgx];exact HE.out.forms) hoff hm0 hso hh hno
     |false=>
      have hex:∃p,p<aj/\fQ gM.c (p:Int)=true:=by
       refine Classical.byContradiction fun hn=>?_
       have:false=true:=HBn.out.2 fun j hj=>by
        cases hb:fQ gM.c (j:Int)with
        |false=>rfl
        |true=>exact absurd ⟨j,hj,hb⟩ hn
       cases this
      obtain⟨t,ht,hth⟩:=hex
      have htl:t∈x.closure q.names:=aec (jG:=jG) (by rw[aB.out];exact ht) (by rw[<-HgM.out]at hth;exact hth)
      obtain⟨f,hf,hbr⟩:=HE.out.place htl
      rw[hS]at hf hbr
      obtain⟨V,hV⟩:=HGa.out.tab
      exact Yd (g:=gM) (qR hV.len hV.lim) hV.nod hth hf hbr hoff hso hh
    have HFx:Hid (∀W,O0 wrp W->Calls Tryz.prog 20 #[] W fun e w'=>e= .returned (.bool true)/\O0 W w'):=fun W ho=>JV (ani.out.only ((arU.out.same HOp.out).same ho));have HGp:Hid (∀W,O0 wrp W->nD W vM vN ca bta bba Ga S.1 S.2):=fun W ho=>HGa.out.aN ((arV.out.same HOp.out).same ho);have HBu:Hid (∀W,O0 wrp W->Calls Tryz.prog 28 #[.pointer (some ⟨ca,0,none⟩)] W fun e w'=>e= .returned (.pointer (some ⟨bba,0,none⟩))/\W=w'):=fun W hW=>(pW (HGp.out W hW)).mono fun _ _ h=>⟨h.1,h.2.symm⟩;have Qi:Hid (∀W,O0 wrp W->Calls Tryz.prog 29 #[.pointer (some ⟨bba,0,none⟩)] W fun e w'=> ∃v us,e= .returned v/\CG W w' v us S.2.cls/\O0 W w'):=fun W hW=>by obtain⟨V,hV⟩:=(HGp.out W hW).Jy;exact CS hV
    have hgr:GR gM:=by have h:=aa0 HE.out.sm (by have:=HE.out.ch.roots;omega) HE.out.ch jG;rw[<-HgM.out];exact⟨h.ru,h.few,⟨h.ok.len,h.ok.ok⟩⟩
    have HMo:Hid (∀W,O0 wrp W->Calls Tryz.prog 30 #[.pointer (some ⟨ca,0,none⟩),.agg #[.slice p1 n1 c1,.slice p2 n2 c2,.slice p3 n3 c3,.slice p4 n4 c4,.slice ao nL co]] W fun e w'=> ∃(go:Nat) (m0 ms:List Bool),e= .returned (.slice (some ⟨go,0,none⟩) S.1.l.length S.1.l.length)/\w'.ownsRow 0 4 1 (.slice (some ⟨go,0,none⟩) S.1.l.length S.1.l.length) S.1.l.length (ms.map Value.bool)/\m0.length=S.1.l.length/\(∀i,i<S.1.l.length->SoP gM (S.1.l.getD i default) (m0.getD i false))/\sQ S.1 m0 ms/\W.heap.size<=go/\O0 W w'):=fun W hW=>VO (csm:=[.slice p1 n1 c1,.slice p2 n2 c2,.slice p3 n3 c3,.slice p4 n4 c4,.slice ao nL co]) (HGM.out W (HOp.out.same hW)) (HGp.out W hW) hgr (by rw[<-HS.out,<-HgM.out];exact HE.out.forms);have hBl:∀{W:World} {go:Nat} (m0 ms:List Bool),m0.length=S.1.l.length->ms.length=m0.length->W.ownsRow 0 4 1 (.slice (some ⟨go,0,none⟩) S.1.l.length S.1.l.length) S.1.l.length (ms.map Value.bool)->W.ownsRow 0 4 1 (.slice (some ⟨go,0,none⟩) S.1.l.length S.1.l.length) ms.length (ms.map Value.bool):=fun m0 ms h1 h2 h3=>by rw[h2,h1];exact h3
    clear hgr k0 k1 k2;go_wp2_with fail;refine bH (n:=13) (E:=fun _=>false) (S:=fun W=>O0 wrp W) zk rfl (by exact zr.drew) (fun hHeld=>?_);refine tO 0 fun K hK=>?_;(go_simp;refine(HFx.out _ hHeld).mono ?_;rintro e w20 ⟨rfl,o20⟩;try go_wp2_with fail);refine hK.out _ _ ?_ (fun hHeld=>?_);·(try dsimp only)<;>(exact Only.same hHeld o20)
    clear hK K;try simp only[Act.put,gJ,gU,gK,gu,gy,gG]
    refine tW 1 ?_;refine tW 2 ?_;refine nX (i:=3) (v:=?_) (f:=28) (args:= #[.pointer (some ⟨ca,0,none⟩)]) rfl zk zk zk rfl zk zk (fun _ _ _ h=>h) zAi (by rfl) ?_ ?_ ?_;rotate_left;·exact zCM
    ·(intro w hSw;exact HBu.out w hSw)
    try simp only[Act.put,gJ,gU,gK,gu,gy,gG]
    refine tW 5 ?_;refine tK 6 ?_ (hy:=by(intro w hSw;obtain⟨q0,q1,q2,q3,q4⟩:=HQ.out w (HOp.out.same hSw);go_simp<;>(try with_reducible rfl)));refine tW 9 ?_;refine tO 4 fun K hK=>?_;(go_simp;refine(Qi.out _ hHeld).mono ?_;rintro e w22 ⟨va,us,rfl,hOw,o22⟩;try go_wp2_with fail);refine hK.out _ _ ?_ (fun hHeld=>?_);·(try dsimp only)<;>(exact Only.same hHeld o22)
    clear hK K;try simp only[Act.put,gJ,gU,gK,gu,gy,gG]
    refine tO 7 fun K hK=>?_;(go_simp;refine(HMo.out _ hHeld).mono ?_;rintro e w23 ⟨go,m0,ms,rfl,hV,hm0,hso,hh,hgo,o23⟩;try go_wp2_with fail);refine hK.out _ _ ?_ (fun hHeld=>?_);·(try dsimp only)<;>(exact Only.same hHeld o23)
    clear hK K;try simp only[Act.put,gJ,gU,gK,gu,gy,gG]
    refine tO 8 fun K hK=>?_;(go_simp;refine(ZQ (hOw.Uf.aN o23) (Bools.fH (hBl m0 ms hm0 hh.len hV)) bn (jd.out m0 ms hm0 hso hh)).mono ?_;rintro e w24 ⟨rfl,arY⟩;try go_wp2_with fail);refine hK.out _ _ ?_ (fun hHeld=>?_);·(try dsimp only)<;>(exact arY▸hHeld)
    clear hK K;try simp only[Act.put,gJ,gU,gK,gu,gy,gG]
    refine tW 10 ?_;refine tW 11 ?_;refine tW 12 ?_;refine aZ zk ?_ _;have arZ:=zh hHeld;clear hHeld;go_wp2_with fail;go_ret;exact⟨by simp,bW.out.same ((ano.out.same HOp.out).same arZ.out)⟩
end
end Go.Proofs.YtdmmebjjojimiaaGreatDoor
