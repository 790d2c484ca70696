/- Package edge: root. Printed by gen_edw6.py. -/
import Derived.Test.YtdmmebjjojimiaaGreatDoorG24
set_option maxRecDepth 100000
set_option maxHeartbeats 8000000
set_option linter.all false
namespace Go.Proofs
theorem zBD{p:Prop}(h:p:=by repeat (first|exact Only.refl _ _|exact oA|apply Only.drew|apply Only.alloc|apply Only.drewN)):p:=h
theorem zAF{p:Prop}(h:p:=by repeat (first|exact Only.refl _ _|exact oM|apply Only.drew|apply Only.alloc|apply Only.drewN)):p:=h
theorem zAR{p:Prop}(h:p:=by(intro w hSw;(try dsimp only at hSw);obtain⟨p0,p1⟩:=HS4.out w (hSw.mono fun _ f=>f.elim);go_simp<;>(try with_reducible rfl))):p:=h
theorem zAD{p:Prop}(h:p:=by repeat (first|exact Only.refl _ _|exact oA|apply Only.drew|apply Only.alloc|apply Only.drewN)):p:=h
theorem zB6{p:Prop}(h:p:=by
 go_wp2_with fail
 ((try simp only[Exit.inBlock,Exit.then]);refine bodyPost_ret (results_none rfl _ _ _) rfl ?_)
 exact⟨rfl,H9.out⟩):p:=h
theorem zDx{p:Prop}(h:p:=by
 obtain⟨b,cap,e,-,-⟩:=dB hrow zBB
 simp only[qU]at e
 obtain⟨rfl,-,rfl⟩:=e
 refine⟨?_,b,rfl⟩
 show wr.cell? ⟨b,i,none⟩=_
 rw[hrow.cellAt i zBB]
 unfold iK
 rw[List.getElem?_map,ht];rfl):p:=h
theorem zC1{p:Prop}(h:p:=by
 unfold aC.bZ aC.jH
 exact⟨qR (yO _ _) (by rw[List.length_range];exact qH _),fun t ht=>yI.1 (List.mem_filter.1 ht).1⟩):p:=h
end Go.Proofs
namespace Go.Proofs.YtdmmebjjojimiaaGreatDoor
open Go.RowKit
structure EdG (D:rU):Prop where
 lt:∀p∈D.l,p<D.x.packs.length
 mid:Cj D.x
 nl:D.names.length<=1000000
section
variable {w w':World} {gt gb gp:Tag} {X:G9} {Bs:Nat} {D:rU} {E:ES}
theorem gI.jD(H:gI w gt gb gp X Bs D E){k:Nat}(hk:w.heap.size<=k):¬aX gt gb gp k:=by obtain⟨V,hV⟩:=H.gx.gr.tab;obtain⟨U,hU⟩:=H.gx.gr.G8;unfold aX Mine;rw[hV.fresh k hk,hU.fresh k hk,H.fresh k hk];simp
theorem aQ.only(h:aQ w gt gb gp X Bs D E w'):Only (aX gt gb gp) w w':=by obtain⟨_,_,_,_,_,_,_,O⟩:=h;exact O
theorem gI.Le(H:gI w gt gb gp X Bs D E):∀k,aX gt gb gp k->Bs<=k:=fun k hk=>by
 rcases hk with hk|hk
 ·exact H.gx.low k hk
 ·exact H.low k hk
theorem xR(H:gI w gt gb gp X Bs D E){v:Value}{xs:List Int}(hI:Ints w v xs)(hb:xs.length<=1000000):Calls Tryz.prog 163 #[.pointer (some ⟨X.c,0,none⟩),v] w fun e w'=>e= .returned (.tuple #[])/\aQ w gt gb gp X Bs D (E.1.aV xs,E.2) w':=(Uw H.gx hI hb).mono fun e w' ⟨he,h⟩=>⟨he,H.step h⟩
theorem Gg(H:gI w gt gb gp X Bs D E)(hG:EdG D){p rule cc:Nat}(UE:p<=1000000)(hr6:rule<=1000000)(hc6:cc<=1000000){css:List Value}{s:fQ}(hs:dh Bs w css s)(hss:s.sets.length<=900000)(z:Int)(hz:(E.1.meet D.x D.l p rule cc s).2=z):Calls Tryz.prog 225 #[.pointer (some ⟨X.c,0,none⟩),.int .i64 p,.int .i64 rule,.int .i64 cc,.agg css.toArray] w fun e w'=>e= .returned (.int .i64 z)/\aQ w gt gb gp X Bs D ((E.1.meet D.x D.l p rule cc s).1,E.2) w':=(adU H.gx hG.lt hG.mid UE hr6 hc6 hs hss z hz).mono fun e w' ⟨he,h⟩=>⟨he,H.step h⟩
theorem gI.IE(H:gI w gt gb gp X Bs D E):∃a1 c1 a2 c2,X.G.x1= .slice a1 D.x.packs.length c1/\X.G.x2= .slice a2 D.x.cO.length c2:=by obtain⟨a1,c1,a2,c2,h1,h2,-⟩:=H.gx.IE;exact⟨a1,c1,a2,c2,h1,h2⟩
theorem dh.Le{css:List Value}{s:fQ}(h:dh Bs w css s)(H:gI w gt gb gp X Bs D E)(o:Only (aX gt gb gp) w w'):dh Bs w' css s:=dh.keep h (Kp.rV o H.Le)
theorem bW{z:Int}(h:0<=z/\z<=65536):aO (-z):=⟨by omega,by omega⟩
theorem dX{z:Int}(h:0<=z/\z<=65536):aO z:=⟨by omega,by omega⟩
theorem TB.kN{S:TB}(h:S.1.Ok)(a:At):0<=(S.num a).2/\(S.num a).2<=65536:=(Tab.lS h a).2
theorem Gh(l:List At)(x:At):numOf l x<=l.length:=by
 unfold numOf;split;·rename_i hm;exact List.idxOf_lt_length_of_mem hm
 exact qE _
theorem TB.Gi{S:TB}(h:S.1.Ok)(x:aC)(l:List Nat)(p r c:Nat)(s:fQ):0<=(S.meet x l p r c s).2/\(S.meet x l p r c s).2<=65536:=by
 unfold TB.meet;split;·exact⟨Int.le_refl _,(by decide:(0:Int)<=65536)⟩
 split;·have h1:=h.lim;have h2:=h.len;have h3:=Gh S.1.l (bM p r c);show(0:Int)<=(numOf S.1.l (bM p r c):Int)/\(numOf S.1.l (bM p r c):Int)<=65536;exact zCC
 exact TB.kN h _
theorem gI.ok(H:gI w gt gb gp X Bs D E):E.1.1.Ok:=H.gx.ok
theorem YT(w:World)(a:Int)(ha:aO a):Ints (w.alloc (.cells #[.int .i64 a] 3)) (.slice (some ⟨w.heap.size,0,none⟩) 1 1) [a]:=
 Ints.dF (nT zAX) (fun z hz=>by simp at hz;subst hz;exact ha)
theorem AL(x:aC)(s:Str):x.find s= -1\/ ∃k:Nat,x.find s=k/\k<x.packs.length:=by
 rcases kR (fun p=>decide (p.name=s)) x.packs with h| ⟨k,h,hk,-⟩;·exact .inl h
 exact .inr ⟨k,h,hk⟩
theorem Gj(x:aC)(s:Str):(x.targets s).length<=x.packs.length+1/\∀t∈x.targets s,t<=x.packs.length:=by
 have hp:∀s:Str,(x.bZ s).length<=x.packs.length/\∀t∈x.bZ s,t<x.packs.length:=fun s=>by exact zC1
 unfold aC.targets;split
 ·rename_i h;rcases AL x s with e| ⟨k,e,hk⟩;·omega
  rw[e];simp;omega
 have:=hp s;exact⟨by omega,fun t ht=>by have:=this.2 t ht;omega⟩
def jE(P:dR)(z:Int)(l:List Nat):dR:=l.foldl (fun P t=>{P with roots:=dH P.roots t z}) P
theorem Lh(P:dR)(z:Int)(l:List Nat)(t:Nat):jE P z (l++[t])={jE P z l with roots:=dH (jE P z l).roots t z}:=by simp[jE]
theorem uG{P:dR}{N:Nat}(h:oL P N)(z:Int):∀(l:List Nat),oL (jE P z l) (N+l.length):=by
 intro l;induction l generalizing P N with
 |nil=>exact h
 |cons a r ih=>have:=ih (h.CV a z);rw[qN,show N+(r.length+1)=N+1+r.length by omega];exact this
attribute [local irreducible] wpQuiet in
theorem adY(H:gI w gt gb gp X Bs D E)(hG:EdG D){r:Nat}(hr6:r<=1000000){css:List Value}{s:fQ}(hs:dh Bs w css s)(hss:s.sets.length<=900000){N:Nat}(hP:oL E.2 N)(hN:N<=900000):Calls Tryz.prog 159 #[.pointer (some ⟨X.px,0,none⟩),.int .i64 r,.agg css.toArray] w fun e w'=>e= .returned (.tuple #[])/\aQ w gt gb gp X Bs D (E.root D.x D.l D.names r s) w':=by
 have HG:=zh hG;have hpk:=hG.mid.packs;obtain⟨OQ,Qq,OT,Qr,rfl,hsn,-,-⟩:=hs.cells;obtain⟨MO,OU⟩:=ze s.spans.length;obtain⟨IG,OV⟩:=ze s.sets.length;rw[OU,OV]at hs;rw[OU,OV];obtain⟨W0,hW0⟩:=ze (w.alloc (.cells #[.string s.name,.slice OQ MO OT,.slice Qq IG Qr] 108));have hb0:W0.heap[w.heap.size]? =some (.cells #[.string s.name,.slice OQ MO OT,.slice Qq IG Qr] 108 (0,0)):=zAW;have iM:Hid (O0 w W0):=zAM;have hnm:=H.jD (qH w.heap.size);have H0:=zh (H.aF iM.out);have XF:Hid (∀W,Only (aX gt gb gp) W0 W->W.heap[w.heap.size]? =some (.cells #[.string s.name,.slice OQ MO OT,.slice Qq IG Qr] 108 (0,0))):=fun W o=>ak hb0 o hnm;have aha:Hid (∀W,Only (aX gt gb gp) W0 W->dh Bs W [.string s.name,.slice OQ MO OT,.slice Qq IG Qr] s):=fun W o=>dh.Le (dh.keep hs (Kp.fU iM.out)) H0.out o;obtain⟨z,hz⟩:=ze ((E.1.num (eH r)).2);obtain⟨S1,hS1⟩:=ze ((E.1.num (eH r)).1);have hzb:0<=z/\z<=65536:=by rw[<-hz];exact TB.kN H.ok _
 have OX:Hid (Calls Tryz.prog 224 #[.pointer (some ⟨X.px,0,none⟩),.int .i64 r] W0 fun e w'=>e= .returned (.int .i64 z)/\aQ W0 gt gb gp X Bs D (S1,E.2) w'):=by rw[<-hS1];exact RG H0.out (r:=r) ⟨by omega,by omega⟩ z hz
 obtain⟨E9,AB⟩:=ze (E.root D.x D.l D.names r s);rw[AB];have nY:Hid (E9=(if 0<=D.x.find s.name then ((S1.meet D.x D.l (D.x.find s.name).toNat r 1 s).1.aV [-z,(S1.meet D.x D.l (D.x.find s.name).toNat r 1 s).2],jE E.2 z (D.x.targets s.name))else if bP D.names s.name<0 then (S1.aV [-z],jE E.2 z (D.x.targets s.name))else ((S1.num (eG (bP D.names s.name).toNat)).1.aV [-z,(S1.num (eG (bP D.names s.name).toNat)).2],{jE E.2 z (D.x.targets s.name)with needs:=jK (jE E.2 z (D.x.targets s.name)).needs (bP D.names s.name).toNat z}))):=by show _=_;rw[<-AB];unfold ES.root;dsimp only;rw[hz,hS1];rfl
 have xE:=zh hP;clear AB hs hb0 hz hS1 H hG OU OV hsn hnm hP;go_enter Tryz.func159,Tryz.ntmps159;go_wp2_with fail;try rw[hW0]
 clear hW0;refine OX.out.mono ?_;rintro e w1 ⟨rfl,h1⟩;have HE1:=zh h1;clear h1 OX;obtain⟨iT,iU,MK,XG,A1,B1,C1,O1'⟩:=HE1.out;have H1:=zh XG;have O1:=zh O1';have HAg:=zh (And.intro A1 (And.intro B1 C1));clear XG O1' A1 B1 C1 HE1 H0; -- what is read at all worlds to come
 have HM1:Hid (∀W,Only (aX iT iU MK) w1 W->Only (aX gt gb gp) W0 W):=fun W o=>O1.out.sZ HAg.out.1 HAg.out.2.1 HAg.out.2.2 o;have HS:Hid (∀W,Only (aX iT iU MK) w1 W->W.cell? ⟨X.px,0,none⟩=some (.pointer (some ⟨X.c,0,none⟩))/\W.cell? ⟨w.heap.size,0,none⟩=some (.string s.name)):=fun W o=>
  ⟨aK H1.out.cells.1 o H1.out.tp,by rw[aj (XF.out W (HM1.out W o))];rfl⟩
 obtain⟨a1,c1,a2,c2,zi,Az⟩:=H1.out.IE;have zo:Hid (∀W,O0 w1 W->Calls Tryz.prog 78 #[.pointer (some ⟨X.c,0,none⟩)] W fun e w'=>e= .returned (.agg #[.slice a1 D.x.packs.length c1,.slice a2 D.x.cO.length c2])/\O0 W w'):=fun W o=>iH (H1.out.aF o).gx.gr zi Az;have HTg:Hid (∀W,O0 w1 W->Calls Tryz.prog 148 #[.agg #[.slice a1 D.x.packs.length c1,.slice a2 D.x.cO.length c2],.string s.name] W fun e w'=> ∃v,e= .returned v/\w'.ownsRow 0 3 1 v (D.x.targets s.name).length (iK (D.x.targets s.name))/\(∀k,v.ownBlock=some k->W.heap.size<=k)/\O0 W w'):=fun W o=>by have h:=(H1.out.aF o).gx.yZ;rw[zi,Az]at h;exact Du h zBB s.name
 have HFd:Hid (∀W,Only (aX iT iU MK) w1 W->Calls Tryz.prog 182 #[.agg #[.slice a1 D.x.packs.length c1,.slice a2 D.x.cO.length c2],.string s.name] W fun e w'=>e= .returned (.int .i64 (D.x.find s.name))/\O0 W w'):=fun W o=>by have h:=gG.keep H1.out.gx.yZ (Kp.rV o H1.out.Le);rw[zi,Az]at h;exact lK h s.name
 have uV:=zh (And.intro zi Az);obtain⟨tg,htg⟩:=ze (D.x.targets s.name);have htl:=Gj D.x s.name;rw[htg]at HTg nY htl;obtain⟨nt,hnt⟩:=ze tg.length;rw[hnt]at HTg htl;have HTl:=zh htl.2;have ahc:=htl.1;have Q7:=zh hnt;obtain⟨n1,hn1⟩:=ze D.x.packs.length;obtain⟨n2,hn2⟩:=ze D.x.cO.length;rw[hn1]at hpk ahc zo HTg HFd uV HTl;rw[hn2]at zo HTg HFd uV;have He:=zh hn1;have hS0:=HS.out w1.drew (zr.drew);clear zi Az htg htl hnt hn1 hn2;go_wp2_with fail;refine aT (n:=10) (E:=fun _=>false) (S:=fun W=>W.cell? ⟨X.px,0,none⟩=some (.pointer (some ⟨X.c,0,none⟩))/\W.cell? ⟨w.heap.size,0,none⟩=some (.string s.name)) zk rfl hS0 (fun hHeld=>?_);refine tW 0 ?_;refine tW 1 ?_;refine tW 2 ?_;refine tK 3 ?_;refine tW 5 ?_;refine tK 6 ?_;refine tW 9 ?_;refine tO 4 fun K hK=>?_;(go_simp;refine(zo.out _ zAA).mono ?_;rintro e w2 ⟨rfl,o2⟩;have oA:O0 w1 w2:=Only.same zBA o2;try go_wp2_with fail);refine hK.out _ _ ?_ (fun hHeld=>?_);·(try dsimp only)<;>(exact HS.out _ (oA.mono fun _ f=>f.elim))
 clear hK K;try simp only[Act.put,dL,dQ,dM,dN,dO,dP]
 refine tO 7 fun K hK=>?_;(go_simp;refine(HTg.out _ zAD).mono ?_;rintro e w3 ⟨vt,rfl,r3,b3,o3⟩;have oB:O0 w1 w3:=Only.same zBD o3;obtain⟨at3,ct3,rfl,kt3,-⟩:=aH r3;try go_wp2_with fail);refine hK.out _ _ ?_ (fun hHeld=>?_);·(try dsimp only)<;>(exact HS.out _ (oB.mono fun _ f=>f.elim))
 clear hK K;try simp only[Act.put,dL,dQ,dM,dN,dO,dP]
 refine tW 8 ?_;refine aS zk ?_ _;have ig:=zh oB;have TU:Hid (w3.ownsRow 0 3 1 (.slice at3 nt ct3) nt (iK tg)):=r3;have H3:=zh (H1.out.aF oB);have zq:Hid (∀k,(Value.slice at3 nt ct3).ownBlock=some k->¬aX iT iU MK k):=fun k hk=>H1.out.jD (qR (qR oA.size (by first|exact qH _| (simp[World.drew,World.drewN]))) (b3 k hk));clear r3 b3 o3 o2 oB oA;go_wp2_with fail;have xU:Hid (aQ w3 iT iU MK X Bs D (S1,jE E.2 z (tg.take 0)) w3):=aQ.refl H3.out;go_loopw [24] (fun vi wr=> ∃i:Nat,vi= .int .i64 i/\i<=nt/\Hid (aQ w3 iT iU MK X Bs D (S1,jE E.2 z (tg.take i)) wr)) (fun v _=>nt-(RowKit.intOf v).toNat);case atStart=>exact⟨0,rfl,qE _,xU⟩
 case round=>
  clear xU;obtain⟨i,rfl,hi,HR⟩:=hrel;by_cases ci:i<nt
  ·obtain⟨t,ht⟩:=zG tg i (by rw[Q7.out];exact ci);obtain⟨pK,pO,nZ,H4,A4,B4,C4,O4⟩:=HR.out;have hcell:wr.cell? ⟨(match at3 with|some a=>a.block|none=>0),i,none⟩=some (.int .i64 t)/\∃b,at3=some ⟨b,0,none⟩:=by have hrow:=aB TU.out O4 zq.out;exact zDx
   obtain⟨hcell,bt3,rfl⟩:=hcell;have jg:=zw (i+1);have htb:t<=1000:=by have:=HTl.out t (qT ht);omega
   obtain⟨P,hP⟩:=ze (jE E.2 z (tg.take i));have hPl:oL P 900000000:=by rw[<-hP];exact(uG xE.out z (tg.take i)).mono zAZ
   have adZ:oL P 910000:=by rw[<-hP];exact(uG xE.out z (tg.take i)).mono zAZ
   rw[hP]at H4;obtain⟨ix,v,hrow,hSS,hpu⟩:=H4.CV (e:=t) ⟨by omega,by omega⟩ (z:=z) (dX hzb) (by have:=adZ.rol;unfold maxLen;show P.roots.length<_;omega);have hrl:=adZ.ror t;obtain⟨xs,hxs⟩:=ze (bT P.roots t);rw[show bT (S1,P).2.roots t=xs from hxs]at hrow hpu;rw[hxs]at hrl;obtain⟨ao,cap,rfl,-,-⟩:=hrow.shape;obtain⟨n,hn⟩:=ze xs.length;simp only[qM]at hrow hSS;rw[hn]at hrow hrl hSS;have BI:Hid (∀W,Only (fun k=>nZ k=(3,ix+1)) wr W->W.cell? ⟨X.px,4,none⟩=some (.map (some X.m2))/\(Instr.lookup 151 (.map (some X.m2)) (.int .i64 (t:Int)) false).run Tryz.prog W= .ok (.slice ao n cap) W):=hSS;have qp:=zh hrow;have jr:Hid (∀W,aQ wr pK pO nZ X Bs D (S1,{P with roots:=dH P.roots t z}) W->aQ w3 iT iU MK X Bs D (S1,jE E.2 z (tg.take (i+1))) W):=fun W h=>by rw[List.take_add_one,ht];simp only[Option.toList_some];rw[Lh,hP];exact aQ.trans A4 B4 C4 O4 h
   have Xh:=zh hpu;have HN:=zh hn;have hS0:=BI.out wr.drew (zr.drew);have Eo:=zh jg;clear hrow hSS hpu hxs hn H4 A4 B4 C4 O4 ht hP hPl adZ HR jg;go_wp2_with fail;refine aT (n:=15) (E:=fun j=>j==14) (S:=fun W=>W.cell? ⟨X.px,4,none⟩=some (.map (some X.m2))/\(Instr.lookup 151 (.map (some X.m2)) (.int .i64 (t:Int)) false).run Tryz.prog W= .ok (.slice ao n cap) W) zk rfl hS0 (fun hHeld=>?_);refine tW 0 ?_;refine tW 1 ?_;refine tW 2 ?_;refine tK 3 ?_;refine tW 4 ?_;refine tW 5 ?_;refine tW 6 ?_;refine tW 7 ?_;refine tK 8 ?_;refine tW 9 ?_;refine tK 10 ?_;refine tW 11 ?_;refine tO 12 fun K hK=>?_;go_simp;refine hK.out _ _ ?_ (fun hHeld=>?_);·exact zDy
   clear hK K;try simp only[Act.put,dL,dQ,dM,dN,dO,dP]
   refine tO 13 fun K hK=>?_;(refine Row.step (u:=.int .i64 z) kF (by rfl) (.tmp 38) (.tmp 40) (by rfl) zBT (by rfl) zBN rfl zBE zBW zAC ?_;intro bb5 cap5 w5 NI Ef);refine hK.out _ _ ?_ (fun hHeld=>?_);·exact zD3
   clear hK K;try simp only[Act.put,dL,dQ,dM,dN,dO,dP]
   refine eY (rs:=[14]) zk zAE ?_;refine bD.late (i:=14) rfl zk (fun K hK=>?_) ?_
   ·(obtain⟨w9,DI,AB⟩:=Xh.out _ w5 _ zBA Ef NI;refine YQ (by rfl) (.tmp 31) (.tmp 32) (.tmp 41) (by rfl) (by rfl) (by rfl) (by rfl) DI ?_);refine hK.out _ _ ?_;clear hK K;try simp only[Act.put,dL,dQ,dM,dN,dO,dP]
    refine aS zk ?_ _;have YS:=zh (jr.out w9 AB);have jg:=Eo.out;clear AB DI NI Ef jr Xh qp BI hS0;go_wp2_with fail;go_roundw;case rel=>exact⟨i+1,by first|rfl|go_num,by omega,YS⟩
    case measure=>simp[RowKit.intOf]<;>omega
   exact bD.nil
  obtain rfl:nt=i:=by omega
  clear hi ci;rw[qI (yG Q7.out)]at HR;obtain⟨P,hP⟩:=ze (jE E.2 z tg);have HPL:Hid (oL P 910000):=by rw[<-hP];exact(uG xE.out z tg).mono (by have:=Q7.out;omega)
  rw[hP]at HR nY;obtain⟨pK,pO,nZ,H4',A4,B4,C4,O4⟩:=HR.out;have H4:=zh H4';have O14:Only (aX iT iU MK) w1 wr:=(ig.out.mono fun _ f=>f.elim).same O4;have HM4:Hid (∀W,Only (aX pK pO nZ) wr W->Only (aX iT iU MK) w1 W):=fun W o=>O14.sZ (fun k hk=>A4 k (Nat.lt_of_lt_of_le hk ig.out.size)) (fun k hk=>B4 k (Nat.lt_of_lt_of_le hk ig.out.size)) (fun k hk=>C4 k (Nat.lt_of_lt_of_le hk ig.out.size)) o;have yS:Hid (∀E2 W,aQ wr pK pO nZ X Bs D E2 W->aQ w gt gb gp X Bs D E2 W):=fun E2 W h=>
   aQ.after iM.out (aQ.trans HAg.out.1 HAg.out.2.1 HAg.out.2.2 O1.out (aQ.after ig.out (aQ.trans A4 B4 C4 O4 h)))
  have HS4:Hid (∀W,Only (aX pK pO nZ) wr W->W.cell? ⟨X.px,0,none⟩=some (.pointer (some ⟨X.c,0,none⟩))/\W.cell? ⟨w.heap.size,0,none⟩=some (.string s.name)):=fun W o=>HS.out W (HM4.out W o);have ahe:Hid (∀W,O0 wr W->Calls Tryz.prog 78 #[.pointer (some ⟨X.c,0,none⟩)] W fun e w'=>e= .returned (.agg #[.slice a1 n1 c1,.slice a2 n2 c2])/\O0 W w'):=fun W o=>iH (H4.out.aF o).gx.gr uV.out.1 uV.out.2;have ad1:Hid (∀W,O0 wr W->Calls Tryz.prog 182 #[.agg #[.slice a1 n1 c1,.slice a2 n2 c2],.string s.name] W fun e w'=>e= .returned (.int .i64 (D.x.find s.name))/\O0 W w'):=fun W o=>HFd.out W (HM4.out W (o.mono fun _ f=>f.elim));have HB4:Hid (∀W,Only (aX pK pO nZ) wr W->W.rangeAt w.heap.size 0 [.string s.name,.slice OQ MO OT,.slice Qq IG Qr]):=fun W o j u hu=>by rw[Nat.zero_add,aj (XF.out W (HM1.out W (HM4.out W o)))];simpa using hu
  have ahf:Hid (∀W,Only (aX pK pO nZ) wr W->dh Bs W [.string s.name,.slice OQ MO OT,.slice Qq IG Qr] s):=fun W o=>aha.out W (HM1.out W (HM4.out W o));obtain⟨f,hf⟩:=ze (D.x.find s.name);have hfr:=AL D.x s.name;rw[hf]at ad1 nY hfr;clear hP hf H4' A4 B4 C4 O4 O14 HR HFd zo HTg HTl TU zq xE H3 H1 HS hS0;go_wp2_with fail;refine rJ (fun W=>O0 wr W) zk zk (by exact zr.drew) ?_;iterate 4 refine qV ?_ (hy:=zAR)
  refine nN (v:=.agg #[.slice a1 n1 c1,.slice a2 n2 c2]) (f:=78) (args:= #[.pointer (some ⟨X.c,0,none⟩)]) (by rfl) ?_ ?_ ?_;·exact zBj
  ·(intro w hSw;exact(ahe.out w hSw).mono fun _ _ ⟨he,hw⟩=>⟨he,hSw.same hw⟩)
  try simp only[Act.put,dL,dQ,dM,dN,dO,dP]
  iterate 2 refine qV ?_ (hy:=zAR)
  refine nN (v:=.int .i64 f) (f:=182) (args:= #[.agg #[.slice a1 n1 c1,.slice a2 n2 c2],.string s.name]) (by rfl) ?_ ?_ ?_;·exact zBj
  ·(intro w hSw;exact(ad1.out w hSw).mono fun _ _ ⟨he,hw⟩=>⟨he,hSw.same hw⟩)
  try simp only[Act.put,dL,dQ,dM,dN,dO,dP]
  refine qV ?_ (hy:=zAR);refine wpQuiet_nil ?_;intro w7 O7;have uU:=zh O7;have H7:=zh (H4.out.aF O7);have O7m:Only (aX pK pO nZ) wr w7:=O7.mono fun _ f=>f.elim;have YU:Hid (∀E2 W,aQ w7 pK pO nZ X Bs D E2 W->aQ w gt gb gp X Bs D E2 W):=fun E2 W h=>yS.out E2 W (aQ.after uU.out h);have YV:Hid (∀W,Only (aX pK pO nZ) w7 W->W.cell? ⟨X.px,0,none⟩=some (.pointer (some ⟨X.c,0,none⟩))/\W.rangeAt w.heap.size 0 [.string s.name,.slice OQ MO OT,.slice Qq IG Qr]):=fun W o=>⟨(HS4.out W (O7m.same o)).1,HB4.out W (O7m.same o)⟩;have akl:=zh (ahf.out w7 O7m);obtain⟨q0,q1⟩:=HS4.out w7 O7m;clear O7 O7m HB4 ahf HS4 ahe ad1 yS uU H4;rcases hfr with rfl| ⟨f',rfl,hf'⟩
  ·rw[if_neg zBB]at nY;obtain⟨zn,hzn⟩:=ze (ES.Jy (S1,P) D.names s.name);obtain⟨j,hj⟩:=ze (bP D.names s.name);have zD:=zh (YC H7.out HG.out.nl s.name j zn hj hzn);have hjr:=y9 D.names s.name;rw[hj]at hjr nY;have HNT:Hid (ES.F6 (S1,P) D.names s.name=if j<0 then S1 else (S1.num (eG j.toNat)).1):=by unfold ES.F6;rw[hj];exact rfl
   have HZn:Hid ((if j<0 then (0:Int)else (S1.num (eG j.toNat)).2)=zn):=by rw[<-hzn];unfold ES.Jy;rw[hj];exact rfl
   rw[HNT.out]at zD;have Jg:=H7.out.ok;clear hzn hj HNT H7 q0;go_wp2_with fail;refine zD.out.mono ?_;rintro e w8 ⟨rfl,h8⟩;have H8:=zh h8;clear h8 zD;have q0:=(YV.out w8 (by obtain⟨_,_,_,_,_,_,_,O⟩:=H8.out;exact O)).1;have ewz:=zw (-z);rcases hjr with rfl| ⟨j',rfl,hj'⟩
   ·rw[if_pos zBB]at nY H8;have h9:=nY.out;subst h9;have lQ:Hid (Calls Tryz.prog 163 #[.pointer (some ⟨X.c,0,none⟩),.slice (some ⟨w8.heap.size,0,none⟩) 1 1] (w8.alloc (.cells #[.int .i64 (-z)] 3)) fun e w'=>e= .returned (.tuple #[])/\aQ w gt gb gp X Bs D (S1.aV [-z],P) w'):=by obtain⟨OW,gb8,Xj,Hx,A8,B8,C8,O8⟩:=H8.out;exact(xR (Hx.aF (zr.alloc _)) (YT w8 (-z) (bW hzb)) zAE).mono fun e w' ⟨he,h⟩=>⟨he,YU.out _ _ (aQ.trans A8 B8 C8 O8 (aQ.after (zr.alloc _) h))⟩
    clear H8;go_wp2_with fail;refine lQ.out.mono ?_;rintro e w9 ⟨rfl,h9⟩;have H9:=zh h9;clear h9 lQ;exact zB6
   rw[if_neg zBB]at nY H8 HZn;rw[yT]at nY H8 HZn;have ad3:0<=zn/\zn<=65536:=by rw[<-HZn.out];exact TB.kN Jg _
   rw[HZn.out]at nY;obtain⟨S2,hS2⟩:=ze ((S1.num (eG j')).1);rw[hS2]at H8 nY;have h9:=nY.out;subst h9;have lQ:Hid (Calls Tryz.prog 163 #[.pointer (some ⟨X.c,0,none⟩),.slice (some ⟨w8.heap.size,0,none⟩) 2 2] (w8.alloc (.cells #[.int .i64 (-z),.int .i64 zn] 3)) fun e w'=>e= .returned (.tuple #[])/\aQ w gt gb gp X Bs D (S2.aV [-z,zn],P) w'):=by obtain⟨OW,gb8,Xj,Hx,A8,B8,C8,O8⟩:=H8.out;exact(xR (Hx.aF (zr.alloc _)) (rC w8 (-z) zn (bW hzb) (dX ad3)) zAE).mono fun e w' ⟨he,h⟩=>⟨he,YU.out _ _ (aQ.trans A8 B8 C8 O8 (aQ.after (zr.alloc _) h))⟩
   clear H8 hS2 HZn;go_wp2_with fail;refine lQ.out.mono ?_;rintro e w9 ⟨rfl,h9⟩;have H9:=zh h9;clear h9 lQ q0;obtain⟨pK,pO,nZ,H4,A4,B4,C4,O4⟩:=H9.out;obtain⟨b,cap,v,hsv,hrow,hSS,hpu⟩:=H4.pJ (n:=j') hj' (z:=z) (dX hzb);have hrl:=HPL.out.nr j';obtain⟨xs,hxs⟩:=ze (P.needs.getD j' []);rw[show(S2.aV [-z,zn],P).2.needs.getD j' []=xs from hxs]at hrow hpu;rw[hxs]at hrl;obtain⟨ao,YW,rfl,-,-⟩:=hrow.shape;obtain⟨n,hn⟩:=ze xs.length;simp only[qM]at hrow hSS;rw[hn]at hrow hrl hSS;obtain⟨nn,hnn⟩:=ze D.names.length;rw[hnn]at hsv hj';rw[hsv]at hSS;have ad4:nn<=1000000:=by rw[<-hnn];exact HG.out.nl
   have BI:Hid (∀W,Only (fun k=>nZ k=(2,j'+1)) w9 W->W.cell? ⟨X.px,3,none⟩=some (.slice (some ⟨b,0,none⟩) nn cap)/\W.cell? ⟨b,j',none⟩=some (.slice ao n YW)/\W.frozen? ⟨b,j',none⟩=false):=hSS;have qp:=zh hrow;have Xh:Hid (∀wA w5 v',O0 w9 wA->Only (fun k=>nZ k=(2,j'+1)) wA w5->Row w5 (Tag.put nZ wA.heap.size w5.heap.size (2,j'+1)) (2,j'+1) 3 v' (xs.map cI++[cI z])->aQ w gt gb gp X Bs D (S2.aV [-z,zn],{P with needs:=jK P.needs j' z}) (w5.setCell ⟨b,j',none⟩ v')):=fun wA w5 v' o1 o2 hr=>aQ.trans A4 B4 C4 O4 (hpu wA w5 v' o1 o2 hr);have HN:=zh hn;have hS0:=BI.out w9.drew (zr.drew);clear hrow hSS hpu hxs hn H4 A4 B4 C4 O4 hsv hnn H9 ewz;go_wp2_with fail;refine aT (n:=17) (E:=fun j=>j==16) (S:=fun W=>W.cell? ⟨X.px,3,none⟩=some (.slice (some ⟨b,0,none⟩) nn cap)/\W.cell? ⟨b,j',none⟩=some (.slice ao n YW)/\W.frozen? ⟨b,j',none⟩=false) zk rfl hS0 (fun hHeld=>?_);refine tW 0 ?_;refine tW 1 ?_;refine tW 2 ?_;refine tK 3 ?_;refine tW 4 ?_;refine tW 5 ?_;refine tW 6 ?_;refine tW 7 ?_;refine tK 8 ?_;refine tW 9 ?_;refine tW 10 ?_;refine tK 11 ?_;refine tW 12 ?_;refine tO 13 fun K hK=>?_;go_simp;refine hK.out _ _ ?_ (fun hHeld=>?_);·exact zDy
   clear hK K;try simp only[Act.put,dL,dQ,dM,dN,dO,dP]
   refine tO 14 fun K hK=>?_;(refine Row.step (u:=.int .i64 z) kF (by rfl) (.tmp 106) (.tmp 108) (by rfl) zBT (by rfl) zBN rfl zBE zBW zAC ?_;intro bb5 cap5 w5 NI Ef);refine hK.out _ _ ?_ (fun hHeld=>?_);·exact zD3
   clear hK K;try simp only[Act.put,dL,dQ,dM,dN,dO,dP]
   refine tW 15 ?_;refine eY (rs:=[16]) zk zAE ?_;refine bD.late (i:=16) rfl zk (fun K hK=>?_) ?_
   ·(obtain⟨s1,s2,s3⟩:=hHeld;go_simp);refine hK.out _ _ ?_;clear hK K;try simp only[Act.put,dL,dQ,dM,dN,dO,dP]
    refine aS zk ?_ _;have YS:=zh (Xh.out _ w5 _ zBA Ef NI);clear NI Ef;go_wp2_with fail;go_end0;exact⟨rfl,by have h:=YS.out;simp only[qM]at h;exact h⟩
   exact bD.nil
  rw[if_pos zBB,yT]at nY;obtain⟨zm,hzm⟩:=ze ((S1.meet D.x D.l f' r 1 s).2);obtain⟨S2,hS2⟩:=ze ((S1.meet D.x D.l f' r 1 s).1);have OY:0<=zm/\zm<=65536:=by rw[<-hzm];exact TB.Gi H7.out.ok _ _ _ _ _ _
  have V5:Hid (∀W,O0 w7 W->Calls Tryz.prog 225 #[.pointer (some ⟨X.c,0,none⟩),.int .i64 f',.int .i64 r,.int .i64 1,.agg #[.string s.name,.slice OQ MO OT,.slice Qq IG Qr]] W fun e w'=>e= .returned (.int .i64 zm)/\aQ w7 pK pO nZ X Bs D (S2,P) w'):=fun W o=>by have h:=(Gg (H7.out.aF o) HG.out (p:=f') (rule:=r) (cc:=1) (by have:=He.out;omega) hr6 zBB (dh.keep akl.out (Kp.fU o)) hss zm hzm).mono fun e w' ⟨he,h⟩=>(⟨he,aQ.after o h⟩:e=_/\aQ w7 pK pO nZ X Bs D _ w');rw[hS2]at h;exact h
  have ewz:=zw (-z);rw[hzm,hS2]at nY;have h9:=nY.out;subst h9;have hS0:=YV.out w7.drew (zr.drew);have lQ:Hid (∀w8 W,aQ w7 pK pO nZ X Bs D (S2,P) w8->O0 w8 W->Ints W (.slice (some ⟨w8.heap.size,0,none⟩) 2 2) [-z,zm]->Calls Tryz.prog 163 #[.pointer (some ⟨X.c,0,none⟩),.slice (some ⟨w8.heap.size,0,none⟩) 2 2] W fun e w'=>e= .returned (.tuple #[])/\aQ w7 pK pO nZ X Bs D (S2.aV [-z,zm],P) w'):=fun w8 W h8 o hI=>by obtain⟨OW,gb8,Xj,Hx,A8,B8,C8,O8⟩:=h8;exact(xR (Hx.aF o) hI zAE).mono fun e w' ⟨he,h⟩=>⟨he,aQ.trans A8 B8 C8 O8 (aQ.after o h)⟩
  clear hzm hS2 q0 q1 H7;go_wp2_with fail;refine aT (n:=16) (E:=fun _=>false) (S:=fun W=>W.cell? ⟨X.px,0,none⟩=some (.pointer (some ⟨X.c,0,none⟩))/\W.rangeAt w.heap.size 0 [.string s.name,.slice OQ MO OT,.slice Qq IG Qr]) zk rfl hS0 (fun hHeld=>?_);refine tW 0 ?_;refine tW 1 ?_;refine tW 2 ?_;refine tK 3 ?_;refine tW 4 ?_;refine tW 5 ?_;refine tW 6 ?_;refine tW 7 ?_;refine tW 8 ?_;refine tK 9 ?_;refine tW 10 ?_;refine tW 11 ?_;refine tK 12 ?_ (hy:=by(intro w hSw;(try dsimp only at hSw);refine Eq.trans (bV (ty:=108) (x:=.tmp 5) (cs:=[.string s.name,.slice OQ MO OT,.slice Qq IG Qr]) rfl rfl hSw.2 Tryz.underlying108 rfl zk) ?_;with_reducible rfl));refine tO 13 fun K hK=>?_;(go_simp;refine(V5.out _ zBA).mono ?_;rintro e w8 ⟨rfl,h8⟩;have oM:Only (aX pK pO nZ) w7 w8:=(by obtain⟨_,_,_,_,_,_,_,O⟩:=h8;exact O);try go_wp2_with fail);refine hK.out _ _ ?_ (fun hHeld=>?_);·(try dsimp only)<;>(exact YV.out _ oM)
  clear hK K;try simp only[Act.put,dL,dQ,dM,dN,dO,dP]
  refine tO 14 fun K hK=>?_;go_simp;refine hK.out _ _ ?_ (fun hHeld=>?_);·(try dsimp only)<;>(exact YV.out _ zAF)
  clear hK K;try simp only[Act.put,dL,dQ,dM,dN,dO,dP]
  refine tO 15 fun K hK=>?_;(go_simp;refine(lQ.out w8 _ h8 zAA (by first|exact rC _ _ _ (bW hzb) (dX OY)|exact(rC w8 _ _ (bW hzb) (dX OY)).aF zBA)).mono ?_;rintro e w9 ⟨rfl,h9⟩;try go_wp2_with fail);refine hK.out _ _ ?_ (fun hHeld=>?_);·(try dsimp only)<;>(exact YV.out _ h9.only)
  clear hK K;try simp only[Act.put,dL,dQ,dM,dN,dO,dP]
  refine aS zk ?_ _;have H9:=zh (YU.out _ _ h9);clear h9 h8 oM;exact zB6
end
end Go.Proofs.YtdmmebjjojimiaaGreatDoor
