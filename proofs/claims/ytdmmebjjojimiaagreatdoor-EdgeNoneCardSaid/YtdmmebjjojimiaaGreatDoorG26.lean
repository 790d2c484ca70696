/- Package edge: root. Printed by gen_edw6.py. -/
import Derived.Test.YtdmmebjjojimiaaGreatDoorG25
set_option maxRecDepth 100000
set_option maxHeartbeats 8000000
set_option linter.all false
namespace Go.Proofs
theorem zBn{p:Prop}(h:p:=by repeat (first|exact Only.refl _ _|exact oA|apply Only.drew|apply Only.alloc|apply Only.drewN)):p:=h
theorem zAP{p:Prop}(h:p:=by repeat (first|exact Only.refl _ _|exact oM|apply Only.drew|apply Only.alloc|apply Only.drewN)):p:=h
theorem zAo{p:Prop}(h:p:=by(intro w hSw;(try dsimp only at hSw);obtain⟨p0,p1⟩:=HS4.out w (hSw.mono fun _ f=>f.elim);go_simp<;>(try with_reducible rfl))):p:=h
theorem zBS{p:Prop}(h:p:=by rw[Ja.out];exact ci):p:=h
theorem zAL{p:Prop}(h:p:=by repeat (first|exact Only.refl _ _|exact oA|apply Only.drew|apply Only.alloc|apply Only.drewN)):p:=h
theorem zCq{p:Prop}(h:p:=by
 go_wp2_with fail
 ((try simp only[Exit.inBlock,Exit.then]);refine bodyPost_ret (results_none rfl _ _ _) rfl ?_)
 exact⟨rfl,H9.out⟩):p:=h
theorem zFF{p:Prop}(h:p:=by
 obtain⟨b,cap,e,-,-⟩:=fJ hrow zBk
 simp only[qU]at e
 obtain⟨rfl,-,rfl⟩:=e
 refine⟨?_,b,rfl⟩
 show wr.cell? ⟨b,i,none⟩=_
 rw[hrow.cellAt i zBk]
 unfold ji
 rw[List.getElem?_map,ht];rfl):p:=h
theorem zDz{p:Prop}(h:p:=by
 unfold aH.eG aH.jI
 exact⟨qR (yO _ _) (by rw[List.length_range];exact qH _),fun t ht=>yI.1 (List.mem_filter.1 ht).1⟩):p:=h
end Go.Proofs
namespace Go.Proofs.YtdmmebjjojimiaaGreatDoor
open Go.RowKit
structure EdG (D:Dn):Prop where
 lt:∀p∈D.l,p<D.x.packs.length
 mid:Fv D.x
 nl:D.names.length<=1000000
section
variable {w w':World} {gt gb gp:Tag} {X:NV} {Bs:Nat} {D:Dn} {E:ES}
theorem jW.nN(H:jW w gt gb gp X Bs D E){k:Nat}(hk:w.heap.size<=k):¬dF gt gb gp k:=by obtain⟨V,hV⟩:=H.gx.gr.tab;obtain⟨U,hU⟩:=H.gx.gr.Jy;unfold dF Mine;rw[hV.fresh k hk,hU.fresh k hk,H.fresh k hk];simp
theorem bV.only(h:bV w gt gb gp X Bs D E w'):Only (dF gt gb gp) w w':=by obtain⟨_,_,_,_,_,_,_,O⟩:=h;exact O
theorem jW.Sj(H:jW w gt gb gp X Bs D E):∀k,dF gt gb gp k->Bs<=k:=fun k hk=>by
 rcases hk with hk|hk
 ·exact H.gx.low k hk
 ·exact H.low k hk
theorem EL(H:jW w gt gb gp X Bs D E){v:Value}{xs:List Int}(hI:Ints w v xs)(hb:xs.length<=1000000):Calls Tryz.prog 163 #[.pointer (some ⟨X.c,0,none⟩),v] w fun e w'=>e= .returned (.tuple #[])/\bV w gt gb gp X Bs D (E.1.dD xs,E.2) w':=(Y5 H.gx hI hb).mono fun e w' ⟨he,h⟩=>⟨he,H.step h⟩
theorem Nj(H:jW w gt gb gp X Bs D E)(hG:EdG D){p rule cc:Nat}(hp6:p<=1000000)(hr6:rule<=1000000)(hc6:cc<=1000000){css:List Value}{s:jE}(hs:eF Bs w css s)(hss:s.sets.length<=900000)(z:Int)(hz:(E.1.meet D.x D.l p rule cc s).2=z):Calls Tryz.prog 225 #[.pointer (some ⟨X.c,0,none⟩),.int .i64 p,.int .i64 rule,.int .i64 cc,.agg css.toArray] w fun e w'=>e= .returned (.int .i64 z)/\bV w gt gb gp X Bs D ((E.1.meet D.x D.l p rule cc s).1,E.2) w':=(ait H.gx hG.lt hG.mid hp6 hr6 hc6 hs hss z hz).mono fun e w' ⟨he,h⟩=>⟨he,H.step h⟩
theorem jW.OQ(H:jW w gt gb gp X Bs D E):∃a1 c1 a2 c2,X.G.x1= .slice a1 D.x.packs.length c1/\X.G.x2= .slice a2 D.x.iH.length c2:=by obtain⟨a1,c1,a2,c2,h1,h2,-⟩:=H.gx.OQ;exact⟨a1,c1,a2,c2,h1,h2⟩
theorem eF.Sj{css:List Value}{s:jE}(h:eF Bs w css s)(H:jW w gt gb gp X Bs D E)(o:Only (dF gt gb gp) w w'):eF Bs w' css s:=eF.keep h (Kp.yS o H.Sj)
theorem iL{z:Int}(h:0<=z/\z<=65536):bU (-z):=⟨by omega,by omega⟩
theorem jC{z:Int}(h:0<=z/\z<=65536):bU z:=⟨by omega,by omega⟩
theorem TB.xG{S:TB}(h:S.1.Ok)(a:At):0<=(S.num a).2/\(S.num a).2<=65536:=(Tab.xq h a).2
theorem adB(l:List At)(x:At):numOf l x<=l.length:=by
 unfold numOf;split;·rename_i hm;exact List.idxOf_lt_length_of_mem hm
 exact qE _
theorem TB.Nk{S:TB}(h:S.1.Ok)(x:aH)(l:List Nat)(p r c:Nat)(s:jE):0<=(S.meet x l p r c s).2/\(S.meet x l p r c s).2<=65536:=by
 unfold TB.meet;split;·exact⟨Int.le_refl _,(by decide:(0:Int)<=65536)⟩
 split;·have h1:=h.lim;have h2:=h.len;have h3:=adB S.1.l (dU p r c);show(0:Int)<=(numOf S.1.l (dU p r c):Int)/\(numOf S.1.l (dU p r c):Int)<=65536;exact zCw
 exact TB.xG h _
theorem jW.ok(H:jW w gt gb gp X Bs D E):E.1.1.Ok:=H.gx.ok
theorem afy(w:World)(a:Int)(ha:bU a):Ints (w.alloc (.cells #[.int .i64 a] 3)) (.slice (some ⟨w.heap.size,0,none⟩) 1 1) [a]:=
 Ints.fH (uO zA0) (fun z hz=>by simp at hz;subst hz;exact ha)
theorem Hu(x:aH)(s:Str):x.find s= -1\/ ∃k:Nat,x.find s=k/\k<x.packs.length:=by
 rcases pU (fun p=>decide (p.name=s)) x.packs with h| ⟨k,h,hk,-⟩;·exact .inl h
 exact .inr ⟨k,h,hk⟩
theorem Nl(x:aH)(s:Str):(x.targets s).length<=x.packs.length+1/\∀t∈x.targets s,t<=x.packs.length:=by
 have hp:∀s:Str,(x.eG s).length<=x.packs.length/\∀t∈x.eG s,t<x.packs.length:=fun s=>by exact zDz
 unfold aH.targets;split
 ·rename_i h;rcases Hu x s with e| ⟨k,e,hk⟩;·omega
  rw[e];simp;omega
 have:=hp s;exact⟨by omega,fun t ht=>by have:=this.2 t ht;omega⟩
def nO(P:iM)(z:Int)(l:List Nat):iM:=l.foldl (fun P t=>{P with roots:=gQ P.roots t z}) P
theorem Sl(P:iM)(z:Int)(l:List Nat)(t:Nat):nO P z (l++[t])={nO P z l with roots:=gQ (nO P z l).roots t z}:=by simp[nO]
theorem Bc{P:iM}{N:Nat}(h:vK P N)(z:Int):∀(l:List Nat),vK (nO P z l) (N+l.length):=by
 intro l;induction l generalizing P N with
 |nil=>exact h
 |cons a r ih=>have:=ih (h.Jl a z);rw[qN,show N+(r.length+1)=N+1+r.length by omega];exact this
attribute [local irreducible] wpQuiet in
theorem aiy(H:jW w gt gb gp X Bs D E)(hG:EdG D){r:Nat}(hr6:r<=1000000){css:List Value}{s:jE}(hs:eF Bs w css s)(hss:s.sets.length<=900000){N:Nat}(hP:vK E.2 N)(hN:N<=900000):Calls Tryz.prog 159 #[.pointer (some ⟨X.px,0,none⟩),.int .i64 r,.agg css.toArray] w fun e w'=>e= .returned (.tuple #[])/\bV w gt gb gp X Bs D (E.root D.x D.l D.names r s) w':=by
 have HG:=zh hG;have hpk:=hG.mid.packs;obtain⟨Vj,Wi,Vk,Wj,rfl,hsn,-,-⟩:=hs.cells;obtain⟨Tz,Vl⟩:=ze s.spans.length;obtain⟨OT,Vm⟩:=ze s.sets.length;rw[Vl,Vm]at hs;rw[Vl,Vm];obtain⟨W0,hW0⟩:=ze (w.alloc (.cells #[.string s.name,.slice Vj Tz Vk,.slice Wi OT Wj] 108));have hb0:W0.heap[w.heap.size]? =some (.cells #[.string s.name,.slice Vj Tz Vk,.slice Wi OT Wj] 108 (0,0)):=zAt;have nJ:Hid (O0 w W0):=zAr;have hnm:=H.nN (qH w.heap.size);have H0:=zh (H.aN nJ.out);have HBx:Hid (∀W,Only (dF gt gb gp) W0 W->W.heap[w.heap.size]? =some (.cells #[.string s.name,.slice Vj Tz Vk,.slice Wi OT Wj] 108 (0,0))):=fun W o=>aF hb0 o hnm;have alQ:Hid (∀W,Only (dF gt gb gp) W0 W->eF Bs W [.string s.name,.slice Vj Tz Vk,.slice Wi OT Wj] s):=fun W o=>eF.Sj (eF.keep hs (Kp.iI nJ.out)) H0.out o;obtain⟨z,hz⟩:=ze ((E.1.num (iK r)).2);obtain⟨S1,hS1⟩:=ze ((E.1.num (iK r)).1);have hzb:0<=z/\z<=65536:=by rw[<-hz];exact TB.xG H.ok _
 have Vp:Hid (Calls Tryz.prog 224 #[.pointer (some ⟨X.px,0,none⟩),.int .i64 r] W0 fun e w'=>e= .returned (.int .i64 z)/\bV W0 gt gb gp X Bs D (S1,E.2) w'):=by rw[<-hS1];exact XJ H0.out (r:=r) ⟨by omega,by omega⟩ z hz
 obtain⟨E9,Ht⟩:=ze (E.root D.x D.l D.names r s);rw[Ht];have uT:Hid (E9=(if 0<=D.x.find s.name then ((S1.meet D.x D.l (D.x.find s.name).toNat r 1 s).1.dD [-z,(S1.meet D.x D.l (D.x.find s.name).toNat r 1 s).2],nO E.2 z (D.x.targets s.name))else if eH D.names s.name<0 then (S1.dD [-z],nO E.2 z (D.x.targets s.name))else ((S1.num (iJ (eH D.names s.name).toNat)).1.dD [-z,(S1.num (iJ (eH D.names s.name).toNat)).2],{nO E.2 z (D.x.targets s.name)with needs:=nU (nO E.2 z (D.x.targets s.name)).needs (eH D.names s.name).toNat z}))):=by show _=_;rw[<-Ht];unfold ES.root;dsimp only;rw[hz,hS1];rfl
 have D7:=zh hP;clear Ht hs hb0 hz hS1 H hG Vl Vm hsn hnm hP;go_enter Tryz.func159,Tryz.ntmps159;go_wp2_with fail;try rw[hW0]
 clear hW0;refine Vp.out.mono ?_;rintro e w1 ⟨rfl,h1⟩;have HE1:=zh h1;clear h1 Vp;obtain⟨kF,lV,Tv,H1',A1,B1,C1,O1'⟩:=HE1.out;have H1:=zh H1';have O1:=zh O1';have HAg:=zh (And.intro A1 (And.intro B1 C1));clear H1' O1' A1 B1 C1 HE1 H0; -- what is read at all worlds to come
 have HM1:Hid (∀W,Only (dF kF lV Tv) w1 W->Only (dF gt gb gp) W0 W):=fun W o=>O1.out.zZ HAg.out.1 HAg.out.2.1 HAg.out.2.2 o;have HS:Hid (∀W,Only (dF kF lV Tv) w1 W->W.cell? ⟨X.px,0,none⟩=some (.pointer (some ⟨X.c,0,none⟩))/\W.cell? ⟨w.heap.size,0,none⟩=some (.string s.name)):=fun W o=>
  ⟨dh H1.out.cells.1 o H1.out.tp,by rw[ah (HBx.out W (HM1.out W o))];rfl⟩
 obtain⟨a1,c1,a2,c2,JK,Kr⟩:=H1.out.OQ;have FV:Hid (∀W,O0 w1 W->Calls Tryz.prog 78 #[.pointer (some ⟨X.c,0,none⟩)] W fun e w'=>e= .returned (.agg #[.slice a1 D.x.packs.length c1,.slice a2 D.x.iH.length c2])/\O0 W w'):=fun W o=>mF (H1.out.aN o).gx.gr JK Kr;have Us:Hid (∀W,O0 w1 W->Calls Tryz.prog 148 #[.agg #[.slice a1 D.x.packs.length c1,.slice a2 D.x.iH.length c2],.string s.name] W fun e w'=> ∃v,e= .returned v/\w'.ownsRow 0 3 1 v (D.x.targets s.name).length (ji (D.x.targets s.name))/\(∀k,v.ownBlock=some k->W.heap.size<=k)/\O0 W w'):=fun W o=>by have h:=(H1.out.aN o).gx.BI;rw[JK,Kr]at h;exact Ju h zBk s.name
 have HFd:Hid (∀W,Only (dF kF lV Tv) w1 W->Calls Tryz.prog 182 #[.agg #[.slice a1 D.x.packs.length c1,.slice a2 D.x.iH.length c2],.string s.name] W fun e w'=>e= .returned (.int .i64 (D.x.find s.name))/\O0 W w'):=fun W o=>by have h:=jl.keep H1.out.gx.BI (Kp.yS o H1.out.Sj);rw[JK,Kr]at h;exact BO h s.name
 have CX:=zh (And.intro JK Kr);obtain⟨tg,htg⟩:=ze (D.x.targets s.name);have htl:=Nl D.x s.name;rw[htg]at Us uT htl;obtain⟨nt,hnt⟩:=ze tg.length;rw[hnt]at Us htl;have HTl:=zh htl.2;have alS:=htl.1;have Ja:=zh hnt;obtain⟨n1,hn1⟩:=ze D.x.packs.length;obtain⟨n2,hn2⟩:=ze D.x.iH.length;rw[hn1]at hpk alS FV Us HFd CX HTl;rw[hn2]at FV Us HFd CX;have XP:=zh hn1;have hS0:=HS.out w1.drew (zr.drew);clear JK Kr htg htl hnt hn1 hn2;go_wp2_with fail;refine bH (n:=10) (E:=fun _=>false) (S:=fun W=>W.cell? ⟨X.px,0,none⟩=some (.pointer (some ⟨X.c,0,none⟩))/\W.cell? ⟨w.heap.size,0,none⟩=some (.string s.name)) zk rfl hS0 (fun hHeld=>?_);refine tW 0 ?_;refine tW 1 ?_;refine tW 2 ?_;refine tK 3 ?_;refine tW 5 ?_;refine tK 6 ?_;refine tW 9 ?_;refine tO 4 fun K hK=>?_;(go_simp;refine(FV.out _ zAB).mono ?_;rintro e w2 ⟨rfl,o2⟩;have oA:O0 w1 w2:=Only.same zBj o2;try go_wp2_with fail);refine hK.out _ _ ?_ (fun hHeld=>?_);·(try dsimp only)<;>(exact HS.out _ (oA.mono fun _ f=>f.elim))
 clear hK K;try simp only[Act.put,gJ,gU,gK,gu,gy,gG]
 refine tO 7 fun K hK=>?_;(go_simp;refine(Us.out _ zAL).mono ?_;rintro e w3 ⟨vt,rfl,r3,b3,o3⟩;have oB:O0 w1 w3:=Only.same zBn o3;obtain⟨at3,ct3,rfl,kt3,-⟩:=aC r3;try go_wp2_with fail);refine hK.out _ _ ?_ (fun hHeld=>?_);·(try dsimp only)<;>(exact HS.out _ (oB.mono fun _ f=>f.elim))
 clear hK K;try simp only[Act.put,gJ,gU,gK,gu,gy,gG]
 refine tW 8 ?_;refine aZ zk ?_ _;have bW:=zh oB;have YD:Hid (w3.ownsRow 0 3 1 (.slice at3 nt ct3) nt (ji tg)):=r3;have H3:=zh (H1.out.aN oB);have Wn:Hid (∀k,(Value.slice at3 nt ct3).ownBlock=some k->¬dF kF lV Tv k):=fun k hk=>H1.out.nN (qR (qR oA.size (by first|exact qH _| (simp[World.drew,World.drewN]))) (b3 k hk));clear r3 b3 o3 o2 oB oA;go_wp2_with fail;have HL0:Hid (bV w3 kF lV Tv X Bs D (S1,nO E.2 z (tg.take 0)) w3):=bV.refl H3.out;go_loopw [24] (fun vi wr=> ∃i:Nat,vi= .int .i64 i/\i<=nt/\Hid (bV w3 kF lV Tv X Bs D (S1,nO E.2 z (tg.take i)) wr)) (fun v _=>nt-(RowKit.intOf v).toNat);case atStart=>exact⟨0,rfl,qE _,HL0⟩
 case round=>
  clear HL0;obtain⟨i,rfl,hi,HR⟩:=hrel;by_cases ci:i<nt
  ·obtain⟨t,ht⟩:=zG tg i zBS;obtain⟨vM,vN,uU,H4,A4,B4,C4,O4⟩:=HR.out;have hcell:wr.cell? ⟨(match at3 with|some a=>a.block|none=>0),i,none⟩=some (.int .i64 t)/\∃b,at3=some ⟨b,0,none⟩:=by have hrow:=aI YD.out O4 Wn.out;exact zFF
   obtain⟨hcell,bt3,rfl⟩:=hcell;have jh:=zw (i+1);have htb:t<=1000:=by have:=HTl.out t (qT ht);omega
   obtain⟨P,hP⟩:=ze (nO E.2 z (tg.take i));have hPl:vK P 900000000:=by rw[<-hP];exact(Bc D7.out z (tg.take i)).mono zAx
   have aiz:vK P 910000:=by rw[<-hP];exact(Bc D7.out z (tg.take i)).mono zAx
   rw[hP]at H4;obtain⟨ix,v,hrow,hSS,hpu⟩:=H4.Jl (e:=t) ⟨by omega,by omega⟩ (z:=z) (jC hzb) (by have:=aiz.rol;unfold maxLen;show P.roots.length<_;omega);have hrl:=aiz.ror t;obtain⟨xs,hxs⟩:=ze (fA P.roots t);rw[show fA (S1,P).2.roots t=xs from hxs]at hrow hpu;rw[hxs]at hrl;obtain⟨ao,cap,rfl,-,-⟩:=hrow.shape;obtain⟨n,hn⟩:=ze xs.length;simp only[qM]at hrow hSS;rw[hn]at hrow hrl hSS;have Iw:Hid (∀W,Only (fun k=>uU k=(3,ix+1)) wr W->W.cell? ⟨X.px,4,none⟩=some (.map (some X.m2))/\(Instr.lookup 151 (.map (some X.m2)) (.int .i64 (t:Int)) false).run Tryz.prog W= .ok (.slice ao n cap) W):=hSS;have vW:=zh hrow;have uh:Hid (∀W,bV wr vM vN uU X Bs D (S1,{P with roots:=gQ P.roots t z}) W->bV w3 kF lV Tv X Bs D (S1,nO E.2 z (tg.take (i+1))) W):=fun W h=>by rw[List.take_add_one,ht];simp only[Option.toList_some];rw[Sl,hP];exact bV.trans A4 B4 C4 O4 h
   have HPu:=zh hpu;have HN:=zh hn;have hS0:=Iw.out wr.drew (zr.drew);have KD:=zh jh;clear hrow hSS hpu hxs hn H4 A4 B4 C4 O4 ht hP hPl aiz HR jh;go_wp2_with fail;refine bH (n:=15) (E:=fun j=>j==14) (S:=fun W=>W.cell? ⟨X.px,4,none⟩=some (.map (some X.m2))/\(Instr.lookup 151 (.map (some X.m2)) (.int .i64 (t:Int)) false).run Tryz.prog W= .ok (.slice ao n cap) W) zk rfl hS0 (fun hHeld=>?_);refine tW 0 ?_;refine tW 1 ?_;refine tW 2 ?_;refine tK 3 ?_;refine tW 4 ?_;refine tW 5 ?_;refine tW 6 ?_;refine tW 7 ?_;refine tK 8 ?_;refine tW 9 ?_;refine tK 10 ?_;refine tW 11 ?_;refine tO 12 fun K hK=>?_;go_simp;refine hK.out _ _ ?_ (fun hHeld=>?_);·exact zFG
   clear hK K;try simp only[Act.put,gJ,gU,gK,gu,gy,gG]
   refine tO 13 fun K hK=>?_;(refine Row.step (u:=.int .i64 z) kJ (by rfl) (.tmp 38) (.tmp 40) (by rfl) zB9 (by rfl) zBz rfl zBo zCD zAG ?_;intro bb5 cap5 w5 Un Kv);refine hK.out _ _ ?_ (fun hHeld=>?_);·exact zFK
   clear hK K;try simp only[Act.put,gJ,gU,gK,gu,gy,gG]
   refine fP (rs:=[14]) zk zAM ?_;refine dA.late (i:=14) rfl zk (fun K hK=>?_) ?_
   ·(obtain⟨w9,JM,Ht⟩:=HPu.out _ w5 _ zBj Kv Un;refine adx (by rfl) (.tmp 31) (.tmp 32) (.tmp 41) (by rfl) (by rfl) (by rfl) (by rfl) JM ?_);refine hK.out _ _ ?_;clear hK K;try simp only[Act.put,gJ,gU,gK,gu,gy,gG]
    refine aZ zk ?_ _;have HE9:=zh (uh.out w9 Ht);have jh:=KD.out;clear Ht JM Un Kv uh HPu vW Iw hS0;go_wp2_with fail;go_roundw;case rel=>exact⟨i+1,by first|rfl|go_num,by omega,HE9⟩
    case measure=>simp[RowKit.intOf]<;>omega
   exact dA.nil
  obtain rfl:nt=i:=by omega
  clear hi ci;rw[qI (yG Ja.out)]at HR;obtain⟨P,hP⟩:=ze (nO E.2 z tg);have HPL:Hid (vK P 910000):=by rw[<-hP];exact(Bc D7.out z tg).mono (by have:=Ja.out;omega)
  rw[hP]at HR uT;obtain⟨vM,vN,uU,H4',A4,B4,C4,O4⟩:=HR.out;have H4:=zh H4';have O14:Only (dF kF lV Tv) w1 wr:=(bW.out.mono fun _ f=>f.elim).same O4;have HM4:Hid (∀W,Only (dF vM vN uU) wr W->Only (dF kF lV Tv) w1 W):=fun W o=>O14.zZ (fun k hk=>A4 k (Nat.lt_of_lt_of_le hk bW.out.size)) (fun k hk=>B4 k (Nat.lt_of_lt_of_le hk bW.out.size)) (fun k hk=>C4 k (Nat.lt_of_lt_of_le hk bW.out.size)) o;have Fz:Hid (∀E2 W,bV wr vM vN uU X Bs D E2 W->bV w gt gb gp X Bs D E2 W):=fun E2 W h=>
   bV.after nJ.out (bV.trans HAg.out.1 HAg.out.2.1 HAg.out.2.2 O1.out (bV.after bW.out (bV.trans A4 B4 C4 O4 h)))
  have HS4:Hid (∀W,Only (dF vM vN uU) wr W->W.cell? ⟨X.px,0,none⟩=some (.pointer (some ⟨X.c,0,none⟩))/\W.cell? ⟨w.heap.size,0,none⟩=some (.string s.name)):=fun W o=>HS.out W (HM4.out W o);have alU:Hid (∀W,O0 wr W->Calls Tryz.prog 78 #[.pointer (some ⟨X.c,0,none⟩)] W fun e w'=>e= .returned (.agg #[.slice a1 n1 c1,.slice a2 n2 c2])/\O0 W w'):=fun W o=>mF (H4.out.aN o).gx.gr CX.out.1 CX.out.2;have aiA:Hid (∀W,O0 wr W->Calls Tryz.prog 182 #[.agg #[.slice a1 n1 c1,.slice a2 n2 c2],.string s.name] W fun e w'=>e= .returned (.int .i64 (D.x.find s.name))/\O0 W w'):=fun W o=>HFd.out W (HM4.out W (o.mono fun _ f=>f.elim));have HB4:Hid (∀W,Only (dF vM vN uU) wr W->W.rangeAt w.heap.size 0 [.string s.name,.slice Vj Tz Vk,.slice Wi OT Wj]):=fun W o j u hu=>by rw[Nat.zero_add,ah (HBx.out W (HM1.out W (HM4.out W o)))];simpa using hu
  have alV:Hid (∀W,Only (dF vM vN uU) wr W->eF Bs W [.string s.name,.slice Vj Tz Vk,.slice Wi OT Wj] s):=fun W o=>alQ.out W (HM1.out W (HM4.out W o));obtain⟨f,hf⟩:=ze (D.x.find s.name);have hfr:=Hu D.x s.name;rw[hf]at aiA uT hfr;clear hP hf H4' A4 B4 C4 O4 O14 HR HFd FV Us HTl YD Wn D7 H3 H1 HS hS0;go_wp2_with fail;refine eY (fun W=>O0 wr W) zk zk (by exact zr.drew) ?_;iterate 4 refine qV ?_ (hy:=zAo)
  refine kR (v:=.agg #[.slice a1 n1 c1,.slice a2 n2 c2]) (f:=78) (args:= #[.pointer (some ⟨X.c,0,none⟩)]) (by rfl) ?_ ?_ ?_;·exact zCM
  ·(intro w hSw;exact(alU.out w hSw).mono fun _ _ ⟨he,hw⟩=>⟨he,hSw.same hw⟩)
  try simp only[Act.put,gJ,gU,gK,gu,gy,gG]
  iterate 2 refine qV ?_ (hy:=zAo)
  refine kR (v:=.int .i64 f) (f:=182) (args:= #[.agg #[.slice a1 n1 c1,.slice a2 n2 c2],.string s.name]) (by rfl) ?_ ?_ ?_;·exact zCM
  ·(intro w hSw;exact(aiA.out w hSw).mono fun _ _ ⟨he,hw⟩=>⟨he,hSw.same hw⟩)
  try simp only[Act.put,gJ,gU,gK,gu,gy,gG]
  refine qV ?_ (hy:=zAo);refine wpQuiet_nil ?_;intro w7 O7;have yx:=zh O7;have H7:=zh (H4.out.aN O7);have O7m:Only (dF vM vN uU) wr w7:=O7.mono fun _ f=>f.elim;have adD:Hid (∀E2 W,bV w7 vM vN uU X Bs D E2 W->bV w gt gb gp X Bs D E2 W):=fun E2 W h=>Fz.out E2 W (bV.after yx.out h);have HS7:Hid (∀W,Only (dF vM vN uU) w7 W->W.cell? ⟨X.px,0,none⟩=some (.pointer (some ⟨X.c,0,none⟩))/\W.rangeAt w.heap.size 0 [.string s.name,.slice Vj Tz Vk,.slice Wi OT Wj]):=fun W o=>⟨(HS4.out W (O7m.same o)).1,HB4.out W (O7m.same o)⟩;have aqj:=zh (alV.out w7 O7m);obtain⟨q0,q1⟩:=HS4.out w7 O7m;clear O7 O7m HB4 alV HS4 alU aiA Fz yx H4;rcases hfr with rfl| ⟨f',rfl,hf'⟩
  ·rw[if_neg zBk]at uT;obtain⟨zn,hzn⟩:=ze (ES.Qo (S1,P) D.names s.name);obtain⟨j,hj⟩:=ze (eH D.names s.name);have FB:=zh (adn H7.out HG.out.nl s.name j zn hj hzn);have hjr:=FU D.names s.name;rw[hj]at hjr uT;have HNT:Hid (ES.Na (S1,P) D.names s.name=if j<0 then S1 else (S1.num (iJ j.toNat)).1):=by unfold ES.Na;rw[hj];exact rfl
   have HZn:Hid ((if j<0 then (0:Int)else (S1.num (iJ j.toNat)).2)=zn):=by rw[<-hzn];unfold ES.Qo;rw[hj];exact rfl
   rw[HNT.out]at FB;have PZ:=H7.out.ok;clear hzn hj HNT H7 q0;go_wp2_with fail;refine FB.out.mono ?_;rintro e w8 ⟨rfl,h8⟩;have H8:=zh h8;clear h8 FB;have q0:=(HS7.out w8 (by obtain⟨_,_,_,_,_,_,_,O⟩:=H8.out;exact O)).1;have ewz:=zw (-z);rcases hjr with rfl| ⟨j',rfl,hj'⟩
   ·rw[if_pos zBk]at uT H8;have h9:=uT.out;subst h9;have xg:Hid (Calls Tryz.prog 163 #[.pointer (some ⟨X.c,0,none⟩),.slice (some ⟨w8.heap.size,0,none⟩) 1 1] (w8.alloc (.cells #[.int .i64 (-z)] 3)) fun e w'=>e= .returned (.tuple #[])/\bV w gt gb gp X Bs D (S1.dD [-z],P) w'):=by obtain⟨Vo,gb8,gp8,Hx,A8,B8,C8,O8⟩:=H8.out;exact(EL (Hx.aN (zr.alloc _)) (afy w8 (-z) (iL hzb)) zAM).mono fun e w' ⟨he,h⟩=>⟨he,adD.out _ _ (bV.trans A8 B8 C8 O8 (bV.after (zr.alloc _) h))⟩
    clear H8;go_wp2_with fail;refine xg.out.mono ?_;rintro e w9 ⟨rfl,h9⟩;have H9:=zh h9;clear h9 xg;exact zCq
   rw[if_neg zBk]at uT H8 HZn;rw[yT]at uT H8 HZn;have aiC:0<=zn/\zn<=65536:=by rw[<-HZn.out];exact TB.xG PZ _
   rw[HZn.out]at uT;obtain⟨S2,hS2⟩:=ze ((S1.num (iJ j')).1);rw[hS2]at H8 uT;have h9:=uT.out;subst h9;have xg:Hid (Calls Tryz.prog 163 #[.pointer (some ⟨X.c,0,none⟩),.slice (some ⟨w8.heap.size,0,none⟩) 2 2] (w8.alloc (.cells #[.int .i64 (-z),.int .i64 zn] 3)) fun e w'=>e= .returned (.tuple #[])/\bV w gt gb gp X Bs D (S2.dD [-z,zn],P) w'):=by obtain⟨Vo,gb8,gp8,Hx,A8,B8,C8,O8⟩:=H8.out;exact(EL (Hx.aN (zr.alloc _)) (BH w8 (-z) zn (iL hzb) (jC aiC)) zAM).mono fun e w' ⟨he,h⟩=>⟨he,adD.out _ _ (bV.trans A8 B8 C8 O8 (bV.after (zr.alloc _) h))⟩
   clear H8 hS2 HZn;go_wp2_with fail;refine xg.out.mono ?_;rintro e w9 ⟨rfl,h9⟩;have H9:=zh h9;clear h9 xg q0;obtain⟨vM,vN,uU,H4,A4,B4,C4,O4⟩:=H9.out;obtain⟨b,cap,v,hsv,hrow,hSS,hpu⟩:=H4.wF (n:=j') hj' (z:=z) (jC hzb);have hrl:=HPL.out.nr j';obtain⟨xs,hxs⟩:=ze (P.needs.getD j' []);rw[show(S2.dD [-z,zn],P).2.needs.getD j' []=xs from hxs]at hrow hpu;rw[hxs]at hrl;obtain⟨ao,adF,rfl,-,-⟩:=hrow.shape;obtain⟨n,hn⟩:=ze xs.length;simp only[qM]at hrow hSS;rw[hn]at hrow hrl hSS;obtain⟨nn,hnn⟩:=ze D.names.length;rw[hnn]at hsv hj';rw[hsv]at hSS;have aiD:nn<=1000000:=by rw[<-hnn];exact HG.out.nl
   have Iw:Hid (∀W,Only (fun k=>uU k=(2,j'+1)) w9 W->W.cell? ⟨X.px,3,none⟩=some (.slice (some ⟨b,0,none⟩) nn cap)/\W.cell? ⟨b,j',none⟩=some (.slice ao n adF)/\W.frozen? ⟨b,j',none⟩=false):=hSS;have vW:=zh hrow;have HPu:Hid (∀wA w5 v',O0 w9 wA->Only (fun k=>uU k=(2,j'+1)) wA w5->Row w5 (Tag.put uU wA.heap.size w5.heap.size (2,j'+1)) (2,j'+1) 3 v' (xs.map cI++[cI z])->bV w gt gb gp X Bs D (S2.dD [-z,zn],{P with needs:=nU P.needs j' z}) (w5.setCell ⟨b,j',none⟩ v')):=fun wA w5 v' o1 o2 hr=>bV.trans A4 B4 C4 O4 (hpu wA w5 v' o1 o2 hr);have HN:=zh hn;have hS0:=Iw.out w9.drew (zr.drew);clear hrow hSS hpu hxs hn H4 A4 B4 C4 O4 hsv hnn H9 ewz;go_wp2_with fail;refine bH (n:=17) (E:=fun j=>j==16) (S:=fun W=>W.cell? ⟨X.px,3,none⟩=some (.slice (some ⟨b,0,none⟩) nn cap)/\W.cell? ⟨b,j',none⟩=some (.slice ao n adF)/\W.frozen? ⟨b,j',none⟩=false) zk rfl hS0 (fun hHeld=>?_);refine tW 0 ?_;refine tW 1 ?_;refine tW 2 ?_;refine tK 3 ?_;refine tW 4 ?_;refine tW 5 ?_;refine tW 6 ?_;refine tW 7 ?_;refine tK 8 ?_;refine tW 9 ?_;refine tW 10 ?_;refine tK 11 ?_;refine tW 12 ?_;refine tO 13 fun K hK=>?_;go_simp;refine hK.out _ _ ?_ (fun hHeld=>?_);·exact zFG
   clear hK K;try simp only[Act.put,gJ,gU,gK,gu,gy,gG]
   refine tO 14 fun K hK=>?_;(refine Row.step (u:=.int .i64 z) kJ (by rfl) (.tmp 106) (.tmp 108) (by rfl) zB9 (by rfl) zBz rfl zBo zCD zAG ?_;intro bb5 cap5 w5 Un Kv);refine hK.out _ _ ?_ (fun hHeld=>?_);·exact zFK
   clear hK K;try simp only[Act.put,gJ,gU,gK,gu,gy,gG]
   refine tW 15 ?_;refine fP (rs:=[16]) zk zAM ?_;refine dA.late (i:=16) rfl zk (fun K hK=>?_) ?_
   ·(obtain⟨s1,s2,s3⟩:=hHeld;go_simp);refine hK.out _ _ ?_;clear hK K;try simp only[Act.put,gJ,gU,gK,gu,gy,gG]
    refine aZ zk ?_ _;have HE9:=zh (HPu.out _ w5 _ zBj Kv Un);clear Un Kv;go_wp2_with fail;go_end0;exact⟨rfl,by have h:=HE9.out;simp only[qM]at h;exact h⟩
   exact dA.nil
  rw[if_pos zBk,yT]at uT;obtain⟨zm,hzm⟩:=ze ((S1.meet D.x D.l f' r 1 s).2);obtain⟨S2,hS2⟩:=ze ((S1.meet D.x D.l f' r 1 s).1);have Vq:0<=zm/\zm<=65536:=by rw[<-hzm];exact TB.Nk H7.out.ok _ _ _ _ _ _
  have HMt:Hid (∀W,O0 w7 W->Calls Tryz.prog 225 #[.pointer (some ⟨X.c,0,none⟩),.int .i64 f',.int .i64 r,.int .i64 1,.agg #[.string s.name,.slice Vj Tz Vk,.slice Wi OT Wj]] W fun e w'=>e= .returned (.int .i64 zm)/\bV w7 vM vN uU X Bs D (S2,P) w'):=fun W o=>by have h:=(Nj (H7.out.aN o) HG.out (p:=f') (rule:=r) (cc:=1) (by have:=XP.out;omega) hr6 zBk (eF.keep aqj.out (Kp.iI o)) hss zm hzm).mono fun e w' ⟨he,h⟩=>(⟨he,bV.after o h⟩:e=_/\bV w7 vM vN uU X Bs D _ w');rw[hS2]at h;exact h
  have ewz:=zw (-z);rw[hzm,hS2]at uT;have h9:=uT.out;subst h9;have hS0:=HS7.out w7.drew (zr.drew);have xg:Hid (∀w8 W,bV w7 vM vN uU X Bs D (S2,P) w8->O0 w8 W->Ints W (.slice (some ⟨w8.heap.size,0,none⟩) 2 2) [-z,zm]->Calls Tryz.prog 163 #[.pointer (some ⟨X.c,0,none⟩),.slice (some ⟨w8.heap.size,0,none⟩) 2 2] W fun e w'=>e= .returned (.tuple #[])/\bV w7 vM vN uU X Bs D (S2.dD [-z,zm],P) w'):=fun w8 W h8 o hI=>by obtain⟨Vo,gb8,gp8,Hx,A8,B8,C8,O8⟩:=h8;exact(EL (Hx.aN o) hI zAM).mono fun e w' ⟨he,h⟩=>⟨he,bV.trans A8 B8 C8 O8 (bV.after o h)⟩
  clear hzm hS2 q0 q1 H7;go_wp2_with fail;refine bH (n:=16) (E:=fun _=>false) (S:=fun W=>W.cell? ⟨X.px,0,none⟩=some (.pointer (some ⟨X.c,0,none⟩))/\W.rangeAt w.heap.size 0 [.string s.name,.slice Vj Tz Vk,.slice Wi OT Wj]) zk rfl hS0 (fun hHeld=>?_);refine tW 0 ?_;refine tW 1 ?_;refine tW 2 ?_;refine tK 3 ?_;refine tW 4 ?_;refine tW 5 ?_;refine tW 6 ?_;refine tW 7 ?_;refine tW 8 ?_;refine tK 9 ?_;refine tW 10 ?_;refine tW 11 ?_;refine tK 12 ?_ (hy:=by(intro w hSw;(try dsimp only at hSw);refine Eq.trans (iD (ty:=108) (x:=.tmp 5) (cs:=[.string s.name,.slice Vj Tz Vk,.slice Wi OT Wj]) rfl rfl hSw.2 Tryz.underlying108 rfl zk) ?_;with_reducible rfl));refine tO 13 fun K hK=>?_;(go_simp;refine(HMt.out _ zBj).mono ?_;rintro e w8 ⟨rfl,h8⟩;have oM:Only (dF vM vN uU) w7 w8:=(by obtain⟨_,_,_,_,_,_,_,O⟩:=h8;exact O);try go_wp2_with fail);refine hK.out _ _ ?_ (fun hHeld=>?_);·(try dsimp only)<;>(exact HS7.out _ oM)
  clear hK K;try simp only[Act.put,gJ,gU,gK,gu,gy,gG]
  refine tO 14 fun K hK=>?_;go_simp;refine hK.out _ _ ?_ (fun hHeld=>?_);·(try dsimp only)<;>(exact HS7.out _ zAP)
  clear hK K;try simp only[Act.put,gJ,gU,gK,gu,gy,gG]
  refine tO 15 fun K hK=>?_;(go_simp;refine(xg.out w8 _ h8 zAB (by first|exact BH _ _ _ (iL hzb) (jC Vq)|exact(BH w8 _ _ (iL hzb) (jC Vq)).aN zBj)).mono ?_;rintro e w9 ⟨rfl,h9⟩;try go_wp2_with fail);refine hK.out _ _ ?_ (fun hHeld=>?_);·(try dsimp only)<;>(exact HS7.out _ h9.only)
  clear hK K;try simp only[Act.put,gJ,gU,gK,gu,gy,gG]
  refine aZ zk ?_ _;have H9:=zh (adD.out _ _ h9);clear h9 h8 oM;exact zCq
end
end Go.Proofs.YtdmmebjjojimiaaGreatDoor
