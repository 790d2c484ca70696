/- Package edge: goes. Printed by gen_edw5.py.; Package edge: root. Printed by gen_edw6.py. -/
import Derived.Test.YtdmmebjjojimiaaGreatDoorG24
set_option maxRecDepth 100000
set_option maxHeartbeats 8000000
set_option linter.all false
namespace Go.Proofs
theorem zBX{p:Prop}(h:p:=by repeat (first|exact wM.out|apply Row.drew|apply Row.alloc|apply Row.drewN)):p:=h
theorem zBv{p:Prop}(h:p:=by first| (simp only[qM,HN.out];rfl)|rfl):p:=h
theorem zBz{p:Prop}(h:p:=by simp only[qM];have:=HN.out;omega):p:=h
theorem zC6{p:Prop}(h:p:=by(try dsimp only)<;>(exact GK.out _ zAA)):p:=h
theorem zDi{p:Prop}(h:p:=by(try dsimp only)<;>(exact GK.out _ (Only.same zAA Jy))):p:=h
end Go.Proofs
namespace Go.Proofs.YtdmmebjjojimiaaGreatDoor
open Go.RowKit
structure uS (P:dO) (N:Nat):Prop where
 ofl:P.of.length<=N
 ofr:∀k,(dD P.of k).length<=N
 nr:∀i,(P.needs.getD i []).length<=N
 rol:P.roots.length<=N
 ror:∀k,(dD P.roots k).length<=N
theorem uS.mono{P:dO}{N N':Nat}(h:uS P N)(hN:N<=N'):uS P N':=⟨qR h.ofl hN,fun k=>qR (h.ofr k) hN,fun k=>qR (h.nr k) hN,qR h.rol hN,fun k=>qR (h.ror k) hN⟩
theorem BF{κ:Type}[DecidableEq κ]{m:List (κ×List Int)}{N:Nat}(h:∀k,(dD m k).length<=N)(x:κ)(z:Int)(k:κ):(dD (dM m x z) k).length<=N+1:=by
 by_cases e:k=x;·subst e;rw[Ai,qK];have:=h k;simp;omega
 rw[y8 e];have:=h k;omega
theorem BG{κ:Type}[DecidableEq κ]{m:List (κ×List Int)}{N:Nat}(h:m.length<=N)(x:κ)(z:Int):(dM m x z).length<=N+1:=by rw[Uw];split<;>omega
theorem uS.QT{P:dO}{N:Nat}(h:uS P N)(e:Nat×Nat)(z:Int):uS {P with of:=dM P.of e z} (N+1):=⟨BG h.ofl e z,BF h.ofr e z,fun k=>Nat.le_succ_of_le (h.nr k),Nat.le_succ_of_le h.rol,fun k=>Nat.le_succ_of_le (h.ror k)⟩
theorem uS.Ic{P:dO}{N:Nat}(h:uS P N)(e:Nat)(z:Int):uS {P with roots:=dM P.roots e z} (N+1):=⟨Nat.le_succ_of_le h.ofl,fun k=>Nat.le_succ_of_le (h.ofr k),fun k=>Nat.le_succ_of_le (h.nr k),BG h.rol e z,BF h.ror e z⟩
theorem uS.vP{P:dO}{N:Nat}(h:uS P N)(n:Nat)(z:Int):uS {P with needs:=kZ P.needs n z} (N+1):=
 ⟨Nat.le_succ_of_le h.ofl,fun k=>Nat.le_succ_of_le (h.ofr k),fun k=>by
  show((kZ P.needs n z).getD k []).length<=N+1
  unfold kZ
  by_cases e:k=n
  ·subst e
   by_cases hk:k<P.needs.length
   ·rw[qC,List.getElem?_set_self hk]
    show(P.needs.getD k []++[z]).length<=N+1
    rw[qK]
    exact Nat.succ_le_succ (h.nr k)
   ·rw[qC,List.getElem?_eq_none zAU];simp
  ·have:=h.nr k
   rw[qC]at this⊢
   rw[List.getElem?_set_ne (Ne.symm e)]
   omega,Nat.le_succ_of_le h.rol,fun k=>Nat.le_succ_of_le (h.ror k)⟩
section
variable {w w':World} {gt gb gp:Tag} {X:MW} {Bs:Nat} {D:xC} {E:ES}
theorem adk(H:jl w gt gb gp X Bs D E){p t:Nat}(hp:p<=1000000)(ht:t<=1000000){act:Int}(ha:bg act){N:Nat}(hP:uS E.2 N)(hN:N<=1000000)(z:Int)(hz:(E.goes p t act).2=z):Calls Tryz.prog 229 #[.pointer (some ⟨X.px,0,none⟩),.int .i64 p,.int .i64 t,.int .i64 act] w fun e w'=>e= .returned (.int .i64 z)/\bF w gt gb gp X Bs D (E.goes p t act).1 w':=by
 have hpI:bg (p:Int):=⟨by omega,by omega⟩;have htI:bg (t:Int):=⟨by omega,by omega⟩;obtain⟨ix,v,hrow,hS,hpu⟩:=H.QT (e:=(p,t)) ⟨hpI,htI⟩ ha (by have:=hP.ofl;unfold maxLen;omega);have hrl:=hP.ofr (p,t);obtain⟨xs,hxs⟩:=ze (dD E.2.of (p,t));rw[hxs]at hrow hrl hpu;obtain⟨ao,cap,rfl,-,-⟩:=hrow.shape;obtain⟨n,hn⟩:=ze xs.length;simp only[qM]at hrow hS;rw[hn]at hrow hrl hS;have GK:Hid (∀W,Only (fun k=>gp k=(1,ix+1)) w W->W.cell? ⟨X.px,2,none⟩=some (.map (some X.m1))/\(Instr.lookup 150 (.map (some X.m1)) (.agg #[.int .i64 (p:Int),.int .i64 (t:Int)]) false).run Tryz.prog W= .ok (.slice ao n cap) W):=hS;have wM:=zh hrow;have HPu:=zh hpu;have HN:=zh hn;have HAt:Hid (nK (iV p t)):=YX hpI htI;have hS0:=GK.out w.drew (zr.drew);have HE:Hid (E.goes p t act=(((E.1.num (iV p t)).1,{E.2 with of:=dM E.2.of (p,t) act}),(E.1.num (iV p t)).2)):=rfl;rw[HE.out]at hz⊢;have HZ:Hid ((E.1.num (iV p t)).2=z):=hz;clear hrow hS hpu hxs hn H hP hpI htI hz HE;go_enter Tryz.func229,Tryz.ntmps229;go_wp2_with fail;refine bC (n:=19) (E:=fun j=>j==18) (S:=fun W=>W.cell? ⟨X.px,2,none⟩=some (.map (some X.m1))/\(Instr.lookup 150 (.map (some X.m1)) (.agg #[.int .i64 (p:Int),.int .i64 (t:Int)]) false).run Tryz.prog W= .ok (.slice ao n cap) W) zk rfl hS0 (fun hHeld=>?_);refine tW 0 ?_;refine tW 1 ?_;refine tW 2 ?_;refine tK 3 ?_;refine tW 4 ?_;refine tW 5 ?_;refine tW 6 ?_;refine tW 7 ?_;refine tW 8 ?_;refine tW 9 ?_;refine tK 10 ?_;refine tW 11 ?_;refine tW 12 ?_;refine tW 13 ?_;refine tK 14 ?_;refine tW 15 ?_;refine tO 16 fun K hK=>?_;go_simp;refine hK.out _ _ ?_ (fun hHeld=>?_);·exact zC6
 clear hK K;try simp only[Act.put,eF,fA,eG,dW,dX,dY]
 refine tO 17 fun K hK=>?_;(refine Row.step (u:=.int .i64 act) lY (by rfl) (.tmp 23) (.tmp 25) (by rfl) zBv (by rfl) zBo rfl zBX zBz zAD ?_;intro bb5 cap5 w5 TG Jy);refine hK.out _ _ ?_ (fun hHeld=>?_);·exact zDi
 clear hK K;try simp only[Act.put,eF,fA,eG,dW,dX,dY]
 refine fF (rs:=[18]) zk zAF ?_;refine bQ.late (i:=18) rfl zk (fun K hK=>?_) ?_
 ·(obtain⟨w9,IZ,F7⟩:=HPu.out _ w5 _ zAA Jy TG;refine adi (by rfl) (.tmp 12) (.tmp 15) (.tmp 26) (by rfl) (by rfl) (by rfl) (by rfl) IZ ?_);refine hK.out _ _ ?_;clear hK K;try simp only[Act.put,eF,fA,eG,dW,dX,dY]
  refine bf zk ?_ _;have HE9:=zh F7;clear F7 IZ TG Jy;obtain⟨gt9,gb9,gp9,H9,A1,A2,A3,O9⟩:=HE9.out;obtain⟨q0,-,-,-,-⟩:=H9.cells;have uV:Hid (Calls Tryz.prog 75 #[.pointer (some ⟨X.c,0,none⟩),iY (iV p t)] w9 fun e w'=>e= .returned (.int .i64 z)/\bF w gt gb gp X Bs D ((E.1.num (iV p t)).1,{E.2 with of:=dM E.2.of (p,t) act}) w'):=
   (DN H9.gx HAt.out z HZ.out).mono fun e w' ⟨he,h⟩=>⟨he,bF.trans A1 A2 A3 O9 (H9.step h)⟩
  clear H9 A1 A2 A3 O9 HE9;go_wp2_with fail;refine uV.out.mono ?_;rintro e w10 ⟨rfl,h10⟩;have H10:=zh h10;clear h10 uV;go_wp2_with fail;go_ret;exact⟨rfl,H10.out⟩
 exact bQ.nil
end
end Go.Proofs.YtdmmebjjojimiaaGreatDoor
namespace Go.Proofs
theorem zAE{p:Prop}(h:p:=by repeat (first|exact Only.refl _ _|exact oA|apply Only.drew|apply Only.alloc|apply Only.drewN)):p:=h
theorem zAG{p:Prop}(h:p:=by repeat (first|exact Only.refl _ _|exact oM|apply Only.drew|apply Only.alloc|apply Only.drewN)):p:=h
theorem zAe{p:Prop}(h:p:=by(intro w hSw;(try dsimp only at hSw);obtain⟨p0,p1⟩:=HS4.out w (hSw.mono fun _ f=>f.elim);go_simp<;>(try with_reducible rfl))):p:=h
theorem zBW{p:Prop}(h:p:=by repeat (first|exact Only.refl _ _|exact oA|apply Only.drew|apply Only.alloc|apply Only.drewN)):p:=h
theorem zCo{p:Prop}(h:p:=by
 go_wp2_with fail
 ((try simp only[Exit.inBlock,Exit.then]);refine bodyPost_ret (results_none rfl _ _ _) rfl ?_)
 exact⟨rfl,H9.out⟩):p:=h
theorem zC2{p:Prop}(h:p:=by
 obtain⟨b,cap,e,-,-⟩:=dU hrow zAB
 simp only[qU]at e
 obtain⟨rfl,-,rfl⟩:=e
 refine⟨?_,b,rfl⟩
 show wr.cell? ⟨b,i,none⟩=_
 rw[hrow.cellAt i zAB]
 unfold gW
 rw[List.getElem?_map,ht];rfl):p:=h
theorem zD8{p:Prop}(h:p:=by
 unfold aF.dh aF.iI
 exact⟨qR (yO _ _) (by rw[List.length_range];exact qH _),fun t ht=>yI.1 (List.mem_filter.1 ht).1⟩):p:=h
end Go.Proofs
namespace Go.Proofs.YtdmmebjjojimiaaGreatDoor
open Go.RowKit
structure EdG (D:xC):Prop where
 lt:∀p∈D.l,p<D.x.packs.length
 mid:He D.x
 nl:D.names.length<=1000000
section
variable {w w':World} {gt gb gp:Tag} {X:MW} {Bs:Nat} {D:xC} {E:ES}
theorem jl.lT(H:jl w gt gb gp X Bs D E){k:Nat}(hk:w.heap.size<=k):¬bP gt gb gp k:=by obtain⟨V,hV⟩:=H.gx.gr.tab;obtain⟨U,hU⟩:=H.gx.gr.Fb;unfold bP Mine;rw[hV.fresh k hk,hU.fresh k hk,H.fresh k hk];simp
theorem bF.only(h:bF w gt gb gp X Bs D E w'):Only (bP gt gb gp) w w':=by obtain⟨_,_,_,_,_,_,_,O⟩:=h;exact O
theorem jl.QU(H:jl w gt gb gp X Bs D E):∀k,bP gt gb gp k->Bs<=k:=fun k hk=>by
 rcases hk with hk|hk
 ·exact H.gx.low k hk
 ·exact H.low k hk
theorem DT(H:jl w gt gb gp X Bs D E){v:Value}{xs:List Int}(hI:Ints w v xs)(hb:xs.length<=1000000):Calls Tryz.prog 163 #[.pointer (some ⟨X.c,0,none⟩),v] w fun e w'=>e= .returned (.tuple #[])/\bF w gt gb gp X Bs D (E.1.bG xs,E.2) w':=(YW H.gx hI hb).mono fun e w' ⟨he,h⟩=>⟨he,H.step h⟩
theorem LG(H:jl w gt gb gp X Bs D E)(hG:EdG D){p rule cc:Nat}(Y5:p<=1000000)(hr6:rule<=1000000)(hc6:cc<=1000000){css:List Value}{s:gZ}(hs:dB Bs w css s)(hss:s.sets.length<=900000)(z:Int)(hz:(E.1.meet D.x D.l p rule cc s).2=z):Calls Tryz.prog 225 #[.pointer (some ⟨X.c,0,none⟩),.int .i64 p,.int .i64 rule,.int .i64 cc,.agg css.toArray] w fun e w'=>e= .returned (.int .i64 z)/\bF w gt gb gp X Bs D ((E.1.meet D.x D.l p rule cc s).1,E.2) w':=(aiq H.gx hG.lt hG.mid Y5 hr6 hc6 hs hss z hz).mono fun e w' ⟨he,h⟩=>⟨he,H.step h⟩
theorem jl.NT(H:jl w gt gb gp X Bs D E):∃a1 c1 a2 c2,X.G.x1= .slice a1 D.x.packs.length c1/\X.G.x2= .slice a2 D.x.cO.length c2:=by obtain⟨a1,c1,a2,c2,h1,h2,-⟩:=H.gx.NT;exact⟨a1,c1,a2,c2,h1,h2⟩
theorem dB.QU{css:List Value}{s:gZ}(h:dB Bs w css s)(H:jl w gt gb gp X Bs D E)(o:Only (bP gt gb gp) w w'):dB Bs w' css s:=dB.keep h (Kp.xE o H.QU)
theorem dL{z:Int}(h:0<=z/\z<=65536):bg (-z):=⟨by omega,by omega⟩
theorem gK{z:Int}(h:0<=z/\z<=65536):bg z:=⟨by omega,by omega⟩
theorem TB.nY{S:TB}(h:S.1.Ok)(a:At):0<=(S.num a).2/\(S.num a).2<=65536:=(Tab.ql h a).2
theorem LH(l:List At)(x:At):numOf l x<=l.length:=by
 unfold numOf;split;·rename_i hm;exact List.idxOf_lt_length_of_mem hm
 exact qE _
theorem TB.LJ{S:TB}(h:S.1.Ok)(x:aF)(l:List Nat)(p r c:Nat)(s:gZ):0<=(S.meet x l p r c s).2/\(S.meet x l p r c s).2<=65536:=by
 unfold TB.meet;split;·exact⟨Int.le_refl _,(by decide:(0:Int)<=65536)⟩
 split;·have h1:=h.lim;have h2:=h.len;have h3:=LH S.1.l (dw p r c);show(0:Int)<=(numOf S.1.l (dw p r c):Int)/\(numOf S.1.l (dw p r c):Int)<=65536;exact zCx
 exact TB.nY h _
theorem jl.ok(H:jl w gt gb gp X Bs D E):E.1.1.Ok:=H.gx.ok
theorem adn(w:World)(a:Int)(ha:bg a):Ints (w.alloc (.cells #[.int .i64 a] 3)) (.slice (some ⟨w.heap.size,0,none⟩) 1 1) [a]:=
 Ints.dV (ug zAl) (fun z hz=>by simp at hz;subst hz;exact ha)
theorem F8(x:aF)(s:Str):x.find s= -1\/ ∃k:Nat,x.find s=k/\k<x.packs.length:=by
 rcases oq (fun p=>decide (p.name=s)) x.packs with h| ⟨k,h,hk,-⟩;·exact .inl h
 exact .inr ⟨k,h,hk⟩
theorem LK(x:aF)(s:Str):(x.targets s).length<=x.packs.length+1/\∀t∈x.targets s,t<=x.packs.length:=by
 have hp:∀s:Str,(x.dh s).length<=x.packs.length/\∀t∈x.dh s,t<x.packs.length:=fun s=>by exact zD8
 unfold aF.targets;split
 ·rename_i h;rcases F8 x s with e| ⟨k,e,hk⟩;·omega
  rw[e];simp;omega
 have:=hp s;exact⟨by omega,fun t ht=>by have:=this.2 t ht;omega⟩
def lU(P:dO)(z:Int)(l:List Nat):dO:=l.foldl (fun P t=>{P with roots:=dM P.roots t z}) P
theorem QV(P:dO)(z:Int)(l:List Nat)(t:Nat):lU P z (l++[t])={lU P z l with roots:=dM (lU P z l).roots t z}:=by simp[lU]
theorem zY{P:dO}{N:Nat}(h:uS P N)(z:Int):∀(l:List Nat),uS (lU P z l) (N+l.length):=by
 intro l;induction l generalizing P N with
 |nil=>exact h
 |cons a r ih=>have:=ih (h.Ic a z);rw[qN,show N+(r.length+1)=N+1+r.length by omega];exact this
attribute [local irreducible] wpQuiet in
theorem aiu(H:jl w gt gb gp X Bs D E)(hG:EdG D){r:Nat}(hr6:r<=1000000){css:List Value}{s:gZ}(hs:dB Bs w css s)(hss:s.sets.length<=900000){N:Nat}(hP:uS E.2 N)(hN:N<=900000):Calls Tryz.prog 159 #[.pointer (some ⟨X.px,0,none⟩),.int .i64 r,.agg css.toArray] w fun e w'=>e= .returned (.tuple #[])/\bF w gt gb gp X Bs D (E.root D.x D.l D.names r s) w':=by
 have HG:=zh hG;have hpk:=hG.mid.packs;obtain⟨UD,VY,UE,VZ,rfl,hsn,-,-⟩:=hs.cells;obtain⟨Sz,UF⟩:=ze s.spans.length;obtain⟨NU,UG⟩:=ze s.sets.length;rw[UF,UG]at hs;rw[UF,UG];obtain⟨W0,hW0⟩:=ze (w.alloc (.cells #[.string s.name,.slice UD Sz UE,.slice VY NU VZ] 108));have hb0:W0.heap[w.heap.size]? =some (.cells #[.string s.name,.slice UD Sz UE,.slice VY NU VZ] 108 (0,0)):=zAj;have iZ:Hid (O0 w W0):=zAc;have hnm:=H.lT (qH w.heap.size);have H0:=zh (H.aH iZ.out);have HBx:Hid (∀W,Only (bP gt gb gp) W0 W->W.heap[w.heap.size]? =some (.cells #[.string s.name,.slice UD Sz UE,.slice VY NU VZ] 108 (0,0))):=fun W o=>aC hb0 o hnm;have alA:Hid (∀W,Only (bP gt gb gp) W0 W->dB Bs W [.string s.name,.slice UD Sz UE,.slice VY NU VZ] s):=fun W o=>dB.QU (dB.keep hs (Kp.gV iZ.out)) H0.out o;obtain⟨z,hz⟩:=ze ((E.1.num (fG r)).2);obtain⟨S1,hS1⟩:=ze ((E.1.num (fG r)).1);have hzb:0<=z/\z<=65536:=by rw[<-hz];exact TB.nY H.ok _
 have UJ:Hid (Calls Tryz.prog 224 #[.pointer (some ⟨X.px,0,none⟩),.int .i64 r] W0 fun e w'=>e= .returned (.int .i64 z)/\bF W0 gt gb gp X Bs D (S1,E.2) w'):=by rw[<-hS1];exact Xz H0.out (r:=r) ⟨by omega,by omega⟩ z hz
 obtain⟨E9,F7⟩:=ze (E.root D.x D.l D.names r s);rw[F7];have uz:Hid (E9=(if 0<=D.x.find s.name then ((S1.meet D.x D.l (D.x.find s.name).toNat r 1 s).1.bG [-z,(S1.meet D.x D.l (D.x.find s.name).toNat r 1 s).2],lU E.2 z (D.x.targets s.name))else if bY D.names s.name<0 then (S1.bG [-z],lU E.2 z (D.x.targets s.name))else ((S1.num (fU (bY D.names s.name).toNat)).1.bG [-z,(S1.num (fU (bY D.names s.name).toNat)).2],{lU E.2 z (D.x.targets s.name)with needs:=kZ (lU E.2 z (D.x.targets s.name)).needs (bY D.names s.name).toNat z}))):=by show _=_;rw[<-F7];unfold ES.root;dsimp only;rw[hz,hS1];rfl
 have Dt:=zh hP;clear F7 hs hb0 hz hS1 H hG UF UG hsn hnm hP;go_enter Tryz.func159,Tryz.ntmps159;go_wp2_with fail;try rw[hW0]
 clear hW0;refine UJ.out.mono ?_;rintro e w1 ⟨rfl,h1⟩;have HE1:=zh h1;clear h1 UJ;obtain⟨jO,jP,Sr,H1',A1,B1,C1,O1'⟩:=HE1.out;have H1:=zh H1';have O1:=zh O1';have HAg:=zh (And.intro A1 (And.intro B1 C1));clear H1' O1' A1 B1 C1 HE1 H0; -- what is read at all worlds to come
 have HM1:Hid (∀W,Only (bP jO jP Sr) w1 W->Only (bP gt gb gp) W0 W):=fun W o=>O1.out.y9 HAg.out.1 HAg.out.2.1 HAg.out.2.2 o;have HS:Hid (∀W,Only (bP jO jP Sr) w1 W->W.cell? ⟨X.px,0,none⟩=some (.pointer (some ⟨X.c,0,none⟩))/\W.cell? ⟨w.heap.size,0,none⟩=some (.string s.name)):=fun W o=>
  ⟨aY H1.out.cells.1 o H1.out.tp,by rw[aj (HBx.out W (HM1.out W o))];rfl⟩
 obtain⟨a1,c1,a2,c2,En,F6⟩:=H1.out.NT;have Eo:Hid (∀W,O0 w1 W->Calls Tryz.prog 78 #[.pointer (some ⟨X.c,0,none⟩)] W fun e w'=>e= .returned (.agg #[.slice a1 D.x.packs.length c1,.slice a2 D.x.cO.length c2])/\O0 W w'):=fun W o=>jQ (H1.out.aH o).gx.gr En F6;have Xd:Hid (∀W,O0 w1 W->Calls Tryz.prog 148 #[.agg #[.slice a1 D.x.packs.length c1,.slice a2 D.x.cO.length c2],.string s.name] W fun e w'=> ∃v,e= .returned v/\w'.ownsRow 0 3 1 v (D.x.targets s.name).length (gW (D.x.targets s.name))/\(∀k,v.ownBlock=some k->W.heap.size<=k)/\O0 W w'):=fun W o=>by have h:=(H1.out.aH o).gx.Ef;rw[En,F6]at h;exact II h zAB s.name
 have HFd:Hid (∀W,Only (bP jO jP Sr) w1 W->Calls Tryz.prog 182 #[.agg #[.slice a1 D.x.packs.length c1,.slice a2 D.x.cO.length c2],.string s.name] W fun e w'=>e= .returned (.int .i64 (D.x.find s.name))/\O0 W w'):=fun W o=>by have h:=gy.keep H1.out.gx.Ef (Kp.xE o H1.out.QU);rw[En,F6]at h;exact qc h s.name
 have Am:=zh (And.intro En F6);obtain⟨tg,htg⟩:=ze (D.x.targets s.name);have htl:=LK D.x s.name;rw[htg]at Xd uz htl;obtain⟨nt,hnt⟩:=ze tg.length;rw[hnt]at Xd htl;have HTl:=zh htl.2;have alC:=htl.1;have Xe:=zh hnt;obtain⟨n1,hn1⟩:=ze D.x.packs.length;obtain⟨n2,hn2⟩:=ze D.x.cO.length;rw[hn1]at hpk alC Eo Xd HFd Am HTl;rw[hn2]at Eo Xd HFd Am;have MX:=zh hn1;have hS0:=HS.out w1.drew (zr.drew);clear En F6 htg htl hnt hn1 hn2;go_wp2_with fail;refine bC (n:=10) (E:=fun _=>false) (S:=fun W=>W.cell? ⟨X.px,0,none⟩=some (.pointer (some ⟨X.c,0,none⟩))/\W.cell? ⟨w.heap.size,0,none⟩=some (.string s.name)) zk rfl hS0 (fun hHeld=>?_);refine tW 0 ?_;refine tW 1 ?_;refine tW 2 ?_;refine tK 3 ?_;refine tW 5 ?_;refine tK 6 ?_;refine tW 9 ?_;refine tO 4 fun K hK=>?_;(go_simp;refine(Eo.out _ zBT).mono ?_;rintro e w2 ⟨rfl,o2⟩;have oA:O0 w1 w2:=Only.same zAA o2;try go_wp2_with fail);refine hK.out _ _ ?_ (fun hHeld=>?_);·(try dsimp only)<;>(exact HS.out _ (oA.mono fun _ f=>f.elim))
 clear hK K;try simp only[Act.put,eF,fA,eG,dW,dX,dY]
 refine tO 7 fun K hK=>?_;(go_simp;refine(Xd.out _ zBW).mono ?_;rintro e w3 ⟨vt,rfl,r3,b3,o3⟩;have oB:O0 w1 w3:=Only.same zAE o3;obtain⟨at3,ct3,rfl,kt3,-⟩:=aJ r3;try go_wp2_with fail);refine hK.out _ _ ?_ (fun hHeld=>?_);·(try dsimp only)<;>(exact HS.out _ (oB.mono fun _ f=>f.elim))
 clear hK K;try simp only[Act.put,eF,fA,eG,dW,dX,dY]
 refine tW 8 ?_;refine bf zk ?_ _;have bM:=zh oB;have Yy:Hid (w3.ownsRow 0 3 1 (.slice at3 nt ct3) nt (gW tg)):=r3;have H3:=zh (H1.out.aH oB);have Cm:Hid (∀k,(Value.slice at3 nt ct3).ownBlock=some k->¬bP jO jP Sr k):=fun k hk=>H1.out.lT (qR (qR oA.size (by first|exact qH _| (simp[World.drew,World.drewN]))) (b3 k hk));clear r3 b3 o3 o2 oB oA;go_wp2_with fail;have DU:Hid (bF w3 jO jP Sr X Bs D (S1,lU E.2 z (tg.take 0)) w3):=bF.refl H3.out;go_loopw [24] (fun vi wr=> ∃i:Nat,vi= .int .i64 i/\i<=nt/\Hid (bF w3 jO jP Sr X Bs D (S1,lU E.2 z (tg.take i)) wr)) (fun v _=>nt-(RowKit.intOf v).toNat);case atStart=>exact⟨0,rfl,qE _,DU⟩
 case round=>
  clear DU;obtain⟨i,rfl,hi,HR⟩:=hrel;by_cases ci:i<nt
  ·obtain⟨t,ht⟩:=zG tg i (by rw[Xe.out];exact ci);obtain⟨vS,vT,uD,H4,A4,B4,C4,O4⟩:=HR.out;have hcell:wr.cell? ⟨(match at3 with|some a=>a.block|none=>0),i,none⟩=some (.int .i64 t)/\∃b,at3=some ⟨b,0,none⟩:=by have hrow:=aG Yy.out O4 Cm.out;exact zC2
   obtain⟨hcell,bt3,rfl⟩:=hcell;have iG:=zw (i+1);have htb:t<=1000:=by have:=HTl.out t (qT ht);omega
   obtain⟨P,hP⟩:=ze (lU E.2 z (tg.take i));have hPl:uS P 900000000:=by rw[<-hP];exact(zY Dt.out z (tg.take i)).mono zAp
   have aiv:uS P 910000:=by rw[<-hP];exact(zY Dt.out z (tg.take i)).mono zAp
   rw[hP]at H4;obtain⟨ix,v,hrow,hSS,hpu⟩:=H4.Ic (e:=t) ⟨by omega,by omega⟩ (z:=z) (gK hzb) (by have:=aiv.rol;unfold maxLen;show P.roots.length<_;omega);have hrl:=aiv.ror t;obtain⟨xs,hxs⟩:=ze (dD P.roots t);rw[show dD (S1,P).2.roots t=xs from hxs]at hrow hpu;rw[hxs]at hrl;obtain⟨ao,cap,rfl,-,-⟩:=hrow.shape;obtain⟨n,hn⟩:=ze xs.length;simp only[qM]at hrow hSS;rw[hn]at hrow hrl hSS;have GK:Hid (∀W,Only (fun k=>uD k=(3,ix+1)) wr W->W.cell? ⟨X.px,4,none⟩=some (.map (some X.m2))/\(Instr.lookup 151 (.map (some X.m2)) (.int .i64 (t:Int)) false).run Tryz.prog W= .ok (.slice ao n cap) W):=hSS;have wM:=zh hrow;have kN:Hid (∀W,bF wr vS vT uD X Bs D (S1,{P with roots:=dM P.roots t z}) W->bF w3 jO jP Sr X Bs D (S1,lU E.2 z (tg.take (i+1))) W):=fun W h=>by rw[List.take_add_one,ht];simp only[Option.toList_some];rw[QV,hP];exact bF.trans A4 B4 C4 O4 h
   have HPu:=zh hpu;have HN:=zh hn;have hS0:=GK.out wr.drew (zr.drew);have JH:=zh iG;clear hrow hSS hpu hxs hn H4 A4 B4 C4 O4 ht hP hPl aiv HR iG;go_wp2_with fail;refine bC (n:=15) (E:=fun j=>j==14) (S:=fun W=>W.cell? ⟨X.px,4,none⟩=some (.map (some X.m2))/\(Instr.lookup 151 (.map (some X.m2)) (.int .i64 (t:Int)) false).run Tryz.prog W= .ok (.slice ao n cap) W) zk rfl hS0 (fun hHeld=>?_);refine tW 0 ?_;refine tW 1 ?_;refine tW 2 ?_;refine tK 3 ?_;refine tW 4 ?_;refine tW 5 ?_;refine tW 6 ?_;refine tW 7 ?_;refine tK 8 ?_;refine tW 9 ?_;refine tK 10 ?_;refine tW 11 ?_;refine tO 12 fun K hK=>?_;go_simp;refine hK.out _ _ ?_ (fun hHeld=>?_);·exact zC6
   clear hK K;try simp only[Act.put,eF,fA,eG,dW,dX,dY]
   refine tO 13 fun K hK=>?_;(refine Row.step (u:=.int .i64 z) lY (by rfl) (.tmp 38) (.tmp 40) (by rfl) zBv (by rfl) zBo rfl zBX zBz zAD ?_;intro bb5 cap5 w5 TG Jy);refine hK.out _ _ ?_ (fun hHeld=>?_);·exact zDi
   clear hK K;try simp only[Act.put,eF,fA,eG,dW,dX,dY]
   refine fF (rs:=[14]) zk zAF ?_;refine bQ.late (i:=14) rfl zk (fun K hK=>?_) ?_
   ·(obtain⟨w9,IZ,F7⟩:=HPu.out _ w5 _ zAA Jy TG;refine adi (by rfl) (.tmp 31) (.tmp 32) (.tmp 41) (by rfl) (by rfl) (by rfl) (by rfl) IZ ?_);refine hK.out _ _ ?_;clear hK K;try simp only[Act.put,eF,fA,eG,dW,dX,dY]
    refine bf zk ?_ _;have HE9:=zh (kN.out w9 F7);have iG:=JH.out;clear F7 IZ TG Jy kN HPu wM GK hS0;go_wp2_with fail;go_roundw;case rel=>exact⟨i+1,by first|rfl|go_num,by omega,HE9⟩
    case measure=>simp[RowKit.intOf]<;>omega
   exact bQ.nil
  obtain rfl:nt=i:=by omega
  clear hi ci;rw[qI (yG Xe.out)]at HR;obtain⟨P,hP⟩:=ze (lU E.2 z tg);have HPL:Hid (uS P 910000):=by rw[<-hP];exact(zY Dt.out z tg).mono (by have:=Xe.out;omega)
  rw[hP]at HR uz;obtain⟨vS,vT,uD,H4',A4,B4,C4,O4⟩:=HR.out;have H4:=zh H4';have O14:Only (bP jO jP Sr) w1 wr:=(bM.out.mono fun _ f=>f.elim).same O4;have HM4:Hid (∀W,Only (bP vS vT uD) wr W->Only (bP jO jP Sr) w1 W):=fun W o=>O14.y9 (fun k hk=>A4 k (Nat.lt_of_lt_of_le hk bM.out.size)) (fun k hk=>B4 k (Nat.lt_of_lt_of_le hk bM.out.size)) (fun k hk=>C4 k (Nat.lt_of_lt_of_le hk bM.out.size)) o;have D9:Hid (∀E2 W,bF wr vS vT uD X Bs D E2 W->bF w gt gb gp X Bs D E2 W):=fun E2 W h=>
   bF.after iZ.out (bF.trans HAg.out.1 HAg.out.2.1 HAg.out.2.2 O1.out (bF.after bM.out (bF.trans A4 B4 C4 O4 h)))
  have HS4:Hid (∀W,Only (bP vS vT uD) wr W->W.cell? ⟨X.px,0,none⟩=some (.pointer (some ⟨X.c,0,none⟩))/\W.cell? ⟨w.heap.size,0,none⟩=some (.string s.name)):=fun W o=>HS.out W (HM4.out W o);have alF:Hid (∀W,O0 wr W->Calls Tryz.prog 78 #[.pointer (some ⟨X.c,0,none⟩)] W fun e w'=>e= .returned (.agg #[.slice a1 n1 c1,.slice a2 n2 c2])/\O0 W w'):=fun W o=>jQ (H4.out.aH o).gx.gr Am.out.1 Am.out.2;have aiw:Hid (∀W,O0 wr W->Calls Tryz.prog 182 #[.agg #[.slice a1 n1 c1,.slice a2 n2 c2],.string s.name] W fun e w'=>e= .returned (.int .i64 (D.x.find s.name))/\O0 W w'):=fun W o=>HFd.out W (HM4.out W (o.mono fun _ f=>f.elim));have HB4:Hid (∀W,Only (bP vS vT uD) wr W->W.rangeAt w.heap.size 0 [.string s.name,.slice UD Sz UE,.slice VY NU VZ]):=fun W o j u hu=>by rw[Nat.zero_add,aj (HBx.out W (HM1.out W (HM4.out W o)))];simpa using hu
  have alG:Hid (∀W,Only (bP vS vT uD) wr W->dB Bs W [.string s.name,.slice UD Sz UE,.slice VY NU VZ] s):=fun W o=>alA.out W (HM1.out W (HM4.out W o));obtain⟨f,hf⟩:=ze (D.x.find s.name);have hfr:=F8 D.x s.name;rw[hf]at aiw uz hfr;clear hP hf H4' A4 B4 C4 O4 O14 HR HFd Eo Xd HTl Yy Cm Dt H3 H1 HS hS0;go_wp2_with fail;refine fO (fun W=>O0 wr W) zk zk (by exact zr.drew) ?_;iterate 4 refine qV ?_ (hy:=zAe)
  refine gY (v:=.agg #[.slice a1 n1 c1,.slice a2 n2 c2]) (f:=78) (args:= #[.pointer (some ⟨X.c,0,none⟩)]) (by rfl) ?_ ?_ ?_;·exact zB9
  ·(intro w hSw;exact(alF.out w hSw).mono fun _ _ ⟨he,hw⟩=>⟨he,hSw.same hw⟩)
  try simp only[Act.put,eF,fA,eG,dW,dX,dY]
  iterate 2 refine qV ?_ (hy:=zAe)
  refine gY (v:=.int .i64 f) (f:=182) (args:= #[.agg #[.slice a1 n1 c1,.slice a2 n2 c2],.string s.name]) (by rfl) ?_ ?_ ?_;·exact zB9
  ·(intro w hSw;exact(aiw.out w hSw).mono fun _ _ ⟨he,hw⟩=>⟨he,hSw.same hw⟩)
  try simp only[Act.put,eF,fA,eG,dW,dX,dY]
  refine qV ?_ (hy:=zAe);refine wpQuiet_nil ?_;intro w7 O7;have pG:=zh O7;have H7:=zh (H4.out.aH O7);have O7m:Only (bP vS vT uD) wr w7:=O7.mono fun _ f=>f.elim;have ado:Hid (∀E2 W,bF w7 vS vT uD X Bs D E2 W->bF w gt gb gp X Bs D E2 W):=fun E2 W h=>D9.out E2 W (bF.after pG.out h);have HS7:Hid (∀W,Only (bP vS vT uD) w7 W->W.cell? ⟨X.px,0,none⟩=some (.pointer (some ⟨X.c,0,none⟩))/\W.rangeAt w.heap.size 0 [.string s.name,.slice UD Sz UE,.slice VY NU VZ]):=fun W o=>⟨(HS4.out W (O7m.same o)).1,HB4.out W (O7m.same o)⟩;have ao9:=zh (alG.out w7 O7m);obtain⟨q0,q1⟩:=HS4.out w7 O7m;clear O7 O7m HB4 alG HS4 alF aiw D9 pG H4;rcases hfr with rfl| ⟨f',rfl,hf'⟩
  ·rw[if_neg zAB]at uz;obtain⟨zn,hzn⟩:=ze (ES.Pj (S1,P) D.names s.name);obtain⟨j,hj⟩:=ze (bY D.names s.name);have EF:=zh (ac5 H7.out HG.out.nl s.name j zn hj hzn);have hjr:=Em D.names s.name;rw[hj]at hjr uz;have HNT:Hid (ES.Lp (S1,P) D.names s.name=if j<0 then S1 else (S1.num (fU j.toNat)).1):=by unfold ES.Lp;rw[hj];exact rfl
   have HZn:Hid ((if j<0 then (0:Int)else (S1.num (fU j.toNat)).2)=zn):=by rw[<-hzn];unfold ES.Pj;rw[hj];exact rfl
   rw[HNT.out]at EF;have OL:=H7.out.ok;clear hzn hj HNT H7 q0;go_wp2_with fail;refine EF.out.mono ?_;rintro e w8 ⟨rfl,h8⟩;have H8:=zh h8;clear h8 EF;have q0:=(HS7.out w8 (by obtain⟨_,_,_,_,_,_,_,O⟩:=H8.out;exact O)).1;have ewz:=zw (-z);rcases hjr with rfl| ⟨j',rfl,hj'⟩
   ·rw[if_pos zAB]at uz H8;have h9:=uz.out;subst h9;have qj:Hid (Calls Tryz.prog 163 #[.pointer (some ⟨X.c,0,none⟩),.slice (some ⟨w8.heap.size,0,none⟩) 1 1] (w8.alloc (.cells #[.int .i64 (-z)] 3)) fun e w'=>e= .returned (.tuple #[])/\bF w gt gb gp X Bs D (S1.bG [-z],P) w'):=by obtain⟨UH,gb8,gp8,Hx,A8,B8,C8,O8⟩:=H8.out;exact(DT (Hx.aH (zr.alloc _)) (adn w8 (-z) (dL hzb)) zAF).mono fun e w' ⟨he,h⟩=>⟨he,ado.out _ _ (bF.trans A8 B8 C8 O8 (bF.after (zr.alloc _) h))⟩
    clear H8;go_wp2_with fail;refine qj.out.mono ?_;rintro e w9 ⟨rfl,h9⟩;have H9:=zh h9;clear h9 qj;exact zCo
   rw[if_neg zAB]at uz H8 HZn;rw[yT]at uz H8 HZn;have aiy:0<=zn/\zn<=65536:=by rw[<-HZn.out];exact TB.nY OL _
   rw[HZn.out]at uz;obtain⟨S2,hS2⟩:=ze ((S1.num (fU j')).1);rw[hS2]at H8 uz;have h9:=uz.out;subst h9;have qj:Hid (Calls Tryz.prog 163 #[.pointer (some ⟨X.c,0,none⟩),.slice (some ⟨w8.heap.size,0,none⟩) 2 2] (w8.alloc (.cells #[.int .i64 (-z),.int .i64 zn] 3)) fun e w'=>e= .returned (.tuple #[])/\bF w gt gb gp X Bs D (S2.bG [-z,zn],P) w'):=by obtain⟨UH,gb8,gp8,Hx,A8,B8,C8,O8⟩:=H8.out;exact(DT (Hx.aH (zr.alloc _)) (wR w8 (-z) zn (dL hzb) (gK aiy)) zAF).mono fun e w' ⟨he,h⟩=>⟨he,ado.out _ _ (bF.trans A8 B8 C8 O8 (bF.after (zr.alloc _) h))⟩
   clear H8 hS2 HZn;go_wp2_with fail;refine qj.out.mono ?_;rintro e w9 ⟨rfl,h9⟩;have H9:=zh h9;clear h9 qj q0;obtain⟨vS,vT,uD,H4,A4,B4,C4,O4⟩:=H9.out;obtain⟨b,cap,v,hsv,hrow,hSS,hpu⟩:=H4.vP (n:=j') hj' (z:=z) (gK hzb);have hrl:=HPL.out.nr j';obtain⟨xs,hxs⟩:=ze (P.needs.getD j' []);rw[show(S2.bG [-z,zn],P).2.needs.getD j' []=xs from hxs]at hrow hpu;rw[hxs]at hrl;obtain⟨ao,adq,rfl,-,-⟩:=hrow.shape;obtain⟨n,hn⟩:=ze xs.length;simp only[qM]at hrow hSS;rw[hn]at hrow hrl hSS;obtain⟨nn,hnn⟩:=ze D.names.length;rw[hnn]at hsv hj';rw[hsv]at hSS;have aiz:nn<=1000000:=by rw[<-hnn];exact HG.out.nl
   have GK:Hid (∀W,Only (fun k=>uD k=(2,j'+1)) w9 W->W.cell? ⟨X.px,3,none⟩=some (.slice (some ⟨b,0,none⟩) nn cap)/\W.cell? ⟨b,j',none⟩=some (.slice ao n adq)/\W.frozen? ⟨b,j',none⟩=false):=hSS;have wM:=zh hrow;have HPu:Hid (∀wA w5 v',O0 w9 wA->Only (fun k=>uD k=(2,j'+1)) wA w5->Row w5 (Tag.put uD wA.heap.size w5.heap.size (2,j'+1)) (2,j'+1) 3 v' (xs.map cI++[cI z])->bF w gt gb gp X Bs D (S2.bG [-z,zn],{P with needs:=kZ P.needs j' z}) (w5.setCell ⟨b,j',none⟩ v')):=fun wA w5 v' o1 o2 hr=>bF.trans A4 B4 C4 O4 (hpu wA w5 v' o1 o2 hr);have HN:=zh hn;have hS0:=GK.out w9.drew (zr.drew);clear hrow hSS hpu hxs hn H4 A4 B4 C4 O4 hsv hnn H9 ewz;go_wp2_with fail;refine bC (n:=17) (E:=fun j=>j==16) (S:=fun W=>W.cell? ⟨X.px,3,none⟩=some (.slice (some ⟨b,0,none⟩) nn cap)/\W.cell? ⟨b,j',none⟩=some (.slice ao n adq)/\W.frozen? ⟨b,j',none⟩=false) zk rfl hS0 (fun hHeld=>?_);refine tW 0 ?_;refine tW 1 ?_;refine tW 2 ?_;refine tK 3 ?_;refine tW 4 ?_;refine tW 5 ?_;refine tW 6 ?_;refine tW 7 ?_;refine tK 8 ?_;refine tW 9 ?_;refine tW 10 ?_;refine tK 11 ?_;refine tW 12 ?_;refine tO 13 fun K hK=>?_;go_simp;refine hK.out _ _ ?_ (fun hHeld=>?_);·exact zC6
   clear hK K;try simp only[Act.put,eF,fA,eG,dW,dX,dY]
   refine tO 14 fun K hK=>?_;(refine Row.step (u:=.int .i64 z) lY (by rfl) (.tmp 106) (.tmp 108) (by rfl) zBv (by rfl) zBo rfl zBX zBz zAD ?_;intro bb5 cap5 w5 TG Jy);refine hK.out _ _ ?_ (fun hHeld=>?_);·exact zDi
   clear hK K;try simp only[Act.put,eF,fA,eG,dW,dX,dY]
   refine tW 15 ?_;refine fF (rs:=[16]) zk zAF ?_;refine bQ.late (i:=16) rfl zk (fun K hK=>?_) ?_
   ·(obtain⟨s1,s2,s3⟩:=hHeld;go_simp);refine hK.out _ _ ?_;clear hK K;try simp only[Act.put,eF,fA,eG,dW,dX,dY]
    refine bf zk ?_ _;have HE9:=zh (HPu.out _ w5 _ zAA Jy TG);clear TG Jy;go_wp2_with fail;go_end0;exact⟨rfl,by have h:=HE9.out;simp only[qM]at h;exact h⟩
   exact bQ.nil
  rw[if_pos zAB,yT]at uz;obtain⟨zm,hzm⟩:=ze ((S1.meet D.x D.l f' r 1 s).2);obtain⟨S2,hS2⟩:=ze ((S1.meet D.x D.l f' r 1 s).1);have UK:0<=zm/\zm<=65536:=by rw[<-hzm];exact TB.LJ H7.out.ok _ _ _ _ _ _
  have HMt:Hid (∀W,O0 w7 W->Calls Tryz.prog 225 #[.pointer (some ⟨X.c,0,none⟩),.int .i64 f',.int .i64 r,.int .i64 1,.agg #[.string s.name,.slice UD Sz UE,.slice VY NU VZ]] W fun e w'=>e= .returned (.int .i64 zm)/\bF w7 vS vT uD X Bs D (S2,P) w'):=fun W o=>by have h:=(LG (H7.out.aH o) HG.out (p:=f') (rule:=r) (cc:=1) (by have:=MX.out;omega) hr6 zAB (dB.keep ao9.out (Kp.gV o)) hss zm hzm).mono fun e w' ⟨he,h⟩=>(⟨he,bF.after o h⟩:e=_/\bF w7 vS vT uD X Bs D _ w');rw[hS2]at h;exact h
  have ewz:=zw (-z);rw[hzm,hS2]at uz;have h9:=uz.out;subst h9;have hS0:=HS7.out w7.drew (zr.drew);have qj:Hid (∀w8 W,bF w7 vS vT uD X Bs D (S2,P) w8->O0 w8 W->Ints W (.slice (some ⟨w8.heap.size,0,none⟩) 2 2) [-z,zm]->Calls Tryz.prog 163 #[.pointer (some ⟨X.c,0,none⟩),.slice (some ⟨w8.heap.size,0,none⟩) 2 2] W fun e w'=>e= .returned (.tuple #[])/\bF w7 vS vT uD X Bs D (S2.bG [-z,zm],P) w'):=fun w8 W h8 o hI=>by obtain⟨UH,gb8,gp8,Hx,A8,B8,C8,O8⟩:=h8;exact(DT (Hx.aH o) hI zAF).mono fun e w' ⟨he,h⟩=>⟨he,bF.trans A8 B8 C8 O8 (bF.after o h)⟩
  clear hzm hS2 q0 q1 H7;go_wp2_with fail;refine bC (n:=16) (E:=fun _=>false) (S:=fun W=>W.cell? ⟨X.px,0,none⟩=some (.pointer (some ⟨X.c,0,none⟩))/\W.rangeAt w.heap.size 0 [.string s.name,.slice UD Sz UE,.slice VY NU VZ]) zk rfl hS0 (fun hHeld=>?_);refine tW 0 ?_;refine tW 1 ?_;refine tW 2 ?_;refine tK 3 ?_;refine tW 4 ?_;refine tW 5 ?_;refine tW 6 ?_;refine tW 7 ?_;refine tW 8 ?_;refine tK 9 ?_;refine tW 10 ?_;refine tW 11 ?_;refine tK 12 ?_ (hy:=by(intro w hSw;(try dsimp only at hSw);refine Eq.trans (dJ (ty:=108) (x:=.tmp 5) (cs:=[.string s.name,.slice UD Sz UE,.slice VY NU VZ]) rfl rfl hSw.2 Tryz.underlying108 rfl zk) ?_;with_reducible rfl));refine tO 13 fun K hK=>?_;(go_simp;refine(HMt.out _ zAA).mono ?_;rintro e w8 ⟨rfl,h8⟩;have oM:Only (bP vS vT uD) w7 w8:=(by obtain⟨_,_,_,_,_,_,_,O⟩:=h8;exact O);try go_wp2_with fail);refine hK.out _ _ ?_ (fun hHeld=>?_);·(try dsimp only)<;>(exact HS7.out _ oM)
  clear hK K;try simp only[Act.put,eF,fA,eG,dW,dX,dY]
  refine tO 14 fun K hK=>?_;go_simp;refine hK.out _ _ ?_ (fun hHeld=>?_);·(try dsimp only)<;>(exact HS7.out _ zAG)
  clear hK K;try simp only[Act.put,eF,fA,eG,dW,dX,dY]
  refine tO 15 fun K hK=>?_;(go_simp;refine(qj.out w8 _ h8 zBT (by first|exact wR _ _ _ (dL hzb) (gK UK)|exact(wR w8 _ _ (dL hzb) (gK UK)).aH zAA)).mono ?_;rintro e w9 ⟨rfl,h9⟩;try go_wp2_with fail);refine hK.out _ _ ?_ (fun hHeld=>?_);·(try dsimp only)<;>(exact HS7.out _ h9.only)
  clear hK K;try simp only[Act.put,eF,fA,eG,dW,dX,dY]
  refine bf zk ?_ _;have H9:=zh (ado.out _ _ h9);clear h9 h8 oM;exact zCo
end
end Go.Proofs.YtdmmebjjojimiaaGreatDoor
