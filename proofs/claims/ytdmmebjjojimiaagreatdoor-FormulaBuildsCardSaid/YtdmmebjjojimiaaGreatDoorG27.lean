/- Package order: add, ahead, edges, through, Orders. Printed by gen_orw.py.; Package order: Orders. Printed by gen_orw.py. -/
import Derived.Test.YtdmmebjjojimiaaGreatDoorG26
set_option maxRecDepth 100000
set_option maxHeartbeats 8000000
set_option linter.all false
namespace Go.Proofs
theorem zAH{p:Prop}(h:p:=by(intro w hSw;(try dsimp only at hSw);refine Eq.trans (dJ (ty:=233) (x:=.tmp 2) (cs:=[.pointer (some ⟨c,0,none⟩)]) rfl rfl hSw Tryz.underlying233 rfl zk) ?_;with_reducible rfl)):p:=h
theorem zAO{p:Prop}(h:p:=by(intro w hSw;(try dsimp only at hSw);refine Eq.trans (dJ (ty:=233) (x:=.tmp 4) (cs:=[.pointer (some ⟨c,0,none⟩)]) rfl rfl hSw Tryz.underlying233 rfl zk) ?_;with_reducible rfl)):p:=h
theorem zAy{p:Prop}(h:p:=by rw[aj b0];rfl):p:=h
theorem zA6{p:Prop}(h:p:=by rw[uh.out];exact cj):p:=h
theorem zCX{p:Prop}(h:p:=by
 go_wp2_with fail
 go_roundw
 case rel=>exact⟨i+1,by first|rfl|go_num,by omega,by rw[HNi.out];exact HRj.out⟩
 case measure=>simp[RowKit.intOf]<;>omega):p:=h
theorem zCY{p:Prop}(h:p:=by
 go_wp2_with fail
 go_roundw
 case rel=>exact⟨j+1,by first|rfl|go_num,by omega,by rw[HE.out];exact HRj.out⟩
 case measure=>simp[RowKit.intOf]<;>omega):p:=h
theorem zCZ{p:Prop}(h:p:=by
 go_wp2_with fail
 go_roundw
 case rel=>exact⟨j+1,by first|rfl|go_num,by omega,by rw[kN.out];exact H9.out⟩
 case measure=>simp[RowKit.intOf]<;>omega):p:=h
theorem zDS{p:Prop}(h:p:=by
 go_wp2_with fail
 go_roundw
 case rel=>exact⟨j+1,by first|rfl|go_num,by omega,by rw[HE.out];exact H9.out⟩
 case measure=>simp[RowKit.intOf]<;>omega):p:=h
theorem zDx{p:Prop}(h:p:=by
 have b1:=aC b0 o (H.JJ (qH _))
 intro i u hu
 match i,hu with
 |0,hu=>simp at hu;subst hu;rw[aj b1];rfl
 |i+1,hu=>simp at hu):p:=h
theorem zD6{p:Prop}(h:p:=by
 go_wp2_with fail
 go_end0
 exact⟨rfl,H9.out⟩):p:=h
theorem zEc{p:Prop}(h:p:=by
 rw[<-HZ1.out.2]
 exact aZ.call HRj.out o fun gt' gb' Hx=>zq Hx hpb htb z1 HZ1.out.1):p:=h
end Go.Proofs
namespace Go.Proofs.YtdmmebjjojimiaaGreatDoor
open Go.RowKit
section
variable {w w':World} {gt gb:Tag} {c bt bb:Nat} {G:GL} {Bs:Nat} {D:xC} {S:TB}
theorem jr{α β:Type}(f:β->α->β)(s:β){l:List α}{i:Nat}{a:α}(h:l[i]? =some a):(l.take (i+1)).foldl f s=f ((l.take i).foldl f s) a:=by rw[List.take_add_one,h];simp
theorem alQ{p k:Nat}(hp:bg (p:Int))(hk:bg (k:Int)):nK (oI p k):=⟨by simp[oI],hp,hk,zI'⟩
theorem xP.JJ(H:xP w gt gb c bt bb G Bs D S){k:Nat}(hk:w.heap.size<=k):¬(Mine gt k\/Mine gb k):=by
 obtain⟨V,hV⟩:=H.gr.tab;obtain⟨U,hU⟩:=H.gr.Fb;rintro(h|h);·exact h (hV.fresh k hk)
 exact h (hU.fresh k hk)
theorem xG(w:World)(c:Nat):∃W0,w.alloc (.cells #[.pointer (some ⟨c,0,none⟩)] 233)=W0/\O0 w W0/\W0.heap[w.heap.size]? =some (.cells #[.pointer (some ⟨c,0,none⟩)] 233):=⟨_,rfl,zr.alloc _,qL w _⟩
theorem QX(H:xP w gt gb c bt bb G Bs D S){v:Value}{xs:List Int}(hI:Ints w v xs)(hb:xs.length<=1000000):Calls Tryz.prog 170 #[.agg #[.pointer (some ⟨c,0,none⟩)],v] w fun e w'=>e= .returned (.tuple #[])/\aZ w gt gb c bt bb G Bs D (S.bG xs) w':=by
 obtain⟨W0,hW0,GI,b0⟩:=xG w c;have iZ:=zh GI;obtain⟨z,hz⟩:=ze (xs.contains 0);have H0:=zh (H.aH iZ.out);have HC:=zh (uU (hI.aH iZ.out) 0 z hz);have HB:=zh (sD H0.out.gr);have HA:Hid (Calls Tryz.prog 153 #[.pointer (some ⟨bb,0,none⟩),v] W0 fun e w'=>e= .returned (.tuple #[])/\aZ w gt gb c bt bb G Bs D (S.1,S.2.add xs) w'):=
  (Qe H0.out.gr (hI.aH iZ.out) zAB).mono fun e w' ⟨he,h⟩=>⟨he,aZ.after iZ.out (H0.out.step (S2:=(S.1,S.2.add xs)) h H0.out.hinv)⟩
 have hS:S.bG xs=if z=true then S else (S.1,S.2.add xs):=by unfold TB.bG;rw[<-hz]
 rw[hS];have q0:W0.cell? ⟨w.heap.size,0,none⟩=some (.pointer (some ⟨c,0,none⟩)):=zAy;obtain⟨ao,cap,rfl,-,-⟩:=hI.shape;obtain⟨n,hn⟩:=ze xs.length;rw[hn]at HC HA⊢;clear hI hz hn H hb hS b0 GI;go_enter Tryz.func170,Tryz.ntmps170;go_wp2_with fail;refine HC.out.mono ?_;rintro e w1 ⟨rfl,rfl⟩;cases z with
 |true=>go_wp2_with fail;go_end0;exact⟨rfl,aZ.after iZ.out (aZ.refl H0.out)⟩
 |false=>exact zC7
theorem zq(H:xP w gt gb c bt bb G Bs D S){p t:Nat}(hp:p<=1000000)(ht:t<=1000000)(z:Int)(hz:(S.num (oI p t)).2=z):Calls Tryz.prog 171 #[.agg #[.pointer (some ⟨c,0,none⟩)],.int .i64 (p:Int),.int .i64 (t:Int)] w fun e w'=>e= .returned (.int .i64 z)/\aZ w gt gb c bt bb G Bs D (S.num (oI p t)).1 w':=by obtain⟨W0,hW0,GI,b0⟩:=xG w c;have iZ:=zh GI;have HN:=zh (DN (H.aH iZ.out) (alQ (p:=p) (k:=t) ⟨by omega,by omega⟩ ⟨by omega,by omega⟩) z hz);have q0:W0.cell? ⟨w.heap.size,0,none⟩=some (.pointer (some ⟨c,0,none⟩)):=zAy;clear H hz b0 GI;go_enter Tryz.func171,Tryz.ntmps171;go_wp2_with fail;refine HN.out.mono ?_;rintro e w1 ⟨rfl,h1⟩;have H1:=zh (aZ.after iZ.out h1);clear h1;go_wp2_with fail;go_ret;exact⟨rfl,H1.out⟩
theorem aZ.call{S3:TB}{W W2:World}{f:FuncId}{args:Array Value}{u:Value}(h:aZ w gt gb c bt bb G Bs D S W)(o:O0 W W2)(hc:∀gt' gb',xP W2 gt' gb' c bt bb G Bs D S->Calls Tryz.prog f args W2 fun e w'=>e= .returned u/\aZ W2 gt' gb' c bt bb G Bs D S3 w'):Calls Tryz.prog f args W2 fun e w'=>e= .returned u/\aZ w gt gb c bt bb G Bs D S3 w':=by obtain⟨gt',gb',Hx,A1,A2,O1⟩:=h;exact(hc gt' gb' (Hx.aH o)).mono fun e w' ⟨he,h2⟩=>⟨he,aZ.trans A1 A2 O1 (aZ.after o h2)⟩
theorem aZ.only(h:aZ w gt gb c bt bb G Bs D S w'):Only (fun k=>Mine gt k\/Mine gb k) w w':=by obtain⟨_,_,_,_,_,O⟩:=h;exact O
theorem aZ.MZ(h:aZ w gt gb c bt bb G Bs D S w'):S.1.Ok:=by obtain⟨_,_,H,_⟩:=h;exact H.ok
theorem mO{wr:World}{ao:Option Addr}{n cap i t:Nat}{l:List Nat}(hr:wr.ownsRow 0 3 1 (.slice ao n cap) n ((intsOf l).map cI))(hn:l.length=n)(ht:l[i]? =some t):∃b,ao=some ⟨b,0,none⟩/\wr.cell? ⟨b,i,none⟩=some (.int .i64 (t:Int)):=by
 have hi:i<n:=by rw[<-hn];exact(qJ.1 ht).1
 obtain⟨b,cap',e1,-,-⟩:=dU hr zAB;simp only[qU]at e1;obtain⟨rfl,-,rfl⟩:=e1;refine⟨b,rfl,?_⟩;rw[hr.cellAt i zAB];unfold intsOf;rw[List.getElem?_map,List.getElem?_map,ht];rfl
def NV(S:TB)(l:List Nat)(p j:Nat):TB:=(l.take j).foldl (fun S t=>S.Ej p t) S
def XG(S:TB)(l:List Nat)(i:Nat):TB:=(l.take i).foldl (fun S p=>l.foldl (fun S t=>S.Ej p t) S) S
attribute [local irreducible] gX in
theorem afQ(H:xP w gt gb c bt bb G Bs D S){v:Value}{l:List Nat}(hR:w.ownsRow 0 3 1 v l.length ((intsOf l).map cI))(hNb:∀k,v.ownBlock=some k->¬(Mine gt k\/Mine gb k))(hl:∀t∈l,t<=1000000)(hn:l.length<=1000000):Calls Tryz.prog 169 #[.agg #[.pointer (some ⟨c,0,none⟩)],v] w fun e w'=>e= .returned (.tuple #[])/\aZ w gt gb c bt bb G Bs D (S.QG l) w':=by
 obtain⟨W0,hW0,GI,b0⟩:=xG w c;have iZ:=zh GI;have H0:=zh (H.aH iZ.out);have HS:Hid (∀W,Only (fun k=>Mine gt k\/Mine gb k) W0 W->W.rangeAt w.heap.size 0 [.pointer (some ⟨c,0,none⟩)]):=fun W o=>by exact zDx
 have iP:=zh (aG hR iZ.out (fun _ _ f=>f));have Cm:=zh hNb;have OT:=zh hl;obtain⟨ao,cap,rfl,-,-⟩:=aJ hR;obtain⟨n,hn'⟩:=ze l.length;have uh:=zh hn';rw[hn']at iP hn Cm⊢;have DU:Hid (aZ W0 gt gb c bt bb G Bs D (XG S l 0) W0):=aZ.refl H0.out;have bD:Hid (XG S l n=S.QG l):=by show _=_;unfold XG TB.QG;rw[qI (yG uh.out)]
 clear hR hNb hl hn' H b0 GI;go_enter Tryz.func169,Tryz.ntmps169;go_wp2_with fail;go_loopw [11] (fun vi wr=> ∃i:Nat,vi= .int .i64 i/\i<=n/\Hid (aZ W0 gt gb c bt bb G Bs D (XG S l i) wr)) (fun v _=>n-(RowKit.intOf v).toNat);case atStart=>exact⟨0,rfl,qE _,DU⟩
 case round=>
  clear DU;obtain⟨i,rfl,hi,Ci⟩:=hrel;by_cases ci:i<n
  ·obtain⟨p,hp⟩:=zG l i zAu;have hpb:=OT.out p (qT hp);obtain⟨bp,e1,hcp⟩:=mO (aG iP.out Ci.out.only Cm.out) uh.out hp;first|subst e1| (simp only[qG,qO,and_true]at e1;subst e1)
   have HXp:=zh hp;clear hp;have apf:=zw (i+1);obtain⟨Si,Y7⟩:=ze (XG S l i);rw[Y7]at Ci;have HNi:Hid (XG S l (i+1)=NV Si l p n):=by show _=_;unfold XG at Y7⊢;rw[jr _ _ HXp.out,Y7];unfold NV;rw[qI (yG uh.out)]
   have DU:Hid (aZ W0 gt gb c bt bb G Bs D (NV Si l p 0) wr):=Ci.out;clear Ci Y7;go_wp2_with fail;go_loopw [17] (fun vj wr=> ∃j:Nat,vj= .int .i64 j/\j<=n/\Hid (aZ W0 gt gb c bt bb G Bs D (NV Si l p j) wr)) (fun v _=>n-(RowKit.intOf v).toNat);case atStart=>exact⟨0,rfl,qE _,DU⟩
   case round=>
    clear DU hcp;obtain⟨j,rfl,hj,HRj⟩:=hrel;by_cases cj:j<n
    ·obtain⟨t,ht⟩:=zG l j zA6;have htb:=OT.out t (qT ht);obtain⟨bt,e1,hct⟩:=mO (aG iP.out HRj.out.only Cm.out) uh.out ht;first|subst e1| (simp only[qG,qO,and_true]at e1;subst e1)
     have HXt:=zh ht;clear ht;have alR:=zw (j+1);obtain⟨Sj,hSj⟩:=ze (NV Si l p j);rw[hSj]at HRj;have kN:Hid (NV Si l p (j+1)=Sj.Ej p t):=by show _=_;unfold NV at hSj⊢;rw[jr _ _ HXt.out,hSj]
     obtain⟨z,hz⟩:=ze (numOf Sj.1.l (iV p t));have hzb:0<=(z:Int)/\(z:Int)<=65536:=by rw[<-hz];have h1:=LH Sj.1.l (iV p t);have h2:=HRj.out.MZ;have h3:=h2.len;have h4:=h2.lim;omega
     have TF:Hid (z=0↔ ¬iV p t∈Sj.1.l):=by
      show _↔_;rw[<-hz];unfold numOf;split;·rename_i h;simp[h]
      rename_i h;simp[h]
     have HT:Hid (Calls Tryz.prog 66 #[.pointer (some ⟨c,0,none⟩)] wr fun e w'=>e= .returned (.pointer (some ⟨bt,0,none⟩))/\w'=wr):=by obtain⟨_,_,Hx,_⟩:=HRj.out;exact vX Hx.gr
     have HLk:Hid (Calls Tryz.prog 67 #[.pointer (some ⟨bt,0,none⟩),iY (iV p t)] wr fun e w'=>e= .returned (.int .i64 (z:Int))/\O0 wr w'):=by obtain⟨_,_,Hx,_⟩:=HRj.out;obtain⟨V,hV⟩:=Hx.gr.tab;exact uf hV (YX ⟨by omega,by omega⟩ ⟨by omega,by omega⟩) _ (by rw[hz])
     have q0:wr.cell? ⟨w.heap.size,0,none⟩=some (.pointer (some ⟨c,0,none⟩)):=HS.out wr HRj.out.only 0 _ rfl;have HQ:Hid (numOf Sj.1.l (iV p t)=z):=hz;clear hz hSj;go_wp2_with fail;refine HT.out.mono ?_;rintro e w1 ⟨rfl,rfl⟩;go_wp2_with fail;refine HLk.out.mono ?_;rintro e w2 ⟨rfl,O2⟩;have H2:=zh (HRj.out.Lm O2);clear O2 HT HLk q0 hct;by_cases hz0:z=0
     ·have hx:=TF.out.1 hz0;have HE:Hid (NV Si l p (j+1)=Sj):=by show _=_;rw[kN.out];unfold TB.Ej;rw[if_neg hx]
      subst hz0;clear hx TF kN HQ;go_wp2_with fail;go_roundw;case rel=>exact⟨j+1,by first|rfl|go_num,by omega,by rw[HE.out];exact H2.out⟩
      case measure=>simp[RowKit.intOf]<;>omega
     have hx:iV p t∈Sj.1.l:=by
      by_cases h:iV p t∈Sj.1.l;·exact h
      exact absurd (TF.out.2 h) hz0
     have hz1:((z:Int)==0)=false:=yC.2 zAB;have ewz:=zw (-(z:Int));by_cases hpt:p=t
     ·subst hpt;have HE:Hid (NV Si l p (j+1)=Sj.bG [-(z:Int)]):=by show _=_;rw[kN.out];unfold TB.Ej;rw[if_pos hx,if_pos rfl,HQ.out]
      have qj:Hid (Calls Tryz.prog 170 #[.agg #[.pointer (some ⟨c,0,none⟩)],.slice (some ⟨w2.heap.size,0,none⟩) 1 1] (w2.alloc (.cells #[.int .i64 (-(z:Int))] 3)) fun e w'=>e= .returned (.tuple #[])/\aZ W0 gt gb c bt bb G Bs D (Sj.bG [-(z:Int)]) w'):=
       aZ.call H2.out (zr.alloc _) fun gt' gb' Hx=>QX Hx (adn w2 _ (dL hzb)) zAF
      have OJ:=zh (HS.out w2 H2.out.only);clear hx TF kN HQ;go_wp2_with (refine wpList_load_mid rfl 233 (.tmp 2) rfl w.heap.size 0 rfl _ _ OJ.out Tryz.underlying233 rfl zk ?_);refine qj.out.mono ?_;rintro e w9 ⟨rfl,h9⟩;have H9:=zh h9;clear h9 qj;exact zDS
     have apg:((p:Int)==(t:Int))=false:=yC.2 zAB;have hNx:NV Si l p (j+1)=(Sj.num (oI p t)).1.bG [-(z:Int),(Sj.num (oI p t)).2]:=by rw[kN.out];unfold TB.Ej;rw[if_pos hx,if_neg hpt,HQ.out]
     clear kN;obtain⟨za,hza⟩:=ze ((Sj.num (oI p t)).2);obtain⟨S2,hS2⟩:=ze ((Sj.num (oI p t)).1);have VR:=zh (And.intro hza hS2);have alS:0<=za/\za<=65536:=by rw[<-hza];exact TB.nY H2.out.MZ _
     rw[hza,hS2]at hNx;have kN:=zh hNx;have HAh:Hid (∀W,O0 w2 W->Calls Tryz.prog 171 #[.agg #[.pointer (some ⟨c,0,none⟩)],.int .i64 (p:Int),.int .i64 (t:Int)] W fun e w'=>e= .returned (.int .i64 za)/\aZ W0 gt gb c bt bb G Bs D S2 w'):=fun W o=>by rw[<-VR.out.2];exact aZ.call H2.out o fun gt' gb' Hx=>zq Hx hpb htb za VR.out.1
     have qj:Hid (∀w8 W,aZ W0 gt gb c bt bb G Bs D S2 w8->O0 w8 W->Ints W (.slice (some ⟨w8.heap.size,0,none⟩) 2 2) [-(z:Int),za]->Calls Tryz.prog 170 #[.agg #[.pointer (some ⟨c,0,none⟩)],.slice (some ⟨w8.heap.size,0,none⟩) 2 2] W fun e w'=>e= .returned (.tuple #[])/\aZ W0 gt gb c bt bb G Bs D (S2.bG [-(z:Int),za]) w'):=fun w8 W h8 o hI=>
      aZ.call h8 o fun gt' gb' Hx=>QX Hx hI zAF
     have hS0:=HS.out w2.drew (H2.out.only.drew);clear hx TF HQ hza hS2 hNx hpt;go_wp2_with fail;refine bC (n:=9) (E:=fun _=>false) (S:=fun W=>W.rangeAt w.heap.size 0 [.pointer (some ⟨c,0,none⟩)]) zk rfl hS0 (fun hHeld=>?_);refine tK 0 ?_ (hy:=zAH);refine tW 1 ?_;refine tW 2 ?_;refine tK 3 ?_ (hy:=zAH);refine tW 4 ?_;refine tW 5 ?_;refine tO 6 fun K hK=>?_;(go_simp;refine(HAh.out _ zAA).mono ?_;rintro e w8 ⟨rfl,h8⟩;have oM:Only (fun k=>Mine gt k\/Mine gb k) W0 w8:=h8.only;try go_wp2_with fail);refine hK.out _ _ ?_ (fun hHeld=>?_);·exact zDR
     clear hK K;try simp only[Act.put,eF,fA,eG,dW,dX,dY]
     refine tO 7 fun K hK=>?_;go_simp;refine hK.out _ _ ?_ (fun hHeld=>?_);·exact zDP
     clear hK K;try simp only[Act.put,eF,fA,eG,dW,dX,dY]
     refine tO 8 fun K hK=>?_;(go_simp;refine(qj.out w8 _ h8 zBT (by first|exact wR _ _ _ (dL hzb) (gK alS)|exact(wR w8 _ _ (dL hzb) (gK alS)).aH zAA)).mono ?_;rintro e w9 ⟨rfl,h9⟩;try go_wp2_with fail);refine hK.out _ _ ?_ (fun hHeld=>?_);·exact zDB
     clear hK K;try simp only[Act.put,eF,fA,eG,dW,dX,dY]
     refine bf zk ?_ _;have H9:=zh h9;clear h9 h8 oM HAh qj hS0;exact zCZ
    obtain rfl:n=j:=by omega
    exact zCX
  obtain rfl:n=i:=by omega
  have HX:=Ci.out;rw[bD.out]at HX;have H9:=zh (aZ.after iZ.out HX);clear HX Ci;exact zD6
def NW(S:TB)(l:List Nat)(p t j:Nat):TB:=(l.take j).foldl (fun S u=>S.FU p t u) S
theorem aau(H:xP w gt gb c bt bb G Bs D S){v:Value}{l:List Nat}(hR:w.ownsRow 0 3 1 v l.length ((intsOf l).map cI))(hNb:∀k,v.ownBlock=some k->¬(Mine gt k\/Mine gb k))(hl:∀t∈l,t<=1000000)(hn:l.length<=1000000){p t:Nat}(hpb:p<=1000000)(htb:t<=1000000):Calls Tryz.prog 172 #[.agg #[.pointer (some ⟨c,0,none⟩)],v,.int .i64 (p:Int),.int .i64 (t:Int)] w fun e w'=>e= .returned (.tuple #[])/\aZ w gt gb c bt bb G Bs D (S.through l p t) w':=by
 obtain⟨W0,hW0,GI,b0⟩:=xG w c;have iZ:=zh GI;have H0:=zh (H.aH iZ.out);have HS:Hid (∀W,Only (fun k=>Mine gt k\/Mine gb k) W0 W->W.rangeAt w.heap.size 0 [.pointer (some ⟨c,0,none⟩)]):=fun W o=>by exact zDx
 have iP:=zh (aG hR iZ.out (fun _ _ f=>f));have Cm:=zh hNb;have OT:=zh hl;obtain⟨ao,cap,rfl,-,-⟩:=aJ hR;obtain⟨n,hn'⟩:=ze l.length;have uh:=zh hn';rw[hn']at iP hn Cm⊢;have DU:Hid (aZ W0 gt gb c bt bb G Bs D (NW S l p t 0) W0):=aZ.refl H0.out;have bD:Hid (NW S l p t n=S.through l p t):=by show _=_;unfold NW TB.through;rw[qI (yG uh.out)]
 clear hR hNb hl hn' H b0 GI;go_enter Tryz.func172,Tryz.ntmps172;go_wp2_with fail;go_loopw [12] (fun vj wr=> ∃j:Nat,vj= .int .i64 j/\j<=n/\Hid (aZ W0 gt gb c bt bb G Bs D (NW S l p t j) wr)) (fun v _=>n-(RowKit.intOf v).toNat);case atStart=>exact⟨0,rfl,qE _,DU⟩
 case round=>
  clear DU;obtain⟨j,rfl,hj,HRj⟩:=hrel;by_cases cj:j<n
  ·obtain⟨u,hu⟩:=zG l j zA6;have hub:=OT.out u (qT hu);obtain⟨bu,e1,hcu⟩:=mO (aG iP.out HRj.out.only Cm.out) uh.out hu;first|subst e1| (simp only[qG,qO,and_true]at e1;subst e1)
   have HXu:=zh hu;clear hu;have alR:=zw (j+1);obtain⟨Sj,hSj⟩:=ze (NW S l p t j);rw[hSj]at HRj;have kN:Hid (NW S l p t (j+1)=Sj.FU p t u):=by show _=_;unfold NW at hSj⊢;rw[jr _ _ HXu.out,hSj]
   clear hSj;by_cases hup:p=u
   ·subst hup;have hpp:((p:Int) != (p:Int))=false:=zAF;have HE:Hid (NW S l p t (j+1)=Sj):=by show _=_;rw[kN.out];unfold TB.FU;rw[if_neg (by exact fun h=>h.1 rfl)]
    clear kN;exact zCY
   have auO:((u:Int) != (p:Int))=true:=bne_iff_ne.2 zAB;by_cases hut:t=u
   ·subst hut;have htt:((t:Int) != (t:Int))=false:=zAF;have HE:Hid (NW S l p t (j+1)=Sj):=by show _=_;rw[kN.out];unfold TB.FU;rw[if_neg (by exact fun h=>h.2 rfl)]
    clear kN;exact zCY
   have auP:((u:Int) != (t:Int))=true:=bne_iff_ne.2 zAB;obtain⟨z1,hz1⟩:=ze ((Sj.num (oI p t)).2);obtain⟨S1,hS1⟩:=ze ((Sj.num (oI p t)).1);have HZ1:=zh (And.intro hz1 hS1);obtain⟨z2,hz2⟩:=ze ((S1.num (oI t u)).2);obtain⟨S2,hS2⟩:=ze ((S1.num (oI t u)).1);have HZ2:=zh (And.intro hz2 hS2);obtain⟨z3,hz3⟩:=ze ((S2.num (oI p u)).2);obtain⟨S3,hS3⟩:=ze ((S2.num (oI p u)).1);have HZ3:=zh (And.intro hz3 hS3);have hNx:NW S l p t (j+1)=S3.bG [-z1,-z2,z3]:=by rw[kN.out];unfold TB.FU;rw[if_pos ⟨fun h=>hup h.symm,fun h=>hut h.symm⟩];dsimp only;rw[hz1,hS1,hz2,hS2,hz3,hS3]
   clear kN;have kN:=zh hNx;have ok1:S1.1.Ok:=by rw[<-hS1];exact(Tab.ql HRj.out.MZ _).1
   have ok2:S2.1.Ok:=by rw[<-hS2];exact(Tab.ql ok1 _).1
   have hz1b:0<=z1/\z1<=65536:=by rw[<-hz1];exact TB.nY HRj.out.MZ _
   have hz2b:0<=z2/\z2<=65536:=by rw[<-hz2];exact TB.nY ok1 _
   have hz3b:0<=z3/\z3<=65536:=by rw[<-hz3];exact TB.nY ok2 _
   have aph:=zw (-z1);have apj:=zw (-z2);have HA1:Hid (∀W,O0 wr W->Calls Tryz.prog 171 #[.agg #[.pointer (some ⟨c,0,none⟩)],.int .i64 (p:Int),.int .i64 (t:Int)] W fun e w'=>e= .returned (.int .i64 z1)/\aZ W0 gt gb c bt bb G Bs D S1 w'):=fun W o=>by exact zEc
   have HA2:Hid (∀w8 W,aZ W0 gt gb c bt bb G Bs D S1 w8->O0 w8 W->Calls Tryz.prog 171 #[.agg #[.pointer (some ⟨c,0,none⟩)],.int .i64 (t:Int),.int .i64 (u:Int)] W fun e w'=>e= .returned (.int .i64 z2)/\aZ W0 gt gb c bt bb G Bs D S2 w'):=fun w8 W h8 o=>by rw[<-HZ2.out.2];exact aZ.call h8 o fun gt' gb' Hx=>zq Hx htb hub z2 HZ2.out.1
   have HA3:Hid (∀w8 W,aZ W0 gt gb c bt bb G Bs D S2 w8->O0 w8 W->Calls Tryz.prog 171 #[.agg #[.pointer (some ⟨c,0,none⟩)],.int .i64 (p:Int),.int .i64 (u:Int)] W fun e w'=>e= .returned (.int .i64 z3)/\aZ W0 gt gb c bt bb G Bs D S3 w'):=fun w8 W h8 o=>by rw[<-HZ3.out.2];exact aZ.call h8 o fun gt' gb' Hx=>zq Hx hpb hub z3 HZ3.out.1
   have qj:Hid (∀w8 W,aZ W0 gt gb c bt bb G Bs D S3 w8->O0 w8 W->Ints W (.slice (some ⟨w8.heap.size,0,none⟩) 3 3) [-z1,-z2,z3]->Calls Tryz.prog 170 #[.agg #[.pointer (some ⟨c,0,none⟩)],.slice (some ⟨w8.heap.size,0,none⟩) 3 3] W fun e w'=>e= .returned (.tuple #[])/\aZ W0 gt gb c bt bb G Bs D (S3.bG [-z1,-z2,z3]) w'):=fun w8 W h8 o hI=>
    aZ.call h8 o fun gt' gb' Hx=>QX Hx hI zAF
   have hS0:=HS.out wr.drew (HRj.out.only.drew);clear hz1 hS1 hz2 hS2 hz3 hS3 hNx hup hut ok1 ok2;go_wp2_with fail;refine bC (n:=17) (E:=fun _=>false) (S:=fun W=>W.rangeAt w.heap.size 0 [.pointer (some ⟨c,0,none⟩)]) zk rfl hS0 (fun hHeld=>?_);refine tK 0 ?_ (hy:=zAO);refine tK 1 ?_ (hy:=zAO);refine tW 2 ?_;refine tW 3 ?_;refine tK 6 ?_ (hy:=zAO);refine tW 7 ?_;refine tW 8 ?_;refine tK 11 ?_ (hy:=zAO);refine tW 12 ?_;refine tW 13 ?_;refine tO 4 fun K hK=>?_;(go_simp;refine(HA1.out _ zAA).mono ?_;rintro e w5 ⟨rfl,h5⟩;have o5:Only (fun k=>Mine gt k\/Mine gb k) W0 w5:=h5.only;try go_wp2_with fail);refine hK.out _ _ ?_ (fun hHeld=>?_);·(try dsimp only)<;>(exact HS.out _ o5)
   clear hK K;try simp only[Act.put,eF,fA,eG,dW,dX,dY]
   refine tW 5 ?_;refine tO 9 fun K hK=>?_;(go_simp;refine(HA2.out w5 _ h5 zAA).mono ?_;rintro e w6 ⟨rfl,h6⟩;have o6:Only (fun k=>Mine gt k\/Mine gb k) W0 w6:=h6.only;try go_wp2_with fail);refine hK.out _ _ ?_ (fun hHeld=>?_);·(try dsimp only)<;>(exact HS.out _ o6)
   clear hK K;try simp only[Act.put,eF,fA,eG,dW,dX,dY]
   refine tW 10 ?_;refine tO 14 fun K hK=>?_;(go_simp;refine(HA3.out w6 _ h6 zAA).mono ?_;rintro e w7 ⟨rfl,h7⟩;have o7:Only (fun k=>Mine gt k\/Mine gb k) W0 w7:=h7.only;try go_wp2_with fail);refine hK.out _ _ ?_ (fun hHeld=>?_);·(try dsimp only)<;>(exact HS.out _ o7)
   clear hK K;try simp only[Act.put,eF,fA,eG,dW,dX,dY]
   refine tO 15 fun K hK=>?_;go_simp;refine hK.out _ _ ?_ (fun hHeld=>?_);·(try dsimp only)<;>(exact HS.out _ (by repeat (first|exact Only.refl _ _|exact o7|apply Only.drew|apply Only.alloc|apply Only.drewN)))
   clear hK K;try simp only[Act.put,eF,fA,eG,dW,dX,dY]
   refine tO 16 fun K hK=>?_;(go_simp;refine(qj.out w7 _ h7 zBT (by first|exact UL _ _ _ _ (dL hz1b) (dL hz2b) (gK hz3b)|exact(UL w7 _ _ _ (dL hz1b) (dL hz2b) (gK hz3b)).aH zAA)).mono ?_;rintro e w9 ⟨rfl,h9⟩;try go_wp2_with fail);refine hK.out _ _ ?_ (fun hHeld=>?_);·exact zDB
   clear hK K;try simp only[Act.put,eF,fA,eG,dW,dX,dY]
   refine bf zk ?_ _;have H9:=zh h9;clear h9 h5 h6 h7 o5 o6 o7 HA1 HA2 HA3 qj hS0;exact zCZ
  obtain rfl:n=j:=by omega
  have HX:=HRj.out;rw[bD.out]at HX;have H9:=zh (aZ.after iZ.out HX);clear HX HRj;exact zD6
end
section
variable {w w':World} {gt gb:Tag} {c bt bb:Nat} {G:GL} {Bs:Nat} {D:xC} {S:TB}
def UN(S:TB)(l:List Nat)(p i j:Nat):TB:=((l.drop (i+1)).take j).foldl (fun S t=>S.FT p t) S
def XH(S:TB)(l:List Nat)(i:Nat):TB:=((List.range l.length).take i).foldl (fun S i=>(l.drop (i+1)).foldl (fun S t=>S.FT (l.getD i 0) t) S) S
def XI(S:TB)(l:List Nat)(i:Nat):TB:=(l.take i).foldl (fun S p=>l.foldl (fun S t=>if p≠t then S.through l p t else S) S) S
def QY(S:TB)(l:List Nat)(p j:Nat):TB:=(l.take j).foldl (fun S t=>if p≠t then S.through l p t else S) S
theorem adv(H:xP w gt gb c bt bb G Bs D S)(hl:∀t∈D.l,t<=1000000)(hn:D.l.length<=1000000):Calls Tryz.prog 87 #[.pointer (some ⟨c,0,none⟩)] w fun e w'=>e= .returned (.tuple #[])/\aZ w gt gb c bt bb G Bs D (S.orders D.l) w':=by
 obtain⟨V0,hV0⟩:=ze (w.alloc (.cells #[.pointer none] 233));have hc0:V0.heap[w.heap.size]? =some (.cells #[.pointer none] 233):=by rw[<-hV0];exact qL w _
 obtain⟨V1,hV1⟩:=ze (V0.setRow w.heap.size #[.pointer (some ⟨c,0,none⟩)]);have b1:V1.heap[w.heap.size]? =some (.cells #[.pointer (some ⟨c,0,none⟩)] 233 (0,0)):=by rw[<-hV1];exact setRow_heap _ _ _ _ _ _ hc0
 have HOa:Hid (O0 w V1):=by
  have o1:O0 w V0:=by rw[<-hV0];exact zr.alloc _
  rw[<-hV1];exact o1.trans (aP _ _ _) fun k hk=>.inr (yG hk.symm)
 have Ha:=zh (H.aH HOa.out);have HCz:=zh hc0;have HB1:=zh b1;have adw:Hid (¬(Mine gt w.heap.size\/Mine gb w.heap.size)):=H.JJ (qH _);have Dt:=zh (x9 Ha.out.gr Ha.out.l zBK);have OT:=zh hl;obtain⟨l,hle⟩:∃l,D.l=l:=⟨_,rfl⟩;obtain⟨n,hn'⟩:=ze l.length;have uh:Hid (l.length=n):=hn';have hil:(intsOf D.l).length=n:=by rw[hle];unfold intsOf;rw[qM,hn']
 rw[hil]at Dt;rw[hle]at Dt OT hn⊢;rw[uh.out]at hn;clear hl hn' H b1 hc0 hle hil;go_enter Tryz.func87,Tryz.ntmps87;go_wp2_with (first
  | (refine wpList_store_row rfl 233 (.tmp 2) (.tmp 15) rfl w.heap.size #[.pointer (some ⟨c,0,none⟩)] rfl rfl 233 #[.pointer none] HCz.out zk rfl zk ?_))
 refine Dt.out.mono ?_;rintro e W0 ⟨v,rfl,r1,nb1,O1⟩;obtain⟨ao,cap,rfl,-,-⟩:=aJ r1;have iP:=zh r1;have iZ:=zh (HOa.out.same O1);have H0:=zh (Ha.out.aH O1);have Cm:Hid (∀k,(Value.slice ao n cap).ownBlock=some k->¬(Mine gt k\/Mine gb k)):=fun k hk=>Ha.out.JJ (nb1 k hk);have b0:=aC HB1.out O1 (fun f=>f);have HS:Hid (∀W,Only (fun k=>Mine gt k\/Mine gb k) W0 W->W.rangeAt w.heap.size 0 [.pointer (some ⟨c,0,none⟩)]):=fun W o=>by
  have b2:=aC b0 o adw.out
  intro i u hu
  match i,hu with
  |0,hu=>simp at hu;subst hu;rw[aj b2];rfl
  |i+1,hu=>simp at hu
 have HIr:Hid (∀W,Only (fun k=>Mine gt k\/Mine gb k) W0 W->Ints W (.slice ao n cap) (intsOf l)):=fun W o=>by
  have h1:=aG iP.out o Cm.out;have h2:(intsOf l).length=n:=by unfold intsOf;rw[qM];exact uh.out
  refine Ints.dV (by rw[h2];exact h1) fun z hz=>?_;unfold intsOf at hz;obtain⟨t,ht,rfl⟩:=yD.1 hz;have:=OT.out t ht;exact zCx
 obtain⟨S1,hS1⟩:=ze (S.QG l);have HEd:Hid (Calls Tryz.prog 169 #[.agg #[.pointer (some ⟨c,0,none⟩)],.slice ao n cap] W0 fun e w'=>e= .returned (.tuple #[])/\aZ W0 gt gb c bt bb G Bs D S1 w'):=by rw[<-hS1];exact afQ H0.out (l:=l) (by rw[uh.out];exact iP.out) Cm.out OT.out (by rw[uh.out];exact hn)
 have OJ:=zh (HS.out W0 zr);have HQ1:=zh hS1;clear O1 nb1 b0 r1 Dt HCz HB1 adw Ha HOa hS1;generalize w.heap.size=bx at*;go_wp2_with (refine wpList_load_mid rfl 233 (.tmp 2) rfl bx 0 rfl _ _ OJ.out Tryz.underlying233 rfl zk ?_);refine HEd.out.mono ?_;rintro e w2 ⟨rfl,h2⟩;have DU:Hid (aZ W0 gt gb c bt bb G Bs D (XH S1 l 0) w2):=h2;clear h2 HEd;go_wp2_with fail;go_loopw [23] (fun vi wr=> ∃i:Nat,vi= .int .i64 i/\i<=n/\Hid (aZ W0 gt gb c bt bb G Bs D (XH S1 l i) wr)) (fun v _=>n-(RowKit.intOf v).toNat);case atStart=>exact⟨0,rfl,qE _,DU⟩
 case round=>
  clear DU;obtain⟨i,rfl,hi,Ci⟩:=hrel;by_cases ci:i<n
  ·obtain⟨p,hp⟩:=zG l i zAu;have hpb:=OT.out p (qT hp);have hrow:=aG iP.out Ci.out.only Cm.out;obtain⟨b1,e1,hcp⟩:=mO hrow uh.out hp;subst e1;have HXp:=zh hp;clear hp hrow;have iG:=zw (i+1);obtain⟨Si,Y7⟩:=ze (XH S1 l i);rw[Y7]at Ci;have hcap:n<=cap/\cap<=maxLen:=by obtain⟨aa,cc,hcc,hc1,hc2⟩:=(HIr.out wr Ci.out.only).shape;simp only[qU]at hcc;obtain⟨-,h2,h3⟩:=hcc;subst h3;rw[<-h2]at hc1;exact⟨hc1,hc2⟩
   have hsl:=fun W=>vZ b1 0 n (i+1) cap zBU hcap.1 W ((i:Int)+1) zAB;obtain⟨o',ho'⟩:∃o',o'=if cap=i+1 then 0 else 0+(i+1):=⟨_,rfl⟩
   obtain⟨m,hm⟩:=ze (n-(i+1));obtain⟨c2',hc2'⟩:=ze (cap-(i+1));have HD:Hid (∀W,Ints W (.slice (some ⟨b1,0,none⟩) n cap) (intsOf l)->Ints W (.slice (some ⟨b1,o',none⟩) m c2') ((intsOf l).drop (i+1))):=fun W hW=>by have:=hW.abX (k:=i+1) (by unfold intsOf;rw[qM,uh.out];omega);rw[<-ho',hm,hc2']at this;exact this
   rw[<-ho',hm,hc2']at hsl;have HDl:Hid ((List.drop (i+1) (intsOf l)).length=m):=by show _=_;unfold intsOf;rw[List.length_drop,qM,uh.out,hm]
   have HNi:Hid (XH S1 l (i+1)=UN Si l p i m):=by show _=_;unfold XH at Y7⊢;rw[jr (l:=List.range l.length) _ _ (a:=i) (by rw[List.getElem?_range zAu]),Y7];unfold UN;rw[qI (by rw[List.length_drop,uh.out];omega),qC,HXp.out];rfl
   have DU:Hid (aZ W0 gt gb c bt bb G Bs D (UN Si l p i 0) wr):=Ci.out;have hmb:m<=1000000:=zAB;have hmi:i+1+m=n:=zAB;clear Ci Y7 ho' hm hc2' hcap;go_wp2_with fail;go_loopw [33] (fun vj wr=> ∃j:Nat,vj= .int .i64 j/\j<=m/\Hid (aZ W0 gt gb c bt bb G Bs D (UN Si l p i j) wr)) (fun v _=>m-(RowKit.intOf v).toNat);case atStart=>exact⟨0,rfl,qE _,DU⟩
   case round=>
    clear DU hcp hsl;obtain⟨j,rfl,hj,HRj⟩:=hrel;by_cases cj:j<m
    ·obtain⟨t,ht⟩:=zG l (i+1+j) (by rw[uh.out];omega);have htb:=OT.out t (qT ht);have HXt:=zh ht;have hIi:=HIr.out wr HRj.out.only;obtain⟨bb2,off2,e2,hct⟩:=(HD.out wr hIi).Fg (i:=j) (by rw[HDl.out];exact cj);simp only[qG,qO,and_true]at e2;obtain⟨rfl,rfl⟩:=e2;have hgt:(List.drop (i+1) (intsOf l)).getD j 0=(t:Int):=by rw[qC,List.getElem?_drop];unfold intsOf;rw[List.getElem?_map,HXt.out];rfl
     rw[hgt]at hct;clear hgt hIi;have WJ:=zw (j+1);obtain⟨Sj,hSj⟩:=ze (UN Si l p i j);rw[hSj]at HRj;have adx:Hid (UN Si l p i (j+1)=Sj.FT p t):=by show _=_;unfold UN at hSj⊢;rw[jr _ _ (a:=t) (by rw[List.getElem?_drop];exact HXt.out),hSj]
     obtain⟨z1,hz1⟩:=ze ((Sj.num (oI p t)).2);obtain⟨S1,hS1⟩:=ze ((Sj.num (oI p t)).1);have HZ1:=zh (And.intro hz1 hS1);obtain⟨z2,hz2⟩:=ze ((S1.num (oI t p)).2);obtain⟨S2,hS2⟩:=ze ((S1.num (oI t p)).1);have HZ2:=zh (And.intro hz2 hS2);have kN:Hid (UN Si l p i (j+1)=S2.bG [-z1,-z2]):=by show _=_;rw[adx.out];unfold TB.FT;dsimp only;rw[hz1,hS1,hz2,hS2]
     have ok1:S1.1.Ok:=by rw[<-hS1];exact(Tab.ql HRj.out.MZ _).1
     have hz1b:0<=z1/\z1<=65536:=by rw[<-hz1];exact TB.nY HRj.out.MZ _
     have hz2b:0<=z2/\z2<=65536:=by rw[<-hz2];exact TB.nY ok1 _
     have aph:=zw (-z1);have apj:=zw (-z2);have HA1:Hid (∀W,O0 wr W->Calls Tryz.prog 171 #[.agg #[.pointer (some ⟨c,0,none⟩)],.int .i64 (p:Int),.int .i64 (t:Int)] W fun e w'=>e= .returned (.int .i64 z1)/\aZ W0 gt gb c bt bb G Bs D S1 w'):=fun W o=>by exact zEc
     have HA2:Hid (∀w8 W,aZ W0 gt gb c bt bb G Bs D S1 w8->O0 w8 W->Calls Tryz.prog 171 #[.agg #[.pointer (some ⟨c,0,none⟩)],.int .i64 (t:Int),.int .i64 (p:Int)] W fun e w'=>e= .returned (.int .i64 z2)/\aZ W0 gt gb c bt bb G Bs D S2 w'):=fun w8 W h8 o=>by rw[<-HZ2.out.2];exact aZ.call h8 o fun gt' gb' Hx=>zq Hx htb hpb z2 HZ2.out.1
     have qj:Hid (∀w8 W,aZ W0 gt gb c bt bb G Bs D S2 w8->O0 w8 W->Ints W (.slice (some ⟨w8.heap.size,0,none⟩) 2 2) [-z1,-z2]->Calls Tryz.prog 170 #[.agg #[.pointer (some ⟨c,0,none⟩)],.slice (some ⟨w8.heap.size,0,none⟩) 2 2] W fun e w'=>e= .returned (.tuple #[])/\aZ W0 gt gb c bt bb G Bs D (S2.bG [-z1,-z2]) w'):=fun w8 W h8 o hI=>
      aZ.call h8 o fun gt' gb' Hx=>QX Hx hI zAF
     have hS0:=HS.out wr.drew (HRj.out.only.drew);clear hz1 hS1 hz2 hS2 ok1 hSj ht adx;go_wp2_with fail;refine bC (n:=13) (E:=fun _=>false) (S:=fun W=>W.rangeAt bx 0 [.pointer (some ⟨c,0,none⟩)]) zk rfl hS0 (fun hHeld=>?_);refine tK 0 ?_ (hy:=zAH);refine tK 1 ?_ (hy:=zAH);refine tW 2 ?_;refine tW 3 ?_;refine tK 6 ?_ (hy:=zAH);refine tW 7 ?_;refine tW 8 ?_;refine tO 4 fun K hK=>?_;(go_simp;refine(HA1.out _ zAA).mono ?_;rintro e w5 ⟨rfl,h5⟩;have o5:Only (fun k=>Mine gt k\/Mine gb k) W0 w5:=h5.only;try go_wp2_with fail);refine hK.out _ _ ?_ (fun hHeld=>?_);·(try dsimp only)<;>(exact HS.out _ o5)
     clear hK K;try simp only[Act.put,eF,fA,eG,dW,dX,dY]
     refine tW 5 ?_;refine tO 9 fun K hK=>?_;(go_simp;refine(HA2.out w5 _ h5 zAA).mono ?_;rintro e w6 ⟨rfl,h6⟩;have o6:Only (fun k=>Mine gt k\/Mine gb k) W0 w6:=h6.only;try go_wp2_with fail);refine hK.out _ _ ?_ (fun hHeld=>?_);·(try dsimp only)<;>(exact HS.out _ o6)
     clear hK K;try simp only[Act.put,eF,fA,eG,dW,dX,dY]
     refine tW 10 ?_;refine tO 11 fun K hK=>?_;go_simp;refine hK.out _ _ ?_ (fun hHeld=>?_);·(try dsimp only)<;>(exact HS.out _ (by repeat (first|exact Only.refl _ _|exact o6|apply Only.drew|apply Only.alloc|apply Only.drewN)))
     clear hK K;try simp only[Act.put,eF,fA,eG,dW,dX,dY]
     refine tO 12 fun K hK=>?_;(go_simp;refine(qj.out w6 _ h6 zBT (by first|exact wR _ _ _ (dL hz1b) (dL hz2b)|exact(wR w6 _ _ (dL hz1b) (dL hz2b)).aH zAA)).mono ?_;rintro e w9 ⟨rfl,h9⟩;try go_wp2_with fail);refine hK.out _ _ ?_ (fun hHeld=>?_);·exact zDB
     clear hK K;try simp only[Act.put,eF,fA,eG,dW,dX,dY]
     refine bf zk ?_ _;have H9:=zh h9;clear h9 h5 h6 o5 o6 HA1 HA2 qj hS0;exact zCZ
    obtain rfl:m=j:=by omega
    exact zCX
  obtain rfl:n=i:=by omega
  obtain⟨S2,hS2⟩:=ze (S1.Xv l);have hX:=Ci.out;have hres:XH S1 l n=S2:=by rw[<-hS2];unfold XH TB.Xv;rw[qI (by rw[List.length_range,uh.out];exact qH _)]
  rw[hres]at hX;have bD:Hid (XI S2 l n=S2.Xw l):=by show _=_;unfold XI TB.Xw;rw[qI (yG uh.out)]
  have HQ2:=zh hS2;have DU:Hid (aZ W0 gt gb c bt bb G Bs D (XI S2 l 0) wr):=hX;clear hX hres hS2 Ci hi ci;go_wp2_with fail;go_loopw [54] (fun vi wr=> ∃i:Nat,vi= .int .i64 i/\i<=n/\Hid (aZ W0 gt gb c bt bb G Bs D (XI S2 l i) wr)) (fun v _=>n-(RowKit.intOf v).toNat);case atStart=>exact⟨0,rfl,qE _,DU⟩
  case round=>
   clear DU;obtain⟨i,rfl,hi,Ci⟩:=hrel;by_cases ci:i<n
   ·obtain⟨p,hp⟩:=zG l i zAu;have hpb:=OT.out p (qT hp);obtain⟨bp,e1,hcp⟩:=mO (aG iP.out Ci.out.only Cm.out) uh.out hp;first|subst e1| (simp only[qG,qO,and_true]at e1;subst e1)
    have HXp:=zh hp;clear hp;have apf:=zw (i+1);obtain⟨Si,Y7⟩:=ze (XI S2 l i);rw[Y7]at Ci;have HNi:Hid (XI S2 l (i+1)=QY Si l p n):=by show _=_;unfold XI at Y7⊢;rw[jr _ _ HXp.out,Y7];unfold QY;rw[qI (yG uh.out)]
    have DU:Hid (aZ W0 gt gb c bt bb G Bs D (QY Si l p 0) wr):=Ci.out;clear Ci Y7;go_wp2_with fail;go_loopw [60] (fun vj wr=> ∃j:Nat,vj= .int .i64 j/\j<=n/\Hid (aZ W0 gt gb c bt bb G Bs D (QY Si l p j) wr)) (fun v _=>n-(RowKit.intOf v).toNat);case atStart=>exact⟨0,rfl,qE _,DU⟩
    case round=>
     clear DU hcp;obtain⟨j,rfl,hj,HRj⟩:=hrel;by_cases cj:j<n
     ·obtain⟨t,ht⟩:=zG l j zA6;have htb:=OT.out t (qT ht);obtain⟨bt,e1,hct⟩:=mO (aG iP.out HRj.out.only Cm.out) uh.out ht;first|subst e1| (simp only[qG,qO,and_true]at e1;subst e1)
      have HXt:=zh ht;clear ht;have alR:=zw (j+1);obtain⟨Sj,hSj⟩:=ze (QY Si l p j);rw[hSj]at HRj;have kN:Hid (QY Si l p (j+1)=if p≠t then Sj.through l p t else Sj):=by show _=_;unfold QY at hSj⊢;rw[jr _ _ HXt.out,hSj]
      clear hSj;by_cases hpt:p=t
      ·subst hpt;have hpp:((p:Int) != (p:Int))=false:=zAF;have HE:Hid (QY Si l p (j+1)=Sj):=by show _=_;rw[kN.out,if_neg (fun h=>h rfl)]
       exact zCY
      have apg:((p:Int) != (t:Int))=true:=bne_iff_ne.2 zAB;have HE:Hid (QY Si l p (j+1)=Sj.through l p t):=by show _=_;rw[kN.out,if_pos hpt]
      have HTh:Hid (Calls Tryz.prog 172 #[.agg #[.pointer (some ⟨c,0,none⟩)],.slice (some ⟨bp,0,none⟩) n cap,.int .i64 (p:Int),.int .i64 (t:Int)] wr fun e w'=>e= .returned (.tuple #[])/\aZ W0 gt gb c bt bb G Bs D (Sj.through l p t) w'):=by have hr:=aG iP.out HRj.out.only Cm.out;obtain⟨gt',gb',Hx,A1,A2,O9⟩:=HRj.out;refine(aau Hx (l:=l) (by rw[uh.out];exact hr) (fun k hk hm=>?_) OT.out (by rw[uh.out];exact hn) hpb htb).mono fun e w' ⟨he,h2⟩=>⟨he,aZ.trans A1 A2 O9 h2⟩;have hlt:=dP iP.out hk;have h1:=Cm.out k hk;unfold Mine at hm h1;rw[A1 k hlt,A2 k hlt]at hm;exact h1 hm
      have OJ:=zh (HS.out wr HRj.out.only);clear kN hpt;go_wp2_with (refine wpList_load_mid rfl 233 (.tmp 2) rfl bx 0 rfl _ _ OJ.out Tryz.underlying233 rfl zk ?_);refine HTh.out.mono ?_;rintro e w9 ⟨rfl,h9⟩;have H9:=zh h9;clear h9 HTh;exact zDS
     obtain rfl:n=j:=by omega
     exact zCX
   obtain rfl:n=i:=by omega
   have hX:=Ci.out;rw[bD.out,<-HQ2.out,<-HQ1.out]at hX;have H9:=zh (aZ.after iZ.out hX);clear hX Ci;exact zD6
end
end Go.Proofs.YtdmmebjjojimiaaGreatDoor
