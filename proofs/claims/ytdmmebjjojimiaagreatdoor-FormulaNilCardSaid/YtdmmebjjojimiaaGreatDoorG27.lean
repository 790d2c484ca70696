/- Package order: add, ahead, edges, through, Orders. Printed by gen_orw.py.; Package order: Orders. Printed by gen_orw.py. -/
import Derived.Test.YtdmmebjjojimiaaGreatDoorG20
import Derived.Test.YtdmmebjjojimiaaGreatDoorG26
set_option maxRecDepth 100000
set_option maxHeartbeats 8000000
set_option linter.all false
namespace Go.Proofs
theorem zAG{p:Prop}(h:p:=by(intro w hSw;(try dsimp only at hSw);refine Eq.trans (bV (ty:=233) (x:=.tmp 2) (cs:=[.pointer (some ⟨c,0,none⟩)]) rfl rfl hSw Tryz.underlying233 rfl zk) ?_;with_reducible rfl)):p:=h
theorem zAJ{p:Prop}(h:p:=by(intro w hSw;(try dsimp only at hSw);refine Eq.trans (bV (ty:=233) (x:=.tmp 4) (cs:=[.pointer (some ⟨c,0,none⟩)]) rfl rfl hSw Tryz.underlying233 rfl zk) ?_;with_reducible rfl)):p:=h
theorem zAf{p:Prop}(h:p:=by rw[aj b0];rfl):p:=h
theorem zAl{p:Prop}(h:p:=by rw[oD.out];exact cj):p:=h
theorem zBt{p:Prop}(h:p:=by
 go_wp2_with fail
 go_roundw
 case rel=>exact⟨j+1,by first|rfl|go_num,by omega,by rw[HE.out];exact HRj.out⟩
 case measure=>simp[RowKit.intOf]<;>omega):p:=h
theorem zBu{p:Prop}(h:p:=by
 go_wp2_with fail
 go_roundw
 case rel=>exact⟨i+1,by first|rfl|go_num,by omega,by rw[Y1.out];exact HRj.out⟩
 case measure=>simp[RowKit.intOf]<;>omega):p:=h
theorem zBv{p:Prop}(h:p:=by
 go_wp2_with fail
 go_roundw
 case rel=>exact⟨j+1,by first|rfl|go_num,by omega,by rw[jr.out];exact H9.out⟩
 case measure=>simp[RowKit.intOf]<;>omega):p:=h
theorem zCY{p:Prop}(h:p:=by
 go_wp2_with fail
 go_roundw
 case rel=>exact⟨j+1,by first|rfl|go_num,by omega,by rw[HE.out];exact H9.out⟩
 case measure=>simp[RowKit.intOf]<;>omega):p:=h
theorem zCs{p:Prop}(h:p:=by
 have b1:=ak b0 o (H.Es (qH _))
 intro i u hu
 match i,hu with
 |0,hu=>simp at hu;subst hu;rw[aj b1];rfl
 |i+1,hu=>simp at hu):p:=h
theorem zCz{p:Prop}(h:p:=by
 go_wp2_with fail
 go_end0
 exact⟨rfl,H9.out⟩):p:=h
theorem zDS{p:Prop}(h:p:=by
 rw[<-HZ1.out.2]
 exact aN.call HRj.out o fun gt' gb' Hx=>tC Hx hpb htb z1 HZ1.out.1):p:=h
end Go.Proofs
namespace Go.Proofs.YtdmmebjjojimiaaGreatDoor
open Go.RowKit
section
variable {w w':World} {gt gb:Tag} {c bt bb:Nat} {G:BJ} {Bs:Nat} {D:rU} {S:TB}
theorem gK{α β:Type}(f:β->α->β)(s:β){l:List α}{i:Nat}{a:α}(h:l[i]? =some a):(l.take (i+1)).foldl f s=f ((l.take i).foldl f s) a:=by rw[List.take_add_one,h];simp
theorem ahp{p k:Nat}(hp:aO (p:Int))(hk:aO (k:Int)):kC (oI p k):=⟨by simp[oI],hp,hk,zI'⟩
theorem sD.Es(H:sD w gt gb c bt bb G Bs D S){k:Nat}(hk:w.heap.size<=k):¬(Mine gt k\/Mine gb k):=by
 obtain⟨V,hV⟩:=H.gr.tab;obtain⟨U,hU⟩:=H.gr.G8;rintro(h|h);·exact h (hV.fresh k hk)
 exact h (hU.fresh k hk)
theorem rW(w:World)(c:Nat):∃W0,w.alloc (.cells #[.pointer (some ⟨c,0,none⟩)] 233)=W0/\O0 w W0/\W0.heap[w.heap.size]? =some (.cells #[.pointer (some ⟨c,0,none⟩)] 233):=⟨_,rfl,zr.alloc _,qL w _⟩
theorem Lj(H:sD w gt gb c bt bb G Bs D S){v:Value}{xs:List Int}(hI:Ints w v xs)(hb:xs.length<=1000000):Calls Tryz.prog 170 #[.agg #[.pointer (some ⟨c,0,none⟩)],v] w fun e w'=>e= .returned (.tuple #[])/\aN w gt gb c bt bb G Bs D (S.aV xs) w':=by
 obtain⟨W0,hW0,BH,b0⟩:=rW w c;have iM:=zh BH;obtain⟨z,hz⟩:=ze (xs.contains 0);have H0:=zh (H.aF iM.out);have HC:=zh (oZ (hI.aF iM.out) 0 z hz);have HB:=zh (mX H0.out.gr);have HA:Hid (Calls Tryz.prog 153 #[.pointer (some ⟨bb,0,none⟩),v] W0 fun e w'=>e= .returned (.tuple #[])/\aN w gt gb c bt bb G Bs D (S.1,S.2.add xs) w'):=
  (Ku H0.out.gr (hI.aF iM.out) zBB).mono fun e w' ⟨he,h⟩=>⟨he,aN.after iM.out (H0.out.step (S2:=(S.1,S.2.add xs)) h H0.out.hinv)⟩
 have hS:S.aV xs=if z=true then S else (S.1,S.2.add xs):=by unfold TB.aV;rw[<-hz]
 rw[hS];have q0:W0.cell? ⟨w.heap.size,0,none⟩=some (.pointer (some ⟨c,0,none⟩)):=zAf;obtain⟨ao,cap,rfl,-,-⟩:=hI.shape;obtain⟨n,hn⟩:=ze xs.length;rw[hn]at HC HA⊢;clear hI hz hn H hb hS b0 BH;go_enter Tryz.func170,Tryz.ntmps170;go_wp2_with fail;refine HC.out.mono ?_;rintro e w1 ⟨rfl,rfl⟩;cases z with
 |true=>go_wp2_with fail;go_end0;exact⟨rfl,aN.after iM.out (aN.refl H0.out)⟩
 |false=>exact zCK
theorem tC(H:sD w gt gb c bt bb G Bs D S){p t:Nat}(hp:p<=1000000)(ht:t<=1000000)(z:Int)(hz:(S.num (oI p t)).2=z):Calls Tryz.prog 171 #[.agg #[.pointer (some ⟨c,0,none⟩)],.int .i64 (p:Int),.int .i64 (t:Int)] w fun e w'=>e= .returned (.int .i64 z)/\aN w gt gb c bt bb G Bs D (S.num (oI p t)).1 w':=by obtain⟨W0,hW0,BH,b0⟩:=rW w c;have iM:=zh BH;have HN:=zh (xP (H.aF iM.out) (ahp (p:=p) (k:=t) ⟨by omega,by omega⟩ ⟨by omega,by omega⟩) z hz);have q0:W0.cell? ⟨w.heap.size,0,none⟩=some (.pointer (some ⟨c,0,none⟩)):=zAf;clear H hz b0 BH;go_enter Tryz.func171,Tryz.ntmps171;go_wp2_with fail;refine HN.out.mono ?_;rintro e w1 ⟨rfl,h1⟩;have H1:=zh (aN.after iM.out h1);clear h1;go_wp2_with fail;go_ret;exact⟨rfl,H1.out⟩
theorem aN.call{S3:TB}{W W2:World}{f:FuncId}{args:Array Value}{u:Value}(h:aN w gt gb c bt bb G Bs D S W)(o:O0 W W2)(hc:∀gt' gb',sD W2 gt' gb' c bt bb G Bs D S->Calls Tryz.prog f args W2 fun e w'=>e= .returned u/\aN W2 gt' gb' c bt bb G Bs D S3 w'):Calls Tryz.prog f args W2 fun e w'=>e= .returned u/\aN w gt gb c bt bb G Bs D S3 w':=by obtain⟨gt',gb',Hx,A1,A2,O1⟩:=h;exact(hc gt' gb' (Hx.aF o)).mono fun e w' ⟨he,h2⟩=>⟨he,aN.trans A1 A2 O1 (aN.after o h2)⟩
theorem aN.only(h:aN w gt gb c bt bb G Bs D S w'):Only (fun k=>Mine gt k\/Mine gb k) w w':=by obtain⟨_,_,_,_,_,O⟩:=h;exact O
theorem aN.Hf(h:aN w gt gb c bt bb G Bs D S w'):S.1.Ok:=by obtain⟨_,_,H,_⟩:=h;exact H.ok
theorem jL{wr:World}{ao:Option Addr}{n cap i t:Nat}{l:List Nat}(hr:wr.ownsRow 0 3 1 (.slice ao n cap) n ((intsOf l).map cI))(hn:l.length=n)(ht:l[i]? =some t):∃b,ao=some ⟨b,0,none⟩/\wr.cell? ⟨b,i,none⟩=some (.int .i64 (t:Int)):=by
 have hi:i<n:=by rw[<-hn];exact(qJ.1 ht).1
 obtain⟨b,cap',e1,-,-⟩:=dB hr zBB;simp only[qU]at e1;obtain⟨rfl,-,rfl⟩:=e1;refine⟨b,rfl,?_⟩;rw[hr.cellAt i zBB];unfold intsOf;rw[List.getElem?_map,List.getElem?_map,ht];rfl
def II(S:TB)(l:List Nat)(p j:Nat):TB:=(l.take j).foldl (fun S t=>S.DZ p t) S
def RU(S:TB)(l:List Nat)(i:Nat):TB:=(l.take i).foldl (fun S p=>l.foldl (fun S t=>S.DZ p t) S) S
attribute [local irreducible] eU in
theorem abk(H:sD w gt gb c bt bb G Bs D S){v:Value}{l:List Nat}(hR:w.ownsRow 0 3 1 v l.length ((intsOf l).map cI))(hNb:∀k,v.ownBlock=some k->¬(Mine gt k\/Mine gb k))(hl:∀t∈l,t<=1000000)(hn:l.length<=1000000):Calls Tryz.prog 169 #[.agg #[.pointer (some ⟨c,0,none⟩)],v] w fun e w'=>e= .returned (.tuple #[])/\aN w gt gb c bt bb G Bs D (S.OG l) w':=by
 obtain⟨W0,hW0,BH,b0⟩:=rW w c;have iM:=zh BH;have H0:=zh (H.aF iM.out);have HS:Hid (∀W,Only (fun k=>Mine gt k\/Mine gb k) W0 W->W.rangeAt w.heap.size 0 [.pointer (some ⟨c,0,none⟩)]):=fun W o=>by exact zCs
 have fP:=zh (aB hR iM.out (fun _ _ f=>f));have zq:=zh hNb;have Jk:=zh hl;obtain⟨ao,cap,rfl,-,-⟩:=aH hR;obtain⟨n,hn'⟩:=ze l.length;have oD:=zh hn';rw[hn']at fP hn zq⊢;have xU:Hid (aN W0 gt gb c bt bb G Bs D (RU S l 0) W0):=aN.refl H0.out;have bH:Hid (RU S l n=S.OG l):=by show _=_;unfold RU TB.OG;rw[qI (yG oD.out)]
 clear hR hNb hl hn' H b0 BH;go_enter Tryz.func169,Tryz.ntmps169;go_wp2_with fail;go_loopw [11] (fun vi wr=> ∃i:Nat,vi= .int .i64 i/\i<=n/\Hid (aN W0 gt gb c bt bb G Bs D (RU S l i) wr)) (fun v _=>n-(RowKit.intOf v).toNat);case atStart=>exact⟨0,rfl,qE _,xU⟩
 case round=>
  clear xU;obtain⟨i,rfl,hi,wJ⟩:=hrel;by_cases ci:i<n
  ·obtain⟨p,hp⟩:=zG l i zAd;have hpb:=Jk.out p (qT hp);obtain⟨bp,e1,hcp⟩:=jL (aB fP.out wJ.out.only zq.out) oD.out hp;first|subst e1| (simp only[qG,qO,and_true]at e1;subst e1)
   have HXp:=zh hp;clear hp;have aku:=zw (i+1);obtain⟨Si,UG⟩:=ze (RU S l i);rw[UG]at wJ;have Y1:Hid (RU S l (i+1)=II Si l p n):=by show _=_;unfold RU at UG⊢;rw[gK _ _ HXp.out,UG];unfold II;rw[qI (yG oD.out)]
   have xU:Hid (aN W0 gt gb c bt bb G Bs D (II Si l p 0) wr):=wJ.out;clear wJ UG;go_wp2_with fail;go_loopw [17] (fun vj wr=> ∃j:Nat,vj= .int .i64 j/\j<=n/\Hid (aN W0 gt gb c bt bb G Bs D (II Si l p j) wr)) (fun v _=>n-(RowKit.intOf v).toNat);case atStart=>exact⟨0,rfl,qE _,xU⟩
   case round=>
    clear xU hcp;obtain⟨j,rfl,hj,HRj⟩:=hrel;by_cases cj:j<n
    ·obtain⟨t,ht⟩:=zG l j zAl;have htb:=Jk.out t (qT ht);obtain⟨bt,e1,hct⟩:=jL (aB fP.out HRj.out.only zq.out) oD.out ht;first|subst e1| (simp only[qG,qO,and_true]at e1;subst e1)
     have HXt:=zh ht;clear ht;have ahq:=zw (j+1);obtain⟨Sj,hSj⟩:=ze (II Si l p j);rw[hSj]at HRj;have jr:Hid (II Si l p (j+1)=Sj.DZ p t):=by show _=_;unfold II at hSj⊢;rw[gK _ _ HXt.out,hSj]
     obtain⟨z,hz⟩:=ze (numOf Sj.1.l (gY p t));have hzb:0<=(z:Int)/\(z:Int)<=65536:=by rw[<-hz];have h1:=Gh Sj.1.l (gY p t);have h2:=HRj.out.Hf;have h3:=h2.len;have h4:=h2.lim;omega
     have NH:Hid (z=0↔ ¬gY p t∈Sj.1.l):=by
      show _↔_;rw[<-hz];unfold numOf;split;·rename_i h;simp[h]
      rename_i h;simp[h]
     have HT:Hid (Calls Tryz.prog 66 #[.pointer (some ⟨c,0,none⟩)] wr fun e w'=>e= .returned (.pointer (some ⟨bt,0,none⟩))/\w'=wr):=by obtain⟨_,_,Hx,_⟩:=HRj.out;exact qc Hx.gr
     have HLk:Hid (Calls Tryz.prog 67 #[.pointer (some ⟨bt,0,none⟩),fH (gY p t)] wr fun e w'=>e= .returned (.int .i64 (z:Int))/\O0 wr w'):=by obtain⟨_,_,Hx,_⟩:=HRj.out;obtain⟨V,hV⟩:=Hx.gr.tab;exact nS hV (Ux ⟨by omega,by omega⟩ ⟨by omega,by omega⟩) _ (by rw[hz])
     have q0:wr.cell? ⟨w.heap.size,0,none⟩=some (.pointer (some ⟨c,0,none⟩)):=HS.out wr HRj.out.only 0 _ rfl;have HQ:Hid (numOf Sj.1.l (gY p t)=z):=hz;clear hz hSj;go_wp2_with fail;refine HT.out.mono ?_;rintro e w1 ⟨rfl,rfl⟩;go_wp2_with fail;refine HLk.out.mono ?_;rintro e w2 ⟨rfl,O2⟩;have H2:=zh (HRj.out.F5 O2);clear O2 HT HLk q0 hct;by_cases hz0:z=0
     ·have hx:=NH.out.1 hz0;have HE:Hid (II Si l p (j+1)=Sj):=by show _=_;rw[jr.out];unfold TB.DZ;rw[if_neg hx]
      subst hz0;clear hx NH jr HQ;go_wp2_with fail;go_roundw;case rel=>exact⟨j+1,by first|rfl|go_num,by omega,by rw[HE.out];exact H2.out⟩
      case measure=>simp[RowKit.intOf]<;>omega
     have hx:gY p t∈Sj.1.l:=by
      by_cases h:gY p t∈Sj.1.l;·exact h
      exact absurd (NH.out.2 h) hz0
     have hz1:((z:Int)==0)=false:=yC.2 zBB;have ewz:=zw (-(z:Int));by_cases hpt:p=t
     ·subst hpt;have HE:Hid (II Si l p (j+1)=Sj.aV [-(z:Int)]):=by show _=_;rw[jr.out];unfold TB.DZ;rw[if_pos hx,if_pos rfl,HQ.out]
      have lQ:Hid (Calls Tryz.prog 170 #[.agg #[.pointer (some ⟨c,0,none⟩)],.slice (some ⟨w2.heap.size,0,none⟩) 1 1] (w2.alloc (.cells #[.int .i64 (-(z:Int))] 3)) fun e w'=>e= .returned (.tuple #[])/\aN W0 gt gb c bt bb G Bs D (Sj.aV [-(z:Int)]) w'):=
       aN.call H2.out (zr.alloc _) fun gt' gb' Hx=>Lj Hx (YT w2 _ (bW hzb)) zAE
      have Jf:=zh (HS.out w2 H2.out.only);clear hx NH jr HQ;go_wp2_with (refine wpList_load_mid rfl 233 (.tmp 2) rfl w.heap.size 0 rfl _ _ Jf.out Tryz.underlying233 rfl zk ?_);refine lQ.out.mono ?_;rintro e w9 ⟨rfl,h9⟩;have H9:=zh h9;clear h9 lQ;exact zCY
     have akv:((p:Int)==(t:Int))=false:=yC.2 zBB;have hNx:II Si l p (j+1)=(Sj.num (oI p t)).1.aV [-(z:Int),(Sj.num (oI p t)).2]:=by rw[jr.out];unfold TB.DZ;rw[if_pos hx,if_neg hpt,HQ.out]
     clear jr;obtain⟨za,hza⟩:=ze ((Sj.num (oI p t)).2);obtain⟨S2,hS2⟩:=ze ((Sj.num (oI p t)).1);have HZa:=zh (And.intro hza hS2);have ahr:0<=za/\za<=65536:=by rw[<-hza];exact TB.kN H2.out.Hf _
     rw[hza,hS2]at hNx;have jr:=zh hNx;have HAh:Hid (∀W,O0 w2 W->Calls Tryz.prog 171 #[.agg #[.pointer (some ⟨c,0,none⟩)],.int .i64 (p:Int),.int .i64 (t:Int)] W fun e w'=>e= .returned (.int .i64 za)/\aN W0 gt gb c bt bb G Bs D S2 w'):=fun W o=>by rw[<-HZa.out.2];exact aN.call H2.out o fun gt' gb' Hx=>tC Hx hpb htb za HZa.out.1
     have lQ:Hid (∀w8 W,aN W0 gt gb c bt bb G Bs D S2 w8->O0 w8 W->Ints W (.slice (some ⟨w8.heap.size,0,none⟩) 2 2) [-(z:Int),za]->Calls Tryz.prog 170 #[.agg #[.pointer (some ⟨c,0,none⟩)],.slice (some ⟨w8.heap.size,0,none⟩) 2 2] W fun e w'=>e= .returned (.tuple #[])/\aN W0 gt gb c bt bb G Bs D (S2.aV [-(z:Int),za]) w'):=fun w8 W h8 o hI=>
      aN.call h8 o fun gt' gb' Hx=>Lj Hx hI zAE
     have hS0:=HS.out w2.drew (H2.out.only.drew);clear hx NH HQ hza hS2 hNx hpt;go_wp2_with fail;refine aT (n:=9) (E:=fun _=>false) (S:=fun W=>W.rangeAt w.heap.size 0 [.pointer (some ⟨c,0,none⟩)]) zk rfl hS0 (fun hHeld=>?_);refine tK 0 ?_ (hy:=zAG);refine tW 1 ?_;refine tW 2 ?_;refine tK 3 ?_ (hy:=zAG);refine tW 4 ?_;refine tW 5 ?_;refine tO 6 fun K hK=>?_;(go_simp;refine(HAh.out _ zBA).mono ?_;rintro e w8 ⟨rfl,h8⟩;have oM:Only (fun k=>Mine gt k\/Mine gb k) W0 w8:=h8.only;try go_wp2_with fail);refine hK.out _ _ ?_ (fun hHeld=>?_);·exact zCX
     clear hK K;try simp only[Act.put,dL,dQ,dM,dN,dO,dP]
     refine tO 7 fun K hK=>?_;go_simp;refine hK.out _ _ ?_ (fun hHeld=>?_);·exact zCV
     clear hK K;try simp only[Act.put,dL,dQ,dM,dN,dO,dP]
     refine tO 8 fun K hK=>?_;(go_simp;refine(lQ.out w8 _ h8 zAA (by first|exact rC _ _ _ (bW hzb) (dX ahr)|exact(rC w8 _ _ (bW hzb) (dX ahr)).aF zBA)).mono ?_;rintro e w9 ⟨rfl,h9⟩;try go_wp2_with fail);refine hK.out _ _ ?_ (fun hHeld=>?_);·exact zCN
     clear hK K;try simp only[Act.put,dL,dQ,dM,dN,dO,dP]
     refine aS zk ?_ _;have H9:=zh h9;clear h9 h8 oM HAh lQ hS0;exact zBv
    obtain rfl:n=j:=by omega
    exact zBu
  obtain rfl:n=i:=by omega
  have HX:=wJ.out;rw[bH.out]at HX;have H9:=zh (aN.after iM.out HX);clear HX wJ;exact zCz
def IJ(S:TB)(l:List Nat)(p t j:Nat):TB:=(l.take j).foldl (fun S u=>S.Iy p t u) S
theorem V7(H:sD w gt gb c bt bb G Bs D S){v:Value}{l:List Nat}(hR:w.ownsRow 0 3 1 v l.length ((intsOf l).map cI))(hNb:∀k,v.ownBlock=some k->¬(Mine gt k\/Mine gb k))(hl:∀t∈l,t<=1000000)(hn:l.length<=1000000){p t:Nat}(hpb:p<=1000000)(htb:t<=1000000):Calls Tryz.prog 172 #[.agg #[.pointer (some ⟨c,0,none⟩)],v,.int .i64 (p:Int),.int .i64 (t:Int)] w fun e w'=>e= .returned (.tuple #[])/\aN w gt gb c bt bb G Bs D (S.through l p t) w':=by
 obtain⟨W0,hW0,BH,b0⟩:=rW w c;have iM:=zh BH;have H0:=zh (H.aF iM.out);have HS:Hid (∀W,Only (fun k=>Mine gt k\/Mine gb k) W0 W->W.rangeAt w.heap.size 0 [.pointer (some ⟨c,0,none⟩)]):=fun W o=>by exact zCs
 have fP:=zh (aB hR iM.out (fun _ _ f=>f));have zq:=zh hNb;have Jk:=zh hl;obtain⟨ao,cap,rfl,-,-⟩:=aH hR;obtain⟨n,hn'⟩:=ze l.length;have oD:=zh hn';rw[hn']at fP hn zq⊢;have xU:Hid (aN W0 gt gb c bt bb G Bs D (IJ S l p t 0) W0):=aN.refl H0.out;have bH:Hid (IJ S l p t n=S.through l p t):=by show _=_;unfold IJ TB.through;rw[qI (yG oD.out)]
 clear hR hNb hl hn' H b0 BH;go_enter Tryz.func172,Tryz.ntmps172;go_wp2_with fail;go_loopw [12] (fun vj wr=> ∃j:Nat,vj= .int .i64 j/\j<=n/\Hid (aN W0 gt gb c bt bb G Bs D (IJ S l p t j) wr)) (fun v _=>n-(RowKit.intOf v).toNat);case atStart=>exact⟨0,rfl,qE _,xU⟩
 case round=>
  clear xU;obtain⟨j,rfl,hj,HRj⟩:=hrel;by_cases cj:j<n
  ·obtain⟨u,hu⟩:=zG l j zAl;have hub:=Jk.out u (qT hu);obtain⟨bu,e1,hcu⟩:=jL (aB fP.out HRj.out.only zq.out) oD.out hu;first|subst e1| (simp only[qG,qO,and_true]at e1;subst e1)
   have HXu:=zh hu;clear hu;have ahq:=zw (j+1);obtain⟨Sj,hSj⟩:=ze (IJ S l p t j);rw[hSj]at HRj;have jr:Hid (IJ S l p t (j+1)=Sj.Iy p t u):=by show _=_;unfold IJ at hSj⊢;rw[gK _ _ HXu.out,hSj]
   clear hSj;by_cases hup:p=u
   ·subst hup;have hpp:((p:Int) != (p:Int))=false:=zAE;have HE:Hid (IJ S l p t (j+1)=Sj):=by show _=_;rw[jr.out];unfold TB.Iy;rw[if_neg (by exact fun h=>h.1 rfl)]
    clear jr;exact zBt
   have apn:((u:Int) != (p:Int))=true:=bne_iff_ne.2 zBB;by_cases hut:t=u
   ·subst hut;have htt:((t:Int) != (t:Int))=false:=zAE;have HE:Hid (IJ S l p t (j+1)=Sj):=by show _=_;rw[jr.out];unfold TB.Iy;rw[if_neg (by exact fun h=>h.2 rfl)]
    clear jr;exact zBt
   have apo:((u:Int) != (t:Int))=true:=bne_iff_ne.2 zBB;obtain⟨z1,hz1⟩:=ze ((Sj.num (oI p t)).2);obtain⟨S1,hS1⟩:=ze ((Sj.num (oI p t)).1);have HZ1:=zh (And.intro hz1 hS1);obtain⟨z2,hz2⟩:=ze ((S1.num (oI t u)).2);obtain⟨S2,hS2⟩:=ze ((S1.num (oI t u)).1);have HZ2:=zh (And.intro hz2 hS2);obtain⟨z3,hz3⟩:=ze ((S2.num (oI p u)).2);obtain⟨S3,hS3⟩:=ze ((S2.num (oI p u)).1);have HZ3:=zh (And.intro hz3 hS3);have hNx:IJ S l p t (j+1)=S3.aV [-z1,-z2,z3]:=by rw[jr.out];unfold TB.Iy;rw[if_pos ⟨fun h=>hup h.symm,fun h=>hut h.symm⟩];dsimp only;rw[hz1,hS1,hz2,hS2,hz3,hS3]
   clear jr;have jr:=zh hNx;have ok1:S1.1.Ok:=by rw[<-hS1];exact(Tab.lS HRj.out.Hf _).1
   have ok2:S2.1.Ok:=by rw[<-hS2];exact(Tab.lS ok1 _).1
   have hz1b:0<=z1/\z1<=65536:=by rw[<-hz1];exact TB.kN HRj.out.Hf _
   have hz2b:0<=z2/\z2<=65536:=by rw[<-hz2];exact TB.kN ok1 _
   have hz3b:0<=z3/\z3<=65536:=by rw[<-hz3];exact TB.kN ok2 _
   have akx:=zw (-z1);have aky:=zw (-z2);have HA1:Hid (∀W,O0 wr W->Calls Tryz.prog 171 #[.agg #[.pointer (some ⟨c,0,none⟩)],.int .i64 (p:Int),.int .i64 (t:Int)] W fun e w'=>e= .returned (.int .i64 z1)/\aN W0 gt gb c bt bb G Bs D S1 w'):=fun W o=>by exact zDS
   have HA2:Hid (∀w8 W,aN W0 gt gb c bt bb G Bs D S1 w8->O0 w8 W->Calls Tryz.prog 171 #[.agg #[.pointer (some ⟨c,0,none⟩)],.int .i64 (t:Int),.int .i64 (u:Int)] W fun e w'=>e= .returned (.int .i64 z2)/\aN W0 gt gb c bt bb G Bs D S2 w'):=fun w8 W h8 o=>by rw[<-HZ2.out.2];exact aN.call h8 o fun gt' gb' Hx=>tC Hx htb hub z2 HZ2.out.1
   have HA3:Hid (∀w8 W,aN W0 gt gb c bt bb G Bs D S2 w8->O0 w8 W->Calls Tryz.prog 171 #[.agg #[.pointer (some ⟨c,0,none⟩)],.int .i64 (p:Int),.int .i64 (u:Int)] W fun e w'=>e= .returned (.int .i64 z3)/\aN W0 gt gb c bt bb G Bs D S3 w'):=fun w8 W h8 o=>by rw[<-HZ3.out.2];exact aN.call h8 o fun gt' gb' Hx=>tC Hx hpb hub z3 HZ3.out.1
   have lQ:Hid (∀w8 W,aN W0 gt gb c bt bb G Bs D S3 w8->O0 w8 W->Ints W (.slice (some ⟨w8.heap.size,0,none⟩) 3 3) [-z1,-z2,z3]->Calls Tryz.prog 170 #[.agg #[.pointer (some ⟨c,0,none⟩)],.slice (some ⟨w8.heap.size,0,none⟩) 3 3] W fun e w'=>e= .returned (.tuple #[])/\aN W0 gt gb c bt bb G Bs D (S3.aV [-z1,-z2,z3]) w'):=fun w8 W h8 o hI=>
    aN.call h8 o fun gt' gb' Hx=>Lj Hx hI zAE
   have hS0:=HS.out wr.drew (HRj.out.only.drew);clear hz1 hS1 hz2 hS2 hz3 hS3 hNx hup hut ok1 ok2;go_wp2_with fail;refine aT (n:=17) (E:=fun _=>false) (S:=fun W=>W.rangeAt w.heap.size 0 [.pointer (some ⟨c,0,none⟩)]) zk rfl hS0 (fun hHeld=>?_);refine tK 0 ?_ (hy:=zAJ);refine tK 1 ?_ (hy:=zAJ);refine tW 2 ?_;refine tW 3 ?_;refine tK 6 ?_ (hy:=zAJ);refine tW 7 ?_;refine tW 8 ?_;refine tK 11 ?_ (hy:=zAJ);refine tW 12 ?_;refine tW 13 ?_;refine tO 4 fun K hK=>?_;(go_simp;refine(HA1.out _ zBA).mono ?_;rintro e w5 ⟨rfl,h5⟩;have o5:Only (fun k=>Mine gt k\/Mine gb k) W0 w5:=h5.only;try go_wp2_with fail);refine hK.out _ _ ?_ (fun hHeld=>?_);·(try dsimp only)<;>(exact HS.out _ o5)
   clear hK K;try simp only[Act.put,dL,dQ,dM,dN,dO,dP]
   refine tW 5 ?_;refine tO 9 fun K hK=>?_;(go_simp;refine(HA2.out w5 _ h5 zBA).mono ?_;rintro e w6 ⟨rfl,h6⟩;have o6:Only (fun k=>Mine gt k\/Mine gb k) W0 w6:=h6.only;try go_wp2_with fail);refine hK.out _ _ ?_ (fun hHeld=>?_);·(try dsimp only)<;>(exact HS.out _ o6)
   clear hK K;try simp only[Act.put,dL,dQ,dM,dN,dO,dP]
   refine tW 10 ?_;refine tO 14 fun K hK=>?_;(go_simp;refine(HA3.out w6 _ h6 zBA).mono ?_;rintro e w7 ⟨rfl,h7⟩;have o7:Only (fun k=>Mine gt k\/Mine gb k) W0 w7:=h7.only;try go_wp2_with fail);refine hK.out _ _ ?_ (fun hHeld=>?_);·(try dsimp only)<;>(exact HS.out _ o7)
   clear hK K;try simp only[Act.put,dL,dQ,dM,dN,dO,dP]
   refine tO 15 fun K hK=>?_;go_simp;refine hK.out _ _ ?_ (fun hHeld=>?_);·(try dsimp only)<;>(exact HS.out _ (by repeat (first|exact Only.refl _ _|exact o7|apply Only.drew|apply Only.alloc|apply Only.drewN)))
   clear hK K;try simp only[Act.put,dL,dQ,dM,dN,dO,dP]
   refine tO 16 fun K hK=>?_;(go_simp;refine(lQ.out w7 _ h7 zAA (by first|exact OZ _ _ _ _ (bW hz1b) (bW hz2b) (dX hz3b)|exact(OZ w7 _ _ _ (bW hz1b) (bW hz2b) (dX hz3b)).aF zBA)).mono ?_;rintro e w9 ⟨rfl,h9⟩;try go_wp2_with fail);refine hK.out _ _ ?_ (fun hHeld=>?_);·exact zCN
   clear hK K;try simp only[Act.put,dL,dQ,dM,dN,dO,dP]
   refine aS zk ?_ _;have H9:=zh h9;clear h9 h5 h6 h7 o5 o6 o7 HA1 HA2 HA3 lQ hS0;exact zBv
  obtain rfl:n=j:=by omega
  have HX:=HRj.out;rw[bH.out]at HX;have H9:=zh (aN.after iM.out HX);clear HX HRj;exact zCz
end
section
variable {w w':World} {gt gb:Tag} {c bt bb:Nat} {G:BJ} {Bs:Nat} {D:rU} {S:TB}
def Pj(S:TB)(l:List Nat)(p i j:Nat):TB:=((l.drop (i+1)).take j).foldl (fun S t=>S.FY p t) S
def RV(S:TB)(l:List Nat)(i:Nat):TB:=((List.range l.length).take i).foldl (fun S i=>(l.drop (i+1)).foldl (fun S t=>S.FY (l.getD i 0) t) S) S
def RX(S:TB)(l:List Nat)(i:Nat):TB:=(l.take i).foldl (fun S p=>l.foldl (fun S t=>if p≠t then S.through l p t else S) S) S
def Ll(S:TB)(l:List Nat)(p j:Nat):TB:=(l.take j).foldl (fun S t=>if p≠t then S.through l p t else S) S
theorem Y2(H:sD w gt gb c bt bb G Bs D S)(hl:∀t∈D.l,t<=1000000)(hn:D.l.length<=1000000):Calls Tryz.prog 87 #[.pointer (some ⟨c,0,none⟩)] w fun e w'=>e= .returned (.tuple #[])/\aN w gt gb c bt bb G Bs D (S.orders D.l) w':=by
 obtain⟨V0,hV0⟩:=ze (w.alloc (.cells #[.pointer none] 233));have hc0:V0.heap[w.heap.size]? =some (.cells #[.pointer none] 233):=by rw[<-hV0];exact qL w _
 obtain⟨V1,hV1⟩:=ze (V0.setRow w.heap.size #[.pointer (some ⟨c,0,none⟩)]);have b1:V1.heap[w.heap.size]? =some (.cells #[.pointer (some ⟨c,0,none⟩)] 233 (0,0)):=by rw[<-hV1];exact setRow_heap _ _ _ _ _ _ hc0
 have HOa:Hid (O0 w V1):=by
  have o1:O0 w V0:=by rw[<-hV0];exact zr.alloc _
  rw[<-hV1];exact o1.trans (aU _ _ _) fun k hk=>.inr (yG hk.symm)
 have Ha:=zh (H.aF HOa.out);have HCz:=zh hc0;have HB1:=zh b1;have Y3:Hid (¬(Mine gt w.heap.size\/Mine gb w.heap.size)):=H.Es (qH _);have xE:=zh (sN Ha.out.gr Ha.out.l zAz);have Jk:=zh hl;obtain⟨l,hle⟩:∃l,D.l=l:=⟨_,rfl⟩;obtain⟨n,hn'⟩:=ze l.length;have oD:Hid (l.length=n):=hn';have hil:(intsOf D.l).length=n:=by rw[hle];unfold intsOf;rw[qM,hn']
 rw[hil]at xE;rw[hle]at xE Jk hn⊢;rw[oD.out]at hn;clear hl hn' H b1 hc0 hle hil;go_enter Tryz.func87,Tryz.ntmps87;go_wp2_with (first
  | (refine wpList_store_row rfl 233 (.tmp 2) (.tmp 15) rfl w.heap.size #[.pointer (some ⟨c,0,none⟩)] rfl rfl 233 #[.pointer none] HCz.out zk rfl zk ?_))
 refine xE.out.mono ?_;rintro e W0 ⟨v,rfl,r1,nb1,O1⟩;obtain⟨ao,cap,rfl,-,-⟩:=aH r1;have fP:=zh r1;have iM:=zh (HOa.out.same O1);have H0:=zh (Ha.out.aF O1);have zq:Hid (∀k,(Value.slice ao n cap).ownBlock=some k->¬(Mine gt k\/Mine gb k)):=fun k hk=>Ha.out.Es (nb1 k hk);have b0:=ak HB1.out O1 (fun f=>f);have HS:Hid (∀W,Only (fun k=>Mine gt k\/Mine gb k) W0 W->W.rangeAt w.heap.size 0 [.pointer (some ⟨c,0,none⟩)]):=fun W o=>by
  have b2:=ak b0 o Y3.out
  intro i u hu
  match i,hu with
  |0,hu=>simp at hu;subst hu;rw[aj b2];rfl
  |i+1,hu=>simp at hu
 have HIr:Hid (∀W,Only (fun k=>Mine gt k\/Mine gb k) W0 W->Ints W (.slice ao n cap) (intsOf l)):=fun W o=>by
  have h1:=aB fP.out o zq.out;have h2:(intsOf l).length=n:=by unfold intsOf;rw[qM];exact oD.out
  refine Ints.dF (by rw[h2];exact h1) fun z hz=>?_;unfold intsOf at hz;obtain⟨t,ht,rfl⟩:=yD.1 hz;have:=Jk.out t ht;exact zCC
 obtain⟨S1,hS1⟩:=ze (S.OG l);have HEd:Hid (Calls Tryz.prog 169 #[.agg #[.pointer (some ⟨c,0,none⟩)],.slice ao n cap] W0 fun e w'=>e= .returned (.tuple #[])/\aN W0 gt gb c bt bb G Bs D S1 w'):=by rw[<-hS1];exact abk H0.out (l:=l) (by rw[oD.out];exact fP.out) zq.out Jk.out (by rw[oD.out];exact hn)
 have Jf:=zh (HS.out W0 zr);have HQ1:=zh hS1;clear O1 nb1 b0 r1 xE HCz HB1 Y3 Ha HOa hS1;generalize w.heap.size=bx at*;go_wp2_with (refine wpList_load_mid rfl 233 (.tmp 2) rfl bx 0 rfl _ _ Jf.out Tryz.underlying233 rfl zk ?_);refine HEd.out.mono ?_;rintro e w2 ⟨rfl,h2⟩;have xU:Hid (aN W0 gt gb c bt bb G Bs D (RV S1 l 0) w2):=h2;clear h2 HEd;go_wp2_with fail;go_loopw [23] (fun vi wr=> ∃i:Nat,vi= .int .i64 i/\i<=n/\Hid (aN W0 gt gb c bt bb G Bs D (RV S1 l i) wr)) (fun v _=>n-(RowKit.intOf v).toNat);case atStart=>exact⟨0,rfl,qE _,xU⟩
 case round=>
  clear xU;obtain⟨i,rfl,hi,wJ⟩:=hrel;by_cases ci:i<n
  ·obtain⟨p,hp⟩:=zG l i zAd;have hpb:=Jk.out p (qT hp);have hrow:=aB fP.out wJ.out.only zq.out;obtain⟨b1,e1,hcp⟩:=jL hrow oD.out hp;subst e1;have HXp:=zh hp;clear hp hrow;have jg:=zw (i+1);obtain⟨Si,UG⟩:=ze (RV S1 l i);rw[UG]at wJ;have hcap:n<=cap/\cap<=maxLen:=by obtain⟨aa,cc,hcc,hc1,hc2⟩:=(HIr.out wr wJ.out.only).shape;simp only[qU]at hcc;obtain⟨-,h2,h3⟩:=hcc;subst h3;rw[<-h2]at hc1;exact⟨hc1,hc2⟩
   have hsl:=fun W=>qh b1 0 n (i+1) cap zAB hcap.1 W ((i:Int)+1) zBB;obtain⟨o',ho'⟩:∃o',o'=if cap=i+1 then 0 else 0+(i+1):=⟨_,rfl⟩
   obtain⟨m,hm⟩:=ze (n-(i+1));obtain⟨c2',hc2'⟩:=ze (cap-(i+1));have HD:Hid (∀W,Ints W (.slice (some ⟨b1,0,none⟩) n cap) (intsOf l)->Ints W (.slice (some ⟨b1,o',none⟩) m c2') ((intsOf l).drop (i+1))):=fun W hW=>by have:=hW.XL (k:=i+1) (by unfold intsOf;rw[qM,oD.out];omega);rw[<-ho',hm,hc2']at this;exact this
   rw[<-ho',hm,hc2']at hsl;have HDl:Hid ((List.drop (i+1) (intsOf l)).length=m):=by show _=_;unfold intsOf;rw[List.length_drop,qM,oD.out,hm]
   have Y1:Hid (RV S1 l (i+1)=Pj Si l p i m):=by show _=_;unfold RV at UG⊢;rw[gK (l:=List.range l.length) _ _ (a:=i) (by rw[List.getElem?_range zAd]),UG];unfold Pj;rw[qI (by rw[List.length_drop,oD.out];omega),qC,HXp.out];rfl
   have xU:Hid (aN W0 gt gb c bt bb G Bs D (Pj Si l p i 0) wr):=wJ.out;have hmb:m<=1000000:=zBB;have hmi:i+1+m=n:=zBB;clear wJ UG ho' hm hc2' hcap;go_wp2_with fail;go_loopw [33] (fun vj wr=> ∃j:Nat,vj= .int .i64 j/\j<=m/\Hid (aN W0 gt gb c bt bb G Bs D (Pj Si l p i j) wr)) (fun v _=>m-(RowKit.intOf v).toNat);case atStart=>exact⟨0,rfl,qE _,xU⟩
   case round=>
    clear xU hcp hsl;obtain⟨j,rfl,hj,HRj⟩:=hrel;by_cases cj:j<m
    ·obtain⟨t,ht⟩:=zG l (i+1+j) (by rw[oD.out];omega);have htb:=Jk.out t (qT ht);have HXt:=zh ht;have hIi:=HIr.out wr HRj.out.only;obtain⟨bb2,off2,e2,hct⟩:=(HD.out wr hIi).Ah (i:=j) (by rw[HDl.out];exact cj);simp only[qG,qO,and_true]at e2;obtain⟨rfl,rfl⟩:=e2;have hgt:(List.drop (i+1) (intsOf l)).getD j 0=(t:Int):=by rw[qC,List.getElem?_drop];unfold intsOf;rw[List.getElem?_map,HXt.out];rfl
     rw[hgt]at hct;clear hgt hIi;have TT:=zw (j+1);obtain⟨Sj,hSj⟩:=ze (Pj Si l p i j);rw[hSj]at HRj;have Y4:Hid (Pj Si l p i (j+1)=Sj.FY p t):=by show _=_;unfold Pj at hSj⊢;rw[gK _ _ (a:=t) (by rw[List.getElem?_drop];exact HXt.out),hSj]
     obtain⟨z1,hz1⟩:=ze ((Sj.num (oI p t)).2);obtain⟨S1,hS1⟩:=ze ((Sj.num (oI p t)).1);have HZ1:=zh (And.intro hz1 hS1);obtain⟨z2,hz2⟩:=ze ((S1.num (oI t p)).2);obtain⟨S2,hS2⟩:=ze ((S1.num (oI t p)).1);have HZ2:=zh (And.intro hz2 hS2);have jr:Hid (Pj Si l p i (j+1)=S2.aV [-z1,-z2]):=by show _=_;rw[Y4.out];unfold TB.FY;dsimp only;rw[hz1,hS1,hz2,hS2]
     have ok1:S1.1.Ok:=by rw[<-hS1];exact(Tab.lS HRj.out.Hf _).1
     have hz1b:0<=z1/\z1<=65536:=by rw[<-hz1];exact TB.kN HRj.out.Hf _
     have hz2b:0<=z2/\z2<=65536:=by rw[<-hz2];exact TB.kN ok1 _
     have akx:=zw (-z1);have aky:=zw (-z2);have HA1:Hid (∀W,O0 wr W->Calls Tryz.prog 171 #[.agg #[.pointer (some ⟨c,0,none⟩)],.int .i64 (p:Int),.int .i64 (t:Int)] W fun e w'=>e= .returned (.int .i64 z1)/\aN W0 gt gb c bt bb G Bs D S1 w'):=fun W o=>by exact zDS
     have HA2:Hid (∀w8 W,aN W0 gt gb c bt bb G Bs D S1 w8->O0 w8 W->Calls Tryz.prog 171 #[.agg #[.pointer (some ⟨c,0,none⟩)],.int .i64 (t:Int),.int .i64 (p:Int)] W fun e w'=>e= .returned (.int .i64 z2)/\aN W0 gt gb c bt bb G Bs D S2 w'):=fun w8 W h8 o=>by rw[<-HZ2.out.2];exact aN.call h8 o fun gt' gb' Hx=>tC Hx htb hpb z2 HZ2.out.1
     have lQ:Hid (∀w8 W,aN W0 gt gb c bt bb G Bs D S2 w8->O0 w8 W->Ints W (.slice (some ⟨w8.heap.size,0,none⟩) 2 2) [-z1,-z2]->Calls Tryz.prog 170 #[.agg #[.pointer (some ⟨c,0,none⟩)],.slice (some ⟨w8.heap.size,0,none⟩) 2 2] W fun e w'=>e= .returned (.tuple #[])/\aN W0 gt gb c bt bb G Bs D (S2.aV [-z1,-z2]) w'):=fun w8 W h8 o hI=>
      aN.call h8 o fun gt' gb' Hx=>Lj Hx hI zAE
     have hS0:=HS.out wr.drew (HRj.out.only.drew);clear hz1 hS1 hz2 hS2 ok1 hSj ht Y4;go_wp2_with fail;refine aT (n:=13) (E:=fun _=>false) (S:=fun W=>W.rangeAt bx 0 [.pointer (some ⟨c,0,none⟩)]) zk rfl hS0 (fun hHeld=>?_);refine tK 0 ?_ (hy:=zAG);refine tK 1 ?_ (hy:=zAG);refine tW 2 ?_;refine tW 3 ?_;refine tK 6 ?_ (hy:=zAG);refine tW 7 ?_;refine tW 8 ?_;refine tO 4 fun K hK=>?_;(go_simp;refine(HA1.out _ zBA).mono ?_;rintro e w5 ⟨rfl,h5⟩;have o5:Only (fun k=>Mine gt k\/Mine gb k) W0 w5:=h5.only;try go_wp2_with fail);refine hK.out _ _ ?_ (fun hHeld=>?_);·(try dsimp only)<;>(exact HS.out _ o5)
     clear hK K;try simp only[Act.put,dL,dQ,dM,dN,dO,dP]
     refine tW 5 ?_;refine tO 9 fun K hK=>?_;(go_simp;refine(HA2.out w5 _ h5 zBA).mono ?_;rintro e w6 ⟨rfl,h6⟩;have o6:Only (fun k=>Mine gt k\/Mine gb k) W0 w6:=h6.only;try go_wp2_with fail);refine hK.out _ _ ?_ (fun hHeld=>?_);·(try dsimp only)<;>(exact HS.out _ o6)
     clear hK K;try simp only[Act.put,dL,dQ,dM,dN,dO,dP]
     refine tW 10 ?_;refine tO 11 fun K hK=>?_;go_simp;refine hK.out _ _ ?_ (fun hHeld=>?_);·(try dsimp only)<;>(exact HS.out _ (by repeat (first|exact Only.refl _ _|exact o6|apply Only.drew|apply Only.alloc|apply Only.drewN)))
     clear hK K;try simp only[Act.put,dL,dQ,dM,dN,dO,dP]
     refine tO 12 fun K hK=>?_;(go_simp;refine(lQ.out w6 _ h6 zAA (by first|exact rC _ _ _ (bW hz1b) (bW hz2b)|exact(rC w6 _ _ (bW hz1b) (bW hz2b)).aF zBA)).mono ?_;rintro e w9 ⟨rfl,h9⟩;try go_wp2_with fail);refine hK.out _ _ ?_ (fun hHeld=>?_);·exact zCN
     clear hK K;try simp only[Act.put,dL,dQ,dM,dN,dO,dP]
     refine aS zk ?_ _;have H9:=zh h9;clear h9 h5 h6 o5 o6 HA1 HA2 lQ hS0;exact zBv
    obtain rfl:m=j:=by omega
    exact zBu
  obtain rfl:n=i:=by omega
  obtain⟨S2,hS2⟩:=ze (S1.VT l);have hX:=wJ.out;have hres:RV S1 l n=S2:=by rw[<-hS2];unfold RV TB.VT;rw[qI (by rw[List.length_range,oD.out];exact qH _)]
  rw[hres]at hX;have bH:Hid (RX S2 l n=S2.VU l):=by show _=_;unfold RX TB.VU;rw[qI (yG oD.out)]
  have HQ2:=zh hS2;have xU:Hid (aN W0 gt gb c bt bb G Bs D (RX S2 l 0) wr):=hX;clear hX hres hS2 wJ hi ci;go_wp2_with fail;go_loopw [54] (fun vi wr=> ∃i:Nat,vi= .int .i64 i/\i<=n/\Hid (aN W0 gt gb c bt bb G Bs D (RX S2 l i) wr)) (fun v _=>n-(RowKit.intOf v).toNat);case atStart=>exact⟨0,rfl,qE _,xU⟩
  case round=>
   clear xU;obtain⟨i,rfl,hi,wJ⟩:=hrel;by_cases ci:i<n
   ·obtain⟨p,hp⟩:=zG l i zAd;have hpb:=Jk.out p (qT hp);obtain⟨bp,e1,hcp⟩:=jL (aB fP.out wJ.out.only zq.out) oD.out hp;first|subst e1| (simp only[qG,qO,and_true]at e1;subst e1)
    have HXp:=zh hp;clear hp;have aku:=zw (i+1);obtain⟨Si,UG⟩:=ze (RX S2 l i);rw[UG]at wJ;have Y1:Hid (RX S2 l (i+1)=Ll Si l p n):=by show _=_;unfold RX at UG⊢;rw[gK _ _ HXp.out,UG];unfold Ll;rw[qI (yG oD.out)]
    have xU:Hid (aN W0 gt gb c bt bb G Bs D (Ll Si l p 0) wr):=wJ.out;clear wJ UG;go_wp2_with fail;go_loopw [60] (fun vj wr=> ∃j:Nat,vj= .int .i64 j/\j<=n/\Hid (aN W0 gt gb c bt bb G Bs D (Ll Si l p j) wr)) (fun v _=>n-(RowKit.intOf v).toNat);case atStart=>exact⟨0,rfl,qE _,xU⟩
    case round=>
     clear xU hcp;obtain⟨j,rfl,hj,HRj⟩:=hrel;by_cases cj:j<n
     ·obtain⟨t,ht⟩:=zG l j zAl;have htb:=Jk.out t (qT ht);obtain⟨bt,e1,hct⟩:=jL (aB fP.out HRj.out.only zq.out) oD.out ht;first|subst e1| (simp only[qG,qO,and_true]at e1;subst e1)
      have HXt:=zh ht;clear ht;have ahq:=zw (j+1);obtain⟨Sj,hSj⟩:=ze (Ll Si l p j);rw[hSj]at HRj;have jr:Hid (Ll Si l p (j+1)=if p≠t then Sj.through l p t else Sj):=by show _=_;unfold Ll at hSj⊢;rw[gK _ _ HXt.out,hSj]
      clear hSj;by_cases hpt:p=t
      ·subst hpt;have hpp:((p:Int) != (p:Int))=false:=zAE;have HE:Hid (Ll Si l p (j+1)=Sj):=by show _=_;rw[jr.out,if_neg (fun h=>h rfl)]
       exact zBt
      have akv:((p:Int) != (t:Int))=true:=bne_iff_ne.2 zBB;have HE:Hid (Ll Si l p (j+1)=Sj.through l p t):=by show _=_;rw[jr.out,if_pos hpt]
      have HTh:Hid (Calls Tryz.prog 172 #[.agg #[.pointer (some ⟨c,0,none⟩)],.slice (some ⟨bp,0,none⟩) n cap,.int .i64 (p:Int),.int .i64 (t:Int)] wr fun e w'=>e= .returned (.tuple #[])/\aN W0 gt gb c bt bb G Bs D (Sj.through l p t) w'):=by have hr:=aB fP.out HRj.out.only zq.out;obtain⟨gt',gb',Hx,A1,A2,O9⟩:=HRj.out;refine(V7 Hx (l:=l) (by rw[oD.out];exact hr) (fun k hk hm=>?_) Jk.out (by rw[oD.out];exact hn) hpb htb).mono fun e w' ⟨he,h2⟩=>⟨he,aN.trans A1 A2 O9 h2⟩;have hlt:=dn fP.out hk;have h1:=zq.out k hk;unfold Mine at hm h1;rw[A1 k hlt,A2 k hlt]at hm;exact h1 hm
      have Jf:=zh (HS.out wr HRj.out.only);clear jr hpt;go_wp2_with (refine wpList_load_mid rfl 233 (.tmp 2) rfl bx 0 rfl _ _ Jf.out Tryz.underlying233 rfl zk ?_);refine HTh.out.mono ?_;rintro e w9 ⟨rfl,h9⟩;have H9:=zh h9;clear h9 HTh;exact zCY
     obtain rfl:n=j:=by omega
     exact zBu
   obtain rfl:n=i:=by omega
   have hX:=wJ.out;rw[bH.out,<-HQ2.out,<-HQ1.out]at hX;have H9:=zh (aN.after iM.out hX);clear hX wJ;exact zCz
end
end Go.Proofs.YtdmmebjjojimiaaGreatDoor
