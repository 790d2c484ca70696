/- Law 16's example, plain: what is built of it.; Law 16's example: the walk. -/
import Derived.Test.YtdmmebjjojimiaaGreatDoorG43
set_option maxRecDepth 100000
set_option maxHeartbeats 8000000
set_option linter.all false
namespace Go.Proofs.YtdmmebjjojimiaaGreatDoor
open Go.RowKit
def kQ:aC:=⟨[⟨bs [97],0,[⟨bs [49],false⟩],[],[],[],[],[]⟩],[]⟩
theorem afb:kQ.targets (bs [97])=[0]:=by decide
theorem pG:kQ.closure lC.names=[0]:=by have h0:kQ.Reach lC.names 0:=.root (s:=bs [97]) (by simp[dG.names,lC]) (by rw[afb];simp);unfold aC.closure;rw[show List.range kQ.packs.length=[0] from rfl];simp[h0]
theorem TF:kQ.names lC=[]:=by
 have h:kQ.sees lC=[]:=by unfold aC.sees;rw[pG];decide
 have h2:=kQ.JH lC;rw[h]at h2;exact yF (by simpa using h2)
def abZ:List bG:=[⟨1,-1,0,0⟩]
theorem TG:eF kQ lC [0]=abZ:=by rfl
def T16:Tab:=⟨[],100,0,false⟩
theorem Xb:(TB.kM (TB.choices (T16,rZ.B0) kQ [0]) kQ lC [0] [] abZ).2.of=[]:=by rfl
theorem MC:(TB.kM (TB.choices (T16,rZ.B0) kQ [0]) kQ lC [0] [] abZ).2.edges=[]:=by unfold dR.edges;rw[Xb];exact List.mergeSort_nil
def J3:List At:=[aG 0,iZ 0 0,eH 0,bM 0 0 1]
def uf:List (List Int):=[[-1,2],[-2,1],[-4,1],[4,-1],[-3,4],[-1,3]]
theorem MF:MB kQ lC 100=(⟨J3,100,0,false⟩,rZ.B0.adds uf):=by unfold MB;rw[pG,TF,TG];show TB.orders (TB.edges (TB.choices (T16,rZ.B0) kQ [0]) kQ lC [0] [] abZ) [0]=_;unfold TB.edges;dsimp only;rw[MC];kernel_rfl
theorem ok16:kQ.okB=true/\lC.okB kQ=true:=⟨by kernel_rfl,by kernel_rfl⟩
theorem ab1:fC kQ lC:=by
 refine⟨⟨by decide,by decide,fun p hp=>?_⟩,⟨by decide,fun p hp=>?_,by decide⟩,by decide⟩;·simp only[kQ,qY,List.not_mem_nil,or_false]at hp;rcases hp with rfl;exact⟨by decide,by decide,by decide,by decide,by decide,by decide,by decide⟩
 simp only[kQ,qY,List.not_mem_nil,or_false]at hp;rcases hp with rfl;exact⟨by decide,by decide,⟨by decide,fun v hv=>by cases hv⟩,by decide,by decide,by decide⟩
theorem Dp:∀(cs:List (List Int)) (B:jf),∀f∈(B.adds cs).cls,f∈B.cls\/ ∃c∈cs,fA.form c=some f
 | [],_,_,h=>.inl h
 |c::r,B,f,h=>by
  rcases Dp r (B.add c) f h with h| ⟨d,hd,h⟩
  ·unfold jf.add at h
   split at h
   ·exact .inl h
   ·split at h
    ·exact .inl h
    ·rename_i g hg
     split at h
     ·exact .inl h
     ·rcases qW.1 h with h|h
      ·exact .inl h
      ·rw[yJ]at h
       exact .inr ⟨c,qQ,by rw[hg,h]⟩
  ·exact .inr ⟨d,yE _ hd,h⟩
theorem aac{c f:List Int}(h:fA.form c=some f){z:Int}(hz:z∈c):z∈f:=by
 unfold fA.form at h;split at h;·cases h
 split at h;·cases h
 cases h;exact(fA.kZ c z).2 hz
theorem ab2:fA.holdsB (MB kQ lC 100).2.cls [true,true,true,true]=true:=by
 unfold fA.holdsB;refine List.all_eq_true.2 fun f hf=>?_;rw[MF]at hf;rcases Dp uf rZ.B0 f hf with h| ⟨c,hc,hfm⟩;·cases h
 have hm:∀z,z∈c->z∈f:=fun z hz=>aac hfm hz;have key:∀z:Int,0<z->z<=4->fA.Vo z [true,true,true,true]=true:=fun z h1 h2=>by
  obtain rfl|rfl|rfl|rfl:z=1\/z=2\/z=3\/z=4:=by omega
  all_goals decide
 simp only[uf,qY,List.not_mem_nil,or_false]at hc;rcases hc with rfl|rfl|rfl|rfl|rfl|rfl;·exact yU.2 ⟨2,hm 2 zBN,key 2 zBC zAC⟩
 ·exact yU.2 ⟨1,hm 1 zBN,key 1 zBC zAC⟩
 ·exact yU.2 ⟨1,hm 1 zBN,key 1 zBC zAC⟩
 ·exact yU.2 ⟨4,hm 4 zBN,key 4 zBC zAC⟩
 ·exact yU.2 ⟨4,hm 4 zBN,key 4 zBC zAC⟩
 exact yU.2 ⟨3,hm 3 zBN,key 3 zBC zAC⟩
theorem afc:Ba J3 (Md kQ lC) [true,true,true,true] (Md kQ lC).l.length=[(bs [97],bs [49])]:=by have e:(Md kQ lC).l=[0]:=pG;unfold Ba;rw[e];show((([0]:List Nat).take 1).filter fun p=>Gp (numOf J3 (aG p)) [true,true,true,true]).map (fun p=>((kQ.pack p).name,IW J3 (kQ.pack p).aP [true,true,true,true] p))=_;rfl
section
variable {w w':World} {B:Nat}
def FnC(_:Nat)(_:World)(cs:List Value)(y:FN):Prop:=cs=y.cells
theorem FnC.keep:Keeps FnC:=fun _ _ _ _ _ h _=>h
theorem Ql(hLd:Laid w):Calls Tryz.prog 31 #[] w fun e w'=>e= .returned (.bool true)/\O0 w w':=by
 have HLd:=zh hLd;clear hLd;go_enter Tryz.func31,Tryz.ntmps31;go_wp2_with fail;generalize hW:World.alloc _ _=W;have hsz:W.heap.size=w.heap.size+5:=by rw[<-hW];simp
 have b0:W.heap[w.heap.size]? =some (.cells #[.string (bs [49]),.bool false] 130):=by rw[<-hW];exact bC (bC (bC (bC (alloc_at rfl) _) _) _) _
 have b1:W.heap[w.heap.size+1]? =some (.cells #[.string (bs [97]),.int .i64 0,.slice (some ⟨w.heap.size,0,none⟩) 1 1,bK,bK,bK,bK,bK] 101):=by rw[<-hW];exact bC (bC (bC (alloc_at zAE) _) _) _
 have b2:W.heap[w.heap.size+1+1]? =some (.cells #[.slice (some ⟨w.heap.size+1,0,none⟩) 1 1,bK] 25):=by rw[<-hW];exact bC (bC (alloc_at zAE) _) _
 have b3:W.heap[w.heap.size+1+1+1]? =some (.cells #[.string (bs []),.string (bs [])] 128):=by rw[<-hW];exact bC (alloc_at zAE) _
 have b4:W.heap[w.heap.size+1+1+1+1]? =some (.cells #[.string (bs [97]),.slice (some ⟨w.heap.size+1+1+1,0,none⟩) 1 1,bK,.int .i64 0] 110):=by rw[<-hW];exact alloc_at zAE
 have hO:O0 w W:=by rw[<-hW];exact((((zr.alloc _).alloc _).alloc _).alloc _).alloc _
 have hsp:aJ 2 eX W.heap.size W (.slice (some ⟨w.heap.size+1+1+1,0,none⟩) 1 1) acX:=
  aJ.lit b3 zBB (qH _) rfl zBP zBC fun i hi=>by
   match i,hi with
   |0,_=>exact⟨[.string (bs []),.string (bs [])],rfl,rfl,rfl,X3 _ zBC,X3 _ zAC⟩
 have acZ:aJ 2 nK W.heap.size W (.slice (some ⟨w.heap.size,0,none⟩) 1 1) [⟨bs [49],false⟩]:=
  aJ.lit b0 zBB (qH _) rfl zBP zBC fun i hi=>by
   match i,hi with
   |0,_=>exact⟨[.string (bs [49]),.bool false],rfl,rfl,rfl,X3 _ zAC⟩
 have hrec:gG W.heap.size W [.slice (some ⟨w.heap.size+1,0,none⟩) 1 1,bK] kQ:=by
  refine⟨_,_,rfl,aJ.lit b1 zBB (qH _) rfl zBP zBC fun i hi=>?_,aJ.nilRow⟩
  match i,hi with
  |0,_=>exact⟨[.string (bs [97]),.int .i64 0,.slice (some ⟨w.heap.size,0,none⟩) 1 1,bK,bK,bK,bK,bK],rfl,rfl,_,_,_,_,_,_,rfl,X3 _ zAC,z64,acZ,aJ.nilRow,aJ.nilRow,aJ.nilRow,aJ.nilRow,aJ.nilRow⟩
 have aiD:lI W.heap.size W [.slice (some ⟨w.heap.size+1+1+1+1,0,none⟩) 1 1] lC:=by
  refine⟨_,rfl,aJ.lit b4 zBB (qH _) rfl zBP zBC fun i hi=>?_⟩
  match i,hi with
  |0,_=>exact⟨[.string (bs [97]),.slice (some ⟨w.heap.size+1+1+1,0,none⟩) 1 1,bK,.int .i64 0],rfl,rfl,[.string (bs [97]),.slice (some ⟨w.heap.size+1+1+1,0,none⟩) 1 1,bK],rfl,⟨_,_,rfl,X3 _ zAC,hsp,aJ.nilRow⟩,z64⟩
 have aiE:Hid (Laid W):=HLd.out.only hO;have HO:=zh hO;clear hW b0 b1 b2 b3 b4 hsp acZ hO;refine(abX hrec aiD (qH _) (fun _=>ab1) zBP zBC (fun p hp=>?_) aiE.out 100 ⟨by decide,by decide⟩ 100 zAC _ rfl).mono ?_;·simp only[kQ,qY,List.not_mem_nil,or_false]at hp;rw[hp];exact⟨by decide,by decide⟩
 clear hrec aiD hsz aiE HLd;rintro e w1 ⟨O1,h1⟩;have hnf:¬((⟨J3,100,0,false⟩:Tab).full=true\/(rZ.B0.adds uf).full=true):=by
  rintro(h|h);·cases h
  rw[(Ej uf rZ.B0).2 zAC]at h;cases h
 have hfew:(rZ.B0.adds uf).cls.length<=262144:=by obtain⟨⟨ds,h,h2⟩,-⟩:=Ej uf rZ.B0;rw[h];have h3:uf.length=6:=rfl;rw[qK];show 0+ds.length<=262144;omega
 have hsh:∀c∈(rZ.B0.adds uf).cls,c.length<=1099511627:=fun c hc=>by
  rcases Dp uf rZ.B0 c hc with h| ⟨d,hd,hfm⟩;·cases h
  have h1:=Nw hfm;have h2:d.length<=2:=by simp only[uf,qY,List.not_mem_nil,or_false]at hd;rcases hd with rfl|rfl|rfl|rfl|rfl|rfl<;>exact qH _
  omega
 have hh:=ab2;rw[MF]at hh;obtain⟨cls,hcls⟩:=ze ((rZ.B0.adds uf).cls);rw[if_pos ok16,MF,if_neg hnf]at h1;dsimp only at h1 hh;rw[hcls]at h1 hh hfew hsh;obtain⟨f,c,bt,bb,gt,gb,G,Bs,cv,rfl,hF⟩:=h1;have HF:=zh hF;have bg:=zh (HO.out.same O1);have HH:=zh hh;have HFs:=zh (And.intro hfew hsh);have HA:Hid (Calls Tryz.prog 33 #[.pointer (some ⟨f,0,none⟩)] w1 fun e w'=>e= .returned (.int .i64 4)/\w'=w1):=Y6 hF 4 rfl;clear hF O1 HO hnf hh hcls hfew hsh;go_wp2_with fail;refine HA.out.mono ?_;rintro e w2 ⟨rfl,e2⟩;have e2':=e2.symm;subst e2';go_wp2_with (at_make;go_must (refine wpM (bytes:=1) (z:=.bool false) Tryz.underlying58 zk rfl rfl _ _ rfl 4 rfl rfl rfl rfl zBB zBC ?_));intro w3 t1 t2 t3;obtain⟨mb,hmb⟩:=ze w1.heap.size;rw[hmb]at t1⊢;have HMb:Hid (w1.heap.size<=mb):=yG hmb;have HB0:Hid (Zk w3 mb 4 [false,false,false,false]):=⟨rfl,t1⟩;have uP:Hid (O0 w1 w3):=t2;clear t1 t2 t3 hmb HA;go_wp2_with fail;go_loopw [30] (fun vi wr=>Hid (O0 w1 wr)/\∃i:Nat,vi= .int .i64 i/\i<=4/\∃m:List Bool,Hid (Zk wr mb 4 m)/\Hid (∀j,j<i->m[j]? =some true)) (fun v _=>4-(RowKit.intOf v).toNat);case atStart=>exact⟨uP,0,rfl,qE _,[false,false,false,false],HB0,fun j hj=>by omega⟩
 case round=>
  obtain⟨jq,rfl⟩:=zB wr;clear HB0 uP;obtain⟨KR,i,rfl,hi,m,HBi,HT⟩:=hrel;by_cases ci:i<4
  ·have jg:=zw (i+1);have gin:=HBi.out.cell ci;have hfr:=HBi.out.2.frozenAt i;have HB2:Hid (Zk (jq.setCell ⟨mb,i,none⟩ (.bool true)) mb 4 (m.set i true)):=HBi.out.set i;have HT2:Hid (∀j,j<i+1->(m.set i true)[j]? =some true):=fun j hj=>by
    have hl:=HBi.out.1;rcases yK j i with h|h;·rw[List.getElem?_set_ne zBB];exact HT.out j h
    obtain rfl:j=i:=by omega
    rw[List.getElem?_set_self zBB]
   have jG:Hid (O0 w1 (jq.setCell ⟨mb,i,none⟩ (.bool true))):=KR.out.setCell (p:=⟨mb,i,none⟩) (.inr HMb.out) _;go_wp2_with fail;go_roundw;case rel=>exact⟨jG,i+1,by first|rfl|go_num,by omega,_,HB2,HT2⟩
   case measure=>simp[RowKit.intOf]<;>omega
  obtain rfl:4=i:=by omega
  have hm:m=[true,true,true,true]:=by
   refine List.ext_getElem? fun j=>?_;have hl:=HBi.out.1;rcases yK j 4 with h|h
   ·rw[HT.out j h];match j,h with
    |0,_=>rfl
    |1,_=>rfl
    |2,_=>rfl
    |3,_=>rfl
   rw[List.getElem?_eq_none zBB,List.getElem?_eq_none (by simpa using h)]
  subst hm;have HBo:Hid (∀W,O0 jq W->Bools W (.slice (some ⟨mb,0,none⟩) 4 4) [true,true,true,true]):=fun W hW=>Bools.dF (HBi.out.aF hW).2;have HFw:Hid (∀W,O0 jq W->Xk W gt gb f c bt bb G Bs (Md kQ lC) (⟨J3,100,0,false⟩,rZ.B0.adds uf) cv cls):=fun W hW=>HF.out.aF (KR.out.same hW);have hsm:∀y∈kQ.packs,y.aP.length<=1000000/\y.vars.length<=1000000/\∀u∈y.vars,u.values.length<=1000000:=fun y hy=>by simp only[kQ,qY,List.not_mem_nil,or_false]at hy;subst hy;exact⟨by decide,by decide,fun u hu=>by cases hu⟩
  have el:(Md kQ lC).l=[0]:=pG;have HRd:Hid (Calls Tryz.prog 36 #[.pointer (some ⟨f,0,none⟩),.slice (some ⟨mb,0,none⟩) 4 4] jq fun e w'=> ∃(a1:Option Addr) (cp:Nat) (y:FN),e= .returned (.agg #[.slice a1 1 cp])/\w'.ownsRow 0 83 4 (.slice a1 1 cp) 1 (iW [y])/\y.name=bs [97]/\y.ver=bs [49]/\O0 jq w'):=
   (aep (HFw.out jq zr) (HBo.out jq zr) (by show(1:Nat)<=1000000;decide) hsm (fun t ht=>by rw[el,yJ]at ht;subst ht;show(0:Nat)<1;decide) (by rw[el];decide)).mono fun e w' ⟨ao,n,cp,ys,he,ho,hl,hp,_,hO⟩=>by
    rw[afc]at hp
    have h1:ys.length=1:=by simpa using hp.length_eq
    obtain⟨y,rfl⟩:=List.length_eq_one_iff.1 h1
    have h2:y.nv=(bs [97],bs [49]):=by simpa using hp
    rw[<-hl]at he ho
    exact⟨ao,cp,y,he,ho,congrArg Prod.fst h2,congrArg Prod.snd h2,hO⟩
  have HCl:Hid (∀W,O0 jq W->Calls Tryz.prog 35 #[.pointer (some ⟨f,0,none⟩)] W fun e w'=> ∃ac cc,e= .returned (.slice ac cls.length cc)/\sH w' (.slice ac cls.length cc) cls/\O0 W w'):=fun W hW=>(SG (HFw.out W hW) HFs.out.1 HFs.out.2).mono fun e w' ⟨v,us,he,hw,ho⟩=>by have hi:=hw.TN;obtain⟨ac,cc,rfl,-,-⟩:=hi.shape;exact⟨ac,cc,he,hi,ho⟩
  have HHd:Hid (∀W ac cc,O0 jq W->sH W (.slice ac cls.length cc) cls->Calls Tryz.prog 27 #[.slice ac cls.length cc,.slice (some ⟨mb,0,none⟩) 4 4] W fun e w'=>e= .returned (.bool true)/\O0 W w'):=fun W ac cc hW hI=>(Vp hI (HBo.out W hW) true HH.out).mono fun e w' ⟨he,ho⟩=>⟨he,ho▸Only.refl _ _⟩;clear hsm el HF HBi HT HFs HH;go_wp2_with fail;refine HRd.out.mono ?_;rintro e w4 ⟨a1,cp,y,rfl,hy,y1,y2,O4⟩;have FQ:=zh O4;have hyr:aJ 4 FnC w4.heap.size w4 (.slice a1 1 cp) [y]:=aJ.dF hy fun i hi=>⟨[y][i].cells,rfl,fun j u hu=>CY [y] i [y][i] (qA hi) j u hu,rfl⟩;obtain⟨b,off,rfl,-,-⟩:=hyr.at (Nat.zero_lt_one);have HYc:Hid (∀W,O0 w4 W->W.cell? ⟨b,off,none⟩=some (.string (bs [97]))/\W.cell? ⟨b,off+1,none⟩=some (.string (bs [49]))):=fun W hW=>by obtain⟨cs,-,hr,hC⟩:=(hyr.keep FnC.keep (Kp.fU hW)).get (show[y][0]? =some y from rfl);have hC':cs=y.cells:=hC;subst hC';have h0:=hr 0 _ rfl;have h1:=hr 1 _ rfl;rw[y1]at h0;rw[y2]at h1;exact⟨h0,h1⟩
  have H4z:Hid ((w4.alloc (.cells #[bK] 31)).heap[w4.heap.size]? =some (.cells #[bK] 31)):=qL w4 _;obtain⟨W5,hW5⟩:=ze ((w4.alloc (.cells #[bK] 31)).setRow w4.heap.size #[.slice (some ⟨b,off,none⟩) 1 cp]);have HB5:Hid (W5.heap[w4.heap.size]? =some (.cells #[.slice (some ⟨b,off,none⟩) 1 cp] 31 (0,0))):=by rw[<-hW5];exact setRow_heap _ _ _ _ _ _ H4z.out
  have Aq:Hid (O0 w4 W5):=by rw[<-hW5];exact(zr.alloc _).trans (aU _ _ _) fun k hk=>.inr (yG hk.symm)
  clear O4 hy hyr y1 y2 HRd;go_wp2_with (refine wpList_store_row rfl 31 (.tmp 6) (.tmp 39) rfl w4.heap.size #[.slice (some ⟨b,off,none⟩) 1 cp] rfl rfl 31 #[bK] H4z.out zk rfl zk ?_);clear hW5 H4z;refine(HCl.out W5 (FQ.out.same Aq.out)).mono ?_;rintro e w6 ⟨ac,cc,rfl,hI,O6⟩;have amb:=zh O6;have HO6:=zh (Aq.out.same O6);have HHw:=zh (HHd.out w6 ac cc (FQ.out.same HO6.out) hI);clear O6 hI HCl HHd;go_wp2_with fail;refine HHw.out.mono ?_;rintro e w7 ⟨rfl,O7⟩;have uU:=zh (HO6.out.same O7);have b7:=ak HB5.out (amb.out.same O7) (fun f=>f);have q7:w7.cell? ⟨w4.heap.size,0,none⟩=some (.slice (some ⟨b,off,none⟩) 1 cp):=by rw[aj b7];rfl
  obtain⟨s0,s1⟩:=HYc.out w7 uU.out;have e97:(ByteArray.toList (bs [97])==[97])=true:=zA0;have e49:(ByteArray.toList (bs [49])==[49])=true:=zA0;clear O7 b7 HHw;go_wp2_with fail;go_ret;exact⟨rfl,bg.out.same (KR.out.same (FQ.out.same uU.out))⟩
end
section
variable {w w':World} {B:Nat}
theorem Ed{cs:List Value}{x:At}(h:Yu B w cs x){ao:Option Addr}{n cap:Nat}{am:Option Addr}{nm cm:Nat}(hLd:Laid w):Calls Tryz.prog 6 #[.agg cs.toArray,.slice ao n cap,.slice am nm cm] w fun e w'=>e= .returned (.bool true)/\O0 w w':=by
 obtain rfl:=h;obtain⟨W0,hW0⟩:=ze (w.alloc (.cells #[.int .u8 x.1,.int .i64 x.2.1,.int .i64 x.2.2.1,.int .i64 x.2.2.2] 89));have HO:Hid (O0 w W0):=zAM;have HK:Hid (∀W,O0 W0 W->W.cell? ⟨w.heap.size,0,none⟩=some (.int .u8 x.1)/\W.cell? ⟨w.heap.size,1,none⟩=some (.int .i64 x.2.1)/\W.cell? ⟨w.heap.size,2,none⟩=some (.int .i64 x.2.2.1)/\W.cell? ⟨w.heap.size,3,none⟩=some (.int .i64 x.2.2.2)):=fun W ho=>by
  have b0:W0.heap[w.heap.size]? =some (.cells #[.int .u8 x.1,.int .i64 x.2.1,.int .i64 x.2.2.1,.int .i64 x.2.2.2] 89):=by rw[<-hW0];exact qL w _
  have c0:=ak b0 ho (fun f=>f);exact⟨by rw[aj c0];rfl,by rw[aj c0];rfl,by rw[aj c0];rfl,by rw[aj c0];rfl⟩
 have HFx:=zh (Ql (hLd.only HO.out));have hfg:=fun(u:Value) (W:World)=>(show(Instr.field 31 (.agg #[u]) 0).run Tryz.prog W= .ok u W from by
  unfold Instr.field
  rw[Sem.run_bind,run_underlying Tryz.underlying31]
  simp[asAgg,part,isAgg])
 have HNu:Hid (∀W,Calls Tryz.prog 41 #[.pointer none,.agg #[.int .u8 x.1,.int .i64 x.2.1,.int .i64 x.2.2.1,.int .i64 x.2.2.2]] W fun e w'=>e= .returned (.int .i64 0)/\O0 W w'):=fun W=>Pn x;clear hLd;go_enter Tryz.func6,Tryz.ntmps6;go_wp2_with fail;refine HFx.out.mono ?_;rintro e w1 ⟨rfl,O1⟩;have bg:=zh O1;clear O1 HFx;go_wp2_with fail;refine RY.mono ?_;rintro e w2 ⟨rfl,e2⟩;have e2':=e2.symm;subst e2';go_wp2_with fail;refine Lm.mono ?_;rintro e w3 ⟨rfl,e3⟩;have e3':=e3.symm;subst e3';go_wp2_with fail;refine Gm.mono ?_;rintro e w4 ⟨rfl,e4⟩;have e4':=e4.symm;subst e4';go_wp2_with fail;refine RZ.mono ?_;rintro e w5 ⟨rfl,e5⟩;have e5':=e5.symm;subst e5';go_wp2_with fail;refine Zj.mono ?_;rintro e w6 ⟨rfl,O6⟩;have HO6:=zh (bg.out.same O6);have hf6:=hfg bK;clear O6;obtain⟨k0,k1,k2,k3⟩:=HK.out w6 HO6.out;go_wp2_with fail;refine(HNu.out w6).mono ?_;rintro e w7 ⟨rfl,O7⟩;have uU:=zh (HO6.out.same O7);clear O7 k0 k1 k2 k3;go_wp2_with fail;refine og.mono ?_;rintro e w8 ⟨rfl,e8⟩;have e8':=e8.symm;subst e8';go_wp2_with fail;go_ret;exact⟨rfl,HO.out.same uU.out⟩
end
end Go.Proofs.YtdmmebjjojimiaaGreatDoor
namespace Go.Proofs.YtdmmebjjojimiaaGreatDoor
open Go.RowKit Go.Deep Go.ChangeShapes Go.WideShapes Go.ChangeAt
theorem Qn:Tryz.prog.cellsOf 3=1:=by kernel_rfl
end Go.Proofs.YtdmmebjjojimiaaGreatDoor
namespace Go.Proofs.YtdmmebjjojimiaaGreatDoor
open Go.RowKit
open Go.Deep
end Go.Proofs.YtdmmebjjojimiaaGreatDoor
namespace Go.Proofs.YtdmmebjjojimiaaGreatDoor
open Go.RowKit Go.Deep Go.ChangeShapes Go.WideShapes Go.ChangeAt
section
variable {H:Type} {enc:TypeId×Value->H} {w:World} {base:Nat} {spare:Nat->Bool} {held:Bool} {x:DataW H×List MemPlace}
def Reads{α:Type}(enc:TypeId×Value->H)(w:World)(base:Nat)(spare:Nat->Bool)(held:Bool)(t:TypeId)(C:Nat->World->List Value->α->Prop):Prop:=
 ∀{fuel:Nat} {cs:List Value} {x:DataW H×List MemPlace},DataW.trod enc Tryz.prog w base spare held fuel t cs=some x->∃d,C w.heap.size w cs d
end
section
variable {H:Type} {enc:TypeId×Value->H} {w:World} {base:Nat} {spare:Nat->Bool} {held:Bool}
theorem MG:Tryz.prog.cellsOf 89=4:=by kernel_rfl
theorem TI:Tryz.prog.cellsOf 5=1:=by kernel_rfl
theorem TJ:Reads (H:=H) enc w base spare held 89 Yu:=fun{fuel cs x} ht=>by
 obtain⟨xs,m,_,hx,hlen,hxl,hf⟩:=DataW.trod_struct Tryz.underlying89 ht
 rw[MG]at hlen
 match cs,hlen with
 | [c0,c1,c2,c3],_=>
  match xs,hxl with
  | [x0,x1,x2,x3],_=>
   have f0:=hf 0 _ rfl
   have f1:=hf 1 _ rfl
   have f2:=hf 2 _ rfl
   have f3:=hf 3 _ rfl
   obtain⟨k0,e0,_,_⟩:=DataW.trod_int Tryz.underlying5 f0
   obtain⟨k1,e1,_,_⟩:=DataW.trod_int Tryz.underlying3 f1
   obtain⟨k2,e2,_,_⟩:=DataW.trod_int Tryz.underlying3 f2
   obtain⟨k3,e3,_,_⟩:=DataW.trod_int Tryz.underlying3 f3
   simp[TI,Qn]at e0 e1 e2 e3
   subst e0 e1 e2 e3
   exact⟨(k0,k1,k2,k3),rfl⟩
end
end Go.Proofs.YtdmmebjjojimiaaGreatDoor
