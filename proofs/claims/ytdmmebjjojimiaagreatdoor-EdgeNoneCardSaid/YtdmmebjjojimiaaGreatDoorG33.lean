/- Package edge: back. Printed by gen_edwb.py. -/
import Derived.Test.YtdmmebjjojimiaaGreatDoorG32
set_option maxRecDepth 100000
set_option maxHeartbeats 8000000
set_option linter.all false
namespace Go.Proofs
theorem zBi{p:Prop}(h:p:=by unfold Mine;rw[hk];simp):p:=h
theorem zB8{p:Prop}(h:p:=by intro u hu;obtain⟨q,-,rfl⟩:=yD.1 hu;rfl):p:=h
theorem zC5{p:Prop}(h:p:=by
 refine Ints.fH ?_ fun z hz=>?_
 ·have e1:1+nx=(-n::xs).length:=by rw[qN,RZ.out];omega
  rw[e1]at hown
  simpa using hown
 ·rcases qY.1 hz with rfl|hz
  ·exact iL hnb
  ·exact HI.out.range z hz):p:=h
end Go.Proofs
namespace Go.Proofs.YtdmmebjjojimiaaGreatDoor
open Go.RowKit
def pO(E:ES)(es:List (Nat×Nat)):BS:=es.foldl (fun B e=>BS.edge B E.2 e) (E.1,[])
theorem X7(E:ES)(es:List (Nat×Nat))(e:Nat×Nat):pO E (es++[e])=BS.edge (pO E es) E.2 e:=by simp[pO]
theorem Zf(P:iM):∀(es:List (Nat×Nat)) (B:BS) {N:Nat},(B.2.length<=N/\∀k,(fA B.2 k).length<=N)->((es.foldl (fun B e=>BS.edge B P e) B).2.length<=N+es.length/\∀k,(fA (es.foldl (fun B e=>BS.edge B P e) B).2 k).length<=N+es.length)
 | [],_,_,h=>h
 |e::r,B,N,h=>by
  have:=Zf P r (BS.edge B P e) (N:=N+1) ⟨Dq h.1 _ _,Dp h.2 _ _⟩
  rw[qN,show N+(r.length+1)=N+1+r.length by omega]
  exact this
theorem VI(E:ES)(es:List (Nat×Nat)):(pO E es).2.length<=es.length/\∀k,(fA (pO E es).2 k).length<=es.length:=by have h:=Zf E.2 es (E.1,[]) (N:=0) ⟨qH _,fun k=>by simp[fA]⟩;rw[Nat.zero_add]at h;exact h
theorem Jp{κ:Type}[DecidableEq κ]{m:List (κ×List Int)}{x:κ}{z:Int}(h:z∈fA m x):∃e∈m,z∈e.2:=by
 unfold fA at h;cases hf:m.find? fun e=>decide (e.1=x)with
 |none=>rw[hf]at h;cases h
 |some e=>rw[hf]at h;exact⟨e,List.mem_of_find?_eq_some hf,h⟩
def Ad(S:TB)(D:Dn)(P:iM)(i:Nat):TB:=(List.range i).foldl (fun S i=>S.name D.x P i (D.names.getD i ByteArray.empty)) S
theorem X8(S:TB)(D:Dn)(P:iM)(i:Nat):Ad S D P (i+1)=(Ad S D P i).name D.x P i (D.names.getD i ByteArray.empty):=by simp[Ad,List.range_succ]
def EM(S:TB)(P:iM)(I:List (Nat×List Int))(l:List Nat):TB:=l.foldl (fun S t=>S.place P I t) S
theorem X9(S:TB)(P:iM)(I:List (Nat×List Int))(l:List Nat)(t:Nat):EM S P I (l++[t])=(EM S P I l).place P I t:=by simp[EM]
def xI(S:TB)(n a:Int)(l:List Int):TB:=l.foldl (fun S b=>S.dD [-n,-a,-b]) S
theorem VJ(S:TB)(n a:Int)(l:List Int)(b:Int):xI S n a (l++[b])=(xI S n a l).dD [-n,-a,-b]:=by simp[xI]
def yX(S:TB)(n:Int)(row:List Int)(k:Nat):TB:=(List.range k).foldl (fun S k=>xI S n (row.getD k 0) (row.drop (k+1))) S
theorem SK(S:TB)(n:Int)(row:List Int)(k:Nat):yX S n row (k+1)=xI (yX S n row k) n (row.getD k 0) (row.drop (k+1)):=by simp[yX,List.range_succ]
def ES.back(E:ES)(D:Dn):TB:=EM (Ad (pO E E.2.edges).1 D E.2 D.names.length) E.2 (pO E E.2.edges).2 D.l
theorem aaK(l:List (Nat×Nat)){i j:Nat}(hi:i<l.length)(hj:j<2):(mQ l)[i*2+j]? =[Value.int .i64 ((l[i]'hi).1:Int),Value.int .i64 ((l[i]'hi).2:Int)][j]? :=by
 induction l generalizing i with
 |nil=>simp at hi
 |cons a r ih=>
  unfold mQ at*;rw[List.flatMap_cons];cases i with
  |zero=>rw[Nat.zero_mul,Nat.zero_add,yM zBb];rfl
  |succ i=>rw[yN zAd];have:=ih (i:=i) zBE;simp only[qN,List.length_nil,List.getElem_cons_succ]at this⊢;rw[show(i+1)*2+j-(0+1+1)=i*2+j by omega];exact this
theorem adZ{w:World}{b n c:Nat}{l:List (Nat×Nat)}(h:w.ownsRow 0 226 2 (.slice (some ⟨b,0,none⟩) n c) n (mQ l)){i:Nat}{e:Nat×Nat}(he:l[i]? =some e):w.rangeAt b (i*2) [.int .i64 (e.1:Int),.int .i64 (e.2:Int)]:=by intro j u hu;obtain⟨hi,rfl⟩:=qJ.1 he;have hj:=(qJ.1 hu).1;have:=h.cells (g:=b) rfl (i*2+j) u (by rw[aaK l hi hj];exact hu);simpa[Go.WideShapes.add_plain]using this
section
variable {w w':World} {gt gb gp:Tag} {X:NV} {Bs:Nat} {D:Dn} {E:ES} {m3:Nat} {I:List (Nat×List Int)}
theorem agP(H:uV w gt gb gp X Bs D E m3 I){W:World}(o:O0 w W){v:Value}{xs:List Int}(hI:Ints W v xs)(hb:xs.length<=1000000):
  Calls Tryz.prog 163 #[.pointer (some ⟨X.c,0,none⟩),v] W fun e w'=>e= .returned (.tuple #[])/\Only (fun k=>Mine gt k\/Mine gb k) w w'/\eX w gt gb gp X Bs D (E.1.dD xs,E.2) m3 I w':=
 (Y5 (H.aN o).1.gx hI hb).mono fun e w' ⟨he,h⟩=>⟨he,by
  have h2:=fE.after o h
  obtain⟨_,_,_,_,_,O⟩:=h2
  exact O,eX.after o ((H.aN o).step h)⟩
attribute [local irreducible] wpQuiet in
theorem aiV(H:jW w gt gb gp X Bs D E)(hR:EdR D)(hP:vK E.2 900000)(hof:E.2.of.length<=60000)(hkb:∀e∈E.2.edges,e.1<=1000/\e.2<=1000)(hll:D.l.length<=1000):Calls Tryz.prog 81 #[.pointer (some ⟨X.px,0,none⟩)] w fun e w'=>e= .returned (.tuple #[])/\bV w gt gb gp X Bs D (E.back D,E.2) w':=by
 have HR:=zh hR;have D7:=zh hP;have HKb:=zh hkb;obtain⟨E9,Ht⟩:=ze (E.back D);rw[Ht];have HE9:=zh Ht;obtain⟨w0,hw0⟩:=ze (w.alloc (.map #[] 0));have hB0:eX w gt gb gp X Bs D E w.heap.size [] w0:=by rw[<-hw0];exact uV.made H
 obtain⟨m3,hm3⟩:=ze w.heap.size;rw[hm3]at hB0;obtain⟨gt0,gb0,gp0,H0',A0,B0,C0,O0⟩:=hB0;have H0:=zh H0';have agQ:Hid (∀E2 I2 W,eX w0 gt0 gb0 gp0 X Bs D E2 m3 I2 W->bV w gt gb gp X Bs D E2 W):=fun E2 I2 W h=>(eX.trans A0 B0 C0 O0 h).ed;obtain⟨ne,hne⟩:=ze E.2.edges.length;have awq:ne<=60000:=by rw[<-hne];unfold iM.edges;rw[List.length_mergeSort,qM];exact hof
 have HEd:=zh (afS H0'.1 zBk);have HNe:=zh hne;rw[hne]at HEd;clear H H0' A0 B0 C0 O0 hR hP hkb Ht hne;have hmk:(Instr.makeMap 151 none).run Tryz.prog w= .ok (.map (some m3)) w0:=by rw[<-hm3,<-hw0];exact run_makeMap _ _
 clear hm3;go_enter Tryz.func81,Tryz.ntmps81;go_wp2_with fail;refine HEd.out.mono ?_;rintro e w1 ⟨ve,rfl,hown,hnew,O1⟩;have zO:=zh hown;have Wn:Hid (∀k,ve.ownBlock=some k->¬dF gt0 gb0 gp0 k):=fun k hk=>H0.out.1.nN (hnew k hk);have H1:=zh (H0.out.aN O1);have Fz:Hid (∀E2 I2 W,eX w1 gt0 gb0 gp0 X Bs D E2 m3 I2 W->bV w gt gb gp X Bs D E2 W):=fun E2 I2 W h=>agQ.out E2 I2 W (eX.after O1 h);obtain⟨ae,ce,rfl,-,-⟩:=aC hown;have HL0:Hid (eX w1 gt0 gb0 gp0 X Bs D ((pO E (E.2.edges.take 0)).1,E.2) m3 (pO E (E.2.edges.take 0)).2 w1):=eX.refl H1.out;clear hown hnew O1 HEd H0 agQ hw0 hmk;go_wp2_with fail;go_loopw [22] (fun vi wr=> ∃i:Nat,vi= .int .i64 i/\i<=ne/\Hid (eX w1 gt0 gb0 gp0 X Bs D ((pO E (E.2.edges.take i)).1,E.2) m3 (pO E (E.2.edges.take i)).2 wr)) (fun v _=>ne-(RowKit.intOf v).toNat);case atStart=>exact⟨0,rfl,qE _,HL0⟩
 case round=>
  clear HL0;obtain⟨i,rfl,hi,FX⟩:=hrel;by_cases ci:i<ne
  ·obtain⟨⟨p,t⟩,hy⟩:∃y,E.2.edges[i]? =some y:=⟨_,qA (by rw[HNe.out];exact ci)⟩;obtain⟨S,hS⟩:=ze ((pO E (E.2.edges.take i)).1);obtain⟨I,hI⟩:=ze ((pO E (E.2.edges.take i)).2);have hIl:I.length<=i/\∀k,(fA I k).length<=i:=by have h:=VI E (E.2.edges.take i);rw[hI,List.length_take]at h;exact⟨by omega,fun k=>by have:=h.2 k;omega⟩
   have hpt:=HKb.out (p,t) (qT hy);rw[hS,hI]at FX;obtain⟨vM,vN,uU,H4',A4,B4,C4,O4⟩:=FX.out;have hrow:=aI zO.out O4 Wn.out;obtain⟨be,ce',e1,-,-⟩:=fJ hrow zBk;simp only[qU]at e1;obtain⟨rfl,-,rfl⟩:=e1;have V7:=zh (adZ hrow hy);have jh:=zw (i+1);have uh:Hid (∀S' I',BS.edge (S,I) E.2 (p,t)=(S',I')->pO E (E.2.edges.take (i+1))=(S',I')):=fun S' I' h=>by rw[List.take_add_one,hy];simp only[Option.toList_some];rw[X7,<-h,<-hS,<-hI]
   obtain⟨wB,hwB⟩:=zB (wr.alloc (.cells #[.int .i64 (p:Int),.int .i64 (t:Int)] 226));have oB:O0 wr wB:=zBA;have hb0:wB.heap[wr.heap.size]? =some (.cells #[.int .i64 (p:Int),.int .i64 (t:Int)] 226 (0,0)):=zBJ;have hnm:=H4'.1.nN (qH wr.heap.size);have HB:=zh (H4'.aN oB);obtain⟨bx,hbx⟩:=ze wr.heap.size;rw[hbx]at hb0 hnm;have HS:Hid (∀W,Only (dF vM vN uU) wB W->W.cell? ⟨X.px,0,none⟩=some (.pointer (some ⟨X.c,0,none⟩))/\W.cell? ⟨X.px,2,none⟩=some (.map (some X.m1))/\W.cell? ⟨bx,0,none⟩=some (.int .i64 (p:Int))/\W.cell? ⟨bx,1,none⟩=some (.int .i64 (t:Int))):=fun W o=>by have c0:=aF hb0 o hnm;exact⟨dh HB.out.1.cells.1 o HB.out.1.tp,dh HB.out.1.cells.2.2.1 o HB.out.1.tp,by rw[ah c0];rfl,by rw[ah c0];rfl⟩
   obtain⟨S1,hS1⟩:=ze ((S.num (lC p t)).1);obtain⟨n,hn⟩:=ze ((S.num (lC p t)).2);obtain⟨S2,hS2⟩:=ze ((S1.num (aJ p)).1);obtain⟨a,ha⟩:=ze ((S1.num (aJ p)).2);obtain⟨S3,hS3⟩:=ze (S2.dD [-n,a]);obtain⟨S4,hS4⟩:=ze ((S3.num (aJ t)).1);obtain⟨d,hd⟩:=ze ((S3.num (aJ t)).2);obtain⟨S5,hS5⟩:=ze (S4.dD [-n,d]);obtain⟨xs,hxs⟩:=ze (fA E.2.of (p,t));have HBk:Hid (pO E (E.2.edges.take (i+1))=(S5.dD (-n::xs),gQ I t n)):=by show _=_;refine uh.out _ _ ?_;unfold BS.edge;dsimp only;rw[hS1,hn,hS2,ha,hS3,hS4,hd,hS5,hxs]
   have hnb:0<=n/\n<=65536:=by rw[<-hn];exact TB.xG FX.out.XR _
   have vT:Hid (∀W,O0 wB W->Calls Tryz.prog 75 #[.pointer (some ⟨X.c,0,none⟩),jS (lC p t)] W fun e w'=>e= .returned (.int .i64 n)/\eX wB vM vN uU X Bs D (S1,E.2) m3 I w'):=fun W o=>by rw[<-hS1];exact eX.call (eX.refl HB.out) o fun gt' gb' nM Hx _=>adU Hx (agC ⟨by omega,by omega⟩ ⟨by omega,by omega⟩) n hn
   have HNp:Hid (∀w5,eX wB vM vN uU X Bs D (S1,E.2) m3 I w5->(0<=a/\a<=65536)/\∀W,O0 w5 W->Calls Tryz.prog 164 #[.pointer (some ⟨X.c,0,none⟩),.int .i64 p] W fun e w'=>e= .returned (.int .i64 a)/\eX wB vM vN uU X Bs D (S2,E.2) m3 I w'):=fun w5 h5=>⟨by rw[<-ha];exact TB.xG h5.XR _,fun W o=>by
    rw[<-hS2]
    exact eX.call h5 o fun gt' gb' nM Hx _=>X0 Hx zBk a ha⟩
   have HAp:Hid (∀w5,eX wB vM vN uU X Bs D (S2,E.2) m3 I w5->∀W,O0 w5 W->Ints W (.slice (some ⟨w5.heap.size,0,none⟩) 2 2) [-n,a]->Calls Tryz.prog 163 #[.pointer (some ⟨X.c,0,none⟩),.slice (some ⟨w5.heap.size,0,none⟩) 2 2] W fun e w'=>e= .returned (.tuple #[])/\eX wB vM vN uU X Bs D (S3,E.2) m3 I w'):=fun w5 h5 W o hI=>by rw[<-hS3];exact eX.call h5 o fun gt' gb' nM Hx _=>Zb Hx hI zAM
   have Ja:Hid (∀w5,eX wB vM vN uU X Bs D (S3,E.2) m3 I w5->(0<=d/\d<=65536)/\∀W,O0 w5 W->Calls Tryz.prog 164 #[.pointer (some ⟨X.c,0,none⟩),.int .i64 t] W fun e w'=>e= .returned (.int .i64 d)/\eX wB vM vN uU X Bs D (S4,E.2) m3 I w'):=fun w5 h5=>⟨by rw[<-hd];exact TB.xG h5.XR _,fun W o=>by
    rw[<-hS4]
    exact eX.call h5 o fun gt' gb' nM Hx _=>X0 Hx zBk d hd⟩
   have HAt:Hid (∀w5,eX wB vM vN uU X Bs D (S4,E.2) m3 I w5->∀W,O0 w5 W->Ints W (.slice (some ⟨w5.heap.size,0,none⟩) 2 2) [-n,d]->Calls Tryz.prog 163 #[.pointer (some ⟨X.c,0,none⟩),.slice (some ⟨w5.heap.size,0,none⟩) 2 2] W fun e w'=>e= .returned (.tuple #[])/\eX wB vM vN uU X Bs D (S5,E.2) m3 I w'):=fun w5 h5 W o hI=>by rw[<-hS5];exact eX.call h5 o fun gt' gb' nM Hx _=>Zb Hx hI zAM
   have HFin:Hid (∀W,eX wB vM vN uU X Bs D (S5.dD (-n::xs),E.2) m3 (gQ I t n) W->eX w1 gt0 gb0 gp0 X Bs D ((pO E (E.2.edges.take (i+1))).1,E.2) m3 (pO E (E.2.edges.take (i+1))).2 W):=fun W h=>by rw[HBk.out];exact eX.trans A4 B4 C4 O4 (eX.after oB h)
   have ewn:=zw (-n);have KD:=zh jh;have HXs:=zh hxs;have hS0:=HS.out wB.drew (zr.drew);clear hS hI H4' A4 B4 C4 O4 hrow hy hb0 hnm oB hS1 hn hS2 ha hS3 hS4 hd hS5 hxs uh jh FX;go_wp2_with (refine wpList_load_mid rfl 226 (.tmp 24) rfl be (i*2) rfl _ _ V7.out Tryz.underlying226 rfl zk ?_);try rw[<-hwB]
   try rw[hbx]
   clear hwB hbx;refine bH (n:=11) (E:=fun _=>false) (S:=fun W=>W.cell? ⟨X.px,0,none⟩=some (.pointer (some ⟨X.c,0,none⟩))/\W.cell? ⟨X.px,2,none⟩=some (.map (some X.m1))/\W.cell? ⟨bx,0,none⟩=some (.int .i64 (p:Int))/\W.cell? ⟨bx,1,none⟩=some (.int .i64 (t:Int))) zk rfl hS0 (fun hHeld=>?_);refine tW 0 ?_;refine tW 1 ?_;refine tW 2 ?_;refine tK 3 ?_;refine tW 4 ?_;refine tK 5 ?_;refine tW 6 ?_;refine tK 7 ?_;refine tW 8 ?_;refine tO 9 fun K hK=>?_;(go_simp;refine(vT.out _ zBj).mono ?_;rintro e w5 ⟨rfl,h5⟩;try go_wp2_with fail);refine hK.out _ _ ?_ (fun hHeld=>?_);·(try dsimp only)<;>(exact HS.out _ h5.only)
   clear hK K;try simp only[Act.put,gJ,gU,gK,gu,gy,gG]
   refine tW 10 ?_;refine aZ zk ?_ _;have H5:=zh h5;obtain⟨hab,agR⟩:=HNp.out w5 h5;have amn:=zh agR;have hS0:=HS.out w5.drew (h5.only.drew);clear h5 vT HNp agR;go_wp2_with fail;refine bH (n:=15) (E:=fun _=>false) (S:=fun W=>W.cell? ⟨X.px,0,none⟩=some (.pointer (some ⟨X.c,0,none⟩))/\W.cell? ⟨X.px,2,none⟩=some (.map (some X.m1))/\W.cell? ⟨bx,0,none⟩=some (.int .i64 (p:Int))/\W.cell? ⟨bx,1,none⟩=some (.int .i64 (t:Int))) zk rfl hS0 (fun hHeld=>?_);refine tW 0 ?_;refine tW 1 ?_;refine tW 2 ?_;refine tK 3 ?_;refine tW 4 ?_;refine tW 5 ?_;refine tW 6 ?_;refine tW 7 ?_;refine tW 8 ?_;refine tK 9 ?_;refine tW 10 ?_;refine tK 11 ?_;refine tO 12 fun K hK=>?_;(go_simp;refine(amn.out _ zBj).mono ?_;rintro e w6 ⟨rfl,h6⟩;have oM:Only (dF vM vN uU) wB w6:=h6.only;try go_wp2_with fail);refine hK.out _ _ ?_ (fun hHeld=>?_);·exact zDr
   clear hK K;try simp only[Act.put,gJ,gU,gK,gu,gy,gG]
   refine tO 13 fun K hK=>?_;go_simp;refine hK.out _ _ ?_ (fun hHeld=>?_);·exact zDo
   clear hK K;try simp only[Act.put,gJ,gU,gK,gu,gy,gG]
   refine tO 14 fun K hK=>?_;(go_simp;refine(HAp.out w6 h6 _ zAB (by first|exact BH _ _ _ (iL hnb) (jC hab)|exact(BH w6 _ _ (iL hnb) (jC hab)).aN zBj)).mono ?_;rintro e w7 ⟨rfl,h7⟩;try go_wp2_with fail);refine hK.out _ _ ?_ (fun hHeld=>?_);·(try dsimp only)<;>(exact HS.out _ h7.only)
   clear hK K;try simp only[Act.put,gJ,gU,gK,gu,gy,gG]
   refine aZ zk ?_ _;have H7:=zh h7;obtain⟨hdb,agS⟩:=Ja.out w7 h7;have amo:=zh agS;have hS0:=HS.out w7.drew (h7.only.drew);clear h7 h6 oM amn HAp Ja agS H5;go_wp2_with fail;refine bH (n:=15) (E:=fun _=>false) (S:=fun W=>W.cell? ⟨X.px,0,none⟩=some (.pointer (some ⟨X.c,0,none⟩))/\W.cell? ⟨X.px,2,none⟩=some (.map (some X.m1))/\W.cell? ⟨bx,0,none⟩=some (.int .i64 (p:Int))/\W.cell? ⟨bx,1,none⟩=some (.int .i64 (t:Int))) zk rfl hS0 (fun hHeld=>?_);refine tW 0 ?_;refine tW 1 ?_;refine tW 2 ?_;refine tK 3 ?_;refine tW 4 ?_;refine tW 5 ?_;refine tW 6 ?_;refine tW 7 ?_;refine tW 8 ?_;refine tK 9 ?_;refine tW 10 ?_;refine tK 11 ?_;refine tO 12 fun K hK=>?_;(go_simp;refine(amo.out _ zBj).mono ?_;rintro e w8 ⟨rfl,h8⟩;have oM:Only (dF vM vN uU) wB w8:=h8.only;try go_wp2_with fail);refine hK.out _ _ ?_ (fun hHeld=>?_);·exact zDr
   clear hK K;try simp only[Act.put,gJ,gU,gK,gu,gy,gG]
   refine tO 13 fun K hK=>?_;go_simp;refine hK.out _ _ ?_ (fun hHeld=>?_);·exact zDo
   clear hK K;try simp only[Act.put,gJ,gU,gK,gu,gy,gG]
   refine tO 14 fun K hK=>?_;(go_simp;refine(HAt.out w8 h8 _ zAB (by first|exact BH _ _ _ (iL hnb) (jC hdb)|exact(BH w8 _ _ (iL hnb) (jC hdb)).aN zBj)).mono ?_;rintro e w9 ⟨rfl,h9⟩;try go_wp2_with fail);refine hK.out _ _ ?_ (fun hHeld=>?_);·exact zEh
   clear hK K;try simp only[Act.put,gJ,gU,gK,gu,gy,gG]
   refine aZ zk ?_ _;have H9:=zh h9;clear h9 h8 oM amo HAt H7 hS0;obtain⟨gt7,gb7,gp7,H7',A7,B7,C7,O7⟩:=H9.out;have H7:=zh H7';obtain⟨val,hR⟩:=H7'.1.of;have amq:KE.ok (p,t):=⟨⟨by omega,by omega⟩,⟨by omega,by omega⟩⟩;have Ql:=hR.rowAt (p,t);rw[show fA E.2.of (p,t)=xs from HXs.out]at Ql;have hvI:Ints w9 (val (p,t)) xs:=Row.ints Ql (fun z hz=>by
    have hz2:z∈fA E.2.of (p,t):=by rw[HXs.out];exact hz
    obtain⟨e0,he0,hz0⟩:=Jp hz2
    exact hR.rng e0 he0 z hz0)
   have hlk:∀W,Only (fun k=>Mine gt7 k\/Mine gb7 k) w9 W->(Instr.lookup 150 (.map (some X.m1)) (.agg #[.int .i64 (p:Int),.int .i64 (t:Int)]) false).run Tryz.prog W= .ok (val (p,t)) W:=fun W o=>hR.look' amq o (fun hm=>H7'.1.Kw _ hm (by unfold Mine;rw[hR.tb];simp));obtain⟨ao,cap,ev,-,-⟩:=hvI.shape;rw[ev]at hlk hvI;have hxl:xs.length<=900000:=by rw[<-HXs.out];exact D7.out.ofr (p,t)
   obtain⟨nx,hnx⟩:=ze xs.length;rw[hnx]at hlk hvI hxl;have RZ:=zh hnx;have HI:=zh hvI;have HM7:Hid (∀W,Only (fun k=>Mine gt7 k\/Mine gb7 k) w9 W->Only (dF vM vN uU) wB W):=fun W o=>O7.zZ A7 B7 C7 (o.mono fun k hk=>.inl hk);have HS7:Hid (∀W,Only (fun k=>Mine gt7 k\/Mine gb7 k) w9 W->(W.cell? ⟨X.px,0,none⟩=some (.pointer (some ⟨X.c,0,none⟩))/\W.cell? ⟨X.px,2,none⟩=some (.map (some X.m1))/\W.cell? ⟨bx,0,none⟩=some (.int .i64 (p:Int))/\W.cell? ⟨bx,1,none⟩=some (.int .i64 (t:Int)))/\(Instr.lookup 150 (.map (some X.m1)) (.agg #[.int .i64 (p:Int),.int .i64 (t:Int)]) false).run Tryz.prog W= .ok (.slice ao nx cap) W):=fun W o=>⟨HS.out W (HM7.out W o),hlk W o⟩;have HTr:Hid (∀E2 I2 W,eX w9 gt7 gb7 gp7 X Bs D E2 m3 I2 W->eX wB vM vN uU X Bs D E2 m3 I2 W):=fun E2 I2 W h=>eX.trans A7 B7 C7 O7 h;have x9:Hid (∀W,O0 w9 W->∀ad,ao=some ad->∀j u,(xs.map cI)[j]? =some u->W.cell? (ad.add j)=some u):=fun W hW=>(HI.out.aN hW).news;have GY:Hid (ao=none->nx=0/\cap=0):=fun e=>HI.out.nil nx cap zB6;have HLen:Hid ((xs.map cI).length=nx*1):=by rw[qM,RZ.out,yH];exact rfl
   have xg:Hid (∀W v2,O0 w9 W->W.ownsRow 0 3 1 v2 (1+nx) ([cI (-n)]++xs.map cI)->Calls Tryz.prog 163 #[.pointer (some ⟨X.c,0,none⟩),v2] W fun e w'=>e= .returned (.tuple #[])/\Only (fun k=>Mine gt7 k\/Mine gb7 k) w9 w'/\eX w9 gt7 gb7 gp7 X Bs D (S5.dD (-n::xs),E.2) m3 I w'):=fun W v2 hW hown=>by
    have hI2:Ints W v2 (-n::xs):=by exact zC5
    exact agP H7.out hW hI2 (by rw[qN,RZ.out];omega)
   have hS0:=HS7.out w9.drew (zr.drew);clear H7' hR Ql hvI hlk ev hnx A7 B7 C7 O7 amq H9;go_wp2_with fail;refine bH (n:=15) (E:=fun _=>false) (S:=fun W=>(W.cell? ⟨X.px,0,none⟩=some (.pointer (some ⟨X.c,0,none⟩))/\W.cell? ⟨X.px,2,none⟩=some (.map (some X.m1))/\W.cell? ⟨bx,0,none⟩=some (.int .i64 (p:Int))/\W.cell? ⟨bx,1,none⟩=some (.int .i64 (t:Int)))/\(Instr.lookup 150 (.map (some X.m1)) (.agg #[.int .i64 (p:Int),.int .i64 (t:Int)]) false).run Tryz.prog W= .ok (.slice ao nx cap) W) zk rfl hS0 (fun hHeld=>?_);refine tW 0 ?_;refine tW 1 ?_;refine tW 2 ?_;refine tK 3 ?_;refine tW 4 ?_;refine tW 5 ?_;refine tW 7 ?_;refine tW 8 ?_;refine tW 9 ?_;refine tK 10 ?_;refine tK 11 ?_;refine tK 12 ?_;refine tO 6 fun K hK=>?_;go_simp;refine hK.out _ _ ?_ (fun hHeld=>?_);·(try dsimp only)<;>(exact HS7.out _ zBj)
   clear hK K;try simp only[Act.put,gJ,gU,gK,gu,gy,gG]
   refine tO 13 fun K hK=>?_;(refine EP kJ (by rfl) (.tmp 72) (.tmp 78) (by rfl) (by rfl) (uO zCE) (by rfl) HLen.out GY.out zFW zB8 zBy (by decide) ?_;intro Xb cap5 w10 r5 o5 Xc;have oA:O0 w9 w10:=Only.trans zBj o5 (fun k hk=>.inr zCB));refine hK.out _ _ ?_ (fun hHeld=>?_);·(try dsimp only)<;>(exact HS7.out _ (oA.mono fun _ f=>f.elim))
   clear hK K;try simp only[Act.put,gJ,gU,gK,gu,gy,gG]
   refine tO 14 fun K hK=>?_;(go_simp;refine(xg.out _ _ zAL (aI r5 zBj (fun _ _ f=>f))).mono ?_;rintro e Y9 ⟨rfl,o11,h11⟩;try go_wp2_with fail);refine hK.out _ _ ?_ (fun hHeld=>?_);·(try dsimp only)<;>(exact HS7.out _ o11)
   clear hK K;try simp only[Act.put,gJ,gU,gK,gu,gy,gG]
   refine aZ zk ?_ _;have H11:=HTr.out _ _ _ h11;clear h11 o11 r5 o5 Xc oA HS7 HM7 xg x9 GY HLen hS0 H7 HI;obtain⟨Vo,gb8,gp8,H8,A8,B8,C8,O8⟩:=H11;obtain⟨ix,v,hrow,hSS,hpu⟩:=H8.amg (e:=t) ⟨by omega,by omega⟩ (z:=n) (jC hnb) (by have:=hIl.1;unfold maxLen;omega);have hrl:=hIl.2 t;obtain⟨ys,hys⟩:=ze (fA I t);rw[hys]at hrow hrl hpu;obtain⟨ao8,ams,rfl,-,-⟩:=hrow.shape;obtain⟨n8,hn8⟩:=ze ys.length;simp only[qM]at hrow hSS;rw[hn8]at hrow hrl hSS;have HS8:Hid (∀W,Only (fun k=>gp8 k=(4,ix+1)) Y9 W->W.cell? ⟨bx,1,none⟩=some (.int .i64 (t:Int))/\(Instr.lookup 151 (.map (some m3)) (.int .i64 (t:Int)) false).run Tryz.prog W= .ok (.slice ao8 n8 ams) W):=fun W o=>
    ⟨(HS.out W (O8.zZ A8 B8 C8 (o.mono fun k hk=>.inr zBi))).2.2.2,hSS W o⟩
   have vW:=zh hrow;have HPu:Hid (∀wA w5 v',O0 Y9 wA->Only (fun k=>gp8 k=(4,ix+1)) wA w5->Row w5 (Tag.put gp8 wA.heap.size w5.heap.size (4,ix+1)) (4,ix+1) 3 v' (ys.map cI++[cI n])->∃w9,(Instr.mapUpdate 151 (.map (some m3)) (.int .i64 (t:Int)) v').run Tryz.prog w5= .ok () w9/\eX w1 gt0 gb0 gp0 X Bs D ((pO E (E.2.edges.take (i+1))).1,E.2) m3 (pO E (E.2.edges.take (i+1))).2 w9):=fun wA w5 v' o1 o2 hr=>by obtain⟨w12,h1,h2⟩:=hpu wA w5 v' o1 o2 hr;exact⟨w12,h1,HFin.out _ (eX.trans A8 B8 C8 O8 h2)⟩
   have HN8:=zh hn8;have hS0:=HS8.out Y9.drew (zr.drew);clear hrow hSS hpu hys hn8 H8 A8 B8 C8 O8 HS HTr HFin HB;go_wp2_with fail;refine bH (n:=11) (E:=fun j=>j==10) (S:=fun W=>W.cell? ⟨bx,1,none⟩=some (.int .i64 (t:Int))/\(Instr.lookup 151 (.map (some m3)) (.int .i64 (t:Int)) false).run Tryz.prog W= .ok (.slice ao8 n8 ams) W) zk rfl hS0 (fun hHeld=>?_);refine tW 0 ?_;refine tW 1 ?_;refine tK 2 ?_;refine tW 3 ?_;refine tW 4 ?_;refine tK 5 ?_;refine tK 6 ?_;refine tW 7 ?_;refine tO 8 fun K hK=>?_;go_simp;refine hK.out _ _ ?_ (fun hHeld=>?_);·(try dsimp only)<;>(exact HS8.out _ zBj)
   clear hK K;try simp only[Act.put,gJ,gU,gK,gu,gy,gG]
   refine tO 9 fun K hK=>?_;(refine Row.step (u:=.int .i64 n) kJ (by rfl) (.tmp 87) (.tmp 89) (by rfl) (by first| (simp only[qM,HN8.out];rfl)|rfl) (by rfl) zBz rfl zBo (by simp only[qM];have:=HN8.out;omega) zAG ?_;intro bb5 atN w12 Un Kv);refine hK.out _ _ ?_ (fun hHeld=>?_);·(try dsimp only)<;>(exact HS8.out _ (Only.same zBj Kv))
   clear hK K;try simp only[Act.put,gJ,gU,gK,gu,gy,gG]
   refine fP (rs:=[10]) zk zAM ?_;refine dA.late (i:=10) rfl zk (fun K hK=>?_) ?_
   ·(obtain⟨Vr,JM,Ht⟩:=HPu.out _ w12 _ zBj Kv Un;refine adx (by rfl) (.tmp 81) (.tmp 83) (.tmp 90) (by rfl) (by rfl) (by rfl) (by rfl) JM ?_);refine hK.out _ _ ?_;clear hK K;try simp only[Act.put,gJ,gU,gK,gu,gy,gG]
    refine aZ zk ?_ _;have HE:=zh Ht;have jh:=KD.out;clear Ht JM Un Kv HPu vW HS8 hS0;go_wp2_with fail;go_roundw;case rel=>exact⟨i+1,by first|rfl|go_num,by omega,HE⟩
    case measure=>simp[RowKit.intOf]<;>omega
   exact dA.nil
  obtain rfl:ne=i:=by omega
  clear hi ci;have aiZ:=FX.out;rw[qI (yG HNe.out)]at aiZ;have ai0:=VI E E.2.edges;obtain⟨SB,hSB⟩:=ze ((pO E E.2.edges).1);obtain⟨IB,hIB⟩:=ze ((pO E E.2.edges).2);rw[HNe.out,hIB]at ai0;rw[hSB,hIB]at aiZ;obtain⟨nn,hnn⟩:=ze D.names.length;have XH:=zh hnn;have H9:Hid (EM (Ad SB D E.2 nn) E.2 IB D.l=E9):=by rw[<-HE9.out];unfold ES.back;rw[hSB,hIB,hnn];exact rfl
  obtain⟨Np,Nq,Nr,H5',A5,B5,C5,O5⟩:=aiZ;have H5:=zh H5';have agT:Hid (∀E2 I2 W,eX wr Np Nq Nr X Bs D E2 m3 I2 W->bV w gt gb gp X Bs D E2 W):=fun E2 I2 W h=>Fz.out E2 I2 W (eX.trans A5 B5 C5 O5 h);obtain⟨an,cn,en,hn1,hn2⟩:=aC H5'.1.names;rw[hnn]at en hn1;have awr:nn<=1000000:=by rw[<-hnn];exact HR.out.g.nl
  have HSN:Hid (∀W,Only (dF Np Nq Nr) wr W->W.cell? ⟨X.px,0,none⟩=some (.pointer (some ⟨X.c,0,none⟩))/\W.cell? ⟨X.px,1,none⟩=some (.slice an nn cn)/\W.cell? ⟨X.px,3,none⟩=some X.sv/\W.cell? ⟨X.px,4,none⟩=some (.map (some X.m2))):=fun W o=>
   ⟨dh H5.out.1.cells.1 o H5.out.1.tp,by rw[<-en];exact dh H5.out.1.cells.2.1 o H5.out.1.tp,dh H5.out.1.cells.2.2.2.1 o H5.out.1.tp,dh H5.out.1.cells.2.2.2.2 o H5.out.1.tp⟩
  have J3:Hid (∀W,Only (dF Np Nq Nr) wr W->∀i s,D.names[i]? =some s->∃bn,an=some ⟨bn,0,none⟩/\W.cell? ⟨bn,i,none⟩=some (.string s)):=fun W o i s hs=>by
   have hrow:=aI H5.out.1.names o H5.out.1.nb;rw[en,XH.out]at hrow;have hil:i<nn:=by rw[<-XH.out];exact(qJ.1 hs).1
   obtain⟨b,cap,e,-,-⟩:=fJ hrow zBk;simp only[qU]at e;obtain⟨rfl,-,rfl⟩:=e;refine⟨b,rfl,?_⟩;rw[hrow.cellAt i zBk];unfold fD;rw[List.getElem?_map,hs];rfl
  obtain⟨a1,c1,a2,c2,JK,Kr⟩:=H5'.1.OQ;obtain⟨n1,hx1⟩:=ze D.x.packs.length;obtain⟨n2,hx2⟩:=ze D.x.iH.length;rw[hx1]at JK;rw[hx2]at Kr;have XP:=zh hx1;have CX:=zh (And.intro JK Kr);have aws:n1<=1000:=by rw[<-hx1];exact HR.out.g.mid.packs
  have HIB:=zh ai0;obtain⟨q0,q1,-⟩:=HSN.out wr zr;have HL5:Hid (eX wr Np Nq Nr X Bs D (Ad SB D E.2 0,E.2) m3 IB wr):=eX.refl H5';clear H5' A5 B5 C5 O5 hSB hIB ai0 hnn en JK Kr hx1 hx2 FX Fz zO Wn H1 HE9 HKb HNe;generalize wr=w5 at*;go_wp2_with fail;go_loopw [97] (fun vi wr=> ∃i:Nat,vi= .int .i64 i/\i<=nn/\Hid (eX w5 Np Nq Nr X Bs D (Ad SB D E.2 i,E.2) m3 IB wr)) (fun v _=>nn-(RowKit.intOf v).toNat);case atStart=>exact⟨0,rfl,qE _,HL5⟩
  case round=>
   clear HL5 q0 q1;obtain⟨i,rfl,hi,FX⟩:=hrel;by_cases ci:i<nn
   ·obtain⟨s,hs⟩:=zG D.names i (by rw[XH.out];exact ci);have hgd:D.names.getD i ByteArray.empty=s:=by rw[qC,hs];rfl
    obtain⟨S,hS⟩:=ze (Ad SB D E.2 i);have amv:Hid (Ad SB D E.2 (i+1)=S.name D.x E.2 i s):=by show _=_;rw[X8,hS,hgd]
    rw[hS]at FX;obtain⟨bn,rfl,hcell⟩:=J3.out wr FX.out.only i s hs;obtain⟨q0,-⟩:=HSN.out wr FX.out.only;have jh:=zw (i+1);obtain⟨S1,hS1⟩:=ze ((S.num (iJ i)).1);obtain⟨n,hn⟩:=ze ((S.num (iJ i)).2);obtain⟨xs,hxs⟩:=ze (E.2.needs.getD i []);obtain⟨S2,hS2⟩:∃q,S1.dD (-n::xs)=q:=⟨_,rfl⟩;obtain⟨pv,hpv⟩:=ze (D.x.eG s);have hpl:=Aa D.x s;have uh:Hid (∀S3 zs S4,S2.nums (pv.map aJ)=(S3,zs)->S3.dD (-n::zs)=S4->Ad SB D E.2 (i+1)=S4.pairs n zs):=fun S3 zs S4 e1 e2=>by rw[amv.out];unfold TB.name;dsimp only;rw[hS1,hn,hxs,hS2,hpv,e1];dsimp only;rw[e2]
    have hnb:0<=n/\n<=65536:=by rw[<-hn];exact TB.xG FX.out.XR _
    have vT:Hid (Calls Tryz.prog 75 #[.pointer (some ⟨X.c,0,none⟩),jS (iJ i)] wr fun e w'=>e= .returned (.int .i64 n)/\eX w5 Np Nq Nr X Bs D (S1,E.2) m3 IB w'):=by rw[<-hS1];exact eX.call FX.out zr fun gt' gb' nM Hx _=>adU Hx (adl ⟨by omega,by omega⟩) n hn
    have KD:=zh jh;have HXs:=zh hxs;have HS2:=zh hS2;rw[hpv]at hpl;obtain⟨np,hnp⟩:=ze pv.length;have HNp:=zh hnp;rw[hnp,XP.out]at hpl;have awu:=hpl.1;have HPt:=zh hpl.2;have Yt:=zh hpv;clear hs hgd hS hS1 hn hxs hS2 hpv hpl hnp jh amv;go_wp2_with fail;refine vT.out.mono ?_;rintro e w6 ⟨rfl,h6⟩;have H6:=zh h6;clear h6 vT FX q0 hcell;obtain⟨gt6,gb6,gp6,H6',A6,B6,C6,O6⟩:=H6.out;have HB6:=zh H6';have amy:Hid (∀E2 I2 W,eX w6 gt6 gb6 gp6 X Bs D E2 m3 I2 W->eX w5 Np Nq Nr X Bs D E2 m3 I2 W):=fun E2 I2 W h=>eX.trans A6 B6 C6 O6 h;obtain⟨us,hN⟩:=H6'.1.needs;have hul:us.length=nn:=by rw[hN.len,H6'.1.Kq,XH.out]
    obtain⟨bs,cps,esv,-,-,htb,-⟩:=hN.row.pos zBk;rw[hul]at esv;have hrow:=hN.row;rw[esv]at hrow;have Ql:=hN.rows i (by rw[H6'.1.Kq,XH.out];exact ci);rw[show E.2.needs.getD i []=xs from HXs.out]at Ql;obtain⟨vv,hvv⟩:=ze (us.getD i bP);have hcl:∀W,Only (fun k=>Mine gt6 k\/Mine gb6 k) w6 W->W.cell? ⟨bs,i,none⟩=some vv:=fun W o=>by rw[<-hvv];exact dh (hrow.cell bP zBk) o (fun hm=>H6'.1.Kw _ hm (by unfold Mine;rw[htb];simp))
    rw[hvv]at Ql;have hvI:Ints w6 vv xs:=Row.ints Ql (fun z hz=>by
     refine hN.rng xs ?_ z hz
     rw[<-HXs.out,qC,qA (by rw[H6'.1.Kq,XH.out];exact ci)]
     exact qZ _)
    obtain⟨ao,cap,rfl,-,-⟩:=hvI.shape;have hxl:xs.length<=900000:=by rw[<-HXs.out];exact D7.out.nr i
    obtain⟨nx,hnx⟩:=ze xs.length;rw[hnx]at hcl hvI hxl;have RZ:=zh hnx;have HI:=zh hvI;have HSv:=zh esv;have HS6:Hid (∀W,Only (fun k=>Mine gt6 k\/Mine gb6 k) w6 W->W.cell? ⟨X.px,0,none⟩=some (.pointer (some ⟨X.c,0,none⟩))/\W.cell? ⟨X.px,3,none⟩=some (.slice (some ⟨bs,0,none⟩) nn cps)/\W.cell? ⟨bs,i,none⟩=some (.slice ao nx cap)):=fun W o=>by have h:=HSN.out W (O6.zZ A6 B6 C6 (o.mono fun k hk=>.inl hk));rw[HSv.out]at h;exact⟨h.1,h.2.2.1,hcl W o⟩
    have x9:Hid (∀W,O0 w6 W->∀ad,ao=some ad->∀j u,(xs.map cI)[j]? =some u->W.cell? (ad.add j)=some u):=fun W hW=>(HI.out.aN hW).news;have GY:Hid (ao=none->nx=0/\cap=0):=fun e=>HI.out.nil nx cap zB6;have HLen:Hid ((xs.map cI).length=nx*1):=by rw[qM,RZ.out,yH];exact rfl
    have xg:Hid (∀W v2,O0 w6 W->W.ownsRow 0 3 1 v2 (1+nx) ([cI (-n)]++xs.map cI)->Calls Tryz.prog 163 #[.pointer (some ⟨X.c,0,none⟩),v2] W fun e w'=>e= .returned (.tuple #[])/\Only (fun k=>Mine gt6 k\/Mine gb6 k) w6 w'/\eX w6 gt6 gb6 gp6 X Bs D (S2,E.2) m3 IB w'):=fun W v2 hW hown=>by
     have hI2:Ints W v2 (-n::xs):=by exact zC5
     rw[<-HS2.out];exact agP HB6.out hW hI2 (by rw[qN,RZ.out];omega)
    have ewn:=zw (-n);have hS0:=HS6.out w6.drew (zr.drew);clear H6' hN hrow Ql hcl hvI hnx A6 B6 C6 O6 esv htb hul hvv H6;go_wp2_with fail;refine bH (n:=16) (E:=fun _=>false) (S:=fun W=>W.cell? ⟨X.px,0,none⟩=some (.pointer (some ⟨X.c,0,none⟩))/\W.cell? ⟨X.px,3,none⟩=some (.slice (some ⟨bs,0,none⟩) nn cps)/\W.cell? ⟨bs,i,none⟩=some (.slice ao nx cap)) zk rfl hS0 (fun hHeld=>?_);refine tW 0 ?_;refine tW 1 ?_;refine tW 2 ?_;refine tK 3 ?_;refine tW 4 ?_;refine tW 5 ?_;refine tW 7 ?_;refine tW 8 ?_;refine tW 9 ?_;refine tK 10 ?_;refine tW 11 ?_;refine tW 12 ?_;refine tK 13 ?_;refine tO 6 fun K hK=>?_;go_simp;refine hK.out _ _ ?_ (fun hHeld=>?_);·(try dsimp only)<;>(exact HS6.out _ zBj)
    clear hK K;try simp only[Act.put,gJ,gU,gK,gu,gy,gG]
    refine tO 14 fun K hK=>?_;(refine EP kJ (by rfl) (.tmp 115) (.tmp 122) (by rfl) (by rfl) (uO zCE) (by rfl) HLen.out GY.out zFW zB8 zBy (by decide) ?_;intro Xb cap5 w7 r5 o5 Xc;have oA:O0 w6 w7:=Only.trans zBj o5 (fun k hk=>.inr zCB));refine hK.out _ _ ?_ (fun hHeld=>?_);·(try dsimp only)<;>(exact HS6.out _ (oA.mono fun _ f=>f.elim))
    clear hK K;try simp only[Act.put,gJ,gU,gK,gu,gy,gG]
    refine tO 15 fun K hK=>?_;(go_simp;refine(xg.out _ _ zAL (aI r5 zBj (fun _ _ f=>f))).mono ?_;rintro e w8 ⟨rfl,o8,h8⟩;try go_wp2_with fail);refine hK.out _ _ ?_ (fun hHeld=>?_);·(try dsimp only)<;>(exact HS6.out _ o8)
    clear hK K;try simp only[Act.put,gJ,gU,gK,gu,gy,gG]
    refine aZ zk ?_ _;have H8:=zh (amy.out _ _ _ h8);clear h8 o8 r5 o5 Xc oA HS6 xg x9 GY HLen hS0 HI amy HB6 HSv;obtain⟨q0,-⟩:=HSN.out w8 H8.out.only;have FV:Hid (Calls Tryz.prog 78 #[.pointer (some ⟨X.c,0,none⟩)] w8 fun e w'=>e= .returned (.agg #[.slice a1 n1 c1,.slice a2 n2 c2])/\O0 w8 w'):=by obtain⟨_,_,_,Hy,_⟩:=H8.out;exact mF Hy.1.gx.gr CX.out.1 CX.out.2
    have Zp:Hid (∀W,O0 w8 W->Calls Tryz.prog 165 #[.agg #[.slice a1 n1 c1,.slice a2 n2 c2],.string s] W fun e w'=> ∃v,e= .returned v/\w'.ownsRow 0 3 1 v np (ji pv)/\(∀k,v.ownBlock=some k->W.heap.size<=k)/\O0 W w'):=fun W o=>by obtain⟨_,_,_,Hy,_⟩:=H8.out;have h:=(Hy.aN o).1.gx.BI;rw[CX.out.1,CX.out.2]at h;have h2:=uz h (by rw[XP.out];omega) s;rw[Yt.out,HNp.out]at h2;exact h2
    go_wp2_with fail;refine FV.out.mono ?_;rintro e w9 ⟨rfl,O9⟩;have amA:=zh (Zp.out w9 O9);have rY:=zh O9;clear O9 FV Zp q0;go_wp2_with fail;refine amA.out.mono ?_;rintro e wA ⟨vp,rfl,r3,b3,o3⟩;have UL:Hid (O0 w8 wA):=rY.out.same o3;obtain⟨ap,cp,rfl,-,-⟩:=aC r3;have YD:=zh r3;obtain⟨Zg,Zh,Zi,HA',AA,BA,CA,OA⟩:=H8.out;have amB:Hid (∀k,(Value.slice ap np cp).ownBlock=some k->¬dF Zg Zh Zi k):=fun k hk=>HA'.1.nN (qR rY.out.size (b3 k hk));have HAA:=zh (HA'.aN UL.out);have aq5:Hid (∀E2 I2 W,eX wA Zg Zh Zi X Bs D E2 m3 I2 W->eX w5 Np Nq Nr X Bs D E2 m3 I2 W):=fun E2 I2 W h=>eX.trans AA BA CA (OA.same (UL.out.mono fun _ f=>f.elim)) (eX.after zr h);have HSA:Hid (∀W,Only (dF Zg Zh Zi) wA W->W.cell? ⟨X.px,0,none⟩=some (.pointer (some ⟨X.c,0,none⟩))):=fun W o=>(HSN.out W ((OA.same (UL.out.mono fun _ f=>f.elim)).zZ AA BA CA o)).1;have nR:=zh HAA.out.1.sizes;have XI:Hid (kW wA Zg Zh Zi X Bs D (((S2.nums ((pv.take 0).map aJ)).1),E.2) m3 IB wA bP (S2.nums ((pv.take 0).map aJ)).2):=kW.start (eX.refl HAA.out);clear r3 b3 o3 rY amA HA' AA BA CA OA H8 UL;go_wp2_with fail;go_loopw [9,133] (fun v9 vj wr=> ∃j:Nat,vj= .int .i64 j/\j<=np/\Hid (kW wA Zg Zh Zi X Bs D (((S2.nums ((pv.take j).map aJ)).1),E.2) m3 IB wr v9 (S2.nums ((pv.take j).map aJ)).2)) (fun _ v _=>np-(RowKit.intOf v).toNat);case atStart=>exact⟨0,rfl,qE _,XI⟩
    case round=>
     clear XI;obtain⟨j,rfl,hj,vW⟩:=hrel;by_cases cj:j<np
     ·obtain⟨t,ht⟩:=zG pv j (by rw[HNp.out];exact cj);have hcell:wr.cell? ⟨(match ap with|some a=>a.block|none=>0),j,none⟩=some (.int .i64 t)/\∃b,ap=some ⟨b,0,none⟩:=by have hrow:=aI YD.out vW.out.bk.only amB.out;obtain⟨b,cap,e,-,-⟩:=fJ hrow zBk;simp only[qU]at e;obtain⟨rfl,-,rfl⟩:=e;refine⟨?_,b,rfl⟩;show wr.cell? ⟨b,j,none⟩=_;rw[hrow.cellAt j zBk];unfold ji;rw[List.getElem?_map,ht];rfl
      obtain⟨hcell,bt3,rfl⟩:=hcell;have htb:t<=1000:=by have:=HPt.out t (qT ht);omega
      obtain⟨S3,hS3⟩:=ze ((S2.nums ((pv.take j).map aJ)).1);obtain⟨zs,hzs⟩:=ze ((S2.nums ((pv.take j).map aJ)).2);have hzl:zs.length<=1000:=by rw[<-hzs];show(S2.1.nums _).2.length<=1000;rw[Tab.lM,qM,List.length_take];omega
      rw[hS3,hzs]at vW;obtain⟨q,hq⟩:=ze ((S3.num (aJ t)).2);obtain⟨S4,hS4⟩:=ze ((S3.num (aJ t)).1);have DN:Hid (S2.nums ((pv.take (j+1)).map aJ)=(S4,zs++[q])):=by show _=_;rw[List.take_add_one,ht];simp only[Option.toList_some,List.map_append,List.map_cons,List.map_nil];rw[TB.ug,hS3,hzs,hq,hS4]
      have FB:Hid (Calls Tryz.prog 164 #[.pointer (some ⟨X.c,0,none⟩),.int .i64 t] wr fun e w'=>e= .returned (.int .i64 q)/\kW wA Zg Zh Zi X Bs D (S4,E.2) m3 IB w' u9 zs):=by rw[<-hS4];exact kW.call vW.out zr fun gt' gb' nM Hx=>X0 Hx zBk q hq
      have q0:=HSA.out wr vW.out.bk.only;have ewj:=zw (j+1);have HEj:=zh ewj;obtain⟨au,cu,hu,-,-⟩:∃au cu,u9= .slice au zs.length cu/\zs.length<=cu/\cu<=maxLen:=aC vW.out.own;subst hu;clear ht hS3 hzs hq hS4 ewj vW;go_wp2_with fail;refine FB.out.mono ?_;rintro e wb ⟨rfl,hb⟩;have Hb:=zh hb;have agV:=zh hb.own;clear hb FB q0 hcell;go_wp2_with (at_builtin;go_must (refine tC (u:=.int .i64 q) kJ rfl (.tmp 137) (.tmp 144) rfl rfl rfl (cell_new0 _ _ _) rfl (aI agV.out ((Only.refl (fun _=>False) _).alloc _) (fun _ _ f=>f)) zBk zBl ?_));intro v' w6' s1 s2 s3;have aq7:Hid (kW wA Zg Zh Zi X Bs D (((S2.nums ((pv.take (j+1)).map aJ)).1),E.2) m3 IB w6' v' (S2.nums ((pv.take (j+1)).map aJ)).2):=by rw[DN.out];exact kW.app nR.out Hb.out ((Only.refl (fun _=>False) wb).alloc _) s1 s2 s3
      obtain⟨g6,c6',rfl,-,-,-⟩:=s3;have ewj:=HEj.out;clear s1 s2 Hb agV;go_wp2_with fail;go_roundw;case rel=>exact⟨j+1,by first|rfl|go_num,by omega,aq7⟩
      case measure=>simp[RowKit.intOf]<;>omega
     obtain rfl:np=j:=by omega
     clear hj cj;rw[qI (yG HNp.out)]at vW;obtain⟨S3,hS3⟩:=ze ((S2.nums (pv.map aJ)).1);obtain⟨zs,hzs⟩:=ze ((S2.nums (pv.map aJ)).2);have hzl:zs.length<=1000:=by rw[<-hzs];show(S2.1.nums _).2.length<=1000;rw[Tab.lM,qM,HNp.out];omega
     have hzb:∀y∈zs,0<=y/\y<=65536:=by
      rw[<-hzs];have:=(Tab.uF (pv.map aJ) (T:=S2.1) (by
       have h:=HAA.out.1.ok
       simpa[TB.nums,Tab.nums]using h)).2
      exact this
     obtain⟨S4,hS4⟩:∃q,S3.dD (-n::zs)=q:=⟨_,rfl⟩;have HFn:Hid (Ad SB D E.2 (i+1)=S4.pairs n zs):=uh.out S3 zs S4 (by rw[<-hS3,<-hzs]) hS4;rw[hS3,hzs]at vW;obtain⟨nz,hnz⟩:=ze zs.length;have HNz:=zh hnz;have HZb:=zh hzb;obtain⟨au,cu,hu,-,-⟩:∃au cu,u9= .slice au zs.length cu/\zs.length<=cu/\cu<=maxLen:=aC vW.out.own;subst hu;rw[hnz]at hzl;have agW:Hid (wr.ownsRow 0 3 1 (.slice au nz cu) nz (zs.map cI)):=by have h:=vW.out.own;rw[hnz]at h;exact h
     rw[hnz]at vW⊢;have hzI:∀z∈zs,bU z:=fun z hz=>jC (hzb z hz);have HIz:Hid (Ints wr (.slice au nz cu) zs):=Ints.fH (by rw[hnz];exact agW.out) hzI;have x9:Hid (∀W,O0 wr W->∀ad,au=some ad->∀j u,(zs.map cI)[j]? =some u->W.cell? (ad.add j)=some u):=fun W hW=>(HIz.out.aN hW).news;have GY:Hid (au=none->nz=0/\cu=0):=fun e=>HIz.out.nil nz cu zB6;have HLen:Hid ((zs.map cI).length=nz*1):=by rw[qM,HNz.out,yH];exact rfl
     have xg:Hid (∀W v2,O0 wr W->W.ownsRow 0 3 1 v2 (1+nz) ([cI (-n)]++zs.map cI)->Calls Tryz.prog 163 #[.pointer (some ⟨X.c,0,none⟩),v2] W fun e w'=>e= .returned (.tuple #[])/\kW wA Zg Zh Zi X Bs D (S4,E.2) m3 IB w' (.slice au nz cu) zs):=fun W v2 hW hown=>by
      have hI2:Ints W v2 (-n::zs):=by
       refine Ints.fH ?_ fun z hz=>?_
       ·have e1:1+nz=(-n::zs).length:=by rw[qN,HNz.out];omega
        rw[e1]at hown;simpa using hown
       rcases qY.1 hz with rfl|hz;·exact iL hnb
       exact jC (HZb.out z hz)
      rw[<-hS4];exact kW.call vW.out hW fun gt' gb' nM Hx=>Zb Hx hI2 (by rw[qN,HNz.out];omega)
     have ewn:=zw (-n);have hS0:wr.drew.cell? ⟨X.px,0,none⟩=some (.pointer (some ⟨X.c,0,none⟩)):=HSA.out wr.drew (vW.out.bk.only.drew);have HON:=zh vW.out.bk.only;clear hS3 hzs hzb hnz hzI YD amB uh nR;go_wp2_with fail;refine bH (n:=10) (E:=fun _=>false) (S:=fun W=>W.cell? ⟨X.px,0,none⟩=some (.pointer (some ⟨X.c,0,none⟩))) zk rfl hS0 (fun hHeld=>?_);refine tW 0 ?_;refine tW 1 ?_;refine tW 2 ?_;refine tK 3 ?_;refine tW 4 ?_;refine tW 5 ?_;refine tW 7 ?_;refine tO 6 fun K hK=>?_;go_simp;refine hK.out _ _ ?_ (fun hHeld=>?_);·(try dsimp only)<;>(exact HSA.out _ (HON.out.same ((zBj:O0 wr _).mono fun _ f=>f.elim)))
     clear hK K;try simp only[Act.put,gJ,gU,gK,gu,gy,gG]
     refine tO 8 fun K hK=>?_;(refine EP kJ (by rfl) (.tmp 153) (.tmp 154) (by rfl) (by rfl) (uO zCE) (by rfl) HLen.out GY.out zFW zB8 zBy (by decide) ?_;intro Xb cap5 wd r5 o5 Xc;have oA:O0 wr wd:=Only.trans zBj o5 (fun k hk=>.inr zCB));refine hK.out _ _ ?_ (fun hHeld=>?_);·(try dsimp only)<;>(exact HSA.out _ (HON.out.same (oA.mono fun _ f=>f.elim)))
     clear hK K;try simp only[Act.put,gJ,gU,gK,gu,gy,gG]
     refine tO 9 fun K hK=>?_;(go_simp;refine(xg.out _ _ zAL (aI r5 zBj (fun _ _ f=>f))).mono ?_;rintro e wc ⟨rfl,hc⟩;try go_wp2_with fail);refine hK.out _ _ ?_ (fun hHeld=>?_);·(try dsimp only)<;>(exact HSA.out _ hc.bk.only)
     clear hK K;try simp only[Act.put,gJ,gU,gK,gu,gy,gG]
     refine aZ zk ?_ _;have Hc:=zh hc;clear hc r5 o5 Xc oA xg x9 GY HLen hS0 HIz vW HON agW ewn;have HLp:Hid (kW wA Zg Zh Zi X Bs D (yX S4 n zs 0,E.2) m3 IB wc (.slice au nz cu) zs):=Hc.out;clear Hc;go_wp2_with fail;generalize wc=wf at*;go_loopw [159] (fun vk wr=> ∃k:Nat,vk= .int .i64 k/\k<=nz/\Hid (kW wA Zg Zh Zi X Bs D (yX S4 n zs k,E.2) m3 IB wr (.slice au nz cu) zs)) (fun v _=>nz-(RowKit.intOf v).toNat);case atStart=>exact⟨0,rfl,qE _,HLp⟩
     case round=>
      clear HLp;obtain⟨k,rfl,hk,HRk⟩:=hrel;by_cases ck:k<nz
      ·have hkl:k<zs.length:=by rw[HNz.out];exact ck
       obtain⟨a,ha⟩:=ze (zs.getD k 0);have hab:0<=a/\a<=65536:=by rw[<-ha];exact HZb.out _ (ql 0 hkl)
       have hIk:Ints wr (.slice au nz cu) zs:=Ints.fH HRk.out.own (fun z hz=>jC (HZb.out z hz));obtain⟨bb,off,rfl,hcell⟩:=hIk.Jz hkl;rw[ha]at hcell;obtain⟨aa,cc,hcc,hc1,-⟩:=hIk.shape;simp only[qU]at hcc;obtain⟨-,-,hcc⟩:=hcc;subst hcc;rw[HNz.out]at hc1;have hsl:=fun W=>CW bb off nz (k+1) cu zAC hc1 W ((k:Int)+1) zBk;obtain⟨o',ho'⟩:∃o',o'=if cu=k+1 then off else off+(k+1):=⟨_,rfl⟩
       obtain⟨m,hm⟩:=ze (nz-(k+1));have hm6:m<=1000:=zBk;obtain⟨c2',hc2'⟩:=ze (cu-(k+1));have HD:Hid (∀W,Ints W (.slice (some ⟨bb,off,none⟩) nz cu) zs->Ints W (.slice (some ⟨bb,o',none⟩) m c2') (zs.drop (k+1))):=fun W hW=>by have:=hW.agq (k:=k+1) zBk;rw[<-ho',hm,hc2']at this;exact this
       rw[<-ho',hm,hc2']at hsl;have hdl:(zs.drop (k+1)).length=m:=by rw[List.length_drop,HNz.out,hm]
       have HDl:=zh hdl;have TR:=zw (k+1);obtain⟨Sk,hSk⟩:=ze (yX S4 n zs k);have ard:Hid (yX S4 n zs (k+1)=xI Sk n a (zs.drop (k+1))):=by show _=_;rw[SK,hSk,ha]
       rw[hSk]at HRk;have HLi:Hid (kW wA Zg Zh Zi X Bs D (xI Sk n a ((zs.drop (k+1)).take 0),E.2) m3 IB wr (.slice (some ⟨bb,off,none⟩) nz cu) zs):=HRk.out;clear hIk hkl ha ho' hm hc2' hSk hdl HRk;go_wp2_with fail;generalize wr=wg at*;go_loopw [169] (fun vj wr=> ∃j:Nat,vj= .int .i64 j/\j<=m/\Hid (kW wA Zg Zh Zi X Bs D (xI Sk n a ((zs.drop (k+1)).take j),E.2) m3 IB wr (.slice (some ⟨bb,off,none⟩) nz cu) zs)) (fun v _=>m-(RowKit.intOf v).toNat);case atStart=>exact⟨0,rfl,qE _,HLi⟩
       case round=>
        clear HLi hcell hsl;obtain⟨j,rfl,hj,HRj⟩:=hrel;by_cases cj:j<m
        ·have hjl:j<(zs.drop (k+1)).length:=by rw[HDl.out];exact cj
         obtain⟨b,hb⟩:=ze ((zs.drop (k+1)).getD j 0);have hbb:0<=b/\b<=65536:=by rw[<-hb];exact HZb.out _ (List.mem_of_mem_drop (ql 0 hjl))
         have hIj:Ints wr (.slice (some ⟨bb,off,none⟩) nz cu) zs:=Ints.fH HRj.out.own (fun z hz=>jC (HZb.out z hz));obtain⟨bb2,off2,e2,hcell⟩:=(HD.out wr hIj).Jz hjl;simp only[qG,qO,and_true]at e2;obtain⟨rfl,rfl⟩:=e2;rw[hb]at hcell;have arf:Hid (xI Sk n a ((zs.drop (k+1)).take (j+1))=(xI Sk n a ((zs.drop (k+1)).take j)).dD [-n,-a,-b]):=by
          show _=_;rw[yL hjl,VJ];have e:(zs.drop (k+1))[j]'hjl=b:=by rw[<-hb,qC,qA hjl];rfl
          rw[e]
         have xg:Hid (Calls Tryz.prog 163 #[.pointer (some ⟨X.c,0,none⟩),.slice (some ⟨wr.heap.size,0,none⟩) 3 3] (wr.alloc (.cells #[.int .i64 (-n),.int .i64 (-a),.int .i64 (-b)] 3)) fun e w'=>e= .returned (.tuple #[])/\kW wA Zg Zh Zi X Bs D (xI Sk n a ((zs.drop (k+1)).take (j+1)),E.2) m3 IB w' (.slice (some ⟨bb,off,none⟩) nz cu) zs):=by rw[arf.out];exact kW.call HRj.out (zr.alloc _) fun gt' gb' nM Hx=>Zb Hx (aav wr (-n) (-a) (-b) (iL hnb) (iL hab) (iL hbb)) zAM
         have q0:=HSA.out wr HRj.out.bk.only;have ewn:=zw (-n);have ewa:=zw (-a);have ewb:=zw (-b);have ewj:=zw (j+1);have HEj:=zh ewj;clear hIj hjl hb HRj ewj;go_wp2_with fail;refine xg.out.mono ?_;rintro e wh ⟨rfl,hh⟩;have HH:=zh hh;have ewj:=HEj.out;clear hh xg q0 ewn ewa ewb hcell;go_wp2_with fail;go_roundw;case rel=>exact⟨j+1,by first|rfl|go_num,by omega,HH⟩
         case measure=>simp[RowKit.intOf]<;>omega
        obtain rfl:m=j:=by omega
        have HF:Hid (kW wA Zg Zh Zi X Bs D (yX S4 n zs (k+1),E.2) m3 IB wr (.slice (some ⟨bb,off,none⟩) nz cu) zs):=by rw[ard.out];have h:=HRj.out;rw[qI (yG HDl.out)]at h;exact h
        clear HRj;exact zCk
      obtain rfl:nz=k:=by omega
      have HF:Hid (eX w5 Np Nq Nr X Bs D (Ad SB D E.2 (i+1),E.2) m3 IB wr):=by refine aq5.out _ _ _ ?_;rw[HFn.out];have h:=HRk.out.bk;rw[<-HNz.out]at h;exact h
      have jh:=KD.out;clear HRk;exact zCl
   obtain rfl:nn=i:=by omega
   clear hi ci;obtain⟨SN,hSN⟩:=ze (Ad SB D E.2 nn);rw[hSN]at FX H9;have H9':=zh H9.out;obtain⟨gtP,gbP,gpP,HP',AP,BP,CP,OP⟩:=FX.out;have ai5:(intsOf D.l).length=D.l.length:=by unfold intsOf;rw[qM]
   obtain⟨nl,hnl⟩:=ze D.l.length;have XW:=zh (PW HP'.1.gx.gr HP'.1.gx.l (by rw[ai5];omega));rw[ai5,hnl]at XW;have HNl:=zh hnl;have hlt:=HR.out.g.lt;have amC:Hid (∀E2 I2 W,eX wr gtP gbP gpP X Bs D E2 m3 I2 W->bV w gt gb gp X Bs D E2 W):=fun E2 I2 W h=>agT.out E2 I2 W (eX.trans AP BP CP OP h);have HBP:=zh HP';have HSP:Hid (∀W,Only (dF gtP gbP gpP) wr W->W.cell? ⟨X.px,0,none⟩=some (.pointer (some ⟨X.c,0,none⟩))/\W.cell? ⟨X.px,4,none⟩=some (.map (some X.m2))):=fun W o=>⟨(HSN.out W (OP.zZ AP BP CP o)).1,(HSN.out W (OP.zZ AP BP CP o)).2.2.2⟩;obtain⟨q0,-⟩:=HSP.out wr zr;rw[hnl]at hll;clear HP' AP BP CP OP hSN ai5 hnl FX HSN J3 H5 agT H9;generalize wr=w6 at*;go_wp2_with fail;refine XW.out.mono ?_;rintro e w7 ⟨vp,rfl,r3,b3,o3⟩;obtain⟨ap,cp,rfl,-,-⟩:=aC r3;have YD:=zh r3;have ari:Hid (∀k,(Value.slice ap nl cp).ownBlock=some k->¬dF gtP gbP gpP k):=fun k hk=>HBP.out.1.nN (b3 k hk);have HB7:=zh (HBP.out.aN o3);have yx:=zh o3;have HL7:Hid (eX w7 gtP gbP gpP X Bs D (EM SN E.2 IB (D.l.take 0),E.2) m3 IB w7):=eX.refl HB7.out;clear r3 b3 o3 XW q0 HBP;go_wp2_with fail;go_loopw [194] (fun vi wr=> ∃i:Nat,vi= .int .i64 i/\i<=nl/\Hid (eX w7 gtP gbP gpP X Bs D (EM SN E.2 IB (D.l.take i),E.2) m3 IB wr)) (fun v _=>nl-(RowKit.intOf v).toNat);case atStart=>exact⟨0,rfl,qE _,HL7⟩
   case round=>
    clear HL7;obtain⟨i,rfl,hi,FX⟩:=hrel;by_cases ci:i<nl
    ·obtain⟨t,ht⟩:=zG D.l i (by rw[HNl.out];exact ci);have hrow:=aI YD.out FX.out.only ari.out;obtain⟨bt3,cap,e1,-,-⟩:=fJ hrow zBk;simp only[qU]at e1;obtain⟨rfl,-,rfl⟩:=e1;have hcell:wr.cell? ⟨bt3,i,none⟩=some (.int .i64 t):=by rw[hrow.cellAt i zBk];unfold intsOf;rw[List.getElem?_map,List.getElem?_map,ht];rfl
     have htb:t<=1000:=by have h1:=hlt t (qT ht);have h2:=HR.out.g.mid.packs;omega
     have jh:=zw (i+1);obtain⟨S,hS⟩:=ze (EM SN E.2 IB (D.l.take i));rw[hS]at FX;obtain⟨d,hd⟩:=ze ((S.num (aJ t)).2);obtain⟨S1,hS1⟩:=ze ((S.num (aJ t)).1);have hdb:0<=d/\d<=65536:=by rw[<-hd];exact TB.xG FX.out.XR _
     obtain⟨xr,hxr⟩:=ze (fA E.2.roots t);obtain⟨xi,hxi⟩:=ze (fA IB t);have uh:Hid (EM SN E.2 IB (D.l.take (i+1))=S1.dD (-d::(xr++xi))):=by show _=_;rw[List.take_add_one,ht];simp only[Option.toList_some];rw[X9,hS];unfold TB.place;rw[hd,hS1,hxr,hxi]
     obtain⟨Vo,gb8,gp8,H8,A8,B8,C8,O8⟩:=FX.out;have HTr:Hid (∀E2 I2 W,eX wr Vo gb8 gp8 X Bs D E2 m3 I2 W->eX w7 gtP gbP gpP X Bs D E2 m3 I2 W):=fun E2 I2 W h=>eX.trans A8 B8 C8 O8 h;have HB8:=zh H8;obtain⟨v3,TA⟩:=H8.1.roots;obtain⟨v4,hRi⟩:=H8.2;have ai6:KI.ok t:=⟨by omega,by omega⟩;have hdis:∀k,Mine Vo k\/Mine gb8 k->¬Mine gp8 k:=H8.1.Kw;have hlr:∀W,Only (fun k=>Mine Vo k\/Mine gb8 k) wr W->(Instr.lookup 151 (.map (some X.m2)) (.int .i64 (t:Int)) false).run Tryz.prog W= .ok (v3 t) W:=fun W o=>TA.look' ai6 o (fun hm=>hdis _ hm (by unfold Mine;rw[TA.tb];simp));have hli:∀W,Only (fun k=>Mine Vo k\/Mine gb8 k) wr W->(Instr.lookup 151 (.map (some m3)) (.int .i64 (t:Int)) false).run Tryz.prog W= .ok (v4 t) W:=fun W o=>hRi.look' ai6 o (fun hm=>hdis _ hm (by unfold Mine;rw[hRi.tb];simp));have hrr:=TA.rowAt t;have hri:=hRi.rowAt t;rw[show fA E.2.roots t=xr from hxr]at hrr;rw[hxi]at hri;have V8:∀W,Only (fun k=>Mine Vo k\/Mine gb8 k) wr W->Ints W (v3 t) xr:=fun W o=>Row.ints (hrr.only o (fun k hk hm=>hdis k hm zBi)) (fun z hz=>by
      obtain⟨e0,he0,hz0⟩:=Jp (show z∈fA E.2.roots t by rw[hxr];exact hz)
      exact TA.rng e0 he0 z hz0)
     have hIi:∀W,Only (fun k=>Mine Vo k\/Mine gb8 k) wr W->Ints W (v4 t) xi:=fun W o=>Row.ints (hri.only o (fun k hk hm=>hdis k hm zBi)) (fun z hz=>by
      obtain⟨e0,he0,hz0⟩:=Jp (show z∈fA IB t by rw[hxi];exact hz)
      exact hRi.rng e0 he0 z hz0)
     have arj:xr.length<=900000:=by rw[<-hxr];exact D7.out.ror t
     have ark:xi.length<=60000:=by rw[<-hxi];have:=HIB.out.2 t;omega
     obtain⟨ar,cr,evr,-,-⟩:=(V8 wr zr).shape;obtain⟨ai,ci',evi,-,-⟩:=(hIi wr zr).shape;rw[evr]at hlr V8;rw[evi]at hli hIi;obtain⟨nr,hnr⟩:=ze xr.length;obtain⟨ni,hni⟩:=ze xi.length;rw[hnr]at hlr V8 arj;rw[hni]at hli hIi ark;have QY:=zh hnr;have HNi:=zh hni;have HIr:=zh V8;have HIi:=zh hIi;have HS8:Hid (∀W,Only (fun k=>Mine Vo k\/Mine gb8 k) wr W->W.cell? ⟨X.px,0,none⟩=some (.pointer (some ⟨X.c,0,none⟩))/\W.cell? ⟨X.px,4,none⟩=some (.map (some X.m2))/\(Instr.lookup 151 (.map (some X.m2)) (.int .i64 (t:Int)) false).run Tryz.prog W= .ok (.slice ar nr cr) W/\(Instr.lookup 151 (.map (some m3)) (.int .i64 (t:Int)) false).run Tryz.prog W= .ok (.slice ai ni ci') W):=fun W o=>by have hm:=O8.zZ A8 B8 C8 (o.mono fun k hk=>.inl hk);have h:=HSP.out W ((yx.out.mono fun _ f=>f.elim).same hm);exact⟨h.1,h.2,hlr W o,hli W o⟩
     have FB:Hid (∀W,O0 wr W->Calls Tryz.prog 164 #[.pointer (some ⟨X.c,0,none⟩),.int .i64 t] W fun e w'=>e= .returned (.int .i64 d)/\BkK wr Vo gb8 gp8 X Bs D (S1,E.2) m3 IB w'):=fun W o=>by rw[<-hS1];exact afO HB8.out o zBk d hd
     obtain⟨nA,hnA⟩:∃n,(-d::(xr++xi)).length=n:=⟨_,rfl⟩;have HCc:Hid (∀w9 W g,BkK wr Vo gb8 gp8 X Bs D (S1,E.2) m3 IB w9->O0 w9 W->W.heap[g]? =some (.cells #[.slice (some ⟨w9.heap.size,0,none⟩) 1 1,.slice ar nr cr,.slice ai ni ci'] 78 (0,0))->Ints W (.slice (some ⟨w9.heap.size,0,none⟩) 1 1) [-d]->Calls Tryz.prog 166 #[.slice (some ⟨g,0,none⟩) 3 3] W fun e w'=> ∃v,e= .returned v/\w'.ownsRow 0 3 1 v nA ((-d::(xr++xi)).map cI)/\(∀k,v.ownBlock=some k->W.heap.size<=k)/\O0 W w'):=fun w9 W g h9 o hb hI=>by obtain⟨_,_,_,_,_,Ok⟩:=h9;rw[<-hnA];exact adY hb hI (HIr.out W (Ok.same (o.mono fun _ f=>f.elim))) (HIi.out W (Ok.same (o.mono fun _ f=>f.elim))) (by rw[QY.out,HNi.out];simp;omega)
     have xg:Hid (∀w9 W v,BkK wr Vo gb8 gp8 X Bs D (S1,E.2) m3 IB w9->O0 w9 W->W.ownsRow 0 3 1 v nA ((-d::(xr++xi)).map cI)->Calls Tryz.prog 163 #[.pointer (some ⟨X.c,0,none⟩),v] W fun e w'=>e= .returned (.tuple #[])/\Only (fun k=>Mine Vo k\/Mine gb8 k) wr w'/\eX w7 gtP gbP gpP X Bs D (EM SN E.2 IB (D.l.take (i+1)),E.2) m3 IB w'):=fun w9 W v h9 o hown=>by
      rw[<-hnA]at hown;have hI2:Ints W v (-d::(xr++xi)):=Ints.fH hown fun z hz=>by
       rcases qY.1 hz with rfl|hz;·exact iL hdb
       rcases qW.1 hz with hz|hz;·exact(HIr.out wr zr).range z hz
       exact(HIi.out wr zr).range z hz
      obtain⟨gt9,gb9,H9b,A9,B9,O9⟩:=h9;refine(aiR H9b o hI2 (by rw[qN,qK,QY.out,HNi.out];omega)).mono fun e w' ⟨he,h⟩=>⟨he,?_,?_⟩;·obtain⟨_,_,_,_,_,Oa⟩:=h;exact O9.GX A9 B9 Oa
      rw[uh.out];exact HTr.out _ _ _ (eX.trans A9 B9 (Agree.refl _ _) (O9.mono fun k hk=>.inl hk) h.bk)
     have ewd:=zw (-d);have hS0:=HS8.out wr.drew (zr.drew);have KD:=zh jh;clear hnA ht hrow hS hd hS1 hxr hxi H8 A8 B8 C8 O8 TA hRi ai6 hdis hlr hli hrr hri V8 hIi evr evi hnr hni jh uh FX HTr;go_wp2_with fail;refine bH (n:=24) (E:=fun _=>false) (S:=fun W=>W.cell? ⟨X.px,0,none⟩=some (.pointer (some ⟨X.c,0,none⟩))/\W.cell? ⟨X.px,4,none⟩=some (.map (some X.m2))/\(Instr.lookup 151 (.map (some X.m2)) (.int .i64 (t:Int)) false).run Tryz.prog W= .ok (.slice ar nr cr) W/\(Instr.lookup 151 (.map (some m3)) (.int .i64 (t:Int)) false).run Tryz.prog W= .ok (.slice ai ni ci') W) zk rfl hS0 (fun hHeld=>?_);refine tW 0 ?_;refine tW 1 ?_;refine tW 2 ?_;refine tK 3 ?_;refine tW 4 ?_;refine tW 5 ?_;refine tW 6 ?_;refine tK 7 ?_;refine tW 8 ?_;refine tW 12 ?_;refine tW 13 ?_;refine tW 14 ?_;refine tK 15 ?_;refine tW 16 ?_;refine tK 17 ?_;refine tW 18 ?_;refine tW 19 ?_;refine tK 20 ?_;refine tO 9 fun K hK=>?_;(go_simp;refine(FB.out _ zBj).mono ?_;rintro e w9 ⟨rfl,h9⟩;have oM:Only (fun k=>Mine Vo k\/Mine gb8 k) wr w9:=(by obtain⟨_,_,_,_,_,O⟩:=h9;exact O);try go_wp2_with fail);refine hK.out _ _ ?_ (fun hHeld=>?_);·(try dsimp only)<;>(exact HS8.out _ oM)
     clear hK K;try simp only[Act.put,gJ,gU,gK,gu,gy,gG]
     refine tW 10 ?_;refine tO 11 fun K hK=>?_;go_simp;refine hK.out _ _ ?_ (fun hHeld=>?_);·(try dsimp only)<;>(exact HS8.out _ zAP)
     clear hK K;try simp only[Act.put,gJ,gU,gK,gu,gy,gG]
     refine tO 21 fun K hK=>?_;go_simp;refine hK.out _ _ ?_ (fun hHeld=>?_);·(try dsimp only)<;>(exact HS8.out _ zAP)
     clear hK K;try simp only[Act.put,gJ,gU,gK,gu,gy,gG]
     refine tO 22 fun K hK=>?_;(go_simp;refine(HCc.out w9 _ _ h9 (by repeat (first|exact Only.refl _ _|apply Only.drew|apply Only.alloc|apply Only.drewN)) (by first|exact qL _ _|exact alloc_at zBz|exact alloc_at rfl) (by first|exact afy _ _ (iL hdb)|exact(afy w9 _ (iL hdb)).aN zAB)).mono ?_;rintro e wA ⟨vA,rfl,rA,bA,oA0⟩;have oA:O0 w9 wA:=Only.same zBj oA0;obtain⟨aA,cA,rfl,-,-⟩:=aC rA;try go_wp2_with fail);refine hK.out _ _ ?_ (fun hHeld=>?_);·(try dsimp only)<;>(exact HS8.out _ (oM.same (oA.mono fun _ f=>f.elim)))
     clear hK K;try simp only[Act.put,gJ,gU,gK,gu,gy,gG]
     refine tO 23 fun K hK=>?_;(go_simp;refine(xg.out w9 wA _ h9 zAL (aI rA zBj (fun _ _ f=>f))).mono ?_;rintro e wB ⟨rfl,oB,hB⟩;try go_wp2_with fail);refine hK.out _ _ ?_ (fun hHeld=>?_);·(try dsimp only)<;>(exact HS8.out _ oB)
     clear hK K;try simp only[Act.put,gJ,gU,gK,gu,gy,gG]
     refine aZ zk ?_ _;have HF:=zh hB;have jh:=KD.out;clear hB oB oA oA0 rA bA h9 oM FB HCc xg HS8 hS0;exact zCl
    obtain rfl:nl=i:=by omega
    have h:=FX.out;rw[qI (yG HNl.out),H9'.out]at h;have HF:=zh (amC.out _ _ _ (eX.after yx.out h));clear h FX;go_wp2_with fail;go_end0;exact⟨rfl,HF.out⟩
end
end Go.Proofs.YtdmmebjjojimiaaGreatDoor
