/- Package edge: back. Printed by gen_edwb.py. -/
import Derived.Test.YtdmmebjjojimiaaGreatDoorG39
set_option maxRecDepth 100000
set_option maxHeartbeats 8000000
set_option linter.all false
namespace Go.Proofs
theorem zBR{p:Prop}(h:p:=by unfold Mine;rw[hk];simp):p:=h
theorem zBu{p:Prop}(h:p:=by intro u hu;obtain⟨q,-,rfl⟩:=yD.1 hu;rfl):p:=h
theorem zC1{p:Prop}(h:p:=by
 refine Ints.dV ?_ fun z hz=>?_
 ·have e1:1+nx=(-n::xs).length:=by rw[qN,QS.out];omega
  rw[e1]at hown
  simpa using hown
 ·rcases qY.1 hz with rfl|hz
  ·exact dL hnb
  ·exact HI.out.range z hz):p:=h
end Go.Proofs
namespace Go.Proofs.YtdmmebjjojimiaaGreatDoor
open Go.RowKit
def nZ(E:ES)(es:List (Nat×Nat)):BS:=es.foldl (fun B e=>BS.edge B E.2 e) (E.1,[])
theorem X7(E:ES)(es:List (Nat×Nat))(e:Nat×Nat):nZ E (es++[e])=BS.edge (nZ E es) E.2 e:=by simp[nZ]
theorem Zo(P:dO):∀(es:List (Nat×Nat)) (B:BS) {N:Nat},(B.2.length<=N/\∀k,(dD B.2 k).length<=N)->((es.foldl (fun B e=>BS.edge B P e) B).2.length<=N+es.length/\∀k,(dD (es.foldl (fun B e=>BS.edge B P e) B).2 k).length<=N+es.length)
 | [],_,_,h=>h
 |e::r,B,N,h=>by
  have:=Zo P r (BS.edge B P e) (N:=N+1) ⟨BG h.1 _ _,BF h.2 _ _⟩
  rw[qN,show N+(r.length+1)=N+1+r.length by omega]
  exact this
theorem Vx(E:ES)(es:List (Nat×Nat)):(nZ E es).2.length<=es.length/\∀k,(dD (nZ E es).2 k).length<=es.length:=by have h:=Zo E.2 es (E.1,[]) (N:=0) ⟨qH _,fun k=>by simp[dD]⟩;rw[Nat.zero_add]at h;exact h
theorem Ip{κ:Type}[DecidableEq κ]{m:List (κ×List Int)}{x:κ}{z:Int}(h:z∈dD m x):∃e∈m,z∈e.2:=by
 unfold dD at h;cases hf:m.find? fun e=>decide (e.1=x)with
 |none=>rw[hf]at h;cases h
 |some e=>rw[hf]at h;exact⟨e,List.mem_of_find?_eq_some hf,h⟩
def zD(S:TB)(D:xC)(P:dO)(i:Nat):TB:=(List.range i).foldl (fun S i=>S.name D.x P i (D.names.getD i ByteArray.empty)) S
theorem X8(S:TB)(D:xC)(P:dO)(i:Nat):zD S D P (i+1)=(zD S D P i).name D.x P i (D.names.getD i ByteArray.empty):=by simp[zD,List.range_succ]
def DW(S:TB)(P:dO)(I:List (Nat×List Int))(l:List Nat):TB:=l.foldl (fun S t=>S.place P I t) S
theorem X9(S:TB)(P:dO)(I:List (Nat×List Int))(l:List Nat)(t:Nat):DW S P I (l++[t])=(DW S P I l).place P I t:=by simp[DW]
def wP(S:TB)(n a:Int)(l:List Int):TB:=l.foldl (fun S b=>S.bG [-n,-a,-b]) S
theorem Vy(S:TB)(n a:Int)(l:List Int)(b:Int):wP S n a (l++[b])=(wP S n a l).bG [-n,-a,-b]:=by simp[wP]
def xI(S:TB)(n:Int)(row:List Int)(k:Nat):TB:=(List.range k).foldl (fun S k=>wP S n (row.getD k 0) (row.drop (k+1))) S
theorem RI(S:TB)(n:Int)(row:List Int)(k:Nat):xI S n row (k+1)=wP (xI S n row k) n (row.getD k 0) (row.drop (k+1)):=by simp[xI,List.range_succ]
def ES.back(E:ES)(D:xC):TB:=DW (zD (nZ E E.2.edges).1 D E.2 D.names.length) E.2 (nZ E E.2.edges).2 D.l
theorem aaU(l:List (Nat×Nat)){i j:Nat}(hi:i<l.length)(hj:j<2):(kQ l)[i*2+j]? =[Value.int .i64 ((l[i]'hi).1:Int),Value.int .i64 ((l[i]'hi).2:Int)][j]? :=by
 induction l generalizing i with
 |nil=>simp at hi
 |cons a r ih=>
  unfold kQ at*;rw[List.flatMap_cons];cases i with
  |zero=>rw[Nat.zero_mul,Nat.zero_add,yM zA1];rfl
  |succ i=>rw[yN zAU];have:=ih (i:=i) zAv;simp only[qN,List.length_nil,List.getElem_cons_succ]at this⊢;rw[show(i+1)*2+j-(0+1+1)=i*2+j by omega];exact this
theorem aef{w:World}{b n c:Nat}{l:List (Nat×Nat)}(h:w.ownsRow 0 226 2 (.slice (some ⟨b,0,none⟩) n c) n (kQ l)){i:Nat}{e:Nat×Nat}(he:l[i]? =some e):w.rangeAt b (i*2) [.int .i64 (e.1:Int),.int .i64 (e.2:Int)]:=by intro j u hu;obtain⟨hi,rfl⟩:=qJ.1 he;have hj:=(qJ.1 hu).1;have:=h.cells (g:=b) rfl (i*2+j) u (by rw[aaU l hi hj];exact hu);simpa[Go.WideShapes.add_plain]using this
section
variable {w w':World} {gt gb gp:Tag} {X:MW} {Bs:Nat} {D:xC} {E:ES} {m3:Nat} {I:List (Nat×List Int)}
theorem ahc(H:uH w gt gb gp X Bs D E m3 I){W:World}(o:O0 w W){v:Value}{xs:List Int}(hI:Ints W v xs)(hb:xs.length<=1000000):
  Calls Tryz.prog 163 #[.pointer (some ⟨X.c,0,none⟩),v] W fun e w'=>e= .returned (.tuple #[])/\Only (fun k=>Mine gt k\/Mine gb k) w w'/\dG w gt gb gp X Bs D (E.1.bG xs,E.2) m3 I w':=
 (YW (H.aH o).1.gx hI hb).mono fun e w' ⟨he,h⟩=>⟨he,by
  have h2:=aZ.after o h
  obtain⟨_,_,_,_,_,O⟩:=h2
  exact O,dG.after o ((H.aH o).step h)⟩
attribute [local irreducible] wpQuiet in
theorem ajg(H:jl w gt gb gp X Bs D E)(hR:EdR D)(hP:uS E.2 900000)(hof:E.2.of.length<=60000)(hkb:∀e∈E.2.edges,e.1<=1000/\e.2<=1000)(hll:D.l.length<=1000):Calls Tryz.prog 81 #[.pointer (some ⟨X.px,0,none⟩)] w fun e w'=>e= .returned (.tuple #[])/\bF w gt gb gp X Bs D (E.back D,E.2) w':=by
 have HR:=zh hR;have Dt:=zh hP;have HKb:=zh hkb;obtain⟨E9,F7⟩:=ze (E.back D);rw[F7];have HE9:=zh F7;obtain⟨w0,hw0⟩:=ze (w.alloc (.map #[] 0));have hB0:dG w gt gb gp X Bs D E w.heap.size [] w0:=by rw[<-hw0];exact uH.made H
 obtain⟨m3,hm3⟩:=ze w.heap.size;rw[hm3]at hB0;obtain⟨gt0,gb0,gp0,H0',A0,B0,C0,O0⟩:=hB0;have H0:=zh H0';have ahd:Hid (∀E2 I2 W,dG w0 gt0 gb0 gp0 X Bs D E2 m3 I2 W->bF w gt gb gp X Bs D E2 W):=fun E2 I2 W h=>(dG.trans A0 B0 C0 O0 h).ed;obtain⟨ne,hne⟩:=ze E.2.edges.length;have avu:ne<=60000:=by rw[<-hne];unfold dO.edges;rw[List.length_mergeSort,qM];exact hof
 have HEd:=zh (agk H0'.1 zAB);have HNe:=zh hne;rw[hne]at HEd;clear H H0' A0 B0 C0 O0 hR hP hkb F7 hne;have hmk:(Instr.makeMap 151 none).run Tryz.prog w= .ok (.map (some m3)) w0:=by rw[<-hm3,<-hw0];exact run_makeMap _ _
 clear hm3;go_enter Tryz.func81,Tryz.ntmps81;go_wp2_with fail;refine HEd.out.mono ?_;rintro e w1 ⟨ve,rfl,hown,hnew,O1⟩;have rG:=zh hown;have Cm:Hid (∀k,ve.ownBlock=some k->¬bP gt0 gb0 gp0 k):=fun k hk=>H0.out.1.lT (hnew k hk);have H1:=zh (H0.out.aH O1);have D9:Hid (∀E2 I2 W,dG w1 gt0 gb0 gp0 X Bs D E2 m3 I2 W->bF w gt gb gp X Bs D E2 W):=fun E2 I2 W h=>ahd.out E2 I2 W (dG.after O1 h);obtain⟨ae,ce,rfl,-,-⟩:=aJ hown;have DU:Hid (dG w1 gt0 gb0 gp0 X Bs D ((nZ E (E.2.edges.take 0)).1,E.2) m3 (nZ E (E.2.edges.take 0)).2 w1):=dG.refl H1.out;clear hown hnew O1 HEd H0 ahd hw0 hmk;go_wp2_with fail;go_loopw [22] (fun vi wr=> ∃i:Nat,vi= .int .i64 i/\i<=ne/\Hid (dG w1 gt0 gb0 gp0 X Bs D ((nZ E (E.2.edges.take i)).1,E.2) m3 (nZ E (E.2.edges.take i)).2 wr)) (fun v _=>ne-(RowKit.intOf v).toNat);case atStart=>exact⟨0,rfl,qE _,DU⟩
 case round=>
  clear DU;obtain⟨i,rfl,hi,EG⟩:=hrel;by_cases ci:i<ne
  ·obtain⟨⟨p,t⟩,hy⟩:∃y,E.2.edges[i]? =some y:=⟨_,qA (by rw[HNe.out];exact ci)⟩;obtain⟨S,hS⟩:=ze ((nZ E (E.2.edges.take i)).1);obtain⟨I,hI⟩:=ze ((nZ E (E.2.edges.take i)).2);have hIl:I.length<=i/\∀k,(dD I k).length<=i:=by have h:=Vx E (E.2.edges.take i);rw[hI,List.length_take]at h;exact⟨by omega,fun k=>by have:=h.2 k;omega⟩
   have hpt:=HKb.out (p,t) (qT hy);rw[hS,hI]at EG;obtain⟨vS,vT,uD,H4',A4,B4,C4,O4⟩:=EG.out;have hrow:=aG rG.out O4 Cm.out;obtain⟨be,ce',e1,-,-⟩:=dU hrow zAB;simp only[qU]at e1;obtain⟨rfl,-,rfl⟩:=e1;have OJ:=zh (aef hrow hy);have iG:=zw (i+1);have kN:Hid (∀S' I',BS.edge (S,I) E.2 (p,t)=(S',I')->nZ E (E.2.edges.take (i+1))=(S',I')):=fun S' I' h=>by rw[List.take_add_one,hy];simp only[Option.toList_some];rw[X7,<-h,<-hS,<-hI]
   obtain⟨wB,hwB⟩:=zB (wr.alloc (.cells #[.int .i64 (p:Int),.int .i64 (t:Int)] 226));have oB:O0 wr wB:=zA2;have hb0:wB.heap[wr.heap.size]? =some (.cells #[.int .i64 (p:Int),.int .i64 (t:Int)] 226 (0,0)):=zA7;have hnm:=H4'.1.lT (qH wr.heap.size);have HB:=zh (H4'.aH oB);obtain⟨bx,hbx⟩:=ze wr.heap.size;rw[hbx]at hb0 hnm;have HS:Hid (∀W,Only (bP vS vT uD) wB W->W.cell? ⟨X.px,0,none⟩=some (.pointer (some ⟨X.c,0,none⟩))/\W.cell? ⟨X.px,2,none⟩=some (.map (some X.m1))/\W.cell? ⟨bx,0,none⟩=some (.int .i64 (p:Int))/\W.cell? ⟨bx,1,none⟩=some (.int .i64 (t:Int))):=fun W o=>by have c0:=aC hb0 o hnm;exact⟨aY HB.out.1.cells.1 o HB.out.1.tp,aY HB.out.1.cells.2.2.1 o HB.out.1.tp,by rw[aj c0];rfl,by rw[aj c0];rfl⟩
   obtain⟨S1,hS1⟩:=ze ((S.num (iV p t)).1);obtain⟨n,hn⟩:=ze ((S.num (iV p t)).2);obtain⟨S2,hS2⟩:=ze ((S1.num (aI p)).1);obtain⟨a,ha⟩:=ze ((S1.num (aI p)).2);obtain⟨S3,hS3⟩:=ze (S2.bG [-n,a]);obtain⟨S4,hS4⟩:=ze ((S3.num (aI t)).1);obtain⟨d,hd⟩:=ze ((S3.num (aI t)).2);obtain⟨S5,hS5⟩:=ze (S4.bG [-n,d]);obtain⟨xs,hxs⟩:=ze (dD E.2.of (p,t));have HBk:Hid (nZ E (E.2.edges.take (i+1))=(S5.bG (-n::xs),dM I t n)):=by show _=_;refine kN.out _ _ ?_;unfold BS.edge;dsimp only;rw[hS1,hn,hS2,ha,hS3,hS4,hd,hS5,hxs]
   have hnb:0<=n/\n<=65536:=by rw[<-hn];exact TB.nY EG.out.MZ _
   have uV:Hid (∀W,O0 wB W->Calls Tryz.prog 75 #[.pointer (some ⟨X.c,0,none⟩),iY (iV p t)] W fun e w'=>e= .returned (.int .i64 n)/\dG wB vS vT uD X Bs D (S1,E.2) m3 I w'):=fun W o=>by rw[<-hS1];exact dG.call (dG.refl HB.out) o fun gt' gb' lS Hx _=>aed Hx (YX ⟨by omega,by omega⟩ ⟨by omega,by omega⟩) n hn
   have HNp:Hid (∀w5,dG wB vS vT uD X Bs D (S1,E.2) m3 I w5->(0<=a/\a<=65536)/\∀W,O0 w5 W->Calls Tryz.prog 164 #[.pointer (some ⟨X.c,0,none⟩),.int .i64 p] W fun e w'=>e= .returned (.int .i64 a)/\dG wB vS vT uD X Bs D (S2,E.2) m3 I w'):=fun w5 h5=>⟨by rw[<-ha];exact TB.nY h5.MZ _,fun W o=>by
    rw[<-hS2]
    exact dG.call h5 o fun gt' gb' lS Hx _=>X5 Hx zAB a ha⟩
   have HAp:Hid (∀w5,dG wB vS vT uD X Bs D (S2,E.2) m3 I w5->∀W,O0 w5 W->Ints W (.slice (some ⟨w5.heap.size,0,none⟩) 2 2) [-n,a]->Calls Tryz.prog 163 #[.pointer (some ⟨X.c,0,none⟩),.slice (some ⟨w5.heap.size,0,none⟩) 2 2] W fun e w'=>e= .returned (.tuple #[])/\dG wB vS vT uD X Bs D (S3,E.2) m3 I w'):=fun w5 h5 W o hI=>by rw[<-hS3];exact dG.call h5 o fun gt' gb' lS Hx _=>Zn Hx hI zAF
   have Xe:Hid (∀w5,dG wB vS vT uD X Bs D (S3,E.2) m3 I w5->(0<=d/\d<=65536)/\∀W,O0 w5 W->Calls Tryz.prog 164 #[.pointer (some ⟨X.c,0,none⟩),.int .i64 t] W fun e w'=>e= .returned (.int .i64 d)/\dG wB vS vT uD X Bs D (S4,E.2) m3 I w'):=fun w5 h5=>⟨by rw[<-hd];exact TB.nY h5.MZ _,fun W o=>by
    rw[<-hS4]
    exact dG.call h5 o fun gt' gb' lS Hx _=>X5 Hx zAB d hd⟩
   have HAt:Hid (∀w5,dG wB vS vT uD X Bs D (S4,E.2) m3 I w5->∀W,O0 w5 W->Ints W (.slice (some ⟨w5.heap.size,0,none⟩) 2 2) [-n,d]->Calls Tryz.prog 163 #[.pointer (some ⟨X.c,0,none⟩),.slice (some ⟨w5.heap.size,0,none⟩) 2 2] W fun e w'=>e= .returned (.tuple #[])/\dG wB vS vT uD X Bs D (S5,E.2) m3 I w'):=fun w5 h5 W o hI=>by rw[<-hS5];exact dG.call h5 o fun gt' gb' lS Hx _=>Zn Hx hI zAF
   have HFin:Hid (∀W,dG wB vS vT uD X Bs D (S5.bG (-n::xs),E.2) m3 (dM I t n) W->dG w1 gt0 gb0 gp0 X Bs D ((nZ E (E.2.edges.take (i+1))).1,E.2) m3 (nZ E (E.2.edges.take (i+1))).2 W):=fun W h=>by rw[HBk.out];exact dG.trans A4 B4 C4 O4 (dG.after oB h)
   have ewn:=zw (-n);have JH:=zh iG;have MV:=zh hxs;have hS0:=HS.out wB.drew (zr.drew);clear hS hI H4' A4 B4 C4 O4 hrow hy hb0 hnm oB hS1 hn hS2 ha hS3 hS4 hd hS5 hxs kN iG EG;go_wp2_with (refine wpList_load_mid rfl 226 (.tmp 24) rfl be (i*2) rfl _ _ OJ.out Tryz.underlying226 rfl zk ?_);try rw[<-hwB]
   try rw[hbx]
   clear hwB hbx;refine bC (n:=11) (E:=fun _=>false) (S:=fun W=>W.cell? ⟨X.px,0,none⟩=some (.pointer (some ⟨X.c,0,none⟩))/\W.cell? ⟨X.px,2,none⟩=some (.map (some X.m1))/\W.cell? ⟨bx,0,none⟩=some (.int .i64 (p:Int))/\W.cell? ⟨bx,1,none⟩=some (.int .i64 (t:Int))) zk rfl hS0 (fun hHeld=>?_);refine tW 0 ?_;refine tW 1 ?_;refine tW 2 ?_;refine tK 3 ?_;refine tW 4 ?_;refine tK 5 ?_;refine tW 6 ?_;refine tK 7 ?_;refine tW 8 ?_;refine tO 9 fun K hK=>?_;(go_simp;refine(uV.out _ zAA).mono ?_;rintro e w5 ⟨rfl,h5⟩;try go_wp2_with fail);refine hK.out _ _ ?_ (fun hHeld=>?_);·(try dsimp only)<;>(exact HS.out _ h5.only)
   clear hK K;try simp only[Act.put,eF,fA,eG,dW,dX,dY]
   refine tW 10 ?_;refine bf zk ?_ _;have H5:=zh h5;obtain⟨hab,ahe⟩:=HNp.out w5 h5;have amu:=zh ahe;have hS0:=HS.out w5.drew (h5.only.drew);clear h5 uV HNp ahe;go_wp2_with fail;refine bC (n:=15) (E:=fun _=>false) (S:=fun W=>W.cell? ⟨X.px,0,none⟩=some (.pointer (some ⟨X.c,0,none⟩))/\W.cell? ⟨X.px,2,none⟩=some (.map (some X.m1))/\W.cell? ⟨bx,0,none⟩=some (.int .i64 (p:Int))/\W.cell? ⟨bx,1,none⟩=some (.int .i64 (t:Int))) zk rfl hS0 (fun hHeld=>?_);refine tW 0 ?_;refine tW 1 ?_;refine tW 2 ?_;refine tK 3 ?_;refine tW 4 ?_;refine tW 5 ?_;refine tW 6 ?_;refine tW 7 ?_;refine tW 8 ?_;refine tK 9 ?_;refine tW 10 ?_;refine tK 11 ?_;refine tO 12 fun K hK=>?_;(go_simp;refine(amu.out _ zAA).mono ?_;rintro e w6 ⟨rfl,h6⟩;have oM:Only (bP vS vT uD) wB w6:=h6.only;try go_wp2_with fail);refine hK.out _ _ ?_ (fun hHeld=>?_);·exact zDR
   clear hK K;try simp only[Act.put,eF,fA,eG,dW,dX,dY]
   refine tO 13 fun K hK=>?_;go_simp;refine hK.out _ _ ?_ (fun hHeld=>?_);·exact zDP
   clear hK K;try simp only[Act.put,eF,fA,eG,dW,dX,dY]
   refine tO 14 fun K hK=>?_;(go_simp;refine(HAp.out w6 h6 _ zBT (by first|exact wR _ _ _ (dL hnb) (gK hab)|exact(wR w6 _ _ (dL hnb) (gK hab)).aH zAA)).mono ?_;rintro e w7 ⟨rfl,h7⟩;try go_wp2_with fail);refine hK.out _ _ ?_ (fun hHeld=>?_);·(try dsimp only)<;>(exact HS.out _ h7.only)
   clear hK K;try simp only[Act.put,eF,fA,eG,dW,dX,dY]
   refine bf zk ?_ _;have H7:=zh h7;obtain⟨hdb,ahf⟩:=Xe.out w7 h7;have amv:=zh ahf;have hS0:=HS.out w7.drew (h7.only.drew);clear h7 h6 oM amu HAp Xe ahf H5;go_wp2_with fail;refine bC (n:=15) (E:=fun _=>false) (S:=fun W=>W.cell? ⟨X.px,0,none⟩=some (.pointer (some ⟨X.c,0,none⟩))/\W.cell? ⟨X.px,2,none⟩=some (.map (some X.m1))/\W.cell? ⟨bx,0,none⟩=some (.int .i64 (p:Int))/\W.cell? ⟨bx,1,none⟩=some (.int .i64 (t:Int))) zk rfl hS0 (fun hHeld=>?_);refine tW 0 ?_;refine tW 1 ?_;refine tW 2 ?_;refine tK 3 ?_;refine tW 4 ?_;refine tW 5 ?_;refine tW 6 ?_;refine tW 7 ?_;refine tW 8 ?_;refine tK 9 ?_;refine tW 10 ?_;refine tK 11 ?_;refine tO 12 fun K hK=>?_;(go_simp;refine(amv.out _ zAA).mono ?_;rintro e w8 ⟨rfl,h8⟩;have oM:Only (bP vS vT uD) wB w8:=h8.only;try go_wp2_with fail);refine hK.out _ _ ?_ (fun hHeld=>?_);·exact zDR
   clear hK K;try simp only[Act.put,eF,fA,eG,dW,dX,dY]
   refine tO 13 fun K hK=>?_;go_simp;refine hK.out _ _ ?_ (fun hHeld=>?_);·exact zDP
   clear hK K;try simp only[Act.put,eF,fA,eG,dW,dX,dY]
   refine tO 14 fun K hK=>?_;(go_simp;refine(HAt.out w8 h8 _ zBT (by first|exact wR _ _ _ (dL hnb) (gK hdb)|exact(wR w8 _ _ (dL hnb) (gK hdb)).aH zAA)).mono ?_;rintro e w9 ⟨rfl,h9⟩;try go_wp2_with fail);refine hK.out _ _ ?_ (fun hHeld=>?_);·exact zDB
   clear hK K;try simp only[Act.put,eF,fA,eG,dW,dX,dY]
   refine bf zk ?_ _;have H9:=zh h9;clear h9 h8 oM amv HAt H7 hS0;obtain⟨gt7,gb7,gp7,H7',A7,B7,C7,O7⟩:=H9.out;have H7:=zh H7';obtain⟨val,hR⟩:=H7'.1.of;have amw:KE.ok (p,t):=⟨⟨by omega,by omega⟩,⟨by omega,by omega⟩⟩;have hvr:=hR.rowAt (p,t);rw[show dD E.2.of (p,t)=xs from MV.out]at hvr;have hvI:Ints w9 (val (p,t)) xs:=Row.ints hvr (fun z hz=>by
    have hz2:z∈dD E.2.of (p,t):=by rw[MV.out];exact hz
    obtain⟨e0,he0,hz0⟩:=Ip hz2
    exact hR.rng e0 he0 z hz0)
   have hlk:∀W,Only (fun k=>Mine gt7 k\/Mine gb7 k) w9 W->(Instr.lookup 150 (.map (some X.m1)) (.agg #[.int .i64 (p:Int),.int .i64 (t:Int)]) false).run Tryz.prog W= .ok (val (p,t)) W:=fun W o=>hR.look' amw o (fun hm=>H7'.1.Jz _ hm (by unfold Mine;rw[hR.tb];simp));obtain⟨ao,cap,ev,-,-⟩:=hvI.shape;rw[ev]at hlk hvI;have hxl:xs.length<=900000:=by rw[<-MV.out];exact Dt.out.ofr (p,t)
   obtain⟨nx,hnx⟩:=ze xs.length;rw[hnx]at hlk hvI hxl;have QS:=zh hnx;have HI:=zh hvI;have HM7:Hid (∀W,Only (fun k=>Mine gt7 k\/Mine gb7 k) w9 W->Only (bP vS vT uD) wB W):=fun W o=>O7.y9 A7 B7 C7 (o.mono fun k hk=>.inl hk);have HS7:Hid (∀W,Only (fun k=>Mine gt7 k\/Mine gb7 k) w9 W->(W.cell? ⟨X.px,0,none⟩=some (.pointer (some ⟨X.c,0,none⟩))/\W.cell? ⟨X.px,2,none⟩=some (.map (some X.m1))/\W.cell? ⟨bx,0,none⟩=some (.int .i64 (p:Int))/\W.cell? ⟨bx,1,none⟩=some (.int .i64 (t:Int)))/\(Instr.lookup 150 (.map (some X.m1)) (.agg #[.int .i64 (p:Int),.int .i64 (t:Int)]) false).run Tryz.prog W= .ok (.slice ao nx cap) W):=fun W o=>⟨HS.out W (HM7.out W o),hlk W o⟩;have HTr:Hid (∀E2 I2 W,dG w9 gt7 gb7 gp7 X Bs D E2 m3 I2 W->dG wB vS vT uD X Bs D E2 m3 I2 W):=fun E2 I2 W h=>dG.trans A7 B7 C7 O7 h;have xg:Hid (∀W,O0 w9 W->∀ad,ao=some ad->∀j u,(xs.map cI)[j]? =some u->W.cell? (ad.add j)=some u):=fun W hW=>(HI.out.aH hW).news;have Fh:Hid (ao=none->nx=0/\cap=0):=fun e=>HI.out.nil nx cap zBs;have HLen:Hid ((xs.map cI).length=nx*1):=by rw[qM,QS.out,yH];exact rfl
   have qj:Hid (∀W v2,O0 w9 W->W.ownsRow 0 3 1 v2 (1+nx) ([cI (-n)]++xs.map cI)->Calls Tryz.prog 163 #[.pointer (some ⟨X.c,0,none⟩),v2] W fun e w'=>e= .returned (.tuple #[])/\Only (fun k=>Mine gt7 k\/Mine gb7 k) w9 w'/\dG w9 gt7 gb7 gp7 X Bs D (S5.bG (-n::xs),E.2) m3 I w'):=fun W v2 hW hown=>by
    have hI2:Ints W v2 (-n::xs):=by exact zC1
    exact ahc H7.out hW hI2 (by rw[qN,QS.out];omega)
   have hS0:=HS7.out w9.drew (zr.drew);clear H7' hR hvr hvI hlk ev hnx A7 B7 C7 O7 amw H9;go_wp2_with fail;refine bC (n:=15) (E:=fun _=>false) (S:=fun W=>(W.cell? ⟨X.px,0,none⟩=some (.pointer (some ⟨X.c,0,none⟩))/\W.cell? ⟨X.px,2,none⟩=some (.map (some X.m1))/\W.cell? ⟨bx,0,none⟩=some (.int .i64 (p:Int))/\W.cell? ⟨bx,1,none⟩=some (.int .i64 (t:Int)))/\(Instr.lookup 150 (.map (some X.m1)) (.agg #[.int .i64 (p:Int),.int .i64 (t:Int)]) false).run Tryz.prog W= .ok (.slice ao nx cap) W) zk rfl hS0 (fun hHeld=>?_);refine tW 0 ?_;refine tW 1 ?_;refine tW 2 ?_;refine tK 3 ?_;refine tW 4 ?_;refine tW 5 ?_;refine tW 7 ?_;refine tW 8 ?_;refine tW 9 ?_;refine tK 10 ?_;refine tK 11 ?_;refine tK 12 ?_;refine tO 6 fun K hK=>?_;go_simp;refine hK.out _ _ ?_ (fun hHeld=>?_);·(try dsimp only)<;>(exact HS7.out _ zAA)
   clear hK K;try simp only[Act.put,eF,fA,eG,dW,dX,dY]
   refine tO 13 fun K hK=>?_;(refine G9 lY (by rfl) (.tmp 72) (.tmp 78) (by rfl) (by rfl) (ug zB1) (by rfl) HLen.out Fh.out zFR zBu zBl (by decide) ?_;intro ao5 cap5 w10 r5 o5 nr5;have oA:O0 w9 w10:=Only.trans zAA o5 (fun k hk=>.inr zBy));refine hK.out _ _ ?_ (fun hHeld=>?_);·(try dsimp only)<;>(exact HS7.out _ (oA.mono fun _ f=>f.elim))
   clear hK K;try simp only[Act.put,eF,fA,eG,dW,dX,dY]
   refine tO 14 fun K hK=>?_;(go_simp;refine(qj.out _ _ zBW (aG r5 zAA (fun _ _ f=>f))).mono ?_;rintro e V4 ⟨rfl,o11,h11⟩;try go_wp2_with fail);refine hK.out _ _ ?_ (fun hHeld=>?_);·(try dsimp only)<;>(exact HS7.out _ o11)
   clear hK K;try simp only[Act.put,eF,fA,eG,dW,dX,dY]
   refine bf zk ?_ _;have H11:=HTr.out _ _ _ h11;clear h11 o11 r5 o5 nr5 oA HS7 HM7 qj xg Fh HLen hS0 H7 HI;obtain⟨UH,gb8,gp8,H8,A8,B8,C8,O8⟩:=H11;obtain⟨ix,v,hrow,hSS,hpu⟩:=H8.ams (e:=t) ⟨by omega,by omega⟩ (z:=n) (gK hnb) (by have:=hIl.1;unfold maxLen;omega);have hrl:=hIl.2 t;obtain⟨ys,hys⟩:=ze (dD I t);rw[hys]at hrow hrl hpu;obtain⟨ao8,amy,rfl,-,-⟩:=hrow.shape;obtain⟨n8,hn8⟩:=ze ys.length;simp only[qM]at hrow hSS;rw[hn8]at hrow hrl hSS;have HS8:Hid (∀W,Only (fun k=>gp8 k=(4,ix+1)) V4 W->W.cell? ⟨bx,1,none⟩=some (.int .i64 (t:Int))/\(Instr.lookup 151 (.map (some m3)) (.int .i64 (t:Int)) false).run Tryz.prog W= .ok (.slice ao8 n8 amy) W):=fun W o=>
    ⟨(HS.out W (O8.y9 A8 B8 C8 (o.mono fun k hk=>.inr zBR))).2.2.2,hSS W o⟩
   have wM:=zh hrow;have HPu:Hid (∀wA w5 v',O0 V4 wA->Only (fun k=>gp8 k=(4,ix+1)) wA w5->Row w5 (Tag.put gp8 wA.heap.size w5.heap.size (4,ix+1)) (4,ix+1) 3 v' (ys.map cI++[cI n])->∃w9,(Instr.mapUpdate 151 (.map (some m3)) (.int .i64 (t:Int)) v').run Tryz.prog w5= .ok () w9/\dG w1 gt0 gb0 gp0 X Bs D ((nZ E (E.2.edges.take (i+1))).1,E.2) m3 (nZ E (E.2.edges.take (i+1))).2 w9):=fun wA w5 v' o1 o2 hr=>by obtain⟨w12,h1,h2⟩:=hpu wA w5 v' o1 o2 hr;exact⟨w12,h1,HFin.out _ (dG.trans A8 B8 C8 O8 h2)⟩
   have HN8:=zh hn8;have hS0:=HS8.out V4.drew (zr.drew);clear hrow hSS hpu hys hn8 H8 A8 B8 C8 O8 HS HTr HFin HB;go_wp2_with fail;refine bC (n:=11) (E:=fun j=>j==10) (S:=fun W=>W.cell? ⟨bx,1,none⟩=some (.int .i64 (t:Int))/\(Instr.lookup 151 (.map (some m3)) (.int .i64 (t:Int)) false).run Tryz.prog W= .ok (.slice ao8 n8 amy) W) zk rfl hS0 (fun hHeld=>?_);refine tW 0 ?_;refine tW 1 ?_;refine tK 2 ?_;refine tW 3 ?_;refine tW 4 ?_;refine tK 5 ?_;refine tK 6 ?_;refine tW 7 ?_;refine tO 8 fun K hK=>?_;go_simp;refine hK.out _ _ ?_ (fun hHeld=>?_);·(try dsimp only)<;>(exact HS8.out _ zAA)
   clear hK K;try simp only[Act.put,eF,fA,eG,dW,dX,dY]
   refine tO 9 fun K hK=>?_;(refine Row.step (u:=.int .i64 n) lY (by rfl) (.tmp 87) (.tmp 89) (by rfl) (by first| (simp only[qM,HN8.out];rfl)|rfl) (by rfl) zBo rfl zBX (by simp only[qM];have:=HN8.out;omega) zAD ?_;intro bb5 asK w12 TG Jy);refine hK.out _ _ ?_ (fun hHeld=>?_);·(try dsimp only)<;>(exact HS8.out _ (Only.same zAA Jy))
   clear hK K;try simp only[Act.put,eF,fA,eG,dW,dX,dY]
   refine fF (rs:=[10]) zk zAF ?_;refine bQ.late (i:=10) rfl zk (fun K hK=>?_) ?_
   ·(obtain⟨SC,IZ,F7⟩:=HPu.out _ w12 _ zAA Jy TG;refine adi (by rfl) (.tmp 81) (.tmp 83) (.tmp 90) (by rfl) (by rfl) (by rfl) (by rfl) IZ ?_);refine hK.out _ _ ?_;clear hK K;try simp only[Act.put,eF,fA,eG,dW,dX,dY]
    refine bf zk ?_ _;have HE:=zh F7;have iG:=JH.out;clear F7 IZ TG Jy HPu wM HS8 hS0;go_wp2_with fail;go_roundw;case rel=>exact⟨i+1,by first|rfl|go_num,by omega,HE⟩
    case measure=>simp[RowKit.intOf]<;>omega
   exact bQ.nil
  obtain rfl:ne=i:=by omega
  clear hi ci;have ajk:=EG.out;rw[qI (yG HNe.out)]at ajk;have ajl:=Vx E E.2.edges;obtain⟨SB,hSB⟩:=ze ((nZ E E.2.edges).1);obtain⟨IB,hIB⟩:=ze ((nZ E E.2.edges).2);rw[HNe.out,hIB]at ajl;rw[hSB,hIB]at ajk;obtain⟨nn,hnn⟩:=ze D.names.length;have HNn:=zh hnn;have H9:Hid (DW (zD SB D E.2 nn) E.2 IB D.l=E9):=by rw[<-HE9.out];unfold ES.back;rw[hSB,hIB,hnn];exact rfl
  obtain⟨I7,I8,LM,H5',A5,B5,C5,O5⟩:=ajk;have H5:=zh H5';have ahh:Hid (∀E2 I2 W,dG wr I7 I8 LM X Bs D E2 m3 I2 W->bF w gt gb gp X Bs D E2 W):=fun E2 I2 W h=>D9.out E2 I2 W (dG.trans A5 B5 C5 O5 h);obtain⟨an,cn,en,hn1,hn2⟩:=aJ H5'.1.names;rw[hnn]at en hn1;have avv:nn<=1000000:=by rw[<-hnn];exact HR.out.g.nl
  have HSN:Hid (∀W,Only (bP I7 I8 LM) wr W->W.cell? ⟨X.px,0,none⟩=some (.pointer (some ⟨X.c,0,none⟩))/\W.cell? ⟨X.px,1,none⟩=some (.slice an nn cn)/\W.cell? ⟨X.px,3,none⟩=some X.sv/\W.cell? ⟨X.px,4,none⟩=some (.map (some X.m2))):=fun W o=>
   ⟨aY H5.out.1.cells.1 o H5.out.1.tp,by rw[<-en];exact aY H5.out.1.cells.2.1 o H5.out.1.tp,aY H5.out.1.cells.2.2.2.1 o H5.out.1.tp,aY H5.out.1.cells.2.2.2.2 o H5.out.1.tp⟩
  have MS:Hid (∀W,Only (bP I7 I8 LM) wr W->∀i s,D.names[i]? =some s->∃bn,an=some ⟨bn,0,none⟩/\W.cell? ⟨bn,i,none⟩=some (.string s)):=fun W o i s hs=>by
   have hrow:=aG H5.out.1.names o H5.out.1.nb;rw[en,HNn.out]at hrow;have hil:i<nn:=by rw[<-HNn.out];exact(qJ.1 hs).1
   obtain⟨b,cap,e,-,-⟩:=dU hrow zAB;simp only[qU]at e;obtain⟨rfl,-,rfl⟩:=e;refine⟨b,rfl,?_⟩;rw[hrow.cellAt i zAB];unfold fH;rw[List.getElem?_map,hs];rfl
  obtain⟨a1,c1,a2,c2,En,F6⟩:=H5'.1.NT;obtain⟨n1,hx1⟩:=ze D.x.packs.length;obtain⟨n2,hx2⟩:=ze D.x.cO.length;rw[hx1]at En;rw[hx2]at F6;have MX:=zh hx1;have Am:=zh (And.intro En F6);have avw:n1<=1000:=by rw[<-hx1];exact HR.out.g.mid.packs
  have HIB:=zh ajl;obtain⟨q0,q1,-⟩:=HSN.out wr zr;have HL5:Hid (dG wr I7 I8 LM X Bs D (zD SB D E.2 0,E.2) m3 IB wr):=dG.refl H5';clear H5' A5 B5 C5 O5 hSB hIB ajl hnn en En F6 hx1 hx2 EG D9 rG Cm H1 HE9 HKb HNe;generalize wr=w5 at*;go_wp2_with fail;go_loopw [97] (fun vi wr=> ∃i:Nat,vi= .int .i64 i/\i<=nn/\Hid (dG w5 I7 I8 LM X Bs D (zD SB D E.2 i,E.2) m3 IB wr)) (fun v _=>nn-(RowKit.intOf v).toNat);case atStart=>exact⟨0,rfl,qE _,HL5⟩
  case round=>
   clear HL5 q0 q1;obtain⟨i,rfl,hi,EG⟩:=hrel;by_cases ci:i<nn
   ·obtain⟨s,hs⟩:=zG D.names i (by rw[HNn.out];exact ci);have hgd:D.names.getD i ByteArray.empty=s:=by rw[qC,hs];rfl
    obtain⟨S,hS⟩:=ze (zD SB D E.2 i);have amA:Hid (zD SB D E.2 (i+1)=S.name D.x E.2 i s):=by show _=_;rw[X8,hS,hgd]
    rw[hS]at EG;obtain⟨bn,rfl,hcell⟩:=MS.out wr EG.out.only i s hs;obtain⟨q0,-⟩:=HSN.out wr EG.out.only;have iG:=zw (i+1);obtain⟨S1,hS1⟩:=ze ((S.num (fU i)).1);obtain⟨n,hn⟩:=ze ((S.num (fU i)).2);obtain⟨xs,hxs⟩:=ze (E.2.needs.getD i []);obtain⟨S2,hS2⟩:∃q,S1.bG (-n::xs)=q:=⟨_,rfl⟩;obtain⟨pv,hpv⟩:=ze (D.x.dh s);have hpl:=zi D.x s;have kN:Hid (∀S3 zs S4,S2.nums (pv.map aI)=(S3,zs)->S3.bG (-n::zs)=S4->zD SB D E.2 (i+1)=S4.pairs n zs):=fun S3 zs S4 e1 e2=>by rw[amA.out];unfold TB.name;dsimp only;rw[hS1,hn,hxs,hS2,hpv,e1];dsimp only;rw[e2]
    have hnb:0<=n/\n<=65536:=by rw[<-hn];exact TB.nY EG.out.MZ _
    have uV:Hid (Calls Tryz.prog 75 #[.pointer (some ⟨X.c,0,none⟩),iY (fU i)] wr fun e w'=>e= .returned (.int .i64 n)/\dG w5 I7 I8 LM X Bs D (S1,E.2) m3 IB w'):=by rw[<-hS1];exact dG.call EG.out zr fun gt' gb' lS Hx _=>aed Hx (ac4 ⟨by omega,by omega⟩) n hn
    have JH:=zh iG;have MV:=zh hxs;have HS2:=zh hS2;rw[hpv]at hpl;obtain⟨np,hnp⟩:=ze pv.length;have HNp:=zh hnp;rw[hnp,MX.out]at hpl;have avy:=hpl.1;have HPt:=zh hpl.2;have VL:=zh hpv;clear hs hgd hS hS1 hn hxs hS2 hpv hpl hnp iG amA;go_wp2_with fail;refine uV.out.mono ?_;rintro e w6 ⟨rfl,h6⟩;have H6:=zh h6;clear h6 uV EG q0 hcell;obtain⟨gt6,gb6,gp6,H6',A6,B6,C6,O6⟩:=H6.out;have HB6:=zh H6';have amD:Hid (∀E2 I2 W,dG w6 gt6 gb6 gp6 X Bs D E2 m3 I2 W->dG w5 I7 I8 LM X Bs D E2 m3 I2 W):=fun E2 I2 W h=>dG.trans A6 B6 C6 O6 h;obtain⟨us,hN⟩:=H6'.1.needs;have hul:us.length=nn:=by rw[hN.len,H6'.1.Jp,HNn.out]
    obtain⟨bs,cps,esv,-,-,htb,-⟩:=hN.row.pos zAB;rw[hul]at esv;have hrow:=hN.row;rw[esv]at hrow;have hvr:=hN.rows i (by rw[H6'.1.Jp,HNn.out];exact ci);rw[show E.2.needs.getD i []=xs from MV.out]at hvr;obtain⟨vv,hvv⟩:=ze (us.getD i dF);have hcl:∀W,Only (fun k=>Mine gt6 k\/Mine gb6 k) w6 W->W.cell? ⟨bs,i,none⟩=some vv:=fun W o=>by rw[<-hvv];exact aY (hrow.cell dF zAB) o (fun hm=>H6'.1.Jz _ hm (by unfold Mine;rw[htb];simp))
    rw[hvv]at hvr;have hvI:Ints w6 vv xs:=Row.ints hvr (fun z hz=>by
     refine hN.rng xs ?_ z hz
     rw[<-MV.out,qC,qA (by rw[H6'.1.Jp,HNn.out];exact ci)]
     exact qZ _)
    obtain⟨ao,cap,rfl,-,-⟩:=hvI.shape;have hxl:xs.length<=900000:=by rw[<-MV.out];exact Dt.out.nr i
    obtain⟨nx,hnx⟩:=ze xs.length;rw[hnx]at hcl hvI hxl;have QS:=zh hnx;have HI:=zh hvI;have HSv:=zh esv;have HS6:Hid (∀W,Only (fun k=>Mine gt6 k\/Mine gb6 k) w6 W->W.cell? ⟨X.px,0,none⟩=some (.pointer (some ⟨X.c,0,none⟩))/\W.cell? ⟨X.px,3,none⟩=some (.slice (some ⟨bs,0,none⟩) nn cps)/\W.cell? ⟨bs,i,none⟩=some (.slice ao nx cap)):=fun W o=>by have h:=HSN.out W (O6.y9 A6 B6 C6 (o.mono fun k hk=>.inl hk));rw[HSv.out]at h;exact⟨h.1,h.2.2.1,hcl W o⟩
    have xg:Hid (∀W,O0 w6 W->∀ad,ao=some ad->∀j u,(xs.map cI)[j]? =some u->W.cell? (ad.add j)=some u):=fun W hW=>(HI.out.aH hW).news;have Fh:Hid (ao=none->nx=0/\cap=0):=fun e=>HI.out.nil nx cap zBs;have HLen:Hid ((xs.map cI).length=nx*1):=by rw[qM,QS.out,yH];exact rfl
    have qj:Hid (∀W v2,O0 w6 W->W.ownsRow 0 3 1 v2 (1+nx) ([cI (-n)]++xs.map cI)->Calls Tryz.prog 163 #[.pointer (some ⟨X.c,0,none⟩),v2] W fun e w'=>e= .returned (.tuple #[])/\Only (fun k=>Mine gt6 k\/Mine gb6 k) w6 w'/\dG w6 gt6 gb6 gp6 X Bs D (S2,E.2) m3 IB w'):=fun W v2 hW hown=>by
     have hI2:Ints W v2 (-n::xs):=by exact zC1
     rw[<-HS2.out];exact ahc HB6.out hW hI2 (by rw[qN,QS.out];omega)
    have ewn:=zw (-n);have hS0:=HS6.out w6.drew (zr.drew);clear H6' hN hrow hvr hcl hvI hnx A6 B6 C6 O6 esv htb hul hvv H6;go_wp2_with fail;refine bC (n:=16) (E:=fun _=>false) (S:=fun W=>W.cell? ⟨X.px,0,none⟩=some (.pointer (some ⟨X.c,0,none⟩))/\W.cell? ⟨X.px,3,none⟩=some (.slice (some ⟨bs,0,none⟩) nn cps)/\W.cell? ⟨bs,i,none⟩=some (.slice ao nx cap)) zk rfl hS0 (fun hHeld=>?_);refine tW 0 ?_;refine tW 1 ?_;refine tW 2 ?_;refine tK 3 ?_;refine tW 4 ?_;refine tW 5 ?_;refine tW 7 ?_;refine tW 8 ?_;refine tW 9 ?_;refine tK 10 ?_;refine tW 11 ?_;refine tW 12 ?_;refine tK 13 ?_;refine tO 6 fun K hK=>?_;go_simp;refine hK.out _ _ ?_ (fun hHeld=>?_);·(try dsimp only)<;>(exact HS6.out _ zAA)
    clear hK K;try simp only[Act.put,eF,fA,eG,dW,dX,dY]
    refine tO 14 fun K hK=>?_;(refine G9 lY (by rfl) (.tmp 115) (.tmp 122) (by rfl) (by rfl) (ug zB1) (by rfl) HLen.out Fh.out zFR zBu zBl (by decide) ?_;intro ao5 cap5 w7 r5 o5 nr5;have oA:O0 w6 w7:=Only.trans zAA o5 (fun k hk=>.inr zBy));refine hK.out _ _ ?_ (fun hHeld=>?_);·(try dsimp only)<;>(exact HS6.out _ (oA.mono fun _ f=>f.elim))
    clear hK K;try simp only[Act.put,eF,fA,eG,dW,dX,dY]
    refine tO 15 fun K hK=>?_;(go_simp;refine(qj.out _ _ zBW (aG r5 zAA (fun _ _ f=>f))).mono ?_;rintro e w8 ⟨rfl,o8,h8⟩;try go_wp2_with fail);refine hK.out _ _ ?_ (fun hHeld=>?_);·(try dsimp only)<;>(exact HS6.out _ o8)
    clear hK K;try simp only[Act.put,eF,fA,eG,dW,dX,dY]
    refine bf zk ?_ _;have H8:=zh (amD.out _ _ _ h8);clear h8 o8 r5 o5 nr5 oA HS6 qj xg Fh HLen hS0 HI amD HB6 HSv;obtain⟨q0,-⟩:=HSN.out w8 H8.out.only;have Eo:Hid (Calls Tryz.prog 78 #[.pointer (some ⟨X.c,0,none⟩)] w8 fun e w'=>e= .returned (.agg #[.slice a1 n1 c1,.slice a2 n2 c2])/\O0 w8 w'):=by obtain⟨_,_,_,Hy,_⟩:=H8.out;exact jQ Hy.1.gx.gr Am.out.1 Am.out.2
    have Jm:Hid (∀W,O0 w8 W->Calls Tryz.prog 165 #[.agg #[.slice a1 n1 c1,.slice a2 n2 c2],.string s] W fun e w'=> ∃v,e= .returned v/\w'.ownsRow 0 3 1 v np (gW pv)/\(∀k,v.ownBlock=some k->W.heap.size<=k)/\O0 W w'):=fun W o=>by obtain⟨_,_,_,Hy,_⟩:=H8.out;have h:=(Hy.aH o).1.gx.Ef;rw[Am.out.1,Am.out.2]at h;have h2:=nO h (by rw[MX.out];omega) s;rw[VL.out,HNp.out]at h2;exact h2
    go_wp2_with fail;refine Eo.out.mono ?_;rintro e w9 ⟨rfl,O9⟩;have amF:=zh (Jm.out w9 O9);have BZ:=zh O9;clear O9 Eo Jm q0;go_wp2_with fail;refine amF.out.mono ?_;rintro e wA ⟨vp,rfl,r3,b3,o3⟩;have Uh:Hid (O0 w8 wA):=BZ.out.same o3;obtain⟨ap,cp,rfl,-,-⟩:=aJ r3;have Yy:=zh r3;obtain⟨Zp,Zq,Zr,HA',AA,BA,CA,OA⟩:=H8.out;have amG:Hid (∀k,(Value.slice ap np cp).ownBlock=some k->¬bP Zp Zq Zr k):=fun k hk=>HA'.1.lT (qR BZ.out.size (b3 k hk));have HAA:=zh (HA'.aH Uh.out);have aqi:Hid (∀E2 I2 W,dG wA Zp Zq Zr X Bs D E2 m3 I2 W->dG w5 I7 I8 LM X Bs D E2 m3 I2 W):=fun E2 I2 W h=>dG.trans AA BA CA (OA.same (Uh.out.mono fun _ f=>f.elim)) (dG.after zr h);have HSA:Hid (∀W,Only (bP Zp Zq Zr) wA W->W.cell? ⟨X.px,0,none⟩=some (.pointer (some ⟨X.c,0,none⟩))):=fun W o=>(HSN.out W ((OA.same (Uh.out.mono fun _ f=>f.elim)).y9 AA BA CA o)).1;have vC:=zh HAA.out.1.sizes;have HL9:Hid (jJ wA Zp Zq Zr X Bs D (((S2.nums ((pv.take 0).map aI)).1),E.2) m3 IB wA dF (S2.nums ((pv.take 0).map aI)).2):=jJ.start (dG.refl HAA.out);clear r3 b3 o3 BZ amF HA' AA BA CA OA H8 Uh;go_wp2_with fail;go_loopw [9,133] (fun v9 vj wr=> ∃j:Nat,vj= .int .i64 j/\j<=np/\Hid (jJ wA Zp Zq Zr X Bs D (((S2.nums ((pv.take j).map aI)).1),E.2) m3 IB wr v9 (S2.nums ((pv.take j).map aI)).2)) (fun _ v _=>np-(RowKit.intOf v).toNat);case atStart=>exact⟨0,rfl,qE _,HL9⟩
    case round=>
     clear HL9;obtain⟨j,rfl,hj,wM⟩:=hrel;by_cases cj:j<np
     ·obtain⟨t,ht⟩:=zG pv j (by rw[HNp.out];exact cj);have hcell:wr.cell? ⟨(match ap with|some a=>a.block|none=>0),j,none⟩=some (.int .i64 t)/\∃b,ap=some ⟨b,0,none⟩:=by have hrow:=aG Yy.out wM.out.bk.only amG.out;obtain⟨b,cap,e,-,-⟩:=dU hrow zAB;simp only[qU]at e;obtain⟨rfl,-,rfl⟩:=e;refine⟨?_,b,rfl⟩;show wr.cell? ⟨b,j,none⟩=_;rw[hrow.cellAt j zAB];unfold gW;rw[List.getElem?_map,ht];rfl
      obtain⟨hcell,bt3,rfl⟩:=hcell;have htb:t<=1000:=by have:=HPt.out t (qT ht);omega
      obtain⟨S3,hS3⟩:=ze ((S2.nums ((pv.take j).map aI)).1);obtain⟨zs,hzs⟩:=ze ((S2.nums ((pv.take j).map aI)).2);have hzl:zs.length<=1000:=by rw[<-hzs];show(S2.1.nums _).2.length<=1000;rw[Tab.jT,qM,List.length_take];omega
      rw[hS3,hzs]at wM;obtain⟨q,hq⟩:=ze ((S3.num (aI t)).2);obtain⟨S4,hS4⟩:=ze ((S3.num (aI t)).1);have Ku:Hid (S2.nums ((pv.take (j+1)).map aI)=(S4,zs++[q])):=by show _=_;rw[List.take_add_one,ht];simp only[Option.toList_some,List.map_append,List.map_cons,List.map_nil];rw[TB.sF,hS3,hzs,hq,hS4]
      have EF:Hid (Calls Tryz.prog 164 #[.pointer (some ⟨X.c,0,none⟩),.int .i64 t] wr fun e w'=>e= .returned (.int .i64 q)/\jJ wA Zp Zq Zr X Bs D (S4,E.2) m3 IB w' u9 zs):=by rw[<-hS4];exact jJ.call wM.out zr fun gt' gb' lS Hx=>X5 Hx zAB q hq
      have q0:=HSA.out wr wM.out.bk.only;have WJ:=zw (j+1);have HEj:=zh WJ;obtain⟨au,cu,hu,-,-⟩:∃au cu,u9= .slice au zs.length cu/\zs.length<=cu/\cu<=maxLen:=aJ wM.out.own;subst hu;clear ht hS3 hzs hq hS4 WJ wM;go_wp2_with fail;refine EF.out.mono ?_;rintro e wb ⟨rfl,hb⟩;have Hb:=zh hb;have ahj:=zh hb.own;clear hb EF q0 hcell;go_wp2_with (at_builtin;go_must (refine AL (u:=.int .i64 q) lY rfl (.tmp 137) (.tmp 144) rfl rfl rfl (cell_new0 _ _ _) rfl (aG ahj.out ((Only.refl (fun _=>False) _).alloc _) (fun _ _ f=>f)) zAB zBV ?_));intro v' w6' s1 s2 s3;have aqk:Hid (jJ wA Zp Zq Zr X Bs D (((S2.nums ((pv.take (j+1)).map aI)).1),E.2) m3 IB w6' v' (S2.nums ((pv.take (j+1)).map aI)).2):=by rw[Ku.out];exact jJ.app vC.out Hb.out ((Only.refl (fun _=>False) wb).alloc _) s1 s2 s3
      obtain⟨g6,c6',rfl,-,-,-⟩:=s3;have WJ:=HEj.out;clear s1 s2 Hb ahj;go_wp2_with fail;go_roundw;case rel=>exact⟨j+1,by first|rfl|go_num,by omega,aqk⟩
      case measure=>simp[RowKit.intOf]<;>omega
     obtain rfl:np=j:=by omega
     clear hj cj;rw[qI (yG HNp.out)]at wM;obtain⟨S3,hS3⟩:=ze ((S2.nums (pv.map aI)).1);obtain⟨zs,hzs⟩:=ze ((S2.nums (pv.map aI)).2);have hzl:zs.length<=1000:=by rw[<-hzs];show(S2.1.nums _).2.length<=1000;rw[Tab.jT,qM,HNp.out];omega
     have hzb:∀y∈zs,0<=y/\y<=65536:=by
      rw[<-hzs];have:=(Tab.sW (pv.map aI) (T:=S2.1) (by
       have h:=HAA.out.1.ok
       simpa[TB.nums,Tab.nums]using h)).2
      exact this
     obtain⟨S4,hS4⟩:∃q,S3.bG (-n::zs)=q:=⟨_,rfl⟩;have HFn:Hid (zD SB D E.2 (i+1)=S4.pairs n zs):=kN.out S3 zs S4 (by rw[<-hS3,<-hzs]) hS4;rw[hS3,hzs]at wM;obtain⟨nz,hnz⟩:=ze zs.length;have HNz:=zh hnz;have XD:=zh hzb;obtain⟨au,cu,hu,-,-⟩:∃au cu,u9= .slice au zs.length cu/\zs.length<=cu/\cu<=maxLen:=aJ wM.out.own;subst hu;rw[hnz]at hzl;have ahk:Hid (wr.ownsRow 0 3 1 (.slice au nz cu) nz (zs.map cI)):=by have h:=wM.out.own;rw[hnz]at h;exact h
     rw[hnz]at wM⊢;have hzI:∀z∈zs,bg z:=fun z hz=>gK (hzb z hz);have HIz:Hid (Ints wr (.slice au nz cu) zs):=Ints.dV (by rw[hnz];exact ahk.out) hzI;have xg:Hid (∀W,O0 wr W->∀ad,au=some ad->∀j u,(zs.map cI)[j]? =some u->W.cell? (ad.add j)=some u):=fun W hW=>(HIz.out.aH hW).news;have Fh:Hid (au=none->nz=0/\cu=0):=fun e=>HIz.out.nil nz cu zBs;have HLen:Hid ((zs.map cI).length=nz*1):=by rw[qM,HNz.out,yH];exact rfl
     have qj:Hid (∀W v2,O0 wr W->W.ownsRow 0 3 1 v2 (1+nz) ([cI (-n)]++zs.map cI)->Calls Tryz.prog 163 #[.pointer (some ⟨X.c,0,none⟩),v2] W fun e w'=>e= .returned (.tuple #[])/\jJ wA Zp Zq Zr X Bs D (S4,E.2) m3 IB w' (.slice au nz cu) zs):=fun W v2 hW hown=>by
      have hI2:Ints W v2 (-n::zs):=by
       refine Ints.dV ?_ fun z hz=>?_
       ·have e1:1+nz=(-n::zs).length:=by rw[qN,HNz.out];omega
        rw[e1]at hown;simpa using hown
       rcases qY.1 hz with rfl|hz;·exact dL hnb
       exact gK (XD.out z hz)
      rw[<-hS4];exact jJ.call wM.out hW fun gt' gb' lS Hx=>Zn Hx hI2 (by rw[qN,HNz.out];omega)
     have ewn:=zw (-n);have hS0:wr.drew.cell? ⟨X.px,0,none⟩=some (.pointer (some ⟨X.c,0,none⟩)):=HSA.out wr.drew (wM.out.bk.only.drew);have HON:=zh wM.out.bk.only;clear hS3 hzs hzb hnz hzI Yy amG kN vC;go_wp2_with fail;refine bC (n:=10) (E:=fun _=>false) (S:=fun W=>W.cell? ⟨X.px,0,none⟩=some (.pointer (some ⟨X.c,0,none⟩))) zk rfl hS0 (fun hHeld=>?_);refine tW 0 ?_;refine tW 1 ?_;refine tW 2 ?_;refine tK 3 ?_;refine tW 4 ?_;refine tW 5 ?_;refine tW 7 ?_;refine tO 6 fun K hK=>?_;go_simp;refine hK.out _ _ ?_ (fun hHeld=>?_);·(try dsimp only)<;>(exact HSA.out _ (HON.out.same ((zAA:O0 wr _).mono fun _ f=>f.elim)))
     clear hK K;try simp only[Act.put,eF,fA,eG,dW,dX,dY]
     refine tO 8 fun K hK=>?_;(refine G9 lY (by rfl) (.tmp 153) (.tmp 154) (by rfl) (by rfl) (ug zB1) (by rfl) HLen.out Fh.out zFR zBu zBl (by decide) ?_;intro ao5 cap5 wd r5 o5 nr5;have oA:O0 wr wd:=Only.trans zAA o5 (fun k hk=>.inr zBy));refine hK.out _ _ ?_ (fun hHeld=>?_);·(try dsimp only)<;>(exact HSA.out _ (HON.out.same (oA.mono fun _ f=>f.elim)))
     clear hK K;try simp only[Act.put,eF,fA,eG,dW,dX,dY]
     refine tO 9 fun K hK=>?_;(go_simp;refine(qj.out _ _ zBW (aG r5 zAA (fun _ _ f=>f))).mono ?_;rintro e wc ⟨rfl,hc⟩;try go_wp2_with fail);refine hK.out _ _ ?_ (fun hHeld=>?_);·(try dsimp only)<;>(exact HSA.out _ hc.bk.only)
     clear hK K;try simp only[Act.put,eF,fA,eG,dW,dX,dY]
     refine bf zk ?_ _;have Hc:=zh hc;clear hc r5 o5 nr5 oA qj xg Fh HLen hS0 HIz wM HON ahk ewn;have HLp:Hid (jJ wA Zp Zq Zr X Bs D (xI S4 n zs 0,E.2) m3 IB wc (.slice au nz cu) zs):=Hc.out;clear Hc;go_wp2_with fail;generalize wc=wf at*;go_loopw [159] (fun vk wr=> ∃k:Nat,vk= .int .i64 k/\k<=nz/\Hid (jJ wA Zp Zq Zr X Bs D (xI S4 n zs k,E.2) m3 IB wr (.slice au nz cu) zs)) (fun v _=>nz-(RowKit.intOf v).toNat);case atStart=>exact⟨0,rfl,qE _,HLp⟩
     case round=>
      clear HLp;obtain⟨k,rfl,hk,HRk⟩:=hrel;by_cases ck:k<nz
      ·have hkl:k<zs.length:=by rw[HNz.out];exact ck
       obtain⟨a,ha⟩:=ze (zs.getD k 0);have hab:0<=a/\a<=65536:=by rw[<-ha];exact XD.out _ (mW 0 hkl)
       have hIk:Ints wr (.slice au nz cu) zs:=Ints.dV HRk.out.own (fun z hz=>gK (XD.out z hz));obtain⟨bb,off,rfl,hcell⟩:=hIk.Fg hkl;rw[ha]at hcell;obtain⟨aa,cc,hcc,hc1,-⟩:=hIk.shape;simp only[qU]at hcc;obtain⟨-,-,hcc⟩:=hcc;subst hcc;rw[HNz.out]at hc1;have hsl:=fun W=>vZ bb off nz (k+1) cu zBU hc1 W ((k:Int)+1) zAB;obtain⟨o',ho'⟩:∃o',o'=if cu=k+1 then off else off+(k+1):=⟨_,rfl⟩
       obtain⟨m,hm⟩:=ze (nz-(k+1));have hm6:m<=1000:=zAB;obtain⟨c2',hc2'⟩:=ze (cu-(k+1));have HD:Hid (∀W,Ints W (.slice (some ⟨bb,off,none⟩) nz cu) zs->Ints W (.slice (some ⟨bb,o',none⟩) m c2') (zs.drop (k+1))):=fun W hW=>by have:=hW.abX (k:=k+1) zAB;rw[<-ho',hm,hc2']at this;exact this
       rw[<-ho',hm,hc2']at hsl;have hdl:(zs.drop (k+1)).length=m:=by rw[List.length_drop,HNz.out,hm]
       have HDl:=zh hdl;have TI:=zw (k+1);obtain⟨Sk,hSk⟩:=ze (xI S4 n zs k);have aqp:Hid (xI S4 n zs (k+1)=wP Sk n a (zs.drop (k+1))):=by show _=_;rw[RI,hSk,ha]
       rw[hSk]at HRk;have HLi:Hid (jJ wA Zp Zq Zr X Bs D (wP Sk n a ((zs.drop (k+1)).take 0),E.2) m3 IB wr (.slice (some ⟨bb,off,none⟩) nz cu) zs):=HRk.out;clear hIk hkl ha ho' hm hc2' hSk hdl HRk;go_wp2_with fail;generalize wr=wg at*;go_loopw [169] (fun vj wr=> ∃j:Nat,vj= .int .i64 j/\j<=m/\Hid (jJ wA Zp Zq Zr X Bs D (wP Sk n a ((zs.drop (k+1)).take j),E.2) m3 IB wr (.slice (some ⟨bb,off,none⟩) nz cu) zs)) (fun v _=>m-(RowKit.intOf v).toNat);case atStart=>exact⟨0,rfl,qE _,HLi⟩
       case round=>
        clear HLi hcell hsl;obtain⟨j,rfl,hj,HRj⟩:=hrel;by_cases cj:j<m
        ·have hjl:j<(zs.drop (k+1)).length:=by rw[HDl.out];exact cj
         obtain⟨b,hb⟩:=ze ((zs.drop (k+1)).getD j 0);have hbb:0<=b/\b<=65536:=by rw[<-hb];exact XD.out _ (List.mem_of_mem_drop (mW 0 hjl))
         have hIj:Ints wr (.slice (some ⟨bb,off,none⟩) nz cu) zs:=Ints.dV HRj.out.own (fun z hz=>gK (XD.out z hz));obtain⟨bb2,off2,e2,hcell⟩:=(HD.out wr hIj).Fg hjl;simp only[qG,qO,and_true]at e2;obtain⟨rfl,rfl⟩:=e2;rw[hb]at hcell;have aqr:Hid (wP Sk n a ((zs.drop (k+1)).take (j+1))=(wP Sk n a ((zs.drop (k+1)).take j)).bG [-n,-a,-b]):=by
          show _=_;rw[yL hjl,Vy];have e:(zs.drop (k+1))[j]'hjl=b:=by rw[<-hb,qC,qA hjl];rfl
          rw[e]
         have qj:Hid (Calls Tryz.prog 163 #[.pointer (some ⟨X.c,0,none⟩),.slice (some ⟨wr.heap.size,0,none⟩) 3 3] (wr.alloc (.cells #[.int .i64 (-n),.int .i64 (-a),.int .i64 (-b)] 3)) fun e w'=>e= .returned (.tuple #[])/\jJ wA Zp Zq Zr X Bs D (wP Sk n a ((zs.drop (k+1)).take (j+1)),E.2) m3 IB w' (.slice (some ⟨bb,off,none⟩) nz cu) zs):=by rw[aqr.out];exact jJ.call HRj.out (zr.alloc _) fun gt' gb' lS Hx=>Zn Hx (UL wr (-n) (-a) (-b) (dL hnb) (dL hab) (dL hbb)) zAF
         have q0:=HSA.out wr HRj.out.bk.only;have ewn:=zw (-n);have ewa:=zw (-a);have ewb:=zw (-b);have WJ:=zw (j+1);have HEj:=zh WJ;clear hIj hjl hb HRj WJ;go_wp2_with fail;refine qj.out.mono ?_;rintro e wh ⟨rfl,hh⟩;have HH:=zh hh;have WJ:=HEj.out;clear hh qj q0 ewn ewa ewb hcell;go_wp2_with fail;go_roundw;case rel=>exact⟨j+1,by first|rfl|go_num,by omega,HH⟩
         case measure=>simp[RowKit.intOf]<;>omega
        obtain rfl:m=j:=by omega
        have HF:Hid (jJ wA Zp Zq Zr X Bs D (xI S4 n zs (k+1),E.2) m3 IB wr (.slice (some ⟨bb,off,none⟩) nz cu) zs):=by rw[aqp.out];have h:=HRj.out;rw[qI (yG HDl.out)]at h;exact h
        clear HRj;exact zCj
      obtain rfl:nz=k:=by omega
      have HF:Hid (dG w5 I7 I8 LM X Bs D (zD SB D E.2 (i+1),E.2) m3 IB wr):=by refine aqi.out _ _ _ ?_;rw[HFn.out];have h:=HRk.out.bk;rw[<-HNz.out]at h;exact h
      have iG:=JH.out;clear HRk;exact zCk
   obtain rfl:nn=i:=by omega
   clear hi ci;obtain⟨SN,hSN⟩:=ze (zD SB D E.2 nn);rw[hSN]at EG H9;have H9':=zh H9.out;obtain⟨gtP,gbP,gpP,HP',AP,BP,CP,OP⟩:=EG.out;have ajq:(intsOf D.l).length=D.l.length:=by unfold intsOf;rw[qM]
   obtain⟨nl,hnl⟩:=ze D.l.length;have ajr:=zh (x9 HP'.1.gx.gr HP'.1.gx.l (by rw[ajq];omega));rw[ajq,hnl]at ajr;have uh:=zh hnl;have hlt:=HR.out.g.lt;have amH:Hid (∀E2 I2 W,dG wr gtP gbP gpP X Bs D E2 m3 I2 W->bF w gt gb gp X Bs D E2 W):=fun E2 I2 W h=>ahh.out E2 I2 W (dG.trans AP BP CP OP h);have HBP:=zh HP';have HSP:Hid (∀W,Only (bP gtP gbP gpP) wr W->W.cell? ⟨X.px,0,none⟩=some (.pointer (some ⟨X.c,0,none⟩))/\W.cell? ⟨X.px,4,none⟩=some (.map (some X.m2))):=fun W o=>⟨(HSN.out W (OP.y9 AP BP CP o)).1,(HSN.out W (OP.y9 AP BP CP o)).2.2.2⟩;obtain⟨q0,-⟩:=HSP.out wr zr;rw[hnl]at hll;clear HP' AP BP CP OP hSN ajq hnl EG HSN MS H5 ahh H9;generalize wr=w6 at*;go_wp2_with fail;refine ajr.out.mono ?_;rintro e w7 ⟨vp,rfl,r3,b3,o3⟩;obtain⟨ap,cp,rfl,-,-⟩:=aJ r3;have Yy:=zh r3;have aqt:Hid (∀k,(Value.slice ap nl cp).ownBlock=some k->¬bP gtP gbP gpP k):=fun k hk=>HBP.out.1.lT (b3 k hk);have HB7:=zh (HBP.out.aH o3);have pG:=zh o3;have HL7:Hid (dG w7 gtP gbP gpP X Bs D (DW SN E.2 IB (D.l.take 0),E.2) m3 IB w7):=dG.refl HB7.out;clear r3 b3 o3 ajr q0 HBP;go_wp2_with fail;go_loopw [194] (fun vi wr=> ∃i:Nat,vi= .int .i64 i/\i<=nl/\Hid (dG w7 gtP gbP gpP X Bs D (DW SN E.2 IB (D.l.take i),E.2) m3 IB wr)) (fun v _=>nl-(RowKit.intOf v).toNat);case atStart=>exact⟨0,rfl,qE _,HL7⟩
   case round=>
    clear HL7;obtain⟨i,rfl,hi,EG⟩:=hrel;by_cases ci:i<nl
    ·obtain⟨t,ht⟩:=zG D.l i zAu;have hrow:=aG Yy.out EG.out.only aqt.out;obtain⟨bt3,cap,e1,-,-⟩:=dU hrow zAB;simp only[qU]at e1;obtain⟨rfl,-,rfl⟩:=e1;have hcell:wr.cell? ⟨bt3,i,none⟩=some (.int .i64 t):=by rw[hrow.cellAt i zAB];unfold intsOf;rw[List.getElem?_map,List.getElem?_map,ht];rfl
     have htb:t<=1000:=by have h1:=hlt t (qT ht);have h2:=HR.out.g.mid.packs;omega
     have iG:=zw (i+1);obtain⟨S,hS⟩:=ze (DW SN E.2 IB (D.l.take i));rw[hS]at EG;obtain⟨d,hd⟩:=ze ((S.num (aI t)).2);obtain⟨S1,hS1⟩:=ze ((S.num (aI t)).1);have hdb:0<=d/\d<=65536:=by rw[<-hd];exact TB.nY EG.out.MZ _
     obtain⟨xr,hxr⟩:=ze (dD E.2.roots t);obtain⟨xi,hxi⟩:=ze (dD IB t);have kN:Hid (DW SN E.2 IB (D.l.take (i+1))=S1.bG (-d::(xr++xi))):=by show _=_;rw[List.take_add_one,ht];simp only[Option.toList_some];rw[X9,hS];unfold TB.place;rw[hd,hS1,hxr,hxi]
     obtain⟨UH,gb8,gp8,H8,A8,B8,C8,O8⟩:=EG.out;have HTr:Hid (∀E2 I2 W,dG wr UH gb8 gp8 X Bs D E2 m3 I2 W->dG w7 gtP gbP gpP X Bs D E2 m3 I2 W):=fun E2 I2 W h=>dG.trans A8 B8 C8 O8 h;have HB8:=zh H8;obtain⟨v3,SA⟩:=H8.1.roots;obtain⟨v4,hRi⟩:=H8.2;have ajs:KI.ok t:=⟨by omega,by omega⟩;have hdis:∀k,Mine UH k\/Mine gb8 k->¬Mine gp8 k:=H8.1.Jz;have hlr:∀W,Only (fun k=>Mine UH k\/Mine gb8 k) wr W->(Instr.lookup 151 (.map (some X.m2)) (.int .i64 (t:Int)) false).run Tryz.prog W= .ok (v3 t) W:=fun W o=>SA.look' ajs o (fun hm=>hdis _ hm (by unfold Mine;rw[SA.tb];simp));have hli:∀W,Only (fun k=>Mine UH k\/Mine gb8 k) wr W->(Instr.lookup 151 (.map (some m3)) (.int .i64 (t:Int)) false).run Tryz.prog W= .ok (v4 t) W:=fun W o=>hRi.look' ajs o (fun hm=>hdis _ hm (by unfold Mine;rw[hRi.tb];simp));have hrr:=SA.rowAt t;have hri:=hRi.rowAt t;rw[show dD E.2.roots t=xr from hxr]at hrr;rw[hxi]at hri;have hIr:∀W,Only (fun k=>Mine UH k\/Mine gb8 k) wr W->Ints W (v3 t) xr:=fun W o=>Row.ints (hrr.only o (fun k hk hm=>hdis k hm zBR)) (fun z hz=>by
      obtain⟨e0,he0,hz0⟩:=Ip (show z∈dD E.2.roots t by rw[hxr];exact hz)
      exact SA.rng e0 he0 z hz0)
     have hIi:∀W,Only (fun k=>Mine UH k\/Mine gb8 k) wr W->Ints W (v4 t) xi:=fun W o=>Row.ints (hri.only o (fun k hk hm=>hdis k hm zBR)) (fun z hz=>by
      obtain⟨e0,he0,hz0⟩:=Ip (show z∈dD IB t by rw[hxi];exact hz)
      exact hRi.rng e0 he0 z hz0)
     have aqu:xr.length<=900000:=by rw[<-hxr];exact Dt.out.ror t
     have aqv:xi.length<=60000:=by rw[<-hxi];have:=HIB.out.2 t;omega
     obtain⟨ar,cr,evr,-,-⟩:=(hIr wr zr).shape;obtain⟨ai,ci',evi,-,-⟩:=(hIi wr zr).shape;rw[evr]at hlr hIr;rw[evi]at hli hIi;obtain⟨nr,hnr⟩:=ze xr.length;obtain⟨ni,hni⟩:=ze xi.length;rw[hnr]at hlr hIr aqu;rw[hni]at hli hIi aqv;have ZJ:=zh hnr;have HNi:=zh hni;have HIr:=zh hIr;have HIi:=zh hIi;have HS8:Hid (∀W,Only (fun k=>Mine UH k\/Mine gb8 k) wr W->W.cell? ⟨X.px,0,none⟩=some (.pointer (some ⟨X.c,0,none⟩))/\W.cell? ⟨X.px,4,none⟩=some (.map (some X.m2))/\(Instr.lookup 151 (.map (some X.m2)) (.int .i64 (t:Int)) false).run Tryz.prog W= .ok (.slice ar nr cr) W/\(Instr.lookup 151 (.map (some m3)) (.int .i64 (t:Int)) false).run Tryz.prog W= .ok (.slice ai ni ci') W):=fun W o=>by have hm:=O8.y9 A8 B8 C8 (o.mono fun k hk=>.inl hk);have h:=HSP.out W ((pG.out.mono fun _ f=>f.elim).same hm);exact⟨h.1,h.2,hlr W o,hli W o⟩
     have EF:Hid (∀W,O0 wr W->Calls Tryz.prog 164 #[.pointer (some ⟨X.c,0,none⟩),.int .i64 t] W fun e w'=>e= .returned (.int .i64 d)/\BkK wr UH gb8 gp8 X Bs D (S1,E.2) m3 IB w'):=fun W o=>by rw[<-hS1];exact agi HB8.out o zAB d hd
     obtain⟨nA,hnA⟩:∃n,(-d::(xr++xi)).length=n:=⟨_,rfl⟩;have HCc:Hid (∀w9 W g,BkK wr UH gb8 gp8 X Bs D (S1,E.2) m3 IB w9->O0 w9 W->W.heap[g]? =some (.cells #[.slice (some ⟨w9.heap.size,0,none⟩) 1 1,.slice ar nr cr,.slice ai ni ci'] 78 (0,0))->Ints W (.slice (some ⟨w9.heap.size,0,none⟩) 1 1) [-d]->Calls Tryz.prog 166 #[.slice (some ⟨g,0,none⟩) 3 3] W fun e w'=> ∃v,e= .returned v/\w'.ownsRow 0 3 1 v nA ((-d::(xr++xi)).map cI)/\(∀k,v.ownBlock=some k->W.heap.size<=k)/\O0 W w'):=fun w9 W g h9 o hb hI=>by obtain⟨_,_,_,_,_,Ok⟩:=h9;rw[<-hnA];exact aee hb hI (HIr.out W (Ok.same (o.mono fun _ f=>f.elim))) (HIi.out W (Ok.same (o.mono fun _ f=>f.elim))) (by rw[ZJ.out,HNi.out];simp;omega)
     have qj:Hid (∀w9 W v,BkK wr UH gb8 gp8 X Bs D (S1,E.2) m3 IB w9->O0 w9 W->W.ownsRow 0 3 1 v nA ((-d::(xr++xi)).map cI)->Calls Tryz.prog 163 #[.pointer (some ⟨X.c,0,none⟩),v] W fun e w'=>e= .returned (.tuple #[])/\Only (fun k=>Mine UH k\/Mine gb8 k) wr w'/\dG w7 gtP gbP gpP X Bs D (DW SN E.2 IB (D.l.take (i+1)),E.2) m3 IB w'):=fun w9 W v h9 o hown=>by
      rw[<-hnA]at hown;have hI2:Ints W v (-d::(xr++xi)):=Ints.dV hown fun z hz=>by
       rcases qY.1 hz with rfl|hz;·exact dL hdb
       rcases qW.1 hz with hz|hz;·exact(HIr.out wr zr).range z hz
       exact(HIi.out wr zr).range z hz
      obtain⟨gt9,gb9,H9b,A9,B9,O9⟩:=h9;refine(ajf H9b o hI2 (by rw[qN,qK,ZJ.out,HNi.out];omega)).mono fun e w' ⟨he,h⟩=>⟨he,?_,?_⟩;·obtain⟨_,_,_,_,_,Oa⟩:=h;exact O9.Fe A9 B9 Oa
      rw[kN.out];exact HTr.out _ _ _ (dG.trans A9 B9 (Agree.refl _ _) (O9.mono fun k hk=>.inl hk) h.bk)
     have ewd:=zw (-d);have hS0:=HS8.out wr.drew (zr.drew);have JH:=zh iG;clear hnA ht hrow hS hd hS1 hxr hxi H8 A8 B8 C8 O8 SA hRi ajs hdis hlr hli hrr hri hIr hIi evr evi hnr hni iG kN EG HTr;go_wp2_with fail;refine bC (n:=24) (E:=fun _=>false) (S:=fun W=>W.cell? ⟨X.px,0,none⟩=some (.pointer (some ⟨X.c,0,none⟩))/\W.cell? ⟨X.px,4,none⟩=some (.map (some X.m2))/\(Instr.lookup 151 (.map (some X.m2)) (.int .i64 (t:Int)) false).run Tryz.prog W= .ok (.slice ar nr cr) W/\(Instr.lookup 151 (.map (some m3)) (.int .i64 (t:Int)) false).run Tryz.prog W= .ok (.slice ai ni ci') W) zk rfl hS0 (fun hHeld=>?_);refine tW 0 ?_;refine tW 1 ?_;refine tW 2 ?_;refine tK 3 ?_;refine tW 4 ?_;refine tW 5 ?_;refine tW 6 ?_;refine tK 7 ?_;refine tW 8 ?_;refine tW 12 ?_;refine tW 13 ?_;refine tW 14 ?_;refine tK 15 ?_;refine tW 16 ?_;refine tK 17 ?_;refine tW 18 ?_;refine tW 19 ?_;refine tK 20 ?_;refine tO 9 fun K hK=>?_;(go_simp;refine(EF.out _ zAA).mono ?_;rintro e w9 ⟨rfl,h9⟩;have oM:Only (fun k=>Mine UH k\/Mine gb8 k) wr w9:=(by obtain⟨_,_,_,_,_,O⟩:=h9;exact O);try go_wp2_with fail);refine hK.out _ _ ?_ (fun hHeld=>?_);·(try dsimp only)<;>(exact HS8.out _ oM)
     clear hK K;try simp only[Act.put,eF,fA,eG,dW,dX,dY]
     refine tW 10 ?_;refine tO 11 fun K hK=>?_;go_simp;refine hK.out _ _ ?_ (fun hHeld=>?_);·(try dsimp only)<;>(exact HS8.out _ zAG)
     clear hK K;try simp only[Act.put,eF,fA,eG,dW,dX,dY]
     refine tO 21 fun K hK=>?_;go_simp;refine hK.out _ _ ?_ (fun hHeld=>?_);·(try dsimp only)<;>(exact HS8.out _ zAG)
     clear hK K;try simp only[Act.put,eF,fA,eG,dW,dX,dY]
     refine tO 22 fun K hK=>?_;(go_simp;refine(HCc.out w9 _ _ h9 zBn (by first|exact qL _ _|exact alloc_at (by simp)|exact alloc_at rfl) (by first|exact adn _ _ (dL hdb)|exact(adn w9 _ (dL hdb)).aH zBT)).mono ?_;rintro e wA ⟨vA,rfl,rA,bA,oA0⟩;have oA:O0 w9 wA:=Only.same zAA oA0;obtain⟨aA,cA,rfl,-,-⟩:=aJ rA;try go_wp2_with fail);refine hK.out _ _ ?_ (fun hHeld=>?_);·(try dsimp only)<;>(exact HS8.out _ (oM.same (oA.mono fun _ f=>f.elim)))
     clear hK K;try simp only[Act.put,eF,fA,eG,dW,dX,dY]
     refine tO 23 fun K hK=>?_;(go_simp;refine(qj.out w9 wA _ h9 zBW (aG rA zAA (fun _ _ f=>f))).mono ?_;rintro e wB ⟨rfl,oB,hB⟩;try go_wp2_with fail);refine hK.out _ _ ?_ (fun hHeld=>?_);·(try dsimp only)<;>(exact HS8.out _ oB)
     clear hK K;try simp only[Act.put,eF,fA,eG,dW,dX,dY]
     refine bf zk ?_ _;have HF:=zh hB;have iG:=JH.out;clear hB oB oA oA0 rA bA h9 oM EF HCc qj HS8 hS0;exact zCk
    obtain rfl:nl=i:=by omega
    have h:=EG.out;rw[qI (yG uh.out),H9'.out]at h;have HF:=zh (amH.out _ _ _ (dG.after pG.out h));clear h EG;go_wp2_with fail;go_end0;exact⟨rfl,HF.out⟩
end
end Go.Proofs.YtdmmebjjojimiaaGreatDoor
