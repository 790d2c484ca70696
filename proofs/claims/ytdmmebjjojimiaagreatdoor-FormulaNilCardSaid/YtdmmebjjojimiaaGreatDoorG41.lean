/- Package edge: back. Printed by gen_edwb.py. -/
import Derived.Test.YtdmmebjjojimiaaGreatDoorG40
import Derived.Test.YtdmmebjjojimiaaGreatDoorG31
set_option maxRecDepth 100000
set_option maxHeartbeats 8000000
set_option linter.all false
namespace Go.Proofs
theorem zA8{p:Prop}(h:p:=by unfold Mine;rw[hk];simp):p:=h
theorem zBS{p:Prop}(h:p:=by intro u hu;obtain⟨q,-,rfl⟩:=yD.1 hu;rfl):p:=h
theorem zCG{p:Prop}(h:p:=by
 refine Ints.dF ?_ fun z hz=>?_
 ·have e1:1+nx=(-n::xs).length:=by rw[qN,Lc.out];omega
  rw[e1]at hown
  simpa using hown
 ·rcases qY.1 hz with rfl|hz
  ·exact bW hnb
  ·exact HI.out.range z hz):p:=h
end Go.Proofs
namespace Go.Proofs.YtdmmebjjojimiaaGreatDoor
open Go.RowKit
def kP(E:ES)(es:List (Nat×Nat)):BS:=es.foldl (fun B e=>BS.edge B E.2 e) (E.1,[])
theorem Tt(E:ES)(es:List (Nat×Nat))(e:Nat×Nat):kP E (es++[e])=BS.edge (kP E es) E.2 e:=by simp[kP]
theorem UW(P:dR):∀(es:List (Nat×Nat)) (B:BS) {N:Nat},(B.2.length<=N/\∀k,(bT B.2 k).length<=N)->((es.foldl (fun B e=>BS.edge B P e) B).2.length<=N+es.length/\∀k,(bT (es.foldl (fun B e=>BS.edge B P e) B).2 k).length<=N+es.length)
 | [],_,_,h=>h
 |e::r,B,N,h=>by
  have:=UW P r (BS.edge B P e) (N:=N+1) ⟨vU h.1 _ _,vT h.2 _ _⟩
  rw[qN,show N+(r.length+1)=N+1+r.length by omega]
  exact this
theorem Qg(E:ES)(es:List (Nat×Nat)):(kP E es).2.length<=es.length/\∀k,(bT (kP E es).2 k).length<=es.length:=by have h:=UW E.2 es (E.1,[]) (N:=0) ⟨qH _,fun k=>by simp[bT]⟩;rw[Nat.zero_add]at h;exact h
theorem Dl{κ:Type}[DecidableEq κ]{m:List (κ×List Int)}{x:κ}{z:Int}(h:z∈bT m x):∃e∈m,z∈e.2:=by
 unfold bT at h;cases hf:m.find? fun e=>decide (e.1=x)with
 |none=>rw[hf]at h;cases h
 |some e=>rw[hf]at h;exact⟨e,List.mem_of_find?_eq_some hf,h⟩
def tZ(S:TB)(D:rU)(P:dR)(i:Nat):TB:=(List.range i).foldl (fun S i=>S.name D.x P i (D.names.getD i ByteArray.empty)) S
theorem Tv(S:TB)(D:rU)(P:dR)(i:Nat):tZ S D P (i+1)=(tZ S D P i).name D.x P i (D.names.getD i ByteArray.empty):=by simp[tZ,List.range_succ]
def xY(S:TB)(P:dR)(I:List (Nat×List Int))(l:List Nat):TB:=l.foldl (fun S t=>S.place P I t) S
theorem Tz(S:TB)(P:dR)(I:List (Nat×List Int))(l:List Nat)(t:Nat):xY S P I (l++[t])=(xY S P I l).place P I t:=by simp[xY]
def ru(S:TB)(n a:Int)(l:List Int):TB:=l.foldl (fun S b=>S.aV [-n,-a,-b]) S
theorem Qh(S:TB)(n a:Int)(l:List Int)(b:Int):ru S n a (l++[b])=(ru S n a l).aV [-n,-a,-b]:=by simp[ru]
def rY(S:TB)(n:Int)(row:List Int)(k:Nat):TB:=(List.range k).foldl (fun S k=>ru S n (row.getD k 0) (row.drop (k+1))) S
theorem L8(S:TB)(n:Int)(row:List Int)(k:Nat):rY S n row (k+1)=ru (rY S n row k) n (row.getD k 0) (row.drop (k+1)):=by simp[rY,List.range_succ]
def ES.back(E:ES)(D:rU):TB:=xY (tZ (kP E E.2.edges).1 D E.2 D.names.length) E.2 (kP E E.2.edges).2 D.l
theorem WU(l:List (Nat×Nat)){i j:Nat}(hi:i<l.length)(hj:j<2):(ji l)[i*2+j]? =[Value.int .i64 ((l[i]'hi).1:Int),Value.int .i64 ((l[i]'hi).2:Int)][j]? :=by
 induction l generalizing i with
 |nil=>simp at hi
 |cons a r ih=>
  unfold ji at*;rw[List.flatMap_cons];cases i with
  |zero=>rw[Nat.zero_mul,Nat.zero_add,yM zAm];rfl
  |succ i=>rw[yN zAK];have:=ih (i:=i) zAk;simp only[qN,List.length_nil,List.getElem_cons_succ]at this⊢;rw[show(i+1)*2+j-(0+1+1)=i*2+j by omega];exact this
theorem ZU{w:World}{b n c:Nat}{l:List (Nat×Nat)}(h:w.ownsRow 0 226 2 (.slice (some ⟨b,0,none⟩) n c) n (ji l)){i:Nat}{e:Nat×Nat}(he:l[i]? =some e):w.rangeAt b (i*2) [.int .i64 (e.1:Int),.int .i64 (e.2:Int)]:=by intro j u hu;obtain⟨hi,rfl⟩:=qJ.1 he;have hj:=(qJ.1 hu).1;have:=h.cells (g:=b) rfl (i*2+j) u (by rw[WU l hi hj];exact hu);simpa[Go.WideShapes.add_plain]using this
section
variable {w w':World} {gt gb gp:Tag} {X:G9} {Bs:Nat} {D:rU} {E:ES} {m3:Nat} {I:List (Nat×List Int)}
theorem acL(H:oq w gt gb gp X Bs D E m3 I){W:World}(o:O0 w W){v:Value}{xs:List Int}(hI:Ints W v xs)(hb:xs.length<=1000000):
  Calls Tryz.prog 163 #[.pointer (some ⟨X.c,0,none⟩),v] W fun e w'=>e= .returned (.tuple #[])/\Only (fun k=>Mine gt k\/Mine gb k) w w'/\bQ w gt gb gp X Bs D (E.1.aV xs,E.2) m3 I w':=
 (Uw (H.aF o).1.gx hI hb).mono fun e w' ⟨he,h⟩=>⟨he,by
  have h2:=aN.after o h
  obtain⟨_,_,_,_,_,O⟩:=h2
  exact O,bQ.after o ((H.aF o).step h)⟩
attribute [local irreducible] wpQuiet in
theorem aeU(H:gI w gt gb gp X Bs D E)(hR:EdR D)(hP:oL E.2 900000)(hof:E.2.of.length<=60000)(hkb:∀e∈E.2.edges,e.1<=1000/\e.2<=1000)(hll:D.l.length<=1000):Calls Tryz.prog 81 #[.pointer (some ⟨X.px,0,none⟩)] w fun e w'=>e= .returned (.tuple #[])/\aQ w gt gb gp X Bs D (E.back D,E.2) w':=by
 have HR:=zh hR;have xE:=zh hP;have HKb:=zh hkb;obtain⟨E9,AB⟩:=ze (E.back D);rw[AB];have YS:=zh AB;obtain⟨w0,hw0⟩:=ze (w.alloc (.map #[] 0));have hB0:bQ w gt gb gp X Bs D E w.heap.size [] w0:=by rw[<-hw0];exact oq.made H
 obtain⟨m3,hm3⟩:=ze w.heap.size;rw[hm3]at hB0;obtain⟨gt0,gb0,gp0,H0',A0,B0,C0,O0⟩:=hB0;have H0:=zh H0';have acM:Hid (∀E2 I2 W,bQ w0 gt0 gb0 gp0 X Bs D E2 m3 I2 W->aQ w gt gb gp X Bs D E2 W):=fun E2 I2 W h=>(bQ.trans A0 B0 C0 O0 h).ed;obtain⟨ne,hne⟩:=ze E.2.edges.length;have ap7:ne<=60000:=by rw[<-hne];unfold dR.edges;rw[List.length_mergeSort,qM];exact hof
 have HEd:=zh (abR H0'.1 zBB);have HNe:=zh hne;rw[hne]at HEd;clear H H0' A0 B0 C0 O0 hR hP hkb AB hne;have hmk:(Instr.makeMap 151 none).run Tryz.prog w= .ok (.map (some m3)) w0:=by rw[<-hm3,<-hw0];exact run_makeMap _ _
 clear hm3;go_enter Tryz.func81,Tryz.ntmps81;go_wp2_with fail;refine HEd.out.mono ?_;rintro e w1 ⟨ve,rfl,hown,hnew,O1⟩;have l9:=zh hown;have zq:Hid (∀k,ve.ownBlock=some k->¬aX gt0 gb0 gp0 k):=fun k hk=>H0.out.1.jD (hnew k hk);have H1:=zh (H0.out.aF O1);have yS:Hid (∀E2 I2 W,bQ w1 gt0 gb0 gp0 X Bs D E2 m3 I2 W->aQ w gt gb gp X Bs D E2 W):=fun E2 I2 W h=>acM.out E2 I2 W (bQ.after O1 h);obtain⟨ae,ce,rfl,-,-⟩:=aH hown;have xU:Hid (bQ w1 gt0 gb0 gp0 X Bs D ((kP E (E.2.edges.take 0)).1,E.2) m3 (kP E (E.2.edges.take 0)).2 w1):=bQ.refl H1.out;clear hown hnew O1 HEd H0 acM hw0 hmk;go_wp2_with fail;go_loopw [22] (fun vi wr=> ∃i:Nat,vi= .int .i64 i/\i<=ne/\Hid (bQ w1 gt0 gb0 gp0 X Bs D ((kP E (E.2.edges.take i)).1,E.2) m3 (kP E (E.2.edges.take i)).2 wr)) (fun v _=>ne-(RowKit.intOf v).toNat);case atStart=>exact⟨0,rfl,qE _,xU⟩
 case round=>
  clear xU;obtain⟨i,rfl,hi,zH⟩:=hrel;by_cases ci:i<ne
  ·obtain⟨⟨p,t⟩,hy⟩:∃y,E.2.edges[i]? =some y:=⟨_,qA (by rw[HNe.out];exact ci)⟩;obtain⟨S,hS⟩:=ze ((kP E (E.2.edges.take i)).1);obtain⟨I,hI⟩:=ze ((kP E (E.2.edges.take i)).2);have hIl:I.length<=i/\∀k,(bT I k).length<=i:=by have h:=Qg E (E.2.edges.take i);rw[hI,List.length_take]at h;exact⟨by omega,fun k=>by have:=h.2 k;omega⟩
   have hpt:=HKb.out (p,t) (qT hy);rw[hS,hI]at zH;obtain⟨pK,pO,nZ,H4',A4,B4,C4,O4⟩:=zH.out;have hrow:=aB l9.out O4 zq.out;obtain⟨be,ce',e1,-,-⟩:=dB hrow zBB;simp only[qU]at e1;obtain⟨rfl,-,rfl⟩:=e1;have Jf:=zh (ZU hrow hy);have jg:=zw (i+1);have jr:Hid (∀S' I',BS.edge (S,I) E.2 (p,t)=(S',I')->kP E (E.2.edges.take (i+1))=(S',I')):=fun S' I' h=>by rw[List.take_add_one,hy];simp only[Option.toList_some];rw[Tt,<-h,<-hS,<-hI]
   obtain⟨wB,hwB⟩:=zB (wr.alloc (.cells #[.int .i64 (p:Int),.int .i64 (t:Int)] 226));have oB:O0 wr wB:=zAi;have hb0:wB.heap[wr.heap.size]? =some (.cells #[.int .i64 (p:Int),.int .i64 (t:Int)] 226 (0,0)):=zAn;have hnm:=H4'.1.jD (qH wr.heap.size);have HB:=zh (H4'.aF oB);obtain⟨bx,hbx⟩:=ze wr.heap.size;rw[hbx]at hb0 hnm;have HS:Hid (∀W,Only (aX pK pO nZ) wB W->W.cell? ⟨X.px,0,none⟩=some (.pointer (some ⟨X.c,0,none⟩))/\W.cell? ⟨X.px,2,none⟩=some (.map (some X.m1))/\W.cell? ⟨bx,0,none⟩=some (.int .i64 (p:Int))/\W.cell? ⟨bx,1,none⟩=some (.int .i64 (t:Int))):=fun W o=>by have c0:=ak hb0 o hnm;exact⟨aK HB.out.1.cells.1 o HB.out.1.tp,aK HB.out.1.cells.2.2.1 o HB.out.1.tp,by rw[aj c0];rfl,by rw[aj c0];rfl⟩
   obtain⟨S1,hS1⟩:=ze ((S.num (gY p t)).1);obtain⟨n,hn⟩:=ze ((S.num (gY p t)).2);obtain⟨S2,hS2⟩:=ze ((S1.num (aG p)).1);obtain⟨a,ha⟩:=ze ((S1.num (aG p)).2);obtain⟨S3,hS3⟩:=ze (S2.aV [-n,a]);obtain⟨S4,hS4⟩:=ze ((S3.num (aG t)).1);obtain⟨d,hd⟩:=ze ((S3.num (aG t)).2);obtain⟨S5,hS5⟩:=ze (S4.aV [-n,d]);obtain⟨xs,hxs⟩:=ze (bT E.2.of (p,t));have HBk:Hid (kP E (E.2.edges.take (i+1))=(S5.aV (-n::xs),dH I t n)):=by show _=_;refine jr.out _ _ ?_;unfold BS.edge;dsimp only;rw[hS1,hn,hS2,ha,hS3,hS4,hd,hS5,hxs]
   have hnb:0<=n/\n<=65536:=by rw[<-hn];exact TB.kN zH.out.Hf _
   have pq:Hid (∀W,O0 wB W->Calls Tryz.prog 75 #[.pointer (some ⟨X.c,0,none⟩),fH (gY p t)] W fun e w'=>e= .returned (.int .i64 n)/\bQ wB pK pO nZ X Bs D (S1,E.2) m3 I w'):=fun W o=>by rw[<-hS1];exact bQ.call (bQ.refl HB.out) o fun gt' gb' jC Hx _=>ZR Hx (Ux ⟨by omega,by omega⟩ ⟨by omega,by omega⟩) n hn
   have HNp:Hid (∀w5,bQ wB pK pO nZ X Bs D (S1,E.2) m3 I w5->(0<=a/\a<=65536)/\∀W,O0 w5 W->Calls Tryz.prog 164 #[.pointer (some ⟨X.c,0,none⟩),.int .i64 p] W fun e w'=>e= .returned (.int .i64 a)/\bQ wB pK pO nZ X Bs D (S2,E.2) m3 I w'):=fun w5 h5=>⟨by rw[<-ha];exact TB.kN h5.Hf _,fun W o=>by
    rw[<-hS2]
    exact bQ.call h5 o fun gt' gb' jC Hx _=>Tn Hx zBB a ha⟩
   have HAp:Hid (∀w5,bQ wB pK pO nZ X Bs D (S2,E.2) m3 I w5->∀W,O0 w5 W->Ints W (.slice (some ⟨w5.heap.size,0,none⟩) 2 2) [-n,a]->Calls Tryz.prog 163 #[.pointer (some ⟨X.c,0,none⟩),.slice (some ⟨w5.heap.size,0,none⟩) 2 2] W fun e w'=>e= .returned (.tuple #[])/\bQ wB pK pO nZ X Bs D (S3,E.2) m3 I w'):=fun w5 h5 W o hI=>by rw[<-hS3];exact bQ.call h5 o fun gt' gb' jC Hx _=>UU Hx hI zAE
   have Q7:Hid (∀w5,bQ wB pK pO nZ X Bs D (S3,E.2) m3 I w5->(0<=d/\d<=65536)/\∀W,O0 w5 W->Calls Tryz.prog 164 #[.pointer (some ⟨X.c,0,none⟩),.int .i64 t] W fun e w'=>e= .returned (.int .i64 d)/\bQ wB pK pO nZ X Bs D (S4,E.2) m3 I w'):=fun w5 h5=>⟨by rw[<-hd];exact TB.kN h5.Hf _,fun W o=>by
    rw[<-hS4]
    exact bQ.call h5 o fun gt' gb' jC Hx _=>Tn Hx zBB d hd⟩
   have HAt:Hid (∀w5,bQ wB pK pO nZ X Bs D (S4,E.2) m3 I w5->∀W,O0 w5 W->Ints W (.slice (some ⟨w5.heap.size,0,none⟩) 2 2) [-n,d]->Calls Tryz.prog 163 #[.pointer (some ⟨X.c,0,none⟩),.slice (some ⟨w5.heap.size,0,none⟩) 2 2] W fun e w'=>e= .returned (.tuple #[])/\bQ wB pK pO nZ X Bs D (S5,E.2) m3 I w'):=fun w5 h5 W o hI=>by rw[<-hS5];exact bQ.call h5 o fun gt' gb' jC Hx _=>UU Hx hI zAE
   have HFin:Hid (∀W,bQ wB pK pO nZ X Bs D (S5.aV (-n::xs),E.2) m3 (dH I t n) W->bQ w1 gt0 gb0 gp0 X Bs D ((kP E (E.2.edges.take (i+1))).1,E.2) m3 (kP E (E.2.edges.take (i+1))).2 W):=fun W h=>by rw[HBk.out];exact bQ.trans A4 B4 C4 O4 (bQ.after oB h)
   have ewn:=zw (-n);have Eo:=zh jg;have HXs:=zh hxs;have hS0:=HS.out wB.drew (zr.drew);clear hS hI H4' A4 B4 C4 O4 hrow hy hb0 hnm oB hS1 hn hS2 ha hS3 hS4 hd hS5 hxs jr jg zH;go_wp2_with (refine wpList_load_mid rfl 226 (.tmp 24) rfl be (i*2) rfl _ _ Jf.out Tryz.underlying226 rfl zk ?_);try rw[<-hwB]
   try rw[hbx]
   clear hwB hbx;refine aT (n:=11) (E:=fun _=>false) (S:=fun W=>W.cell? ⟨X.px,0,none⟩=some (.pointer (some ⟨X.c,0,none⟩))/\W.cell? ⟨X.px,2,none⟩=some (.map (some X.m1))/\W.cell? ⟨bx,0,none⟩=some (.int .i64 (p:Int))/\W.cell? ⟨bx,1,none⟩=some (.int .i64 (t:Int))) zk rfl hS0 (fun hHeld=>?_);refine tW 0 ?_;refine tW 1 ?_;refine tW 2 ?_;refine tK 3 ?_;refine tW 4 ?_;refine tK 5 ?_;refine tW 6 ?_;refine tK 7 ?_;refine tW 8 ?_;refine tO 9 fun K hK=>?_;(go_simp;refine(pq.out _ zBA).mono ?_;rintro e w5 ⟨rfl,h5⟩;try go_wp2_with fail);refine hK.out _ _ ?_ (fun hHeld=>?_);·(try dsimp only)<;>(exact HS.out _ h5.only)
   clear hK K;try simp only[Act.put,dL,dQ,dM,dN,dO,dP]
   refine tW 10 ?_;refine aS zk ?_ _;have H5:=zh h5;obtain⟨hab,acN⟩:=HNp.out w5 h5;have aie:=zh acN;have hS0:=HS.out w5.drew (h5.only.drew);clear h5 pq HNp acN;go_wp2_with fail;refine aT (n:=15) (E:=fun _=>false) (S:=fun W=>W.cell? ⟨X.px,0,none⟩=some (.pointer (some ⟨X.c,0,none⟩))/\W.cell? ⟨X.px,2,none⟩=some (.map (some X.m1))/\W.cell? ⟨bx,0,none⟩=some (.int .i64 (p:Int))/\W.cell? ⟨bx,1,none⟩=some (.int .i64 (t:Int))) zk rfl hS0 (fun hHeld=>?_);refine tW 0 ?_;refine tW 1 ?_;refine tW 2 ?_;refine tK 3 ?_;refine tW 4 ?_;refine tW 5 ?_;refine tW 6 ?_;refine tW 7 ?_;refine tW 8 ?_;refine tK 9 ?_;refine tW 10 ?_;refine tK 11 ?_;refine tO 12 fun K hK=>?_;(go_simp;refine(aie.out _ zBA).mono ?_;rintro e w6 ⟨rfl,h6⟩;have oM:Only (aX pK pO nZ) wB w6:=h6.only;try go_wp2_with fail);refine hK.out _ _ ?_ (fun hHeld=>?_);·exact zCX
   clear hK K;try simp only[Act.put,dL,dQ,dM,dN,dO,dP]
   refine tO 13 fun K hK=>?_;go_simp;refine hK.out _ _ ?_ (fun hHeld=>?_);·exact zCV
   clear hK K;try simp only[Act.put,dL,dQ,dM,dN,dO,dP]
   refine tO 14 fun K hK=>?_;(go_simp;refine(HAp.out w6 h6 _ zAA (by first|exact rC _ _ _ (bW hnb) (dX hab)|exact(rC w6 _ _ (bW hnb) (dX hab)).aF zBA)).mono ?_;rintro e w7 ⟨rfl,h7⟩;try go_wp2_with fail);refine hK.out _ _ ?_ (fun hHeld=>?_);·(try dsimp only)<;>(exact HS.out _ h7.only)
   clear hK K;try simp only[Act.put,dL,dQ,dM,dN,dO,dP]
   refine aS zk ?_ _;have H7:=zh h7;obtain⟨hdb,acO⟩:=Q7.out w7 h7;have aif:=zh acO;have hS0:=HS.out w7.drew (h7.only.drew);clear h7 h6 oM aie HAp Q7 acO H5;go_wp2_with fail;refine aT (n:=15) (E:=fun _=>false) (S:=fun W=>W.cell? ⟨X.px,0,none⟩=some (.pointer (some ⟨X.c,0,none⟩))/\W.cell? ⟨X.px,2,none⟩=some (.map (some X.m1))/\W.cell? ⟨bx,0,none⟩=some (.int .i64 (p:Int))/\W.cell? ⟨bx,1,none⟩=some (.int .i64 (t:Int))) zk rfl hS0 (fun hHeld=>?_);refine tW 0 ?_;refine tW 1 ?_;refine tW 2 ?_;refine tK 3 ?_;refine tW 4 ?_;refine tW 5 ?_;refine tW 6 ?_;refine tW 7 ?_;refine tW 8 ?_;refine tK 9 ?_;refine tW 10 ?_;refine tK 11 ?_;refine tO 12 fun K hK=>?_;(go_simp;refine(aif.out _ zBA).mono ?_;rintro e w8 ⟨rfl,h8⟩;have oM:Only (aX pK pO nZ) wB w8:=h8.only;try go_wp2_with fail);refine hK.out _ _ ?_ (fun hHeld=>?_);·exact zCX
   clear hK K;try simp only[Act.put,dL,dQ,dM,dN,dO,dP]
   refine tO 13 fun K hK=>?_;go_simp;refine hK.out _ _ ?_ (fun hHeld=>?_);·exact zCV
   clear hK K;try simp only[Act.put,dL,dQ,dM,dN,dO,dP]
   refine tO 14 fun K hK=>?_;(go_simp;refine(HAt.out w8 h8 _ zAA (by first|exact rC _ _ _ (bW hnb) (dX hdb)|exact(rC w8 _ _ (bW hnb) (dX hdb)).aF zBA)).mono ?_;rintro e w9 ⟨rfl,h9⟩;try go_wp2_with fail);refine hK.out _ _ ?_ (fun hHeld=>?_);·exact zCN
   clear hK K;try simp only[Act.put,dL,dQ,dM,dN,dO,dP]
   refine aS zk ?_ _;have H9:=zh h9;clear h9 h8 oM aif HAt H7 hS0;obtain⟨gt7,gb7,gp7,H7',A7,B7,C7,O7⟩:=H9.out;have H7:=zh H7';obtain⟨val,hR⟩:=H7'.1.of;have aii:KE.ok (p,t):=⟨⟨by omega,by omega⟩,⟨by omega,by omega⟩⟩;have hvr:=hR.rowAt (p,t);rw[show bT E.2.of (p,t)=xs from HXs.out]at hvr;have hvI:Ints w9 (val (p,t)) xs:=Row.ints hvr (fun z hz=>by
    have hz2:z∈bT E.2.of (p,t):=by rw[HXs.out];exact hz
    obtain⟨e0,he0,hz0⟩:=Dl hz2
    exact hR.rng e0 he0 z hz0)
   have hlk:∀W,Only (fun k=>Mine gt7 k\/Mine gb7 k) w9 W->(Instr.lookup 150 (.map (some X.m1)) (.agg #[.int .i64 (p:Int),.int .i64 (t:Int)]) false).run Tryz.prog W= .ok (val (p,t)) W:=fun W o=>hR.look' aii o (fun hm=>H7'.1.Eh _ hm (by unfold Mine;rw[hR.tb];simp));obtain⟨ao,cap,ev,-,-⟩:=hvI.shape;rw[ev]at hlk hvI;have hxl:xs.length<=900000:=by rw[<-HXs.out];exact xE.out.ofr (p,t)
   obtain⟨nx,hnx⟩:=ze xs.length;rw[hnx]at hlk hvI hxl;have Lc:=zh hnx;have HI:=zh hvI;have HM7:Hid (∀W,Only (fun k=>Mine gt7 k\/Mine gb7 k) w9 W->Only (aX pK pO nZ) wB W):=fun W o=>O7.sZ A7 B7 C7 (o.mono fun k hk=>.inl hk);have YV:Hid (∀W,Only (fun k=>Mine gt7 k\/Mine gb7 k) w9 W->(W.cell? ⟨X.px,0,none⟩=some (.pointer (some ⟨X.c,0,none⟩))/\W.cell? ⟨X.px,2,none⟩=some (.map (some X.m1))/\W.cell? ⟨bx,0,none⟩=some (.int .i64 (p:Int))/\W.cell? ⟨bx,1,none⟩=some (.int .i64 (t:Int)))/\(Instr.lookup 150 (.map (some X.m1)) (.agg #[.int .i64 (p:Int),.int .i64 (t:Int)]) false).run Tryz.prog W= .ok (.slice ao nx cap) W):=fun W o=>⟨HS.out W (HM7.out W o),hlk W o⟩;have HTr:Hid (∀E2 I2 W,bQ w9 gt7 gb7 gp7 X Bs D E2 m3 I2 W->bQ wB pK pO nZ X Bs D E2 m3 I2 W):=fun E2 I2 W h=>bQ.trans A7 B7 C7 O7 h;have rM:Hid (∀W,O0 w9 W->∀ad,ao=some ad->∀j u,(xs.map cI)[j]? =some u->W.cell? (ad.add j)=some u):=fun W hW=>(HI.out.aF hW).news;have Ai:Hid (ao=none->nx=0/\cap=0):=fun e=>HI.out.nil nx cap (by rw[e]);have HLen:Hid ((xs.map cI).length=nx*1):=by rw[qM,Lc.out,yH];exact rfl
   have lQ:Hid (∀W v2,O0 w9 W->W.ownsRow 0 3 1 v2 (1+nx) ([cI (-n)]++xs.map cI)->Calls Tryz.prog 163 #[.pointer (some ⟨X.c,0,none⟩),v2] W fun e w'=>e= .returned (.tuple #[])/\Only (fun k=>Mine gt7 k\/Mine gb7 k) w9 w'/\bQ w9 gt7 gb7 gp7 X Bs D (S5.aV (-n::xs),E.2) m3 I w'):=fun W v2 hW hown=>by
    have hI2:Ints W v2 (-n::xs):=by exact zCG
    exact acL H7.out hW hI2 (by rw[qN,Lc.out];omega)
   have hS0:=YV.out w9.drew (zr.drew);clear H7' hR hvr hvI hlk ev hnx A7 B7 C7 O7 aii H9;go_wp2_with fail;refine aT (n:=15) (E:=fun _=>false) (S:=fun W=>(W.cell? ⟨X.px,0,none⟩=some (.pointer (some ⟨X.c,0,none⟩))/\W.cell? ⟨X.px,2,none⟩=some (.map (some X.m1))/\W.cell? ⟨bx,0,none⟩=some (.int .i64 (p:Int))/\W.cell? ⟨bx,1,none⟩=some (.int .i64 (t:Int)))/\(Instr.lookup 150 (.map (some X.m1)) (.agg #[.int .i64 (p:Int),.int .i64 (t:Int)]) false).run Tryz.prog W= .ok (.slice ao nx cap) W) zk rfl hS0 (fun hHeld=>?_);refine tW 0 ?_;refine tW 1 ?_;refine tW 2 ?_;refine tK 3 ?_;refine tW 4 ?_;refine tW 5 ?_;refine tW 7 ?_;refine tW 8 ?_;refine tW 9 ?_;refine tK 10 ?_;refine tK 11 ?_;refine tK 12 ?_;refine tO 6 fun K hK=>?_;go_simp;refine hK.out _ _ ?_ (fun hHeld=>?_);·(try dsimp only)<;>(exact YV.out _ zBA)
   clear hK K;try simp only[Act.put,dL,dQ,dM,dN,dO,dP]
   refine tO 13 fun K hK=>?_;(refine Ci kF (by rfl) (.tmp 72) (.tmp 78) (by rfl) (by rfl) (nT zBY) (by rfl) HLen.out Ai.out zEF zBS zBL (by decide) ?_;intro ao5 cap5 w10 r5 o5 Xe;have oA:O0 w9 w10:=Only.trans zBA o5 (fun k hk=>.inr zBV));refine hK.out _ _ ?_ (fun hHeld=>?_);·(try dsimp only)<;>(exact YV.out _ (oA.mono fun _ f=>f.elim))
   clear hK K;try simp only[Act.put,dL,dQ,dM,dN,dO,dP]
   refine tO 14 fun K hK=>?_;(go_simp;refine(lQ.out _ _ zAD (aB r5 zBA (fun _ _ f=>f))).mono ?_;rintro e RP ⟨rfl,o11,h11⟩;try go_wp2_with fail);refine hK.out _ _ ?_ (fun hHeld=>?_);·(try dsimp only)<;>(exact YV.out _ o11)
   clear hK K;try simp only[Act.put,dL,dQ,dM,dN,dO,dP]
   refine aS zk ?_ _;have H11:=HTr.out _ _ _ h11;clear h11 o11 r5 o5 Xe oA YV HM7 lQ rM Ai HLen hS0 H7 HI;obtain⟨OW,gb8,Xj,H8,A8,B8,C8,O8⟩:=H11;obtain⟨ix,v,hrow,hSS,hpu⟩:=H8.aic (e:=t) ⟨by omega,by omega⟩ (z:=n) (dX hnb) (by have:=hIl.1;unfold maxLen;omega);have hrl:=hIl.2 t;obtain⟨ys,hys⟩:=ze (bT I t);rw[hys]at hrow hrl hpu;obtain⟨ao8,aik,rfl,-,-⟩:=hrow.shape;obtain⟨n8,hn8⟩:=ze ys.length;simp only[qM]at hrow hSS;rw[hn8]at hrow hrl hSS;have Xo:Hid (∀W,Only (fun k=>Xj k=(4,ix+1)) RP W->W.cell? ⟨bx,1,none⟩=some (.int .i64 (t:Int))/\(Instr.lookup 151 (.map (some m3)) (.int .i64 (t:Int)) false).run Tryz.prog W= .ok (.slice ao8 n8 aik) W):=fun W o=>
    ⟨(HS.out W (O8.sZ A8 B8 C8 (o.mono fun k hk=>.inr zA8))).2.2.2,hSS W o⟩
   have qp:=zh hrow;have Xh:Hid (∀wA w5 v',O0 RP wA->Only (fun k=>Xj k=(4,ix+1)) wA w5->Row w5 (Tag.put Xj wA.heap.size w5.heap.size (4,ix+1)) (4,ix+1) 3 v' (ys.map cI++[cI n])->∃w9,(Instr.mapUpdate 151 (.map (some m3)) (.int .i64 (t:Int)) v').run Tryz.prog w5= .ok () w9/\bQ w1 gt0 gb0 gp0 X Bs D ((kP E (E.2.edges.take (i+1))).1,E.2) m3 (kP E (E.2.edges.take (i+1))).2 w9):=fun wA w5 v' o1 o2 hr=>by obtain⟨w12,h1,h2⟩:=hpu wA w5 v' o1 o2 hr;exact⟨w12,h1,HFin.out _ (bQ.trans A8 B8 C8 O8 h2)⟩
   have HN8:=zh hn8;have hS0:=Xo.out RP.drew (zr.drew);clear hrow hSS hpu hys hn8 H8 A8 B8 C8 O8 HS HTr HFin HB;go_wp2_with fail;refine aT (n:=11) (E:=fun j=>j==10) (S:=fun W=>W.cell? ⟨bx,1,none⟩=some (.int .i64 (t:Int))/\(Instr.lookup 151 (.map (some m3)) (.int .i64 (t:Int)) false).run Tryz.prog W= .ok (.slice ao8 n8 aik) W) zk rfl hS0 (fun hHeld=>?_);refine tW 0 ?_;refine tW 1 ?_;refine tK 2 ?_;refine tW 3 ?_;refine tW 4 ?_;refine tK 5 ?_;refine tK 6 ?_;refine tW 7 ?_;refine tO 8 fun K hK=>?_;go_simp;refine hK.out _ _ ?_ (fun hHeld=>?_);·(try dsimp only)<;>(exact Xo.out _ zBA)
   clear hK K;try simp only[Act.put,dL,dQ,dM,dN,dO,dP]
   refine tO 9 fun K hK=>?_;(refine Row.step (u:=.int .i64 n) kF (by rfl) (.tmp 87) (.tmp 89) (by rfl) (by first| (simp only[qM,HN8.out];rfl)|rfl) (by rfl) zBN rfl zBE (by simp only[qM];have:=HN8.out;omega) zAC ?_;intro bb5 anV w12 NI Ef);refine hK.out _ _ ?_ (fun hHeld=>?_);·(try dsimp only)<;>(exact Xo.out _ (Only.same zBA Ef))
   clear hK K;try simp only[Act.put,dL,dQ,dM,dN,dO,dP]
   refine eY (rs:=[10]) zk zAE ?_;refine bD.late (i:=10) rfl zk (fun K hK=>?_) ?_
   ·(obtain⟨Pg,DI,AB⟩:=Xh.out _ w12 _ zBA Ef NI;refine YQ (by rfl) (.tmp 81) (.tmp 83) (.tmp 90) (by rfl) (by rfl) (by rfl) (by rfl) DI ?_);refine hK.out _ _ ?_;clear hK K;try simp only[Act.put,dL,dQ,dM,dN,dO,dP]
    refine aS zk ?_ _;have HE:=zh AB;have jg:=Eo.out;clear AB DI NI Ef Xh qp Xo hS0;go_wp2_with fail;go_roundw;case rel=>exact⟨i+1,by first|rfl|go_num,by omega,HE⟩
    case measure=>simp[RowKit.intOf]<;>omega
   exact bD.nil
  obtain rfl:ne=i:=by omega
  clear hi ci;have aeZ:=zH.out;rw[qI (yG HNe.out)]at aeZ;have ae0:=Qg E E.2.edges;obtain⟨SB,hSB⟩:=ze ((kP E E.2.edges).1);obtain⟨IB,hIB⟩:=ze ((kP E E.2.edges).2);rw[HNe.out,hIB]at ae0;rw[hSB,hIB]at aeZ;obtain⟨nn,hnn⟩:=ze D.names.length;have HNn:=zh hnn;have H9:Hid (xY (tZ SB D E.2 nn) E.2 IB D.l=E9):=by rw[<-YS.out];unfold ES.back;rw[hSB,hIB,hnn];exact rfl
  obtain⟨DJ,DK,Gl,H5',A5,B5,C5,O5⟩:=aeZ;have H5:=zh H5';have acQ:Hid (∀E2 I2 W,bQ wr DJ DK Gl X Bs D E2 m3 I2 W->aQ w gt gb gp X Bs D E2 W):=fun E2 I2 W h=>yS.out E2 I2 W (bQ.trans A5 B5 C5 O5 h);obtain⟨an,cn,en,hn1,hn2⟩:=aH H5'.1.names;rw[hnn]at en hn1;have ap8:nn<=1000000:=by rw[<-hnn];exact HR.out.g.nl
  have HSN:Hid (∀W,Only (aX DJ DK Gl) wr W->W.cell? ⟨X.px,0,none⟩=some (.pointer (some ⟨X.c,0,none⟩))/\W.cell? ⟨X.px,1,none⟩=some (.slice an nn cn)/\W.cell? ⟨X.px,3,none⟩=some X.sv/\W.cell? ⟨X.px,4,none⟩=some (.map (some X.m2))):=fun W o=>
   ⟨aK H5.out.1.cells.1 o H5.out.1.tp,by rw[<-en];exact aK H5.out.1.cells.2.1 o H5.out.1.tp,aK H5.out.1.cells.2.2.2.1 o H5.out.1.tp,aK H5.out.1.cells.2.2.2.2 o H5.out.1.tp⟩
  have Kt:Hid (∀W,Only (aX DJ DK Gl) wr W->∀i s,D.names[i]? =some s->∃bn,an=some ⟨bn,0,none⟩/\W.cell? ⟨bn,i,none⟩=some (.string s)):=fun W o i s hs=>by
   have hrow:=aB H5.out.1.names o H5.out.1.nb;rw[en,HNn.out]at hrow;have hil:i<nn:=by rw[<-HNn.out];exact(qJ.1 hs).1
   obtain⟨b,cap,e,-,-⟩:=dB hrow zBB;simp only[qU]at e;obtain⟨rfl,-,rfl⟩:=e;refine⟨b,rfl,?_⟩;rw[hrow.cellAt i zBB];unfold dZ;rw[List.getElem?_map,hs];rfl
  obtain⟨a1,c1,a2,c2,zi,Az⟩:=H5'.1.IE;obtain⟨n1,hx1⟩:=ze D.x.packs.length;obtain⟨n2,hx2⟩:=ze D.x.cO.length;rw[hx1]at zi;rw[hx2]at Az;have He:=zh hx1;have uV:=zh (And.intro zi Az);have ap9:n1<=1000:=by rw[<-hx1];exact HR.out.g.mid.packs
  have HIB:=zh ae0;obtain⟨q0,q1,-⟩:=HSN.out wr zr;have HL5:Hid (bQ wr DJ DK Gl X Bs D (tZ SB D E.2 0,E.2) m3 IB wr):=bQ.refl H5';clear H5' A5 B5 C5 O5 hSB hIB ae0 hnn en zi Az hx1 hx2 zH yS l9 zq H1 YS HKb HNe;generalize wr=w5 at*;go_wp2_with fail;go_loopw [97] (fun vi wr=> ∃i:Nat,vi= .int .i64 i/\i<=nn/\Hid (bQ w5 DJ DK Gl X Bs D (tZ SB D E.2 i,E.2) m3 IB wr)) (fun v _=>nn-(RowKit.intOf v).toNat);case atStart=>exact⟨0,rfl,qE _,HL5⟩
  case round=>
   clear HL5 q0 q1;obtain⟨i,rfl,hi,zH⟩:=hrel;by_cases ci:i<nn
   ·obtain⟨s,hs⟩:=zG D.names i (by rw[HNn.out];exact ci);have hgd:D.names.getD i ByteArray.empty=s:=by rw[qC,hs];rfl
    obtain⟨S,hS⟩:=ze (tZ SB D E.2 i);have ain:Hid (tZ SB D E.2 (i+1)=S.name D.x E.2 i s):=by show _=_;rw[Tv,hS,hgd]
    rw[hS]at zH;obtain⟨bn,rfl,hcell⟩:=Kt.out wr zH.out.only i s hs;obtain⟨q0,-⟩:=HSN.out wr zH.out.only;have jg:=zw (i+1);obtain⟨S1,hS1⟩:=ze ((S.num (eG i)).1);obtain⟨n,hn⟩:=ze ((S.num (eG i)).2);obtain⟨xs,hxs⟩:=ze (E.2.needs.getD i []);obtain⟨S2,hS2⟩:∃q,S1.aV (-n::xs)=q:=⟨_,rfl⟩;obtain⟨pv,hpv⟩:=ze (D.x.bZ s);have hpl:=tq D.x s;have jr:Hid (∀S3 zs S4,S2.nums (pv.map aG)=(S3,zs)->S3.aV (-n::zs)=S4->tZ SB D E.2 (i+1)=S4.pairs n zs):=fun S3 zs S4 e1 e2=>by rw[ain.out];unfold TB.name;dsimp only;rw[hS1,hn,hxs,hS2,hpv,e1];dsimp only;rw[e2]
    have hnb:0<=n/\n<=65536:=by rw[<-hn];exact TB.kN zH.out.Hf _
    have pq:Hid (Calls Tryz.prog 75 #[.pointer (some ⟨X.c,0,none⟩),fH (eG i)] wr fun e w'=>e= .returned (.int .i64 n)/\bQ w5 DJ DK Gl X Bs D (S1,E.2) m3 IB w'):=by rw[<-hS1];exact bQ.call zH.out zr fun gt' gb' jC Hx _=>ZR Hx (YB ⟨by omega,by omega⟩) n hn
    have Eo:=zh jg;have HXs:=zh hxs;have HS2:=zh hS2;rw[hpv]at hpl;obtain⟨np,hnp⟩:=ze pv.length;have HNp:=zh hnp;rw[hnp,He.out]at hpl;have aqb:=hpl.1;have HPt:=zh hpl.2;have HPv:=zh hpv;clear hs hgd hS hS1 hn hxs hS2 hpv hpl hnp jg ain;go_wp2_with fail;refine pq.out.mono ?_;rintro e w6 ⟨rfl,h6⟩;have H6:=zh h6;clear h6 pq zH q0 hcell;obtain⟨gt6,gb6,gp6,H6',A6,B6,C6,O6⟩:=H6.out;have HB6:=zh H6';have aiq:Hid (∀E2 I2 W,bQ w6 gt6 gb6 gp6 X Bs D E2 m3 I2 W->bQ w5 DJ DK Gl X Bs D E2 m3 I2 W):=fun E2 I2 W h=>bQ.trans A6 B6 C6 O6 h;obtain⟨us,hN⟩:=H6'.1.needs;have Xr:us.length=nn:=by rw[hN.len,H6'.1.D5,HNn.out]
    obtain⟨bs,cps,esv,-,-,htb,-⟩:=hN.row.pos zBB;rw[Xr]at esv;have hrow:=hN.row;rw[esv]at hrow;have hvr:=hN.rows i (by rw[H6'.1.D5,HNn.out];exact ci);rw[show E.2.needs.getD i []=xs from HXs.out]at hvr;obtain⟨vv,hvv⟩:=ze (us.getD i bK);have hcl:∀W,Only (fun k=>Mine gt6 k\/Mine gb6 k) w6 W->W.cell? ⟨bs,i,none⟩=some vv:=fun W o=>by rw[<-hvv];exact aK (hrow.cell bK zBB) o (fun hm=>H6'.1.Eh _ hm (by unfold Mine;rw[htb];simp))
    rw[hvv]at hvr;have hvI:Ints w6 vv xs:=Row.ints hvr (fun z hz=>by
     refine hN.rng xs ?_ z hz
     rw[<-HXs.out,qC,qA (by rw[H6'.1.D5,HNn.out];exact ci)]
     exact qZ _)
    obtain⟨ao,cap,rfl,-,-⟩:=hvI.shape;have hxl:xs.length<=900000:=by rw[<-HXs.out];exact xE.out.nr i
    obtain⟨nx,hnx⟩:=ze xs.length;rw[hnx]at hcl hvI hxl;have Lc:=zh hnx;have HI:=zh hvI;have HSv:=zh esv;have HS6:Hid (∀W,Only (fun k=>Mine gt6 k\/Mine gb6 k) w6 W->W.cell? ⟨X.px,0,none⟩=some (.pointer (some ⟨X.c,0,none⟩))/\W.cell? ⟨X.px,3,none⟩=some (.slice (some ⟨bs,0,none⟩) nn cps)/\W.cell? ⟨bs,i,none⟩=some (.slice ao nx cap)):=fun W o=>by have h:=HSN.out W (O6.sZ A6 B6 C6 (o.mono fun k hk=>.inl hk));rw[HSv.out]at h;exact⟨h.1,h.2.2.1,hcl W o⟩
    have rM:Hid (∀W,O0 w6 W->∀ad,ao=some ad->∀j u,(xs.map cI)[j]? =some u->W.cell? (ad.add j)=some u):=fun W hW=>(HI.out.aF hW).news;have Ai:Hid (ao=none->nx=0/\cap=0):=fun e=>HI.out.nil nx cap (by rw[e]);have HLen:Hid ((xs.map cI).length=nx*1):=by rw[qM,Lc.out,yH];exact rfl
    have lQ:Hid (∀W v2,O0 w6 W->W.ownsRow 0 3 1 v2 (1+nx) ([cI (-n)]++xs.map cI)->Calls Tryz.prog 163 #[.pointer (some ⟨X.c,0,none⟩),v2] W fun e w'=>e= .returned (.tuple #[])/\Only (fun k=>Mine gt6 k\/Mine gb6 k) w6 w'/\bQ w6 gt6 gb6 gp6 X Bs D (S2,E.2) m3 IB w'):=fun W v2 hW hown=>by
     have hI2:Ints W v2 (-n::xs):=by exact zCG
     rw[<-HS2.out];exact acL HB6.out hW hI2 (by rw[qN,Lc.out];omega)
    have ewn:=zw (-n);have hS0:=HS6.out w6.drew (zr.drew);clear H6' hN hrow hvr hcl hvI hnx A6 B6 C6 O6 esv htb Xr hvv H6;go_wp2_with fail;refine aT (n:=16) (E:=fun _=>false) (S:=fun W=>W.cell? ⟨X.px,0,none⟩=some (.pointer (some ⟨X.c,0,none⟩))/\W.cell? ⟨X.px,3,none⟩=some (.slice (some ⟨bs,0,none⟩) nn cps)/\W.cell? ⟨bs,i,none⟩=some (.slice ao nx cap)) zk rfl hS0 (fun hHeld=>?_);refine tW 0 ?_;refine tW 1 ?_;refine tW 2 ?_;refine tK 3 ?_;refine tW 4 ?_;refine tW 5 ?_;refine tW 7 ?_;refine tW 8 ?_;refine tW 9 ?_;refine tK 10 ?_;refine tW 11 ?_;refine tW 12 ?_;refine tK 13 ?_;refine tO 6 fun K hK=>?_;go_simp;refine hK.out _ _ ?_ (fun hHeld=>?_);·(try dsimp only)<;>(exact HS6.out _ zBA)
    clear hK K;try simp only[Act.put,dL,dQ,dM,dN,dO,dP]
    refine tO 14 fun K hK=>?_;(refine Ci kF (by rfl) (.tmp 115) (.tmp 122) (by rfl) (by rfl) (nT zBY) (by rfl) HLen.out Ai.out zEF zBS zBL (by decide) ?_;intro ao5 cap5 w7 r5 o5 Xe;have oA:O0 w6 w7:=Only.trans zBA o5 (fun k hk=>.inr zBV));refine hK.out _ _ ?_ (fun hHeld=>?_);·(try dsimp only)<;>(exact HS6.out _ (oA.mono fun _ f=>f.elim))
    clear hK K;try simp only[Act.put,dL,dQ,dM,dN,dO,dP]
    refine tO 15 fun K hK=>?_;(go_simp;refine(lQ.out _ _ zAD (aB r5 zBA (fun _ _ f=>f))).mono ?_;rintro e w8 ⟨rfl,o8,h8⟩;try go_wp2_with fail);refine hK.out _ _ ?_ (fun hHeld=>?_);·(try dsimp only)<;>(exact HS6.out _ o8)
    clear hK K;try simp only[Act.put,dL,dQ,dM,dN,dO,dP]
    refine aS zk ?_ _;have H8:=zh (aiq.out _ _ _ h8);clear h8 o8 r5 o5 Xe oA HS6 lQ rM Ai HLen hS0 HI aiq HB6 HSv;obtain⟨q0,-⟩:=HSN.out w8 H8.out.only;have zo:Hid (Calls Tryz.prog 78 #[.pointer (some ⟨X.c,0,none⟩)] w8 fun e w'=>e= .returned (.agg #[.slice a1 n1 c1,.slice a2 n2 c2])/\O0 w8 w'):=by obtain⟨_,_,_,Hy,_⟩:=H8.out;exact iH Hy.1.gx.gr uV.out.1 uV.out.2
    have J6:Hid (∀W,O0 w8 W->Calls Tryz.prog 165 #[.agg #[.slice a1 n1 c1,.slice a2 n2 c2],.string s] W fun e w'=> ∃v,e= .returned v/\w'.ownsRow 0 3 1 v np (iK pv)/\(∀k,v.ownBlock=some k->W.heap.size<=k)/\O0 W w'):=fun W o=>by obtain⟨_,_,_,Hy,_⟩:=H8.out;have h:=(Hy.aF o).1.gx.yZ;rw[uV.out.1,uV.out.2]at h;have h2:=kG h (by rw[He.out];omega) s;rw[HPv.out,HNp.out]at h2;exact h2
    go_wp2_with fail;refine zo.out.mono ?_;rintro e w9 ⟨rfl,O9⟩;have ais:=zh (J6.out w9 O9);have SC:=zh O9;clear O9 zo J6 q0;go_wp2_with fail;refine ais.out.mono ?_;rintro e wA ⟨vp,rfl,r3,b3,o3⟩;have Oo:Hid (O0 w8 wA):=SC.out.same o3;obtain⟨ap,cp,rfl,-,-⟩:=aH r3;have TU:=zh r3;obtain⟨UY,UZ,U0,HA',AA,BA,CA,OA⟩:=H8.out;have ait:Hid (∀k,(Value.slice ap np cp).ownBlock=some k->¬aX UY UZ U0 k):=fun k hk=>HA'.1.jD (qR SC.out.size (b3 k hk));have HAA:=zh (HA'.aF Oo.out);have alJ:Hid (∀E2 I2 W,bQ wA UY UZ U0 X Bs D E2 m3 I2 W->bQ w5 DJ DK Gl X Bs D E2 m3 I2 W):=fun E2 I2 W h=>bQ.trans AA BA CA (OA.same (Oo.out.mono fun _ f=>f.elim)) (bQ.after zr h);have Xf:Hid (∀W,Only (aX UY UZ U0) wA W->W.cell? ⟨X.px,0,none⟩=some (.pointer (some ⟨X.c,0,none⟩))):=fun W o=>(HSN.out W ((OA.same (Oo.out.mono fun _ f=>f.elim)).sZ AA BA CA o)).1;have DU:=zh HAA.out.1.sizes;have HL9:Hid (iC wA UY UZ U0 X Bs D (((S2.nums ((pv.take 0).map aG)).1),E.2) m3 IB wA bK (S2.nums ((pv.take 0).map aG)).2):=iC.start (bQ.refl HAA.out);clear r3 b3 o3 SC ais HA' AA BA CA OA H8 Oo;go_wp2_with fail;go_loopw [9,133] (fun v9 vj wr=> ∃j:Nat,vj= .int .i64 j/\j<=np/\Hid (iC wA UY UZ U0 X Bs D (((S2.nums ((pv.take j).map aG)).1),E.2) m3 IB wr v9 (S2.nums ((pv.take j).map aG)).2)) (fun _ v _=>np-(RowKit.intOf v).toNat);case atStart=>exact⟨0,rfl,qE _,HL9⟩
    case round=>
     clear HL9;obtain⟨j,rfl,hj,qp⟩:=hrel;by_cases cj:j<np
     ·obtain⟨t,ht⟩:=zG pv j (by rw[HNp.out];exact cj);have hcell:wr.cell? ⟨(match ap with|some a=>a.block|none=>0),j,none⟩=some (.int .i64 t)/\∃b,ap=some ⟨b,0,none⟩:=by have hrow:=aB TU.out qp.out.bk.only ait.out;obtain⟨b,cap,e,-,-⟩:=dB hrow zBB;simp only[qU]at e;obtain⟨rfl,-,rfl⟩:=e;refine⟨?_,b,rfl⟩;show wr.cell? ⟨b,j,none⟩=_;rw[hrow.cellAt j zBB];unfold iK;rw[List.getElem?_map,ht];rfl
      obtain⟨hcell,bt3,rfl⟩:=hcell;have htb:t<=1000:=by have:=HPt.out t (qT ht);omega
      obtain⟨S3,hS3⟩:=ze ((S2.nums ((pv.take j).map aG)).1);obtain⟨zs,hzs⟩:=ze ((S2.nums ((pv.take j).map aG)).2);have hzl:zs.length<=1000:=by rw[<-hzs];show(S2.1.nums _).2.length<=1000;rw[Tab.iO,qM,List.length_take];omega
      rw[hS3,hzs]at qp;obtain⟨q,hq⟩:=ze ((S3.num (aG t)).2);obtain⟨S4,hS4⟩:=ze ((S3.num (aG t)).1);have EZ:Hid (S2.nums ((pv.take (j+1)).map aG)=(S4,zs++[q])):=by show _=_;rw[List.take_add_one,ht];simp only[Option.toList_some,List.map_append,List.map_cons,List.map_nil];rw[TB.mY,hS3,hzs,hq,hS4]
      have zD:Hid (Calls Tryz.prog 164 #[.pointer (some ⟨X.c,0,none⟩),.int .i64 t] wr fun e w'=>e= .returned (.int .i64 q)/\iC wA UY UZ U0 X Bs D (S4,E.2) m3 IB w' u9 zs):=by rw[<-hS4];exact iC.call qp.out zr fun gt' gb' jC Hx=>Tn Hx zBB q hq
      have q0:=Xf.out wr qp.out.bk.only;have TT:=zw (j+1);have HEj:=zh TT;obtain⟨au,cu,hu,-,-⟩:∃au cu,u9= .slice au zs.length cu/\zs.length<=cu/\cu<=maxLen:=aH qp.out.own;subst hu;clear ht hS3 hzs hq hS4 TT qp;go_wp2_with fail;refine zD.out.mono ?_;rintro e wb ⟨rfl,hb⟩;have Hb:=zh hb;have acS:=zh hb.own;clear hb zD q0 hcell;go_wp2_with (at_builtin;go_must (refine zJ (u:=.int .i64 q) kF rfl (.tmp 137) (.tmp 144) rfl rfl rfl (cell_new0 _ _ _) rfl (aB acS.out ((Only.refl (fun _=>False) _).alloc _) (fun _ _ f=>f)) zBB zBC ?_));intro v' w6' s1 s2 s3;have alL:Hid (iC wA UY UZ U0 X Bs D (((S2.nums ((pv.take (j+1)).map aG)).1),E.2) m3 IB w6' v' (S2.nums ((pv.take (j+1)).map aG)).2):=by rw[EZ.out];exact iC.app DU.out Hb.out ((Only.refl (fun _=>False) wb).alloc _) s1 s2 s3
      obtain⟨g6,c6',rfl,-,-,-⟩:=s3;have TT:=HEj.out;clear s1 s2 Hb acS;go_wp2_with fail;go_roundw;case rel=>exact⟨j+1,by first|rfl|go_num,by omega,alL⟩
      case measure=>simp[RowKit.intOf]<;>omega
     obtain rfl:np=j:=by omega
     clear hj cj;rw[qI (yG HNp.out)]at qp;obtain⟨S3,hS3⟩:=ze ((S2.nums (pv.map aG)).1);obtain⟨zs,hzs⟩:=ze ((S2.nums (pv.map aG)).2);have hzl:zs.length<=1000:=by rw[<-hzs];show(S2.1.nums _).2.length<=1000;rw[Tab.iO,qM,HNp.out];omega
     have hzb:∀y∈zs,0<=y/\y<=65536:=by
      rw[<-hzs];have:=(Tab.nG (pv.map aG) (T:=S2.1) (by
       have h:=HAA.out.1.ok
       simpa[TB.nums,Tab.nums]using h)).2
      exact this
     obtain⟨S4,hS4⟩:∃q,S3.aV (-n::zs)=q:=⟨_,rfl⟩;have HFn:Hid (tZ SB D E.2 (i+1)=S4.pairs n zs):=jr.out S3 zs S4 (by rw[<-hS3,<-hzs]) hS4;rw[hS3,hzs]at qp;obtain⟨nz,hnz⟩:=ze zs.length;have HNz:=zh hnz;have YL:=zh hzb;obtain⟨au,cu,hu,-,-⟩:∃au cu,u9= .slice au zs.length cu/\zs.length<=cu/\cu<=maxLen:=aH qp.out.own;subst hu;rw[hnz]at hzl;have acT:Hid (wr.ownsRow 0 3 1 (.slice au nz cu) nz (zs.map cI)):=by have h:=qp.out.own;rw[hnz]at h;exact h
     rw[hnz]at qp⊢;have hzI:∀z∈zs,aO z:=fun z hz=>dX (hzb z hz);have HIz:Hid (Ints wr (.slice au nz cu) zs):=Ints.dF (by rw[hnz];exact acT.out) hzI;have rM:Hid (∀W,O0 wr W->∀ad,au=some ad->∀j u,(zs.map cI)[j]? =some u->W.cell? (ad.add j)=some u):=fun W hW=>(HIz.out.aF hW).news;have Ai:Hid (au=none->nz=0/\cu=0):=fun e=>HIz.out.nil nz cu (by rw[e]);have HLen:Hid ((zs.map cI).length=nz*1):=by rw[qM,HNz.out,yH];exact rfl
     have lQ:Hid (∀W v2,O0 wr W->W.ownsRow 0 3 1 v2 (1+nz) ([cI (-n)]++zs.map cI)->Calls Tryz.prog 163 #[.pointer (some ⟨X.c,0,none⟩),v2] W fun e w'=>e= .returned (.tuple #[])/\iC wA UY UZ U0 X Bs D (S4,E.2) m3 IB w' (.slice au nz cu) zs):=fun W v2 hW hown=>by
      have hI2:Ints W v2 (-n::zs):=by
       refine Ints.dF ?_ fun z hz=>?_
       ·have e1:1+nz=(-n::zs).length:=by rw[qN,HNz.out];omega
        rw[e1]at hown;simpa using hown
       rcases qY.1 hz with rfl|hz;·exact bW hnb
       exact dX (YL.out z hz)
      rw[<-hS4];exact iC.call qp.out hW fun gt' gb' jC Hx=>UU Hx hI2 (by rw[qN,HNz.out];omega)
     have ewn:=zw (-n);have hS0:wr.drew.cell? ⟨X.px,0,none⟩=some (.pointer (some ⟨X.c,0,none⟩)):=Xf.out wr.drew (qp.out.bk.only.drew);have HON:=zh qp.out.bk.only;clear hS3 hzs hzb hnz hzI TU ait jr DU;go_wp2_with fail;refine aT (n:=10) (E:=fun _=>false) (S:=fun W=>W.cell? ⟨X.px,0,none⟩=some (.pointer (some ⟨X.c,0,none⟩))) zk rfl hS0 (fun hHeld=>?_);refine tW 0 ?_;refine tW 1 ?_;refine tW 2 ?_;refine tK 3 ?_;refine tW 4 ?_;refine tW 5 ?_;refine tW 7 ?_;refine tO 6 fun K hK=>?_;go_simp;refine hK.out _ _ ?_ (fun hHeld=>?_);·(try dsimp only)<;>(exact Xf.out _ (HON.out.same ((zBA:O0 wr _).mono fun _ f=>f.elim)))
     clear hK K;try simp only[Act.put,dL,dQ,dM,dN,dO,dP]
     refine tO 8 fun K hK=>?_;(refine Ci kF (by rfl) (.tmp 153) (.tmp 154) (by rfl) (by rfl) (nT zBY) (by rfl) HLen.out Ai.out zEF zBS zBL (by decide) ?_;intro ao5 cap5 wd r5 o5 Xe;have oA:O0 wr wd:=Only.trans zBA o5 (fun k hk=>.inr zBV));refine hK.out _ _ ?_ (fun hHeld=>?_);·(try dsimp only)<;>(exact Xf.out _ (HON.out.same (oA.mono fun _ f=>f.elim)))
     clear hK K;try simp only[Act.put,dL,dQ,dM,dN,dO,dP]
     refine tO 9 fun K hK=>?_;(go_simp;refine(lQ.out _ _ zAD (aB r5 zBA (fun _ _ f=>f))).mono ?_;rintro e wc ⟨rfl,hc⟩;try go_wp2_with fail);refine hK.out _ _ ?_ (fun hHeld=>?_);·(try dsimp only)<;>(exact Xf.out _ hc.bk.only)
     clear hK K;try simp only[Act.put,dL,dQ,dM,dN,dO,dP]
     refine aS zk ?_ _;have Hc:=zh hc;clear hc r5 o5 Xe oA lQ rM Ai HLen hS0 HIz qp HON acT ewn;have HLp:Hid (iC wA UY UZ U0 X Bs D (rY S4 n zs 0,E.2) m3 IB wc (.slice au nz cu) zs):=Hc.out;clear Hc;go_wp2_with fail;generalize wc=wf at*;go_loopw [159] (fun vk wr=> ∃k:Nat,vk= .int .i64 k/\k<=nz/\Hid (iC wA UY UZ U0 X Bs D (rY S4 n zs k,E.2) m3 IB wr (.slice au nz cu) zs)) (fun v _=>nz-(RowKit.intOf v).toNat);case atStart=>exact⟨0,rfl,qE _,HLp⟩
     case round=>
      clear HLp;obtain⟨k,rfl,hk,HRk⟩:=hrel;by_cases ck:k<nz
      ·have hkl:k<zs.length:=by rw[HNz.out];exact ck
       obtain⟨a,ha⟩:=ze (zs.getD k 0);have hab:0<=a/\a<=65536:=by rw[<-ha];exact YL.out _ (jP 0 hkl)
       have hIk:Ints wr (.slice au nz cu) zs:=Ints.dF HRk.out.own (fun z hz=>dX (YL.out z hz));obtain⟨bb,off,rfl,hcell⟩:=hIk.Ah hkl;rw[ha]at hcell;obtain⟨aa,cc,hcc,hc1,-⟩:=hIk.shape;simp only[qU]at hcc;obtain⟨-,-,hcc⟩:=hcc;subst hcc;rw[HNz.out]at hc1;have hsl:=fun W=>qh bb off nz (k+1) cu zAB hc1 W ((k:Int)+1) zBB;obtain⟨o',ho'⟩:∃o',o'=if cu=k+1 then off else off+(k+1):=⟨_,rfl⟩
       obtain⟨m,hm⟩:=ze (nz-(k+1));have hm6:m<=1000:=zBB;obtain⟨c2',hc2'⟩:=ze (cu-(k+1));have HD:Hid (∀W,Ints W (.slice (some ⟨bb,off,none⟩) nz cu) zs->Ints W (.slice (some ⟨bb,o',none⟩) m c2') (zs.drop (k+1))):=fun W hW=>by have:=hW.XL (k:=k+1) zBB;rw[<-ho',hm,hc2']at this;exact this
       rw[<-ho',hm,hc2']at hsl;have hdl:(zs.drop (k+1)).length=m:=by rw[List.length_drop,HNz.out,hm]
       have HDl:=zh hdl;have Vl:=zw (k+1);obtain⟨Sk,hSk⟩:=ze (rY S4 n zs k);have alQ:Hid (rY S4 n zs (k+1)=ru Sk n a (zs.drop (k+1))):=by show _=_;rw[L8,hSk,ha]
       rw[hSk]at HRk;have HLi:Hid (iC wA UY UZ U0 X Bs D (ru Sk n a ((zs.drop (k+1)).take 0),E.2) m3 IB wr (.slice (some ⟨bb,off,none⟩) nz cu) zs):=HRk.out;clear hIk hkl ha ho' hm hc2' hSk hdl HRk;go_wp2_with fail;generalize wr=wg at*;go_loopw [169] (fun vj wr=> ∃j:Nat,vj= .int .i64 j/\j<=m/\Hid (iC wA UY UZ U0 X Bs D (ru Sk n a ((zs.drop (k+1)).take j),E.2) m3 IB wr (.slice (some ⟨bb,off,none⟩) nz cu) zs)) (fun v _=>m-(RowKit.intOf v).toNat);case atStart=>exact⟨0,rfl,qE _,HLi⟩
       case round=>
        clear HLi hcell hsl;obtain⟨j,rfl,hj,HRj⟩:=hrel;by_cases cj:j<m
        ·have hjl:j<(zs.drop (k+1)).length:=by rw[HDl.out];exact cj
         obtain⟨b,hb⟩:=ze ((zs.drop (k+1)).getD j 0);have hbb:0<=b/\b<=65536:=by rw[<-hb];exact YL.out _ (List.mem_of_mem_drop (jP 0 hjl))
         have hIj:Ints wr (.slice (some ⟨bb,off,none⟩) nz cu) zs:=Ints.dF HRj.out.own (fun z hz=>dX (YL.out z hz));obtain⟨bb2,off2,e2,hcell⟩:=(HD.out wr hIj).Ah hjl;simp only[qG,qO,and_true]at e2;obtain⟨rfl,rfl⟩:=e2;rw[hb]at hcell;have alR:Hid (ru Sk n a ((zs.drop (k+1)).take (j+1))=(ru Sk n a ((zs.drop (k+1)).take j)).aV [-n,-a,-b]):=by
          show _=_;rw[yL hjl,Qh];have e:(zs.drop (k+1))[j]'hjl=b:=by rw[<-hb,qC,qA hjl];rfl
          rw[e]
         have lQ:Hid (Calls Tryz.prog 163 #[.pointer (some ⟨X.c,0,none⟩),.slice (some ⟨wr.heap.size,0,none⟩) 3 3] (wr.alloc (.cells #[.int .i64 (-n),.int .i64 (-a),.int .i64 (-b)] 3)) fun e w'=>e= .returned (.tuple #[])/\iC wA UY UZ U0 X Bs D (ru Sk n a ((zs.drop (k+1)).take (j+1)),E.2) m3 IB w' (.slice (some ⟨bb,off,none⟩) nz cu) zs):=by rw[alR.out];exact iC.call HRj.out (zr.alloc _) fun gt' gb' jC Hx=>UU Hx (OZ wr (-n) (-a) (-b) (bW hnb) (bW hab) (bW hbb)) zAE
         have q0:=Xf.out wr HRj.out.bk.only;have ewn:=zw (-n);have ewa:=zw (-a);have ewb:=zw (-b);have TT:=zw (j+1);have HEj:=zh TT;clear hIj hjl hb HRj TT;go_wp2_with fail;refine lQ.out.mono ?_;rintro e wh ⟨rfl,hh⟩;have HH:=zh hh;have TT:=HEj.out;clear hh lQ q0 ewn ewa ewb hcell;go_wp2_with fail;go_roundw;case rel=>exact⟨j+1,by first|rfl|go_num,by omega,HH⟩
         case measure=>simp[RowKit.intOf]<;>omega
        obtain rfl:m=j:=by omega
        have HF:Hid (iC wA UY UZ U0 X Bs D (rY S4 n zs (k+1),E.2) m3 IB wr (.slice (some ⟨bb,off,none⟩) nz cu) zs):=by rw[alQ.out];have h:=HRj.out;rw[qI (yG HDl.out)]at h;exact h
        clear HRj;exact zB1
      obtain rfl:nz=k:=by omega
      have HF:Hid (bQ w5 DJ DK Gl X Bs D (tZ SB D E.2 (i+1),E.2) m3 IB wr):=by refine alJ.out _ _ _ ?_;rw[HFn.out];have h:=HRk.out.bk;rw[<-HNz.out]at h;exact h
      have jg:=Eo.out;clear HRk;exact zB2
   obtain rfl:nn=i:=by omega
   clear hi ci;obtain⟨SN,hSN⟩:=ze (tZ SB D E.2 nn);rw[hSN]at zH H9;have H9':=zh H9.out;obtain⟨gtP,gbP,gpP,HP',AP,BP,CP,OP⟩:=zH.out;have ae6:(intsOf D.l).length=D.l.length:=by unfold intsOf;rw[qM]
   obtain⟨nl,hnl⟩:=ze D.l.length;have ae7:=zh (sN HP'.1.gx.gr HP'.1.gx.l (by rw[ae6];omega));rw[ae6,hnl]at ae7;have oD:=zh hnl;have hlt:=HR.out.g.lt;have aiu:Hid (∀E2 I2 W,bQ wr gtP gbP gpP X Bs D E2 m3 I2 W->aQ w gt gb gp X Bs D E2 W):=fun E2 I2 W h=>acQ.out E2 I2 W (bQ.trans AP BP CP OP h);have HBP:=zh HP';have HSP:Hid (∀W,Only (aX gtP gbP gpP) wr W->W.cell? ⟨X.px,0,none⟩=some (.pointer (some ⟨X.c,0,none⟩))/\W.cell? ⟨X.px,4,none⟩=some (.map (some X.m2))):=fun W o=>⟨(HSN.out W (OP.sZ AP BP CP o)).1,(HSN.out W (OP.sZ AP BP CP o)).2.2.2⟩;obtain⟨q0,-⟩:=HSP.out wr zr;rw[hnl]at hll;clear HP' AP BP CP OP hSN ae6 hnl zH HSN Kt H5 acQ H9;generalize wr=w6 at*;go_wp2_with fail;refine ae7.out.mono ?_;rintro e w7 ⟨vp,rfl,r3,b3,o3⟩;obtain⟨ap,cp,rfl,-,-⟩:=aH r3;have TU:=zh r3;have alT:Hid (∀k,(Value.slice ap nl cp).ownBlock=some k->¬aX gtP gbP gpP k):=fun k hk=>HBP.out.1.jD (b3 k hk);have HB7:=zh (HBP.out.aF o3);have uU:=zh o3;have HL7:Hid (bQ w7 gtP gbP gpP X Bs D (xY SN E.2 IB (D.l.take 0),E.2) m3 IB w7):=bQ.refl HB7.out;clear r3 b3 o3 ae7 q0 HBP;go_wp2_with fail;go_loopw [194] (fun vi wr=> ∃i:Nat,vi= .int .i64 i/\i<=nl/\Hid (bQ w7 gtP gbP gpP X Bs D (xY SN E.2 IB (D.l.take i),E.2) m3 IB wr)) (fun v _=>nl-(RowKit.intOf v).toNat);case atStart=>exact⟨0,rfl,qE _,HL7⟩
   case round=>
    clear HL7;obtain⟨i,rfl,hi,zH⟩:=hrel;by_cases ci:i<nl
    ·obtain⟨t,ht⟩:=zG D.l i zAd;have hrow:=aB TU.out zH.out.only alT.out;obtain⟨bt3,cap,e1,-,-⟩:=dB hrow zBB;simp only[qU]at e1;obtain⟨rfl,-,rfl⟩:=e1;have hcell:wr.cell? ⟨bt3,i,none⟩=some (.int .i64 t):=by rw[hrow.cellAt i zBB];unfold intsOf;rw[List.getElem?_map,List.getElem?_map,ht];rfl
     have htb:t<=1000:=by have h1:=hlt t (qT ht);have h2:=HR.out.g.mid.packs;omega
     have jg:=zw (i+1);obtain⟨S,hS⟩:=ze (xY SN E.2 IB (D.l.take i));rw[hS]at zH;obtain⟨d,hd⟩:=ze ((S.num (aG t)).2);obtain⟨S1,hS1⟩:=ze ((S.num (aG t)).1);have hdb:0<=d/\d<=65536:=by rw[<-hd];exact TB.kN zH.out.Hf _
     obtain⟨xr,hxr⟩:=ze (bT E.2.roots t);obtain⟨xi,hxi⟩:=ze (bT IB t);have jr:Hid (xY SN E.2 IB (D.l.take (i+1))=S1.aV (-d::(xr++xi))):=by show _=_;rw[List.take_add_one,ht];simp only[Option.toList_some];rw[Tz,hS];unfold TB.place;rw[hd,hS1,hxr,hxi]
     obtain⟨OW,gb8,Xj,H8,A8,B8,C8,O8⟩:=zH.out;have HTr:Hid (∀E2 I2 W,bQ wr OW gb8 Xj X Bs D E2 m3 I2 W->bQ w7 gtP gbP gpP X Bs D E2 m3 I2 W):=fun E2 I2 W h=>bQ.trans A8 B8 C8 O8 h;have HB8:=zh H8;obtain⟨v3,MP⟩:=H8.1.roots;obtain⟨v4,hRi⟩:=H8.2;have ae8:KI.ok t:=⟨by omega,by omega⟩;have hdis:∀k,Mine OW k\/Mine gb8 k->¬Mine Xj k:=H8.1.Eh;have hlr:∀W,Only (fun k=>Mine OW k\/Mine gb8 k) wr W->(Instr.lookup 151 (.map (some X.m2)) (.int .i64 (t:Int)) false).run Tryz.prog W= .ok (v3 t) W:=fun W o=>MP.look' ae8 o (fun hm=>hdis _ hm (by unfold Mine;rw[MP.tb];simp));have hli:∀W,Only (fun k=>Mine OW k\/Mine gb8 k) wr W->(Instr.lookup 151 (.map (some m3)) (.int .i64 (t:Int)) false).run Tryz.prog W= .ok (v4 t) W:=fun W o=>hRi.look' ae8 o (fun hm=>hdis _ hm (by unfold Mine;rw[hRi.tb];simp));have hrr:=MP.rowAt t;have hri:=hRi.rowAt t;rw[show bT E.2.roots t=xr from hxr]at hrr;rw[hxi]at hri;have VJ:∀W,Only (fun k=>Mine OW k\/Mine gb8 k) wr W->Ints W (v3 t) xr:=fun W o=>Row.ints (hrr.only o (fun k hk hm=>hdis k hm zA8)) (fun z hz=>by
      obtain⟨e0,he0,hz0⟩:=Dl (show z∈bT E.2.roots t by rw[hxr];exact hz)
      exact MP.rng e0 he0 z hz0)
     have hIi:∀W,Only (fun k=>Mine OW k\/Mine gb8 k) wr W->Ints W (v4 t) xi:=fun W o=>Row.ints (hri.only o (fun k hk hm=>hdis k hm zA8)) (fun z hz=>by
      obtain⟨e0,he0,hz0⟩:=Dl (show z∈bT IB t by rw[hxi];exact hz)
      exact hRi.rng e0 he0 z hz0)
     have alU:xr.length<=900000:=by rw[<-hxr];exact xE.out.ror t
     have alV:xi.length<=60000:=by rw[<-hxi];have:=HIB.out.2 t;omega
     obtain⟨ar,cr,evr,-,-⟩:=(VJ wr zr).shape;obtain⟨ai,ci',evi,-,-⟩:=(hIi wr zr).shape;rw[evr]at hlr VJ;rw[evi]at hli hIi;obtain⟨nr,hnr⟩:=ze xr.length;obtain⟨ni,hni⟩:=ze xi.length;rw[hnr]at hlr VJ alU;rw[hni]at hli hIi alV;have Vm:=zh hnr;have Y1:=zh hni;have HIr:=zh VJ;have HIi:=zh hIi;have Xo:Hid (∀W,Only (fun k=>Mine OW k\/Mine gb8 k) wr W->W.cell? ⟨X.px,0,none⟩=some (.pointer (some ⟨X.c,0,none⟩))/\W.cell? ⟨X.px,4,none⟩=some (.map (some X.m2))/\(Instr.lookup 151 (.map (some X.m2)) (.int .i64 (t:Int)) false).run Tryz.prog W= .ok (.slice ar nr cr) W/\(Instr.lookup 151 (.map (some m3)) (.int .i64 (t:Int)) false).run Tryz.prog W= .ok (.slice ai ni ci') W):=fun W o=>by have hm:=O8.sZ A8 B8 C8 (o.mono fun k hk=>.inl hk);have h:=HSP.out W ((uU.out.mono fun _ f=>f.elim).same hm);exact⟨h.1,h.2,hlr W o,hli W o⟩
     have zD:Hid (∀W,O0 wr W->Calls Tryz.prog 164 #[.pointer (some ⟨X.c,0,none⟩),.int .i64 t] W fun e w'=>e= .returned (.int .i64 d)/\WS wr OW gb8 Xj X Bs D (S1,E.2) m3 IB w'):=fun W o=>by rw[<-hS1];exact abP HB8.out o zBB d hd
     obtain⟨nA,hnA⟩:∃n,(-d::(xr++xi)).length=n:=⟨_,rfl⟩;have HCc:Hid (∀w9 W g,WS wr OW gb8 Xj X Bs D (S1,E.2) m3 IB w9->O0 w9 W->W.heap[g]? =some (.cells #[.slice (some ⟨w9.heap.size,0,none⟩) 1 1,.slice ar nr cr,.slice ai ni ci'] 78 (0,0))->Ints W (.slice (some ⟨w9.heap.size,0,none⟩) 1 1) [-d]->Calls Tryz.prog 166 #[.slice (some ⟨g,0,none⟩) 3 3] W fun e w'=> ∃v,e= .returned v/\w'.ownsRow 0 3 1 v nA ((-d::(xr++xi)).map cI)/\(∀k,v.ownBlock=some k->W.heap.size<=k)/\O0 W w'):=fun w9 W g h9 o hb hI=>by obtain⟨_,_,_,_,_,Ok⟩:=h9;rw[<-hnA];exact ZT hb hI (HIr.out W (Ok.same (o.mono fun _ f=>f.elim))) (HIi.out W (Ok.same (o.mono fun _ f=>f.elim))) (by rw[Vm.out,Y1.out];simp;omega)
     have lQ:Hid (∀w9 W v,WS wr OW gb8 Xj X Bs D (S1,E.2) m3 IB w9->O0 w9 W->W.ownsRow 0 3 1 v nA ((-d::(xr++xi)).map cI)->Calls Tryz.prog 163 #[.pointer (some ⟨X.c,0,none⟩),v] W fun e w'=>e= .returned (.tuple #[])/\Only (fun k=>Mine OW k\/Mine gb8 k) wr w'/\bQ w7 gtP gbP gpP X Bs D (xY SN E.2 IB (D.l.take (i+1)),E.2) m3 IB w'):=fun w9 W v h9 o hown=>by
      rw[<-hnA]at hown;have hI2:Ints W v (-d::(xr++xi)):=Ints.dF hown fun z hz=>by
       rcases qY.1 hz with rfl|hz;·exact bW hdb
       rcases qW.1 hz with hz|hz;·exact(HIr.out wr zr).range z hz
       exact(HIi.out wr zr).range z hz
      obtain⟨gt9,gb9,H9b,A9,B9,O9⟩:=h9;refine(aeT H9b o hI2 (by rw[qN,qK,Vm.out,Y1.out];omega)).mono fun e w' ⟨he,h⟩=>⟨he,?_,?_⟩;·obtain⟨_,_,_,_,_,Oa⟩:=h;exact O9.Ag A9 B9 Oa
      rw[jr.out];exact HTr.out _ _ _ (bQ.trans A9 B9 (Agree.refl _ _) (O9.mono fun k hk=>.inl hk) h.bk)
     have ewd:=zw (-d);have hS0:=Xo.out wr.drew (zr.drew);have Eo:=zh jg;clear hnA ht hrow hS hd hS1 hxr hxi H8 A8 B8 C8 O8 MP hRi ae8 hdis hlr hli hrr hri VJ hIi evr evi hnr hni jg jr zH HTr;go_wp2_with fail;refine aT (n:=24) (E:=fun _=>false) (S:=fun W=>W.cell? ⟨X.px,0,none⟩=some (.pointer (some ⟨X.c,0,none⟩))/\W.cell? ⟨X.px,4,none⟩=some (.map (some X.m2))/\(Instr.lookup 151 (.map (some X.m2)) (.int .i64 (t:Int)) false).run Tryz.prog W= .ok (.slice ar nr cr) W/\(Instr.lookup 151 (.map (some m3)) (.int .i64 (t:Int)) false).run Tryz.prog W= .ok (.slice ai ni ci') W) zk rfl hS0 (fun hHeld=>?_);refine tW 0 ?_;refine tW 1 ?_;refine tW 2 ?_;refine tK 3 ?_;refine tW 4 ?_;refine tW 5 ?_;refine tW 6 ?_;refine tK 7 ?_;refine tW 8 ?_;refine tW 12 ?_;refine tW 13 ?_;refine tW 14 ?_;refine tK 15 ?_;refine tW 16 ?_;refine tK 17 ?_;refine tW 18 ?_;refine tW 19 ?_;refine tK 20 ?_;refine tO 9 fun K hK=>?_;(go_simp;refine(zD.out _ zBA).mono ?_;rintro e w9 ⟨rfl,h9⟩;have oM:Only (fun k=>Mine OW k\/Mine gb8 k) wr w9:=(by obtain⟨_,_,_,_,_,O⟩:=h9;exact O);try go_wp2_with fail);refine hK.out _ _ ?_ (fun hHeld=>?_);·(try dsimp only)<;>(exact Xo.out _ oM)
     clear hK K;try simp only[Act.put,dL,dQ,dM,dN,dO,dP]
     refine tW 10 ?_;refine tO 11 fun K hK=>?_;go_simp;refine hK.out _ _ ?_ (fun hHeld=>?_);·(try dsimp only)<;>(exact Xo.out _ zAF)
     clear hK K;try simp only[Act.put,dL,dQ,dM,dN,dO,dP]
     refine tO 21 fun K hK=>?_;go_simp;refine hK.out _ _ ?_ (fun hHeld=>?_);·(try dsimp only)<;>(exact Xo.out _ zAF)
     clear hK K;try simp only[Act.put,dL,dQ,dM,dN,dO,dP]
     refine tO 22 fun K hK=>?_;(go_simp;refine(HCc.out w9 _ _ h9 (by repeat (first|exact Only.refl _ _|apply Only.drew|apply Only.alloc|apply Only.drewN)) (by first|exact qL _ _|exact alloc_at zBN|exact alloc_at rfl) (by first|exact YT _ _ (bW hdb)|exact(YT w9 _ (bW hdb)).aF zAA)).mono ?_;rintro e wA ⟨vA,rfl,rA,bA,oA0⟩;have oA:O0 w9 wA:=Only.same zBA oA0;obtain⟨aA,cA,rfl,-,-⟩:=aH rA;try go_wp2_with fail);refine hK.out _ _ ?_ (fun hHeld=>?_);·(try dsimp only)<;>(exact Xo.out _ (oM.same (oA.mono fun _ f=>f.elim)))
     clear hK K;try simp only[Act.put,dL,dQ,dM,dN,dO,dP]
     refine tO 23 fun K hK=>?_;(go_simp;refine(lQ.out w9 wA _ h9 zAD (aB rA zBA (fun _ _ f=>f))).mono ?_;rintro e wB ⟨rfl,oB,hB⟩;try go_wp2_with fail);refine hK.out _ _ ?_ (fun hHeld=>?_);·(try dsimp only)<;>(exact Xo.out _ oB)
     clear hK K;try simp only[Act.put,dL,dQ,dM,dN,dO,dP]
     refine aS zk ?_ _;have HF:=zh hB;have jg:=Eo.out;clear hB oB oA oA0 rA bA h9 oM zD HCc lQ Xo hS0;exact zB2
    obtain rfl:nl=i:=by omega
    have h:=zH.out;rw[qI (yG oD.out),H9'.out]at h;have HF:=zh (aiu.out _ _ _ (bQ.after uU.out h));clear h zH;go_wp2_with fail;go_end0;exact⟨rfl,HF.out⟩
end
end Go.Proofs.YtdmmebjjojimiaaGreatDoor
