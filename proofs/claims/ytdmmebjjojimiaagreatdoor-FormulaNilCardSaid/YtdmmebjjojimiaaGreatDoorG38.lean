/- Package check: prefer. Printed by gen_ck4.py. -/
import Derived.Test.YtdmmebjjojimiaaGreatDoorG37
set_option maxRecDepth 100000
set_option maxHeartbeats 8000000
set_option linter.all false
namespace Go.Proofs
theorem zAQ{p:Prop}(h:p:=by(intro w hSw;obtain⟨k0,k1,kf⟩:=HK.out w hSw;have nJ:=(sF.out w hSw).1;have gy4:=nJ 4 _ rfl;clear nJ;go_simp<;>(try with_reducible rfl))):p:=h
theorem zBI{p:Prop}(h:p:=by rw[dU.out];omega):p:=h
theorem zCx{p:Prop}(h:p:=by
 refine tW 13 ?_
 refine tW 14 ?_
 refine aS zk ?_ _
 have Aq:=zh hHeld
 clear hHeld
 go_wp2_with fail
 go_ret
 exact⟨rfl,Aq.out⟩):p:=h
theorem zC9{p:Prop}(h:p:=by
 have hres:r=false:=zAp
 subst hres
 go_wp2_with fail
 go_ret
 exact⟨rfl,ig.out.same (bg.out.same HP2.out)⟩):p:=h
end Go.Proofs
namespace Go.Proofs.YtdmmebjjojimiaaGreatDoor
open Go.RowKit
section
variable {w w':World} {B:Nat}
attribute [local irreducible] wpQuiet
def aC.wF(x:aC)(i:Nat):Bool:=
 x.pz (x.cO.getD i default).virtual&& !((x.cO.take i).any fun g=>decide (g.virtual=(x.cO.getD i default).virtual))&&fJ (x.cO.getD i default).names
  && !((x.cO.getD i default).names.any fun n=> !(decide (0<=x.find n)&&lJ (x.pack (x.find n).toNat).provides (x.cO.getD i default).virtual))
theorem Qb:∀args w,(callFunc 188 args).run Tryz.prog w= .ok (.enter 188 args) w:=enters_of Tryz.func188 zk rfl
theorem Qc:∀args w,(callFunc 190 args).run Tryz.prog w= .ok (.enter 190 args) w:=enters_of Tryz.func190 zk rfl
theorem abI(gf:Nat)(s:Str)(h0:w.cell? ⟨gf,0,none⟩=some (.string s)):rH jX B 188 #[.pointer (some ⟨gf,0,none⟩)] (fun g=>decide (g.virtual=s)) w:=by
 intro W cs g hO hC;obtain⟨v1,rfl,-,-,hv⟩:=hC;obtain⟨a1,c1,rfl,-,-⟩:=hv.shape;obtain⟨n1,hn1⟩:=ze g.names.length;rw[hn1];have oA:O0 W (W.alloc (.cells #[.string g.virtual,.slice a1 n1 c1,.int .i64 g.line] 103)):=zr.alloc _;have q0:=aK h0 (hO.same oA) (fun f=>f);have hd:=BX g.virtual s;show Calls Tryz.prog _ _ W fun e w'=>e= .returned (.bool (decide (g.virtual=s)))/\O0 W w';clear h0 hO hv hn1;go_enter Tryz.func188,Tryz.ntmps188;by_cases hy:g.virtual=s;·rw[qX hy]at hd⊢;clear hy;exact zDA
 rw[qP hy]at hd⊢;clear hy;exact zDA
theorem abJ{x:aC}{a1 a2:Option Addr}{n1 c1 n2 c2 bx gf:Nat}{s:Str}(hx:gG B w [.slice a1 n1 c1,.slice a2 n2 c2] x)(hN:x.packs.length=n1)(hk:w.cell? ⟨bx,0,none⟩=some (.slice a1 n1 c1)/\w.cell? ⟨bx,1,none⟩=some (.slice a2 n2 c2)/\w.cell? ⟨gf,0,none⟩=some (.string s)):UQ 190 #[.pointer (some ⟨bx,0,none⟩),.pointer (some ⟨gf,0,none⟩)] (fun n=> !(decide (0<=x.find n)&&lJ (x.pack (x.find n).toNat).provides s)) w:=by
 intro W0 n hO hn;have HK:Hid (∀W,O0 W0 W->W.cell? ⟨bx,0,none⟩=some (.slice a1 n1 c1)/\W.cell? ⟨bx,1,none⟩=some (.slice a2 n2 c2)/\W.cell? ⟨gf,0,none⟩=some (.string s)):=fun W o=>
  ⟨aK hk.1 (hO.same o) (fun f=>f),aK hk.2.1 (hO.same o) (fun f=>f),aK hk.2.2 (hO.same o) (fun f=>f)⟩
 have HX:Hid (∀W,O0 W0 W->gG B W [.slice a1 n1 c1,.slice a2 n2 c2] x):=fun W o=>gG.keep hx (Kp.fU (hO.same o));have gQ:Hid (∀W,O0 W0 W->aJ 8 fF B W (.slice a1 n1 c1) x.packs):=fun W o=>by obtain⟨v1,v2,e,h1,h2⟩:=HX.out W o;cases e;exact h1
 have aW:=zh hN;obtain⟨f,hf⟩:=ze (x.find n);have abG:=x.rG n;have HF:Hid (Calls Tryz.prog 182 #[.agg #[.slice a1 n1 c1,.slice a2 n2 c2],.string n] W0 fun e w'=>e= .returned (.int .i64 f)/\O0 W0 w'):=by rw[<-hf];exact lK (HX.out W0 zr) n
 obtain⟨r,hr⟩:∃r,(!(decide (0<=x.find n)&&lJ (x.pack (x.find n).toNat).provides s))=r:=⟨_,rfl⟩;show Calls Tryz.prog _ _ W0 fun e w'=>e= .returned (.bool (!(decide (0<=x.find n)&&lJ (x.pack (x.find n).toNat).provides s)))/\O0 W0 w';rw[hr];rw[hf]at hr abG;rw[hN]at abG;have bH:Hid (r= !(decide (0<=f)&&lJ (x.pack f.toNat).provides s)):=hr.symm;obtain⟨k0,k1,kf⟩:=HK.out W0 zr;clear hx hN hk hO hf hr;go_enter Tryz.func190,Tryz.ntmps190;go_wp2_with fail;refine HF.out.mono ?_;rintro e w1 ⟨rfl,O1⟩;have bg:=zh O1;clear O1 k0 k1 kf HF;obtain⟨k0,k1,kf⟩:=HK.out w1 bg.out;by_cases hf:f<0
 ·have hlt:decide (f<0)=true:=qX hf;have hr:r=true:=by rw[bH.out,qP (Int.not_le.2 hf)];rfl
  subst hr;clear bH;go_wp2_with fail;refine aT (n:=15) (E:=fun _=>false) (S:=fun W=>O0 W0 W) zk rfl (by exact(bg.out).drew) (fun hHeld=>?_);refine tW 0 ?_;refine tW 1 ?_;refine tW 2 ?_;refine tS 3 ?_;refine tS 4 ?_;refine tS 5 ?_;refine tS 6 ?_;refine tS 7 ?_;refine tS 8 ?_;refine tS 9 ?_;refine tS 10 ?_;refine tS 11 ?_;refine tS 12 ?_;exact zCx
 obtain⟨i,rfl⟩:∃i:Nat,f=i:=⟨f.toNat,by omega⟩;have ci:i<n1:=zBB;have hlt:decide ((i:Int)<0)=false:=qP zBB;obtain⟨yy,hxy⟩:=zG x.packs i zAa;obtain⟨LZ,uJ,uX,pV,uY,BK,BL,BM,BN,xX,BO,D9,Bo,Ea,MQ,Hl,MR,JV,Ez,JW,Dk,xw,Bq,Bv,Bz,Eb,Ec,Tf,WH,tY⟩:=nU (gQ.out W0 zr) hxy;first|subst Dk| (simp only[qG,qO,and_true]at Dk;obtain⟨rfl,rfl⟩:=Dk)
 have sF:=zh tY;have Ti:=zh hxy;clear tY hxy xw Bq Bv Bz Eb Ec;have Zw:Hid (∀W,O0 W0 W->aJ 1 dK B W (.slice BN xX BO) yy.provides):=fun W ho=>(sF.out W ho).2.2.2.1;have hpk:x.pack i=yy:=zAh;obtain⟨b,hb⟩:=ze (lJ yy.provides s);have hr:r= !b:=by rw[bH.out,qX (show(0:Int)<=(i:Int) by omega),yT,hpk,hb];simp
 subst hr;have Vy:Hid (∀W,O0 W0 W->Calls Tryz.prog 191 #[.slice BN xX BO,.string s] W fun e w'=>e= .returned (.bool b)/\W=w'):=fun W hW=>by rw[<-hb];exact(nD (Zw.out W hW) s).mono fun _ _ ⟨he,hw⟩=>⟨he,hw.symm⟩
 clear bH hpk hb;go_wp2_with fail;refine aT (n:=15) (E:=fun _=>false) (S:=fun W=>O0 W0 W) zk rfl (by exact(bg.out).drew) (fun hHeld=>?_);refine tW 0 ?_;refine tW 1 ?_;refine tW 2 ?_;refine tW 3 ?_;refine tK 4 ?_ (hy:=zAQ);refine tW 5 ?_;refine tW 6 ?_;refine tW 7 ?_;refine tK 8 ?_ (hy:=zAQ);refine tW 9 ?_;refine tK 10 ?_ (hy:=zAQ);refine jQ (i:=11) (v:=?_) (f:=191) (args:= #[.slice BN xX BO,.string s]) rfl zk zk zk rfl zk zk (fun _ _ _ h=>h) zAN (by rfl) ?_ ?_ ?_;rotate_left;·exact zBj
 ·(intro w hSw;exact Vy.out w hSw)
 try simp only[Act.put,dL,dQ,dM,dN,dO,dP]
 refine tW 12 ?_;exact zCx
theorem WJ{α:Type}{k:Nat}{C:Nat->World->List Value->α->Prop}{ao:Option Addr}{n cap:Nat}{l:List α}(h:aJ k C B w (.slice ao n cap) l){i:Nat}(hi:i<=n):aJ k C B w (.slice ao i cap) (l.take i):=by exact zDu
theorem IZ{P:Program}{t e:TypeId}{i:TypeInfo}{s:Nat}(ht:P.underlying t=some (.slice e))(hi:P.info? e=some i)(hs:i.size=s)(ao:Option Addr)(m k cap:Nat)(hk:k<=cap)(W:World):(Instr.slice t (.slice ao m cap) none (some (.int .i64 (k:Int))) none).run P W= .ok (.slice ao k cap) W:=by exact zBp
theorem Zz:uZ Tryz.prog 23 103 3 48:=uZ.mk' (z:=.agg #[.string .empty,.slice none 0 0,.int .i64 0]) Tryz.underlying23 zk rfl zAC
theorem ZA{Hg:List Value}{x:aC}(hx:gG B w Hg x)(hlen:x.packs.length<=1000000){i:Nat}(hi:i<x.cO.length):Calls Tryz.prog 106 #[.agg Hg.toArray,.int .i64 (i:Int)] w fun e w'=>e= .returned (.bool (x.wF i))/\O0 w w':=by
 obtain⟨dD,aY,bU,cZ,aZ,bF,rfl,pR,pU,jU,jV,aW,dU,JQ⟩:=open_rec hx;clear hx;try rw[aW.out]
 obtain⟨W0,hW0,ig,DU,bJ⟩:=ac2 w (.slice dD aY bU) (.slice cZ aZ bF) 25;obtain⟨qB,gQ,gU⟩:=JQ W0 ig.out;clear JQ;rw[aW.out]at hlen;rw[dU.out]at hi;obtain⟨yy,hxy⟩:=zG x.cO i zBI;obtain⟨LZ,uJ,uX,pV,uY,Dk,xw,Tf,WH,tY⟩:=Fa (gU.out W0 zr) hxy;first|subst Dk| (simp only[qG,qO,and_true]at Dk;obtain⟨rfl,rfl⟩:=Dk)
 have sF:=zh tY;have Ti:=zh hxy;clear tY hxy xw;have Qa:Hid (∀W,O0 W0 W->aJ 1 dK B W (.slice uX pV uY) yy.names):=fun W ho=>(sF.out W ho).2.1;have hpf:x.cO.getD i default=yy:=by rw[qC,Ti.out];rfl
 obtain⟨r,hr⟩:=ze (x.wF i);obtain⟨vb,hvb⟩:=ze (x.pz yy.virtual);obtain⟨ah,hah⟩:∃r,((x.cO.take i).any fun g=>decide (g.virtual=yy.virtual))=r:=⟨_,rfl⟩;obtain⟨tw,htw⟩:=ze (fJ yy.names);obtain⟨nb,hnb⟩:∃r,(yy.names.any fun n=> !(decide (0<=x.find n)&&lJ (x.pack (x.find n).toNat).provides yy.virtual))=r:=⟨_,rfl⟩;have bH:Hid (r=(vb&& !ah&&tw&& !nb)):=by show _=_;rw[<-hr];unfold aC.wF;rw[hpf,hvb,hah,htw,hnb]
 rw[hr];have hs:=DU.out;obtain⟨V,hV⟩:=ze (W0.alloc (.cells #[.string ⟨#[]⟩,.slice none 0 0,.int .i64 0] 103));have H6:Hid (V.heap[w.heap.size+1]? =some (.cells #[.string ⟨#[]⟩,.slice none 0 0,.int .i64 0] 103)):=by rw[<-hV,<-DU.out];exact qL W0 _
 obtain⟨W1,hW1⟩:=ze (V.setRow (w.heap.size+1) #[.string yy.virtual,.slice uX pV uY,.int .i64 yy.line]);have HB1:Hid (W1.heap[w.heap.size+1]? =some (.cells #[.string yy.virtual,.slice uX pV uY,.int .i64 yy.line] 103 (0,0))):=by rw[<-hW1];exact setRow_heap _ _ _ _ _ _ H6.out
 have bg:Hid (O0 W0 W1):=by exact zDJ
 have Qu:Hid (∀W,O0 W1 W->W.cell? ⟨w.heap.size+1,0,none⟩=some (.string yy.virtual)/\W.cell? ⟨w.heap.size+1,1,none⟩=some (.slice uX pV uY)):=fun W ho=>by have b1:=ak HB1.out ho (fun f=>f);exact zCS
 have nJ:=zh (sF.out W0 zr).1;have hsl:∀W,(Instr.slice 23 (.slice (some ⟨LZ,uJ,none⟩) aZ bF) none (some (.int .i64 (i:Int))) none).run Tryz.prog W= .ok (.slice (some ⟨LZ,uJ,none⟩) i bF) W:=fun W=>by obtain⟨ii,zz,t1,t2,t3,-,-⟩:=Zz.info;exact IZ (P:=Tryz.prog) Zz.und t1 t3 (some ⟨LZ,uJ,none⟩) aZ i bF zBB W
 have HAh:Hid (Calls Tryz.prog 187 #[.slice (some ⟨LZ,uJ,none⟩) i bF,.func (.func 188) #[] #[.pointer (some ⟨w.heap.size+1,0,none⟩)]] W1 fun e w'=>e= .returned (.bool ah)/\O0 W1 w'):=by
  have hrt:=WJ (gU.out W1 bg.out) (i:=i) zBB;have hlt:(x.cO.take i).length=i:=by rw[List.length_take,dU.out];omega
  exact Dc hrt Qb (abI _ _ (Qu.out W1 zr).1) ah (by rw[GK];exact hah)
 have HVt:Hid (∀W,O0 W0 W->Calls Tryz.prog 156 #[.agg #[.slice dD aY bU,.slice (some ⟨LZ,uJ,none⟩) aZ bF],.string yy.virtual] W fun e w'=>e= .returned (.bool vb)/\O0 W w'):=fun W hW=>by rw[<-hvb];exact Df (qB.out W hW) zAV _
 have HTw:Hid (∀W,O0 W0 W->Calls Tryz.prog 183 #[.slice uX pV uY] W fun e w'=>e= .returned (.bool (!tw))/\O0 W w'):=fun W hW=>by rw[<-htw];exact Ey (Qa.out W hW)
 have zq:Hid (∀W,O0 W1 W->Calls Tryz.prog 189 #[.slice uX pV uY,.func (.func 190) #[] #[.pointer (some ⟨w.heap.size,0,none⟩),.pointer (some ⟨w.heap.size+1,0,none⟩)]] W fun e w'=>e= .returned (.bool nb)/\O0 W w'):=fun W hW=>by obtain⟨k0,k1⟩:=bJ.out W (bg.out.same hW);exact vV (Qa.out W (bg.out.same hW)) Qc (abJ (qB.out W (bg.out.same hW)) aW.out ⟨k0,k1,(Qu.out W hW).1⟩) nb hnb
 clear hr hvb hah htw hnb hpf;have HP0:Hid (O0 W1 W1):=Only.refl _ _;have hW0':=hW0.symm;clear hW0;obtain⟨k0,k1⟩:=bJ.out W1 (bg.out.same HP0.out);obtain⟨p0,p1⟩:=Qu.out W1 HP0.out;obtain⟨m0,m1⟩:=bJ.out W0 zr;go_enter Tryz.func106,Tryz.ntmps106;go_wp2_with (first
  | (refine wpList_load_mid rfl 103 (.tmp 10) rfl LZ (uJ+i*3) rfl _ _ nJ.out Tryz.underlying103 rfl zk ?_)
  | (refine wpList_store_row rfl 103 (.tmp 5) (.tmp 11) rfl (w.heap.size+1) #[.string yy.virtual,.slice uX pV uY,.int .i64 yy.line] rfl rfl 103 #[.string ⟨#[]⟩,.slice none 0 0,.int .i64 0] H6.out zk rfl zk ?_))
 clear m0 m1;refine(HAh.out).mono ?_;rintro e w1 ⟨rfl,O1⟩;have HP1:=zh (HP0.out.same O1);clear O1 k0 k1 p0 p1;obtain⟨k0,k1⟩:=bJ.out w1 (bg.out.same HP1.out);obtain⟨p0,p1⟩:=Qu.out w1 HP1.out;go_wp2_with fail;refine(HVt.out w1 (bg.out.same HP1.out)).mono ?_;rintro e w2 ⟨rfl,O1⟩;have HP2:=zh (HP1.out.same O1);clear O1 k0 k1 p0 p1;obtain⟨k0,k1⟩:=bJ.out w2 (bg.out.same HP2.out);obtain⟨p0,p1⟩:=Qu.out w2 HP2.out;cases vb with
 |false=>exact zC9
 |true=>
  cases ah with
  |false=>
   go_wp2_with fail;refine(HTw.out w2 (bg.out.same HP2.out)).mono ?_;rintro e w3 ⟨rfl,O1⟩;have BQ:=zh (HP2.out.same O1);clear O1 k0 k1 p0 p1;obtain⟨k0,k1⟩:=bJ.out w3 (bg.out.same BQ.out);obtain⟨p0,p1⟩:=Qu.out w3 BQ.out;cases tw with
   |false=>have hres:r=false:=zAp;subst hres;go_wp2_with fail;go_ret;exact⟨rfl,ig.out.same (bg.out.same BQ.out)⟩
   |true=>go_wp2_with fail;refine(zq.out w3 BQ.out).mono ?_;rintro e w4 ⟨rfl,O1⟩;have GV:=zh (BQ.out.same O1);clear O1 k0 k1 p0 p1;obtain⟨k0,k1⟩:=bJ.out w4 (bg.out.same GV.out);obtain⟨p0,p1⟩:=Qu.out w4 GV.out;have hres:r= !nb:=zAp;subst hres;go_wp2_with fail;go_ret;exact⟨rfl,ig.out.same (bg.out.same GV.out)⟩
  |true=>exact zC9
end
end Go.Proofs.YtdmmebjjojimiaaGreatDoor
