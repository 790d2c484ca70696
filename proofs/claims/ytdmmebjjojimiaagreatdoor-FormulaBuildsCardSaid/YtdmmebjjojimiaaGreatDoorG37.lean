/- Package check: prefer. Printed by gen_ck4.py. -/
import Derived.Test.YtdmmebjjojimiaaGreatDoorG36
set_option maxRecDepth 100000
set_option maxHeartbeats 8000000
set_option linter.all false
namespace Go.Proofs
theorem zAb{p:Prop}(h:p:=by(intro w hSw;obtain⟨k0,k1,kf⟩:=HK.out w hSw;have fE:=(jk.out w hSw).1;have gy4:=fE 4 _ rfl;clear fE;go_simp<;>(try with_reducible rfl))):p:=h
theorem zAn{p:Prop}(h:p:=by rw[bJ.out];omega):p:=h
theorem zDt{p:Prop}(h:p:=by
 go_wp2_with fail
 go_ret
 exact⟨rfl,bM.out.same (aW.out.same HP2.out)⟩):p:=h
theorem zDw{p:Prop}(h:p:=by
 go_wp2_with fail
 go_ret
 exact⟨rfl,bM.out.same (aW.out.same rH.out)⟩):p:=h
theorem zD4{p:Prop}(h:p:=by
 refine tW 13 ?_
 refine tW 14 ?_
 refine bf zk ?_ _
 have Ar:=zh hHeld
 clear hHeld
 go_wp2_with fail
 go_ret
 exact⟨rfl,Ar.out⟩):p:=h
end Go.Proofs
namespace Go.Proofs.YtdmmebjjojimiaaGreatDoor
open Go.RowKit
section
variable {w w':World} {B:Nat}
attribute [local irreducible] wpQuiet
def aF.uG(x:aF)(i:Nat):Bool:=
 x.nS (x.cO.getD i default).virtual&& !((x.cO.take i).any fun g=>decide (g.virtual=(x.cO.getD i default).virtual))&&dA (x.cO.getD i default).names
  && !((x.cO.getD i default).names.any fun n=> !(decide (0<=x.find n)&&iT (x.pack (x.find n).toNat).provides (x.cO.getD i default).virtual))
theorem Vl:∀args w,(callFunc 188 args).run Tryz.prog w= .ok (.enter 188 args) w:=enters_of Tryz.func188 zk rfl
theorem Vm:∀args w,(callFunc 190 args).run Tryz.prog w= .ok (.enter 190 args) w:=enters_of Tryz.func190 zk rfl
theorem agc(gf:Nat)(s:Str)(h0:w.cell? ⟨gf,0,none⟩=some (.string s)):wZ lK B 188 #[.pointer (some ⟨gf,0,none⟩)] (fun g=>decide (g.virtual=s)) w:=by
 intro W cs g hO hC;obtain⟨v1,rfl,-,-,hv⟩:=hC;obtain⟨a1,c1,rfl,-,-⟩:=hv.shape;obtain⟨n1,hn1⟩:=ze g.names.length;rw[hn1];have oA:O0 W (W.alloc (.cells #[.string g.virtual,.slice a1 n1 c1,.int .i64 g.line] 103)):=zr.alloc _;have q0:=aY h0 (hO.same oA) (fun f=>f);have hd:=lu g.virtual s;show Calls Tryz.prog _ _ W fun e w'=>e= .returned (.bool (decide (g.virtual=s)))/\O0 W w';clear h0 hO hv hn1;go_enter Tryz.func188,Tryz.ntmps188;by_cases hy:g.virtual=s;·rw[qX hy]at hd⊢;clear hy;exact zEG
 rw[qP hy]at hd⊢;clear hy;exact zEG
theorem agd{x:aF}{a1 a2:Option Addr}{n1 c1 n2 c2 bx gf:Nat}{s:Str}(hx:gy B w [.slice a1 n1 c1,.slice a2 n2 c2] x)(hN:x.packs.length=n1)(hk:w.cell? ⟨bx,0,none⟩=some (.slice a1 n1 c1)/\w.cell? ⟨bx,1,none⟩=some (.slice a2 n2 c2)/\w.cell? ⟨gf,0,none⟩=some (.string s)):Ze 190 #[.pointer (some ⟨bx,0,none⟩),.pointer (some ⟨gf,0,none⟩)] (fun n=> !(decide (0<=x.find n)&&iT (x.pack (x.find n).toNat).provides s)) w:=by
 intro W0 n hO hn;have HK:Hid (∀W,O0 W0 W->W.cell? ⟨bx,0,none⟩=some (.slice a1 n1 c1)/\W.cell? ⟨bx,1,none⟩=some (.slice a2 n2 c2)/\W.cell? ⟨gf,0,none⟩=some (.string s)):=fun W o=>
  ⟨aY hk.1 (hO.same o) (fun f=>f),aY hk.2.1 (hO.same o) (fun f=>f),aY hk.2.2 (hO.same o) (fun f=>f)⟩
 have HX:Hid (∀W,O0 W0 W->gy B W [.slice a1 n1 c1,.slice a2 n2 c2] x):=fun W o=>gy.keep hx (Kp.gV (hO.same o));have bK:Hid (∀W,O0 W0 W->aQ 8 fQ B W (.slice a1 n1 c1) x.packs):=fun W o=>by obtain⟨v1,v2,e,h1,h2⟩:=HX.out W o;cases e;exact h1
 have aB:=zh hN;obtain⟨f,hf⟩:=ze (x.find n);have NH:=x.pY n;have HF:Hid (Calls Tryz.prog 182 #[.agg #[.slice a1 n1 c1,.slice a2 n2 c2],.string n] W0 fun e w'=>e= .returned (.int .i64 f)/\O0 W0 w'):=by rw[<-hf];exact qc (HX.out W0 zr) n
 obtain⟨r,hr⟩:∃r,(!(decide (0<=x.find n)&&iT (x.pack (x.find n).toNat).provides s))=r:=⟨_,rfl⟩;show Calls Tryz.prog _ _ W0 fun e w'=>e= .returned (.bool (!(decide (0<=x.find n)&&iT (x.pack (x.find n).toNat).provides s)))/\O0 W0 w';rw[hr];rw[hf]at hr NH;rw[hN]at NH;have bD:Hid (r= !(decide (0<=f)&&iT (x.pack f.toNat).provides s)):=hr.symm;obtain⟨k0,k1,kf⟩:=HK.out W0 zr;clear hx hN hk hO hf hr;go_enter Tryz.func190,Tryz.ntmps190;go_wp2_with fail;refine HF.out.mono ?_;rintro e w1 ⟨rfl,O1⟩;have aW:=zh O1;clear O1 k0 k1 kf HF;obtain⟨k0,k1,kf⟩:=HK.out w1 aW.out;by_cases hf:f<0
 ·have hlt:decide (f<0)=true:=qX hf;have hr:r=true:=by rw[bD.out,qP (Int.not_le.2 hf)];rfl
  subst hr;clear bD;go_wp2_with fail;refine bC (n:=15) (E:=fun _=>false) (S:=fun W=>O0 W0 W) zk rfl (by exact(aW.out).drew) (fun hHeld=>?_);refine tW 0 ?_;refine tW 1 ?_;refine tW 2 ?_;refine tS 3 ?_;refine tS 4 ?_;refine tS 5 ?_;refine tS 6 ?_;refine tS 7 ?_;refine tS 8 ?_;refine tS 9 ?_;refine tS 10 ?_;refine tS 11 ?_;refine tS 12 ?_;exact zD4
 obtain⟨i,rfl⟩:∃i:Nat,f=i:=⟨f.toNat,by omega⟩;have ci:i<n1:=zAB;have hlt:decide ((i:Int)<0)=false:=qP zAB;obtain⟨yy,hxy⟩:=zG x.packs i zAV;obtain⟨Ah,kX,lD,iL,lF,pU,pV,pW,vN,rP,vO,wS,uq,wU,Dy,zH,Dz,Au,xq,Aw,nN,jX,ny,sN,sO,wF,wG,yV,Ed,jw⟩:=jH (bK.out W0 zr) hxy;first|subst nN| (simp only[qG,qO,and_true]at nN;obtain⟨rfl,rfl⟩:=nN)
 have jk:=zh jw;have xO:=zh hxy;clear jw hxy jX ny sN sO wF wG;have RH:Hid (∀W,O0 W0 W->aQ 1 dN B W (.slice vN rP vO) yy.provides):=fun W ho=>(jk.out W ho).2.2.2.1;have hpk:x.pack i=yy:=zAk;obtain⟨b,hb⟩:=ze (iT yy.provides s);have hr:r= !b:=by rw[bD.out,qX (show(0:Int)<=(i:Int) by omega),yT,hpk,hb];simp
 subst hr;have VW:Hid (∀W,O0 W0 W->Calls Tryz.prog 191 #[.slice vN rP vO,.string s] W fun e w'=>e= .returned (.bool b)/\W=w'):=fun W hW=>by rw[<-hb];exact(sV (RH.out W hW) s).mono fun _ _ ⟨he,hw⟩=>⟨he,hw.symm⟩
 clear bD hpk hb;go_wp2_with fail;refine bC (n:=15) (E:=fun _=>false) (S:=fun W=>O0 W0 W) zk rfl (by exact(aW.out).drew) (fun hHeld=>?_);refine tW 0 ?_;refine tW 1 ?_;refine tW 2 ?_;refine tW 3 ?_;refine tK 4 ?_ (hy:=zAb);refine tW 5 ?_;refine tW 6 ?_;refine tW 7 ?_;refine tK 8 ?_ (hy:=zAb);refine tW 9 ?_;refine tK 10 ?_ (hy:=zAb);refine mP (i:=11) (v:=?_) (f:=191) (args:= #[.slice vN rP vO,.string s]) rfl zk zk zk rfl zk zk (fun _ _ _ h=>h) zAW (by rfl) ?_ ?_ ?_;rotate_left;·exact zB9
 ·(intro w hSw;exact VW.out w hSw)
 try simp only[Act.put,eF,fA,eG,dW,dX,dY]
 refine tW 12 ?_;exact zD4
theorem aaN{α:Type}{k:Nat}{C:Nat->World->List Value->α->Prop}{ao:Option Addr}{n cap:Nat}{l:List α}(h:aQ k C B w (.slice ao n cap) l){i:Nat}(hi:i<=n):aQ k C B w (.slice ao i cap) (l.take i):=by exact zCD
theorem Oi{P:Program}{t e:TypeId}{i:TypeInfo}{s:Nat}(ht:P.underlying t=some (.slice e))(hi:P.info? e=some i)(hs:i.size=s)(ao:Option Addr)(m k cap:Nat)(hk:k<=cap)(W:World):(Instr.slice t (.slice ao m cap) none (some (.int .i64 (k:Int))) none).run P W= .ok (.slice ao k cap) W:=by exact zCS
theorem adS:Az Tryz.prog 23 103 3 48:=Az.mk' (z:=.agg #[.string .empty,.slice none 0 0,.int .i64 0]) Tryz.underlying23 zk rfl zAD
theorem adT{pR:List Value}{x:aF}(hx:gy B w pR x)(hlen:x.packs.length<=1000000){i:Nat}(hi:i<x.cO.length):Calls Tryz.prog 106 #[.agg pR.toArray,.int .i64 (i:Int)] w fun e w'=>e= .returned (.bool (x.uG i))/\O0 w w':=by
 obtain⟨aV,ak,aS,aT,aK,aO,rfl,fV,fZ,dQ,dR,aB,bJ,qo⟩:=open_rec hx;clear hx;try rw[aB.out]
 obtain⟨W0,hW0,bM,vC,aU⟩:=Nj w (.slice aV ak aS) (.slice aT aK aO) 25;obtain⟨gI,bK,bT⟩:=qo W0 bM.out;clear qo;rw[aB.out]at hlen;rw[bJ.out]at hi;obtain⟨yy,hxy⟩:=zG x.cO i zAn;obtain⟨Ah,kX,lD,iL,lF,nN,jX,yV,Ed,jw⟩:=wu (bT.out W0 zr) hxy;first|subst nN| (simp only[qG,qO,and_true]at nN;obtain⟨rfl,rfl⟩:=nN)
 have jk:=zh jw;have xO:=zh hxy;clear jw hxy jX;have uK:Hid (∀W,O0 W0 W->aQ 1 dN B W (.slice lD iL lF) yy.names):=fun W ho=>(jk.out W ho).2.1;have hpf:x.cO.getD i default=yy:=by rw[qC,xO.out];rfl
 obtain⟨r,hr⟩:=ze (x.uG i);obtain⟨vb,hvb⟩:=ze (x.nS yy.virtual);obtain⟨ah,hah⟩:∃r,((x.cO.take i).any fun g=>decide (g.virtual=yy.virtual))=r:=⟨_,rfl⟩;obtain⟨tw,htw⟩:=ze (dA yy.names);obtain⟨nb,hnb⟩:∃r,(yy.names.any fun n=> !(decide (0<=x.find n)&&iT (x.pack (x.find n).toNat).provides yy.virtual))=r:=⟨_,rfl⟩;have bD:Hid (r=(vb&& !ah&&tw&& !nb)):=by show _=_;rw[<-hr];unfold aF.uG;rw[hpf,hvb,hah,htw,hnb]
 rw[hr];have hs:=vC.out;obtain⟨V,hV⟩:=ze (W0.alloc (.cells #[.string ⟨#[]⟩,.slice none 0 0,.int .i64 0] 103));have H6:Hid (V.heap[w.heap.size+1]? =some (.cells #[.string ⟨#[]⟩,.slice none 0 0,.int .i64 0] 103)):=by rw[<-hV,<-vC.out];exact qL W0 _
 obtain⟨W1,hW1⟩:=ze (V.setRow (w.heap.size+1) #[.string yy.virtual,.slice lD iL lF,.int .i64 yy.line]);have HB1:Hid (W1.heap[w.heap.size+1]? =some (.cells #[.string yy.virtual,.slice lD iL lF,.int .i64 yy.line] 103 (0,0))):=by rw[<-hW1];exact setRow_heap _ _ _ _ _ _ H6.out
 have aW:Hid (O0 W0 W1):=by exact zER
 have Jg:Hid (∀W,O0 W1 W->W.cell? ⟨w.heap.size+1,0,none⟩=some (.string yy.virtual)/\W.cell? ⟨w.heap.size+1,1,none⟩=some (.slice lD iL lF)):=fun W ho=>by have b1:=aC HB1.out ho (fun f=>f);exact zCr
 have fE:=zh (jk.out W0 zr).1;have hsl:∀W,(Instr.slice 23 (.slice (some ⟨Ah,kX,none⟩) aK aO) none (some (.int .i64 (i:Int))) none).run Tryz.prog W= .ok (.slice (some ⟨Ah,kX,none⟩) i aO) W:=fun W=>by obtain⟨ii,zz,t1,t2,t3,-,-⟩:=adS.info;exact Oi (P:=Tryz.prog) adS.und t1 t3 (some ⟨Ah,kX,none⟩) aK i aO zAB W
 have HAh:Hid (Calls Tryz.prog 187 #[.slice (some ⟨Ah,kX,none⟩) i aO,.func (.func 188) #[] #[.pointer (some ⟨w.heap.size+1,0,none⟩)]] W1 fun e w'=>e= .returned (.bool ah)/\O0 W1 w'):=by
  have hrt:=aaN (bT.out W1 aW.out) (i:=i) zAB;have hlt:(x.cO.take i).length=i:=by rw[List.length_take,bJ.out];omega
  exact Ii hrt Vl (agc _ _ (Jg.out W1 zr).1) ah (by rw[Md];exact hah)
 have HVt:Hid (∀W,O0 W0 W->Calls Tryz.prog 156 #[.agg #[.slice aV ak aS,.slice (some ⟨Ah,kX,none⟩) aK aO],.string yy.virtual] W fun e w'=>e= .returned (.bool vb)/\O0 W w'):=fun W hW=>by rw[<-hvb];exact Ik (gI.out W hW) zAN _
 have HTw:Hid (∀W,O0 W0 W->Calls Tryz.prog 183 #[.slice lD iL lF] W fun e w'=>e= .returned (.bool (!tw))/\O0 W w'):=fun W hW=>by rw[<-htw];exact JO (uK.out W hW)
 have Cm:Hid (∀W,O0 W1 W->Calls Tryz.prog 189 #[.slice lD iL lF,.func (.func 190) #[] #[.pointer (some ⟨w.heap.size,0,none⟩),.pointer (some ⟨w.heap.size+1,0,none⟩)]] W fun e w'=>e= .returned (.bool nb)/\O0 W w'):=fun W hW=>by obtain⟨k0,k1⟩:=aU.out W (aW.out.same hW);exact BH (uK.out W (aW.out.same hW)) Vm (agd (gI.out W (aW.out.same hW)) aB.out ⟨k0,k1,(Jg.out W hW).1⟩) nb hnb
 clear hr hvb hah htw hnb hpf;have Sm:Hid (O0 W1 W1):=Only.refl _ _;have hW0':=hW0.symm;clear hW0;obtain⟨k0,k1⟩:=aU.out W1 (aW.out.same Sm.out);obtain⟨p0,p1⟩:=Jg.out W1 Sm.out;obtain⟨m0,m1⟩:=aU.out W0 zr;go_enter Tryz.func106,Tryz.ntmps106;go_wp2_with (first
  | (refine wpList_load_mid rfl 103 (.tmp 10) rfl Ah (kX+i*3) rfl _ _ fE.out Tryz.underlying103 rfl zk ?_)
  | (refine wpList_store_row rfl 103 (.tmp 5) (.tmp 11) rfl (w.heap.size+1) #[.string yy.virtual,.slice lD iL lF,.int .i64 yy.line] rfl rfl 103 #[.string ⟨#[]⟩,.slice none 0 0,.int .i64 0] H6.out zk rfl zk ?_))
 clear m0 m1;refine(HAh.out).mono ?_;rintro e w1 ⟨rfl,O1⟩;have Vk:=zh (Sm.out.same O1);clear O1 k0 k1 p0 p1;obtain⟨k0,k1⟩:=aU.out w1 (aW.out.same Vk.out);obtain⟨p0,p1⟩:=Jg.out w1 Vk.out;go_wp2_with fail;refine(HVt.out w1 (aW.out.same Vk.out)).mono ?_;rintro e w2 ⟨rfl,O1⟩;have HP2:=zh (Vk.out.same O1);clear O1 k0 k1 p0 p1;obtain⟨k0,k1⟩:=aU.out w2 (aW.out.same HP2.out);obtain⟨p0,p1⟩:=Jg.out w2 HP2.out;cases vb with
 |false=>have hres:r=false:=zA9;subst hres;exact zDt
 |true=>
  cases ah with
  |false=>
   go_wp2_with fail;refine(HTw.out w2 (aW.out.same HP2.out)).mono ?_;rintro e w3 ⟨rfl,O1⟩;have rH:=zh (HP2.out.same O1);clear O1 k0 k1 p0 p1;obtain⟨k0,k1⟩:=aU.out w3 (aW.out.same rH.out);obtain⟨p0,p1⟩:=Jg.out w3 rH.out;cases tw with
   |false=>have hres:r=false:=zA9;subst hres;exact zDw
   |true=>go_wp2_with fail;refine(Cm.out w3 rH.out).mono ?_;rintro e w4 ⟨rfl,O1⟩;have xu:=zh (rH.out.same O1);clear O1 k0 k1 p0 p1;obtain⟨k0,k1⟩:=aU.out w4 (aW.out.same xu.out);obtain⟨p0,p1⟩:=Jg.out w4 xu.out;have hres:r= !nb:=zA9;subst hres;go_wp2_with fail;go_ret;exact⟨rfl,bM.out.same (aW.out.same xu.out)⟩
  |true=>have hres:r=false:=zA9;subst hres;exact zDt
end
end Go.Proofs.YtdmmebjjojimiaaGreatDoor
