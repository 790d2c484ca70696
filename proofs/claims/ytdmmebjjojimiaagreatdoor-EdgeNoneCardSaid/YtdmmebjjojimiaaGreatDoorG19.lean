/- What may be needed, by the document: Targets, asked. Printed by gen_rfb.py.; What may be needed, by the document: Closure. Printed by gen_rfc.py. -/
import Derived.Test.YtdmmebjjojimiaaGreatDoorG11
import Derived.Test.YtdmmebjjojimiaaGreatDoorG18
set_option maxRecDepth 100000
set_option maxHeartbeats 8000000
set_option linter.all false
namespace Go.Proofs
theorem zAT{p:Prop}(h:p:=by(intro w hSw;obtain⟨k0,k1,k2⟩:=aG.out w hSw;have hrz:=(nV.out w hSw).1;have gz5:=hrz 5 _ rfl;clear hrz;have mM:=(FK.out w hSw).1;have vU:=mM 0 _ rfl;rw[qF]at vU;clear mM;go_simp<;>(try with_reducible rfl))):p:=h
theorem zAj{p:Prop}(h:p:=by(intro w hSw;obtain⟨k0,k1,k2⟩:=aG.out w hSw;have dM:=(je.out w hSw).1;have ER:=dM 0 _ rfl;rw[qF]at ER;clear dM;go_simp<;>(try with_reducible rfl))):p:=h
theorem zDQ{p:Prop}(h:p:=by(try dsimp only)<;>(exact Only.same hHeld o6)):p:=h
theorem zEm{p:Prop}(h:p:=by
 subst hrt
 clear jd
 go_wp2_with fail
 go_ret
 exact⟨rfl,bW.out.same yx.out⟩):p:=h
end Go.Proofs
namespace Go.Proofs.YtdmmebjjojimiaaGreatDoor
open Go.RowKit
section
variable {w w':World} {B:Nat}
theorem uI{l:List Nat}{i:Nat}:(intsOf l).contains (i:Int)=decide (i∈l):=by
 rw[Bool.eq_iff_iff,List.contains_iff_mem,yP];unfold intsOf;rw[yD];constructor
 ·rintro⟨j,hj,e⟩;obtain rfl:j=i:=by omega
  exact hj
 exact fun h=>⟨i,h,rfl⟩
def RJ(w:World)(g m:Nat)(f:List Bool):Prop:=f.length=m/\w.ownsRow 0 4 1 (.slice (some ⟨g,0,none⟩) m m) m (f.map Value.bool)
theorem RJ.aN{g m:Nat}{f:List Bool}(h:RJ w g m f)(ho:O0 w w'):RJ w' g m f:=⟨h.1,aI h.2 ho (fun _ _ f=>f)⟩
theorem RJ.cell{g m:Nat}{f:List Bool}(h:RJ w g m f){k:Nat}(hk:k<m):w.cell? ⟨g,k,none⟩=some (.bool (f.getD k false)):=by rw[h.2.cellAt k zBk];rw[List.getElem?_map,qC,qA (by rw[h.1];exact hk)];rfl
theorem Qg(x:aH)(l:List Str)(s:Str)(i:Nat):J9 x (l++[s]) i=(J9 x l i||decide (i∈x.targets s)):=by unfold J9;simp[List.any_append]
theorem zo{tZ:List Value}{x:aH}(hx:jl B w tZ x)(hlen:x.packs.length<=1000000)(s:Str):Calls Tryz.prog 146 #[.agg tZ.toArray,.string s] w fun e w'=> ∃v,e= .returned v/\Ints w' v (intsOf (x.targets s))/\O0 w w':=by
 obtain⟨bQ,aj,aT,bg,aP,aU,rfl,jm,jo,iO,iP,aB,fO,uK⟩:=open_rec hx;clear hx;try rw[aB.out]
 obtain⟨W0,hW0,bW,nR,aG⟩:=Wv w (.slice bQ aj aT) (.slice bg aP aU) 25;obtain⟨kC,dP,eP⟩:=uK W0 bW.out;clear uK;rw[aB.out]at hlen;obtain⟨f,hf⟩:=ze (x.find s);have abE:=x.vP s;rw[hf,aB.out]at abE;have HT:Hid (x.targets s=if 0<=f then [f.toNat]else x.eG s):=by unfold aH.targets;rw[hf];exact rfl
 have HF:=zh (wz (kC.out W0 zr) s);rw[hf]at HF;clear hf;obtain⟨k0,k1⟩:=aG.out W0 zr;rw[hW0]at k0 k1;go_enter Tryz.func146,Tryz.ntmps146;go_wp2_with fail;rw[<-hW0]at k0 k1⊢;clear hW0;refine HF.out.mono ?_;rintro e w1 ⟨rfl,O1⟩;have bM:=zh O1;clear O1 HF k0 k1;obtain⟨k0,k1⟩:=aG.out w1 bM.out;by_cases hf0:0<=f;·go_wp2_with fail;go_ret;refine⟨_,rfl,?_,bW.out.same (bM.out.alloc _)⟩;rw[HT.out,if_pos hf0];refine oq ?_ (fun i hi=>by simp at hi;omega);exact zFL
 have Yt:=zh (wO (kC.out w1 bM.out) zAg s);have hT2:x.targets s=x.eG s:=by rw[HT.out,if_neg hf0]
 rw[<-hT2]at Yt;clear hT2;go_wp2_with fail;refine Yt.out.mono ?_;rintro e w2 ⟨v,rfl,r1,r2,r3⟩;have HR:=zh (And.intro r1 r3);obtain⟨av,cv,rfl,-,-⟩:=aC r1;clear r1 r2 r3 Yt;go_wp2_with fail;go_ret;refine⟨_,rfl,oq HR.out.1 (fun i hi=>?_),bW.out.same (bM.out.same HR.out.2)⟩;have:=aH.tY hi;rw[aB.out]at this;omega
theorem aaj{tZ:List Value}{x:aH}(hx:jl B w tZ x){Iy:List Value}{q:fV}(hq:mV B w Iy q)(hlen:x.packs.length<=1000000){g:Nat}{f:List Bool}(hin:RJ w g x.packs.length f)(i:Nat):Calls Tryz.prog 96 #[.agg tZ.toArray,.agg Iy.toArray,.slice (some ⟨g,0,none⟩) x.packs.length x.packs.length,.int .i64 (i:Int)] w fun e w'=>e= .returned (.bool (vG x q.names f i))/\O0 w w':=by
 obtain⟨bQ,aj,aT,bg,aP,aU,rfl,jm,jo,iO,iP,aB,fO,uK⟩:=open_rec hx;clear hx;try rw[aB.out]
 obtain⟨dJ,bF,dL,rfl,qy,qB,fC,JE⟩:=rH hq;clear hq;try rw[fC.out]
 obtain⟨W0,hW0,bW,nR,aG⟩:=Aj w (.slice bQ aj aT) (.slice bg aP aU) (.slice dJ bF dL) 25 28;obtain⟨kC,dP,eP⟩:=uK W0 bW.out;clear uK;obtain⟨zQ,jA⟩:=JE W0 bW.out;clear JE;rw[aB.out]at hlen hin;obtain⟨r,hr⟩:=ze (vG x q.names f i);rw[hr];have jd:=zh hr;have HIn:Hid (∀W,O0 W0 W->RJ W g aj f):=fun W hW=>hin.aN (bW.out.same hW);clear hr hin;obtain⟨k0,k1,k2⟩:=aG.out W0 zr;rw[hW0]at k0 k1 k2;go_enter Tryz.func96,Tryz.ntmps96;go_wp2_with fail;rw[<-hW0];clear hW0 k0 k1 k2;have kK:Hid (O0 W0 W0):=Only.refl _ _;go_loopw [15] (fun vk jJ=>Hid (O0 W0 jJ)/\∃k:Nat,vk= .int .i64 k/\k<=bF/\Hid (J9 x (q.names.take k) i=false)) (fun v _=>bF-(RowKit.intOf v).toNat);case atStart=>exact⟨kK,0,rfl,qE _,show Hid _ from rfl⟩
 case round=>
  obtain⟨jJ,rfl⟩:=zB wr;clear kK;obtain⟨mX,k,rfl,hk,HZ⟩:=hrel;obtain⟨k0,k1,k2⟩:=aG.out jJ mX.out;by_cases ck:k<bF
  ·have jh:=zw (k+1);obtain⟨yy,hxy⟩:=zG q.roots k (by rw[fC.out];omega);obtain⟨xO,lq,sW,mG,sZ,vI,mJ,vJ,mW,kM,l9,xP,BF,jw⟩:=wK (jA.out W0 zr) hxy;first|subst mW| (simp only[qG,qO,and_true]at mW;obtain⟨rfl,rfl⟩:=mW)
   have je:=zh jw;have Af:=zh hxy;clear jw hxy kM l9;obtain⟨bb,hbb⟩:=ze (decide (i∈x.targets yy.spec.name));have Us:Hid (∀W,O0 W0 W->Calls Tryz.prog 146 #[.agg #[.slice bQ aj aT,.slice bg aP aU],.string yy.spec.name] W fun e w'=> ∃v,e= .returned v/\Ints w' v (intsOf (x.targets yy.spec.name))/\O0 W w'):=fun W hW=>zo (kC.out W hW) zAg _;have Y2:Hid (∀W v,Ints W v (intsOf (x.targets yy.spec.name))->Calls Tryz.prog 39 #[v,.int .i64 (i:Int)] W fun e w'=>e= .returned (.bool bb)/\O0 W w'):=fun W v hv=>by rw[<-hbb,<-uI];exact Ky hv _
   have HBb:=zh hbb;clear hbb;go_wp2_with fail;clear k0 k1 k2;refine bH (n:=11) (E:=fun _=>false) (S:=fun W=>O0 W0 W) zk rfl (by exact(mX.out).drew) (fun hHeld=>?_);refine tK 0 ?_ (hy:=zAj);refine tW 1 ?_;refine tK 2 ?_ (hy:=zAj);refine tW 3 ?_;refine tW 4 ?_;refine tW 5 ?_;refine tW 6 ?_;refine tK 7 ?_ (hy:=zAj);refine tW 9 ?_;refine tO 8 fun K hK=>?_;(go_simp;refine(Us.out _ hHeld).mono ?_;rintro e w5 ⟨vt,rfl,hI,o5⟩;try go_wp2_with fail);refine hK.out _ _ ?_ (fun hHeld=>?_);·(try dsimp only)<;>(exact Only.same hHeld o5)
   clear hK K;try simp only[Act.put,gJ,gK,gu,gy,gG]
   refine tO 10 fun K hK=>?_;(go_simp;refine(Y2.out _ _ hI).mono ?_;rintro e w6 ⟨rfl,o6⟩;try go_wp2_with fail);refine hK.out _ _ ?_ (fun hHeld=>?_);·exact zDQ
   clear hK K;try simp only[Act.put,gJ,gU,gK,gu,gy,gG]
   refine aZ zk ?_ _;have yx:=zh hHeld;clear hHeld Us Y2;obtain⟨k0,k1,k2⟩:=aG.out _ yx.out;cases bb with
   |true=>
    have hrt:r=true:=by rw[<-jd.out];unfold vG;rw[Bool.or_eq_true];refine .inl (zU.2 ⟨yy.spec.name,?_,of_decide_eq_true HBb.out⟩);unfold fV.names;exact yD.2 ⟨yy,qT Af.out,rfl⟩
    exact zEm
   |false=>
    have HZ2:Hid (J9 x (q.names.take (k+1)) i=false):=by unfold fV.names;rw[xu (fun r:F8=>r.spec.name) Af.out,Qg,HBb.out];have:=HZ.out;unfold fV.names at this;rw[this];rfl
    go_wp2_with fail;go_roundw;case rel=>exact⟨yx,k+1,by first|rfl|go_num,by omega,HZ2⟩
    case measure=>simp[RowKit.intOf]<;>omega
  obtain rfl:bF=k:=by omega
  have HZa:Hid (J9 x q.names i=false):=by have:=HZ.out;rw[qI (by unfold fV.names;rw[qM];exact yG fC.out)]at this;exact this
  have kK:=mX;go_wp2_with fail;clear k0 k1 k2;go_loopw [33] (fun vk jJ=>Hid (O0 W0 jJ)/\∃k:Nat,vk= .int .i64 k/\k<=aj/\Hid ((List.range k).any (RF x f i)=false)) (fun v _=>aj-(RowKit.intOf v).toNat);case atStart=>exact⟨kK,0,rfl,qE _,show Hid _ from rfl⟩
  case round=>
   obtain⟨jJ,rfl⟩:=zB wr;clear kK;obtain⟨mX,k,rfl,hk,HZk⟩:=hrel;obtain⟨k0,k1,k2⟩:=aG.out jJ mX.out;by_cases ck:k<aj
   ·have jh:=zw (k+1);obtain⟨yz,hxz⟩:=zG x.packs k zAk;obtain⟨NR,xQ,II,Et,Gj,VZ,V3,V4,PE,PG,PK,Og,J4,Oh,az5,nz5,cz5,az6,nz6,cz6,pV,rP,EZ,Fa,D5,apN,apO,BR,QM,kU⟩:=jR (dP.out W0 zr) hxz;first|subst pV| (simp only[qG,qO,and_true]at pV;obtain⟨rfl,rfl⟩:=pV)
    have Nz4:=zh D5;have nV:=zh kU;have Ku:=zh hxz;clear kU hxz rP EZ Fa D5 apN apO;have Ud:Hid (∀W,O0 W0 W->aQ 7 nC B W (.slice Og J4 Oh) yz.deps):=fun W ho=>(nV.out W ho).2.2.2.2.1;have HPz:Hid (x.pack k=yz):=by unfold aH.pack;rw[qC,Ku.out];exact rfl
    obtain⟨_,_,-,hb3,hb4⟩:=(Ud.out W0 zr).shape;rw[Nz4.out]at hb3;have gin:=(HIn.out jJ mX.out).cell ck;obtain⟨fk,hfk⟩:=ze (f.getD k false);rw[hfk]at gin;have HFk:=zh hfk;clear hfk;have hrz:=(nV.out jJ mX.out).1;have gz5:=hrz 5 _ rfl;clear hrz;cases fk with
    |false=>
     have HZ2:Hid ((List.range (k+1)).any (RF x f i)=false):=by rw[List.range_succ,List.any_append,HZk.out];simp only[List.any_cons,List.any_nil,Bool.or_false,Bool.false_or];unfold RF;rw[HFk.out,yQ];exact rfl
     go_wp2_with fail;go_roundw;case rel=>exact⟨mX,k+1,by first|rfl|go_num,by omega,HZ2⟩
     case measure=>simp[RowKit.intOf]<;>omega
    |true=>
     have kK:=mX;go_wp2_with fail;clear gin gz5;clear k0 k1 k2;go_loopw [48] (fun vn NS=>Hid (O0 W0 NS)/\∃n:Nat,vn= .int .i64 n/\n<=J4/\Hid (J9 x ((yz.deps.map fun d=>d.on.name).take n) i=false)) (fun v _=>J4-(RowKit.intOf v).toNat);case atStart=>exact⟨kK,0,rfl,qE _,show Hid _ from rfl⟩
     case round=>
      obtain⟨NS,rfl⟩:=zB wr;clear kK;obtain⟨Jv,n,rfl,hn,HZn⟩:=hrel;obtain⟨k0,k1,k2⟩:=aG.out NS Jv.out;by_cases cn:n<J4
      ·have jh:=zw (n+1);obtain⟨yu,hxu⟩:=zG yz.deps n (by rw[Nz4.out];omega);obtain⟨Wh,Ea,au1,nu1,cu1,au2,nu2,cu2,au3,nu3,cu3,au4,nu4,cu4,heu,acY,acZ,ac0,ac2,ac3,ahV,alh,Hf⟩:=xY (Ud.out W0 zr) hxu;first|subst heu| (simp only[qG,qO,and_true]at heu;obtain⟨rfl,rfl⟩:=heu)
       have FK:=zh Hf;have HXu:=zh hxu;clear Hf hxu acY acZ ac0 ac2;obtain⟨bb,hbb⟩:=ze (decide (i∈x.targets yu.on.name));have Us:Hid (∀W,O0 W0 W->Calls Tryz.prog 146 #[.agg #[.slice (some ⟨NR,xQ,none⟩) aj aT,.slice bg aP aU],.string yu.on.name] W fun e w'=> ∃v,e= .returned v/\Ints w' v (intsOf (x.targets yu.on.name))/\O0 W w'):=fun W hW=>zo (kC.out W hW) zAg _;have Y2:Hid (∀W v,Ints W v (intsOf (x.targets yu.on.name))->Calls Tryz.prog 39 #[v,.int .i64 (i:Int)] W fun e w'=>e= .returned (.bool bb)/\O0 W w'):=fun W v hv=>by rw[<-hbb,<-uI];exact Ky hv _
       have HBb:=zh hbb;clear hbb;go_wp2_with fail;clear k0 k1 k2;refine bH (n:=15) (E:=fun _=>false) (S:=fun W=>O0 W0 W) zk rfl (by exact(Jv.out).drew) (fun hHeld=>?_);refine tK 0 ?_ (hy:=zAT);refine tW 1 ?_;refine tK 2 ?_ (hy:=zAT);refine tW 3 ?_;refine tW 4 ?_;refine tW 5 ?_;refine tK 6 ?_ (hy:=zAT);refine tW 7 ?_;refine tW 8 ?_;refine tW 9 ?_;refine tW 10 ?_;refine tK 11 ?_ (hy:=zAT);refine tW 13 ?_;refine tO 12 fun K hK=>?_;(go_simp;refine(Us.out _ hHeld).mono ?_;rintro e w5 ⟨vt,rfl,hI,o5⟩;try go_wp2_with fail);refine hK.out _ _ ?_ (fun hHeld=>?_);·(try dsimp only)<;>(exact Only.same hHeld o5)
       clear hK K;try simp only[Act.put,gJ,gK,gu,gy,gG]
       refine tO 14 fun K hK=>?_;(go_simp;refine(Y2.out _ _ hI).mono ?_;rintro e w6 ⟨rfl,o6⟩;try go_wp2_with fail);refine hK.out _ _ ?_ (fun hHeld=>?_);·exact zDQ
       clear hK K;try simp only[Act.put,gJ,gU,gK,gu,gy,gG]
       refine aZ zk ?_ _;have yx:=zh hHeld;clear hHeld Us Y2;obtain⟨k0,k1,k2⟩:=aG.out _ yx.out;cases bb with
       |true=>
        have hrt:r=true:=by rw[<-jd.out];unfold vG;rw[Bool.or_eq_true];refine .inr (yU.2 ⟨k,yI.2 (by rw[aB.out];exact ck),?_⟩);unfold RF;rw[HFk.out,HPz.out];refine zU.2 ⟨yu.on.name,yD.2 ⟨yu,qT HXu.out,rfl⟩,of_decide_eq_true HBb.out⟩
        exact zEm
       |false=>
        have HZ4:Hid (J9 x ((yz.deps.map fun d=>d.on.name).take (n+1)) i=false):=by rw[xu (fun d:uY=>d.on.name) HXu.out,Qg,HBb.out,HZn.out];rfl
        go_wp2_with fail;go_roundw;case rel=>exact⟨yx,n+1,by first|rfl|go_num,by omega,HZ4⟩
        case measure=>simp[RowKit.intOf]<;>omega
      obtain rfl:J4=n:=by omega
      have HZ2:Hid ((List.range (k+1)).any (RF x f i)=false):=by rw[List.range_succ,List.any_append,HZk.out];simp only[List.any_cons,List.any_nil,Bool.or_false,Bool.false_or];unfold RF;rw[HPz.out];have:=HZn.out;rw[qI (by rw[qM];exact yG Nz4.out)]at this;rw[this,Bool.and_false];exact rfl
      go_wp2_with fail;go_roundw;case rel=>exact⟨Jv,k+1,by first|rfl|go_num,by omega,HZ2⟩
      case measure=>simp[RowKit.intOf]<;>omega
   obtain rfl:aj=k:=by omega
   have hrf:r=false:=by rw[<-jd.out];unfold vG;rw[HZa.out,aB.out,HZk.out];rfl
   subst hrf;clear jd;go_wp2_with fail;go_ret;exact⟨rfl,bW.out.same mX.out⟩
end
section
variable {w w':World} {B:Nat}
theorem RJ.set{g m:Nat}{f:List Bool}(h:RJ w g m f)(i:Nat):RJ (w.setCell ⟨g,i,none⟩ (.bool true)) g m (f.set i true):=by refine⟨by rw[List.length_set];exact h.1,?_⟩;have:=(h.2.stored i (.bool true)).1;rw[List.map_set];exact this
theorem zq{tZ:List Value}{x:aH}(hx:jl B w tZ x){Iy:List Value}{q:fV}(hq:mV B w Iy q)(hlen:x.packs.length<=1000000):Calls Tryz.prog 37 #[.agg tZ.toArray,.agg Iy.toArray] w fun e w'=> ∃v,e= .returned v/\w'.ownsRow 0 3 1 v (x.closure q.names).length (ji (x.closure q.names))/\(∀k,v.ownBlock=some k->w.heap.size<=k)/\O0 w w':=by
 obtain⟨bQ,aj,aT,bg,aP,aU,rfl,jm,jo,iO,iP,aB,fO,uK⟩:=open_rec hx;clear hx;try rw[aB.out]
 obtain⟨dJ,bF,dL,rfl,qy,qB,fC,JE⟩:=rH hq;clear hq;try rw[fC.out]
 obtain⟨W0,hW0,bW,nR,aG⟩:=Aj w (.slice bQ aj aT) (.slice bg aP aU) (.slice dJ bF dL) 25 28;obtain⟨kC,dP,eP⟩:=uK W0 bW.out;clear uK;obtain⟨zQ,jA⟩:=JE W0 bW.out;clear JE;rw[aB.out]at hlen;go_enter Tryz.func37,Tryz.ntmps37;go_wp2_with (at_make;go_must (refine wpM (bytes:=1) (z:=.bool false) Tryz.underlying58 zk rfl rfl _ _ rfl aj rfl rfl rfl rfl zBk zBl ?_));rw[<-hW0];clear hW0;intro w7 t1 t2 t3;obtain⟨g,hg⟩:=ze (w.heap.size+1+1);rw[hg]at t1⊢;have HG:Hid (W0.heap.size<=g):=by rw[nR.out,Hid];omega
 have ali:Hid (RJ w7 g aj (gW x q.names 0)):=⟨by simp[gW,aB.out],by rw[gW,aB.out,List.map_replicate];exact t1⟩;have kK:=zh t2;clear t1 t2 t3 hg;go_wp2_with fail;go_loopw [6] (fun vn NS=>Hid (O0 W0 NS)/\∃n:Nat,vn= .int .i64 n/\n<=(aj+1)/\Hid (RJ NS g aj (gW x q.names n))) (fun v _=>(aj+1)-(RowKit.intOf v).toNat);case atStart=>exact⟨kK,0,rfl,qE _,ali⟩
 case round=>
  obtain⟨NS,rfl⟩:=zB wr;clear kK ali;obtain⟨Jv,n,rfl,hn,HBn⟩:=hrel;obtain⟨k0,k1,k2⟩:=aG.out NS Jv.out;by_cases cn:n<(aj+1)
  ·have jh:=zw (n+1);have hle:(n:Int)<=(aj:Int):=zBk;obtain⟨F,hF⟩:=ze (gW x q.names n);have HFF:=zh hF;have HB0:Hid (RJ NS g aj (jM x q.names F 0)):=by rw[<-hF];exact HBn.out
   have kK:=Jv;clear hF;go_wp2_with fail;go_loopw [24] (fun vi dG=>Hid (O0 W0 dG)/\∃i:Nat,vi= .int .i64 i/\i<=aj/\Hid (RJ dG g aj (jM x q.names F i))) (fun v _=>aj-(RowKit.intOf v).toNat);case atStart=>exact⟨kK,0,rfl,qE _,HB0⟩
   case round=>
    obtain⟨dG,rfl⟩:=zB wr;clear kK HB0;obtain⟨gV,i,rfl,hi,HBi⟩:=hrel;clear k0 k1 k2;obtain⟨k0,k1,k2⟩:=aG.out dG gV.out;by_cases ci:i<aj
    ·have jh:=zw (i+1);obtain⟨fi,hfi⟩:=ze (jM x q.names F i);rw[hfi]at HBi;have HFi:=zh hfi;clear hfi;have gin:=HBi.out.cell ci;obtain⟨b0,hb0⟩:=ze (fi.getD i false);rw[hb0]at gin;have HB0:=zh hb0;clear hb0;obtain⟨ab,hab⟩:=ze (vG x q.names fi i);have HAs:Hid (Calls Tryz.prog 96 #[.agg #[.slice bQ aj aT,.slice bg aP aU],.agg #[.slice dJ bF dL],.slice (some ⟨g,0,none⟩) aj aj,.int .i64 (i:Int)] dG fun e w'=>e= .returned (.bool ab)/\O0 dG w'):=by have:=aaj (kC.out dG gV.out) (zQ.out dG gV.out) zAg (by rw[aB.out];exact HBi.out) i;rw[hab,aB.out]at this;exact this
     have HAb:=zh hab;clear hab;have uh:Hid (jM x q.names F (i+1)=if (!b0&&ab)=true then fi.set i true else fi):=by rw[sK,HFi.out,stepD,HB0.out,HAb.out];exact rfl
     cases b0 with
     |true=>
      have HB2:Hid (RJ dG g aj (jM x q.names F (i+1))):=by rw[uh.out];simp only[Bool.not_true,yQ,Bool.false_eq_true,if_false];exact HBi.out
      go_wp2_with fail;go_roundw;case rel=>exact⟨gV,i+1,by first|rfl|go_num,by omega,HB2⟩
      case measure=>simp[RowKit.intOf]<;>omega
     |false=>
      go_wp2_with fail;refine HAs.out.mono ?_;rintro e w2 ⟨rfl,O2⟩;have fK:=zh (gV.out.same O2);have HB1:=zh (HBi.out.aN O2);clear O2 HAs gin k0 k1 k2;obtain⟨k0,k1,k2⟩:=aG.out w2 fK.out;have gin:=HB1.out.cell ci;cases ab with
      |false=>
       have HB2:Hid (RJ w2 g aj (jM x q.names F (i+1))):=by rw[uh.out];simp only[Bool.and_false,Bool.false_eq_true,if_false];exact HB1.out
       go_wp2_with fail;go_roundw;case rel=>exact⟨fK,i+1,by first|rfl|go_num,by omega,HB2⟩
       case measure=>simp[RowKit.intOf]<;>omega
      |true=>
       have hfr:=HB1.out.2.frozenAt i;have HB2:Hid (RJ (w2.setCell ⟨g,i,none⟩ (.bool true)) g aj (jM x q.names F (i+1))):=by rw[uh.out];simp only[Bool.not_false,Bool.and_true,if_true];exact HB1.out.set i
       have mO:Hid (O0 W0 (w2.setCell ⟨g,i,none⟩ (.bool true))):=fK.out.setCell (p:=⟨g,i,none⟩) (.inr HG.out) _;go_wp2_with fail;go_roundw;case rel=>exact⟨mO,i+1,by first|rfl|go_num,by omega,HB2⟩
       case measure=>simp[RowKit.intOf]<;>omega
    obtain rfl:aj=i:=by omega
    have HB2:Hid (RJ dG g aj (gW x q.names (n+1))):=by have:=HBi.out;rw[<-HFF.out,<-aB.out]at this;rw[<-aB.out];exact this
    have fK:=gV;go_wp2_with fail;go_roundw;case rel=>exact⟨fK,n+1,by first|rfl|go_num,by omega,HB2⟩
    case measure=>simp[RowKit.intOf]<;>omega
  obtain rfl:(aj+1)=n:=by omega
  obtain⟨WB,hWB⟩:=zB NS;obtain⟨F,hF⟩:=ze (gW x q.names (aj+1));rw[hF]at HBn;have HFF:=zh hF;clear hF;have HOW:Hid (O0 W0 WB):=by rw[hWB];exact Jv.out
  have HIn:Hid (∀W,O0 WB W->RJ W g aj F):=fun W hW=>by rw[hWB]at hW;exact HBn.out.aN hW
  have bM:Hid (O0 WB (WB.alloc (.cells #[] 3))):=zr.alloc _;have BJ:Hid ((WB.alloc (.cells #[] 3)).ownsRow 0 3 1 (.slice (some ⟨WB.heap.size,0,none⟩) 0 0) (Dj F 0).length (ji (Dj F 0))):=wI WB;have HB1:Hid (∀k,(Value.slice (some ⟨WB.heap.size,0,none⟩) 0 0).ownBlock=some k->WB.heap.size<=k):=fun k hk=>by simp[Value.ownBlock]at hk;omega
  have hnl:¬((aj:Int)+1<=aj):=zBk;rw[<-hWB];rw[<-hWB]at k0 k1 k2;clear hWB HBn Jv;go_wp2_with fail;clear k0 k1 k2;go_loopw [8,46] (fun vo vj Bl=>Hid (O0 WB Bl)/\∃j:Nat,vj= .int .i64 j/\j<=aj/\Hid (Bl.ownsRow 0 3 1 vo (Dj F j).length (ji (Dj F j)))/\Hid (∀k,vo.ownBlock=some k->WB.heap.size<=k)) (fun _ v _=>aj-(RowKit.intOf v).toNat);case atStart=>exact⟨bM,0,rfl,qE _,BJ,HB1⟩
  case round=>
   obtain⟨Bl,rfl⟩:=zB wr;clear bM BJ HB1;obtain⟨HOj,j,rfl,hj,HV,HBj⟩:=hrel;obtain⟨au,cu,rfl,-,-⟩:=aC HV.out;by_cases cj:j<aj
   ·have hpl:(Dj F j).length<=j:=by unfold Dj;have:=yO (fun i=>F.getD i false) (List.range j);simpa using this
    have jh:=zw (j+1);have gin:=(HIn.out Bl HOj.out).cell cj;obtain⟨b0,hb0⟩:=ze (F.getD j false);rw[hb0]at gin;have HB0:=zh hb0;clear hb0;cases b0 with
    |false=>
     have Ae:Hid (Bl.ownsRow 0 3 1 (.slice au (Dj F j).length cu) (Dj F (j+1)).length (ji (Dj F (j+1)))):=by rw[Qe,HB0.out,if_neg zAM];exact HV.out
     go_wp2_with fail;go_roundw;case rel=>exact⟨HOj,j+1,by first|rfl|go_num,by omega,Ae,HBj⟩
     case measure=>simp[RowKit.intOf]<;>omega
    |true=>
     go_wp2_with (at_builtin;go_must (refine tC (u:=.int .i64 (j:Int)) kJ rfl (.tmp 53) (.tmp 55) rfl rfl rfl (cell_new0 _ _ _) rfl (aI HV.out ((Only.refl (fun _=>False) _).alloc _) (fun _ _ f=>f)) zBk zBl ?_));intro v' w2 r1 r2 r3;have Ae:Hid (w2.ownsRow 0 3 1 v' (Dj F (j+1)).length (ji (Dj F (j+1)))):=by rw[Qe,HB0.out,if_pos rfl];simpa[ji,Hid]using r1
     have fK:=zh (((HOj.out.alloc _).trans r2 fun k hk=>.inr (HBj.out k hk)));have HB2:Hid (∀k,v'.ownBlock=some k->WB.heap.size<=k):=by
      intro k hk;obtain⟨g,cap',rfl,-,-,h|h⟩:=r3;·simp[Value.ownBlock]at hk;subst hk;exact HBj.out _ h
      simp[Value.ownBlock]at hk;subst hk;have:=HOj.out.size;simp at h;omega
     obtain⟨g2,cap',rfl,-,-,-⟩:=r3;clear r1 r2;go_wp2_with fail;go_roundw;case rel=>exact⟨fK,j+1,by first|rfl|go_num,by omega,Ae,HB2⟩
     case measure=>simp[RowKit.intOf]<;>omega
   obtain rfl:aj=j:=by omega
   go_wp2_with fail;go_ret;refine⟨_,rfl,?_,fun k hk=>by have:=HBj.out k hk;have:=bW.out.size;have:=HOW.out.size;omega,bW.out.same (HOW.out.same HOj.out)⟩;have:=HV.out;rw[<-HFF.out,<-aB.out,Dk]at this;rw[<-HFF.out,<-aB.out,Dk];exact this
end
end Go.Proofs.YtdmmebjjojimiaaGreatDoor
