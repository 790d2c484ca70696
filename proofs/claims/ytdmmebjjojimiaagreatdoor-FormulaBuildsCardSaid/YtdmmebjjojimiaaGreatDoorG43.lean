/- The document's checks, exact: May, twice. Printed by gen_rx1.py.; The document's checks, exact: alone. Printed by gen_rx2.py. -/
import Derived.Test.YtdmmebjjojimiaaGreatDoorG37
set_option maxRecDepth 100000
set_option maxHeartbeats 8000000
set_option linter.all false
namespace Go.Proofs
theorem zA5{p:Prop}(h:p:=by rw[Io.out];omega):p:=h
theorem zDX{p:Prop}(h:p:=by
 obtain rfl:r=false:=by rw[<-Hhr.out];exact vU xO.out (PY (fun h=>by have:=Io.out;omega))
 go_wp2_with fail
 go_ret
 exact⟨rfl,bM.out.same aW.out⟩):p:=h
end Go.Proofs
namespace Go.Proofs.YtdmmebjjojimiaaGreatDoor
open Go.RowKit
section
variable {w w':World} {B:Nat}
theorem Iw{l:List Str}{k:Nat}{t s:Str}(ht:l[k]? =some t)(h:iT (l.take k) s=false)(hn:decide (t=s)=false):iT (l.take (k+1)) s=false:=by have e:=nT (g:=fun u=>decide (u=s)) ht;show(l.take (k+1)).any (fun u=>decide (u=s))=false;rw[e,hn,Bool.or_false];exact h
theorem MJ{l:List Str}{k i:Nat}{t s:Str}(hs:l[i]? =some s)(ht:l[k]? =some t)(hk:k<i)(he:decide (t=s)=true):dA l=false:=by rw[Bool.eq_false_iff,Ne,sQ];intro hn;obtain⟨hi,es⟩:=qJ.1 hs;obtain⟨hj,et⟩:=qJ.1 ht;have h1:=List.pairwise_iff_getElem.1 hn k i hj hi hk;rw[es,et]at h1;exact h1 (of_decide_eq_true he)
theorem BM{l:List Str}{i:Nat}{s:Str}(hs:l[i]? =some s)(h:dA (l.take i)=true)(h2:iT (l.take i) s=false):dA (l.take (i+1))=true:=by rw[IV hs h,h2];rfl
theorem Ye{v:eP}(h:Lk.nameB v.name.toList=false):lQ v=false:=by unfold lQ;rw[h];rfl
theorem PY{v:eP}(h:¬(0<v.values.length/\v.values.length<=4)):lQ v=false:=by
 unfold lQ;by_cases h1:0<v.values.length;·rw[qP (show¬v.values.length<=4 from fun h2=>h ⟨h1,h2⟩)];simp
 rw[qP h1];simp
theorem aa2{v:eP}{k:Nat}{s:Str}(hs:v.values[k]? =some s)(h:Lk.lH s.toList=false):lQ v=false:=by unfold lQ;have:(v.values.all fun s=>Lk.lH s.toList)=false:=List.all_eq_false.2 ⟨s,qT hs,by rw[h];simp⟩;rw[this];simp
theorem Yf{v:eP}(h:dA v.values=false):lQ v=false:=by unfold lQ;rw[h];simp
theorem aa3{v:eP}(h1:Lk.nameB v.name.toList=true)(h2:0<v.values.length)(h3:v.values.length<=4)(h4:∀s∈v.values,Lk.lH s.toList=true)(h5:dA v.values=true):lQ v=true:=by unfold lQ;rw[h1,qX h2,qX h3,List.all_eq_true.2 h4,h5];rfl
theorem VE{l:List eP}(h:4<l.length):lI l=false:=by unfold lI;rw[qP (show¬l.length<=4 by omega)];simp
theorem VF{l:List eP}(h:dA (l.map eP.name)=false):lI l=false:=by unfold lI;rw[h];simp
theorem Yg{l:List eP}(h1:∀v∈l,lQ v=true)(h2:l.length<=4)(h3:dA (l.map eP.name)=true):lI l=true:=by unfold lI;rw[List.all_eq_true.2 h1,qX h2,h3];rfl
theorem Gt{l:List eP}{i:Nat}{y:eP}(h:l[i]? =some y):(l.map eP.name)[i]? =some y.name:=by rw[List.getElem?_map,h];rfl
theorem Gu{vl:Value}{l:List Str}(hl:aQ 1 dN B w vl l):Calls Tryz.prog 125 #[vl] w fun e w'=>e= .returned (.bool (!dA l))/\O0 w w':=by
 obtain⟨a_l,uJ,YA,rfl,g_l,TL,Ap,TM⟩:=open_strs hl;clear hl;obtain⟨W0,hW0⟩:=zB w;have bM:Hid (O0 w W0):=zAw;have yg:=TM W0 bM.out;clear TM;obtain⟨r,hr⟩:=ze (!dA l);rw[hr];have Hhr:=zh hr;clear hr;subst hW0;go_enter Tryz.func125,Tryz.ntmps125;go_wp2_with fail;have ku:Hid (O0 W0 W0):=Only.refl _ _;go_loopw [7] (fun vi fM=>Hid (O0 W0 fM)/\∃i:Nat,vi= .int .i64 i/\i<=uJ/\Hid (dA (l.take i)=true)) (fun v _=>uJ-(RowKit.intOf v).toNat);case atStart=>exact⟨ku,0,rfl,qE _,show Hid _ from rfl⟩
 case round=>
  obtain⟨fM,rfl⟩:=zB wr;clear ku;obtain⟨xK,i,rfl,hi,HTi⟩:=hrel;by_cases ci:i<uJ
  ·have iG:=zw (i+1);obtain⟨ys,hxs⟩:=zG l i zAh;obtain⟨bks,ahL,hes,afk,Kw⟩:=zL (yg.out W0 zr) hxs;first|subst hes| (simp only[qG,qO,and_true]at hes;obtain⟨rfl,rfl⟩:=hes)
   have Ea:=zh Kw;have MV:=zh hxs;clear Kw hxs;have ku:=xK;go_wp2_with fail;go_loopw [4] (fun vk Dx=>Hid (O0 W0 Dx)/\∃k:Nat,vk= .int .i64 k/\k<=i/\Hid (iT (l.take k) ys=false)) (fun v _=>i-(RowKit.intOf v).toNat);case atStart=>exact⟨ku,0,rfl,qE _,show Hid _ from rfl⟩
   case round=>
    obtain⟨Dx,rfl⟩:=zB wr;clear ku;obtain⟨vw,k,rfl,hk,HCk⟩:=hrel;by_cases ck:k<i
    ·have TI:=zw (k+1);obtain⟨yt,hxt⟩:=zG l k zAh;obtain⟨bkt,aqF,het,aqG,aev⟩:=zL (yg.out W0 zr) hxt;first|subst het| (simp only[qG,qO,and_true]at het;obtain⟨rfl,rfl⟩:=het)
     have HEt:=zh aev;have HXt:=zh hxt;clear aev hxt;have hrs:=(Ea.out Dx vw.out).1;have gs0:=hrs 0 _ rfl;rw[qF]at gs0;rw[yH]at gs0;clear hrs;have hrt:=(HEt.out Dx vw.out).1;have gt0:=hrt 0 _ rfl;rw[qF]at gt0;rw[yH]at gt0;clear hrt;have hbd:=lu ys yt;obtain⟨bb,hbb⟩:∃b,decide (ys=yt)=b:=⟨_,rfl⟩;have am0:decide (yt=ys)=bb:=by rw[<-hbb];exact decide_eq_decide.2 ⟨Eq.symm,Eq.symm⟩
     have Jc:=zh am0;rw[hbb]at hbd;clear hbb am0;go_wp2_with fail;go_quiet (fail);cases bb with
     |true=>
      obtain rfl:r=true:=by rw[<-Hhr.out];show(!dA l)=true;rw[MJ MV.out HXt.out ck Jc.out];rfl
      go_wp2_with fail;go_ret;exact⟨rfl,bM.out.same (vw.out.drewN _)⟩
     |false=>
      have HC2:Hid (iT (l.take (k+1)) ys=false):=Iw HXt.out HCk.out Jc.out;go_wp2_with fail;go_roundw;case rel=>exact⟨show Hid _ from(vw.out.drewN _),k+1,by first|rfl|go_num,by omega,HC2⟩
      case measure=>simp[RowKit.intOf]<;>omega
    obtain rfl:i=k:=by omega
    have HT2:Hid (dA (l.take (i+1))=true):=BM MV.out HTi.out HCk.out;go_wp2_with fail;go_roundw;case rel=>exact⟨vw,i+1,by first|rfl|go_num,by omega,HT2⟩
    case measure=>simp[RowKit.intOf]<;>omega
  obtain rfl:uJ=i:=by omega
  obtain rfl:r=false:=by rw[<-Hhr.out];show(!dA l)=false;have h1:=HTi.out;rw[qI (yG Ap.out)]at h1;rw[h1];rfl
  exact zC4
theorem ajA{vl:Value}{l:List eP}(hl:aQ 2 jM B w vl l):Calls Tryz.prog 126 #[vl] w fun e w'=>e= .returned (.bool (lI l))/\O0 w w':=by
 obtain⟨a_l,uJ,YA,rfl,g_l,TL,Ap,TM⟩:=ZA hl;clear hl;obtain⟨W0,hW0⟩:=zB w;have bM:Hid (O0 w W0):=zAw;have yg:=TM W0 bM.out;clear TM;obtain⟨r,hr⟩:=ze (lI l);rw[hr];have Hhr:=zh hr;clear hr;by_cases c4:4<uJ
 ·obtain rfl:r=false:=by rw[<-Hhr.out];exact VE (by rw[Ap.out];exact c4)
  subst hW0;go_enter Tryz.func126,Tryz.ntmps126;go_wp2_with fail;go_ret;exact⟨rfl,bM.out.same zr⟩
 subst hW0;go_enter Tryz.func126,Tryz.ntmps126;go_wp2_with fail;have ku:Hid (O0 W0 W0):=Only.refl _ _;go_loopw [12] (fun vi fM=>Hid (O0 W0 fM)/\∃i:Nat,vi= .int .i64 i/\i<=uJ/\Hid (∀v∈l.take i,lQ v=true)/\Hid (dA ((l.map eP.name).take i)=true)) (fun v _=>uJ-(RowKit.intOf v).toNat);case atStart=>exact⟨ku,0,rfl,qE _,(show Hid _ from fun v hv=>by simp at hv),(show Hid _ from rfl)⟩
 case round=>
  obtain⟨fM,rfl⟩:=zB wr;clear ku;obtain⟨xK,i,rfl,hi,HZ,HTn⟩:=hrel;by_cases ci:i<uJ
  ·have iG:=zw (i+1);obtain⟨yy,hxy⟩:=zG l i zAh;obtain⟨Ah,kX,lD,iL,lF,nN,jX,yV,jw⟩:=Fj (yg.out W0 zr) hxy;first|subst nN| (simp only[qG,qO,and_true]at nN;obtain⟨rfl,rfl⟩:=nN)
   have Io:=zh jX;have jk:=zh jw;have xO:=zh hxy;clear jw hxy jX;have uK:Hid (∀W,O0 W0 W->aQ 1 dN B W (.slice lD iL lF) yy.values):=fun W ho=>(jk.out W ho).2.1;have fE:=(jk.out fM xK.out).1;have Ee:=fE 0 _ rfl;have NI:=fE 1 _ rfl;rw[qF]at Ee;clear fE;obtain⟨bb,hnb⟩:=ze (Lk.nameB yy.name.toList);have Cm:=zh hnb;have MS:=zh (Zv (w:=fM) yy.name yV bb hnb);clear hnb;go_wp2_with fail;refine MS.out.mono ?_;rintro e w1 ⟨rfl,O1⟩;have aW:=zh (xK.out.same O1);clear O1 MS Ee NI;have fE:=(jk.out w1 aW.out).1;have Ee:=fE 0 _ rfl;have NI:=fE 1 _ rfl;rw[qF]at Ee;clear fE;cases bb with
   |false=>
    obtain rfl:r=false:=by rw[<-Hhr.out];exact vU xO.out (Ye Cm.out)
    go_wp2_with fail;go_ret;exact⟨rfl,bM.out.same aW.out⟩
   |true=>
    by_cases z1:iL=0;·subst z1;exact zDX
    have z3:((iL:Int)==0)=false:=by rw[yC];omega
    by_cases z2:4<iL;·exact zDX
    go_wp2_with fail;have ku:=aW;clear Ee NI z3;go_loopw [4] (fun vm BL=>Hid (O0 W0 BL)/\∃m:Nat,vm= .int .i64 m/\m<=i/\Hid (iT ((l.map eP.name).take m) yy.name=false)) (fun v _=>i-(RowKit.intOf v).toNat);case atStart=>exact⟨ku,0,rfl,qE _,show Hid _ from rfl⟩
    case round=>
     obtain⟨BL,rfl⟩:=zB wr;clear ku;obtain⟨HOm,m,rfl,hm,HCm⟩:=hrel;by_cases cm:m<i
     ·have ewm:=zw (m+1);obtain⟨yz,hxz⟩:=zG l m zAh;obtain⟨NG,xM,VO,VP,VQ,wE,Eb,Ky,mJ⟩:=Fj (yg.out W0 zr) hxz;first|subst wE| (simp only[qG,qO,and_true]at wE;obtain⟨rfl,rfl⟩:=wE)
      have vM:=zh mJ;have Bg:=zh hxz;clear mJ hxz Eb;have fE:=(jk.out BL HOm.out).1;have Ee:=fE 0 _ rfl;rw[qF]at Ee;clear fE;have hrz:=(vM.out BL HOm.out).1;have GN:=hrz 0 _ rfl;rw[qF]at GN;clear hrz;have hbd:=lu yz.name yy.name;obtain⟨bb,hbb⟩:∃b,decide (yz.name=yy.name)=b:=⟨_,rfl⟩;have Jc:=zh hbb;rw[hbb]at hbd;clear hbb;go_wp2_with fail;go_quiet (fail);cases bb with
      |true=>
       obtain rfl:r=false:=by rw[<-Hhr.out];exact VF (MJ (Gt xO.out) (Gt Bg.out) cm Jc.out)
       go_wp2_with fail;go_ret;exact⟨rfl,bM.out.same (HOm.out.drewN _)⟩
      |false=>
       have HC2:Hid (iT ((l.map eP.name).take (m+1)) yy.name=false):=Iw (Gt Bg.out) HCm.out Jc.out;go_wp2_with fail;go_roundw;case rel=>exact⟨show Hid _ from(HOm.out.drewN _),m+1,by first|rfl|go_num,by omega,HC2⟩
       case measure=>simp[RowKit.intOf]<;>omega
     obtain rfl:i=m:=by omega
     have fE:=(jk.out BL HOm.out).1;have NI:=fE 1 _ rfl;clear fE;have ku:=HOm;go_wp2_with fail;clear NI;go_loopw [62] (fun vk Dx=>Hid (O0 W0 Dx)/\∃k:Nat,vk= .int .i64 k/\k<=iL/\Hid (∀s∈yy.values.take k,Lk.lH s.toList=true)/\Hid (dA (yy.values.take k)=true)) (fun v _=>iL-(RowKit.intOf v).toNat);case atStart=>exact⟨ku,0,rfl,qE _,(show Hid _ from fun v hv=>by simp at hv),(show Hid _ from rfl)⟩
     case round=>
      obtain⟨Dx,rfl⟩:=zB wr;clear ku;obtain⟨vw,k,rfl,hk,HVk,HTk⟩:=hrel;by_cases ck:k<iL
      ·have TI:=zw (k+1);obtain⟨ys,hxs⟩:=zG yy.values k zA5;obtain⟨bks,ahL,hes,afk,Kw⟩:=zL (uK.out W0 zr) hxs;first|subst hes| (simp only[qG,qO,and_true]at hes;obtain⟨rfl,rfl⟩:=hes)
       have Ea:=zh Kw;have MV:=zh hxs;clear Kw hxs;have fE:=(jk.out Dx vw.out).1;have NI:=fE 1 _ rfl;clear fE;have hrs:=(Ea.out Dx vw.out).1;have gs0:=hrs 0 _ rfl;rw[qF]at gs0;rw[yH]at gs0;clear hrs;obtain⟨bb,hvb⟩:=ze (Lk.lH ys.toList);have HVb:=zh hvb;have HVl:=zh (aes (w:=Dx) ys afk bb hvb);clear hvb;go_wp2_with fail;refine HVl.out.mono ?_;rintro e w2 ⟨rfl,O2⟩;have iO:=zh (vw.out.same O2);clear O2 HVl NI gs0;cases bb with
       |false=>
        obtain rfl:r=false:=by rw[<-Hhr.out];exact vU xO.out (aa2 MV.out HVb.out)
        exact zCV
       |true=>
        have aqI:Hid (∀s∈yy.values.take (k+1),Lk.lH s.toList=true):=fun v hv=>by
         rcases bH MV.out hv with h|rfl;·exact HVk.out v h
         exact HVb.out
        have ku:=iO;clear TI;go_wp2_with fail;go_loopw [6] (fun vn V6=>Hid (O0 W0 V6)/\∃n:Nat,vn= .int .i64 n/\n<=k/\Hid (iT (yy.values.take n) ys=false)) (fun v _=>k-(RowKit.intOf v).toNat);case atStart=>exact⟨ku,0,rfl,qE _,show Hid _ from rfl⟩
        case round=>
         obtain⟨V6,rfl⟩:=zB wr;clear ku;obtain⟨QW,n,rfl,hn,VW⟩:=hrel;by_cases cn:n<k
         ·have ewn:=zw (n+1);obtain⟨yt,hxt⟩:=zG yy.values n zA5;obtain⟨bkt,aqF,het,aqG,aev⟩:=zL (uK.out W0 zr) hxt;first|subst het| (simp only[qG,qO,and_true]at het;obtain⟨rfl,rfl⟩:=het)
          have HEt:=zh aev;have HXt:=zh hxt;clear aev hxt;have fE:=(jk.out V6 QW.out).1;have NI:=fE 1 _ rfl;clear fE;have hrs:=(Ea.out V6 QW.out).1;have gs0:=hrs 0 _ rfl;rw[qF]at gs0;rw[yH]at gs0;clear hrs;have hrt:=(HEt.out V6 QW.out).1;have gt0:=hrt 0 _ rfl;rw[qF]at gt0;rw[yH]at gt0;clear hrt;have hbd:=lu yt ys;obtain⟨bb,hbb⟩:∃b,decide (yt=ys)=b:=⟨_,rfl⟩;have Jc:=zh hbb;rw[hbb]at hbd;clear hbb;go_wp2_with fail;go_quiet (fail);cases bb with
          |true=>
           obtain rfl:r=false:=by rw[<-Hhr.out];exact vU xO.out (Yf (MJ MV.out HXt.out cn Jc.out))
           go_wp2_with fail;go_ret;exact⟨rfl,bM.out.same (QW.out.drewN _)⟩
          |false=>
           have HC2:Hid (iT (yy.values.take (n+1)) ys=false):=Iw HXt.out VW.out Jc.out;go_wp2_with fail;go_roundw;case rel=>exact⟨show Hid _ from(QW.out.drewN _),n+1,by first|rfl|go_num,by omega,HC2⟩
           case measure=>simp[RowKit.intOf]<;>omega
         obtain rfl:k=n:=by omega
         have HT2:Hid (dA (yy.values.take (k+1))=true):=BM MV.out HTk.out VW.out;go_wp2_with fail;go_roundw;case rel=>exact⟨QW,k+1,by first|rfl|go_num,by omega,aqI,HT2⟩
         case measure=>simp[RowKit.intOf]<;>omega
      obtain rfl:iL=k:=by omega
      have HZ2:Hid (∀v∈l.take (i+1),lQ v=true):=fun v hv=>by
       rcases bH xO.out hv with h|rfl;·exact HZ.out v h
       have h1:=HVk.out;have h2:=HTk.out;rw[qI (yG Io.out)]at h1 h2;exact aa3 Cm.out (by rw[Io.out];omega) zA5 h1 h2
      have aqJ:Hid (dA ((l.map eP.name).take (i+1))=true):=BM (Gt xO.out) HTn.out HCm.out;go_wp2_with fail;go_roundw;case rel=>exact⟨vw,i+1,by first|rfl|go_num,by omega,HZ2,aqJ⟩
      case measure=>simp[RowKit.intOf]<;>omega
  obtain rfl:uJ=i:=by omega
  have hyes:lI l=true:=by have h1:=HZ.out;have h2:=HTn.out;rw[qI (yG Ap.out)]at h1;rw[qI (by rw[qM,Ap.out];exact qH _)]at h2;exact Yg h1 zAh h2
  obtain rfl:r=true:=by rw[<-Hhr.out];exact hyes
  exact zC4
end
section
variable {w w':World} {B:Nat}
theorem aew{pR:List Value}{x:aF}(hx:gy B w pR x)(hlen:x.packs.length<=1000000){i:Nat}(hi:i<x.packs.length):Calls Tryz.prog 53 #[.agg pR.toArray,.int .i64 (i:Int)] w fun e w'=>eX (x.kL i) w w' e:=by
 obtain⟨aV,ak,aS,aT,aK,aO,rfl,fV,fZ,dQ,dR,aB,bJ,qo⟩:=open_rec hx;clear hx;try rw[aB.out]
 obtain⟨W0,hW0,bM,vC,aU⟩:=Nj w (.slice aV ak aS) (.slice aT aK aO) 25;obtain⟨gI,bK,bT⟩:=qo W0 bM.out;clear qo;clear dQ dR bJ bT;rw[aB.out]at hlen hi;obtain⟨yy,hxy⟩:=zG x.packs i zAV;obtain⟨Ah,kX,lD,iL,lF,pU,pV,pW,vN,rP,vO,wS,uq,wU,Dy,zH,Dz,Au,xq,Aw,nN,jX,ny,sN,sO,wF,wG,yV,Ed,jw⟩:=jH (bK.out W0 zr) hxy;first|subst nN| (simp only[qG,qO,and_true]at nN;obtain⟨rfl,rfl⟩:=nN)
 have Io:=zh jX;have Ny3:=zh sN;have Ny4:=zh sO;have Ny5:=zh wF;have Ny6:=zh wG;have jk:=zh jw;have xO:=zh hxy;clear jw hxy jX ny sN sO wF wG;have uK:Hid (∀W,O0 W0 W->aQ 2 oh B W (.slice lD iL lF) yy.aX):=fun W ho=>(jk.out W ho).2.1;have FH:Hid (∀W,O0 W0 W->aQ 2 jM B W (.slice pU pV pW) yy.vars):=fun W ho=>(jk.out W ho).2.2.1;have RH:Hid (∀W,O0 W0 W->aQ 1 dN B W (.slice vN rP vO) yy.provides):=fun W ho=>(jk.out W ho).2.2.2.1;have X3:Hid (∀W,O0 W0 W->aQ 1 dN B W (.slice Au xq Aw) yy.files):=fun W ho=>(jk.out W ho).2.2.2.2.2.2.1;have hpk:x.pack i=yy:=zAk;obtain⟨ok,hok⟩:=ze (x.kL i);obtain⟨f,hf⟩:=ze (x.find yy.name);obtain⟨pn,hpn⟩:=ze ((x.dh yy.name).length);obtain⟨tw,htw⟩:=ze (dA (yy.aX.map lV.version));obtain⟨mv,hmv⟩:=ze (lI yy.vars);obtain⟨t3,ht3⟩:=ze (dA yy.provides);obtain⟨t6,ht6⟩:=ze (dA yy.files);have bD:Hid (ok=(decide (f=(i:Int))&&decide (pn=0)&&decide (0<iL)&&(decide (iL<=10)&&decide (uq<=16)&&decide (zH<=8)&&decide (rP<=4)&&decide (xq<=8))&&tw&&mv&&t3&&t6)):=by exact zD3
 rw[hok];have HMv:Hid (∀W,O0 W0 W->Calls Tryz.prog 126 #[.slice pU pV pW] W fun e w'=>e= .returned (.bool mv)/\O0 W w'):=fun W hW=>by rw[<-hmv];exact ajA (FH.out W hW)
 have HT3:Hid (∀W,O0 W0 W->Calls Tryz.prog 125 #[.slice vN rP vO] W fun e w'=>e= .returned (.bool (!t3))/\O0 W w'):=fun W hW=>by rw[<-ht3];exact Gu (RH.out W hW)
 have HT6:Hid (∀W,O0 W0 W->Calls Tryz.prog 125 #[.slice Au xq Aw] W fun e w'=>e= .returned (.bool (!t6))/\O0 W w'):=fun W hW=>by rw[<-ht6];exact Gu (X3.out W hW)
 have HTw:Hid (dA (oD yy.aX iL)=tw):=by show _=_;rw[<-htw];unfold oD;rw[qI (yG Io.out)]
 clear hok htw hmv ht3 ht6 hpk;have HF:Hid (∀W,O0 W0 W->Calls Tryz.prog 38 #[.agg #[.slice (some ⟨Ah,kX,none⟩) ak aS,.slice aT aK aO],.string yy.name] W fun e w'=>e= .returned (.int .i64 f)/\O0 W w'):=fun W hW=>by rw[<-hf];exact sH (gI.out W hW) yy.name
 have VL:Hid (∀W,O0 W0 W->Calls Tryz.prog 124 #[.agg #[.slice (some ⟨Ah,kX,none⟩) ak aS,.slice aT aK aO],.string yy.name] W fun e w'=> ∃a c,e= .returned (.slice a pn c)/\O0 W w'):=fun W hW=>(wz (gI.out W hW) zAN yy.name).mono fun e w' ⟨v,he,h1,_,h3⟩=>by exact zE5
 have HPn:Hid (pn<=ak):=by exact zDm
 clear hf hpn;have fE:=zh (jk.out W0 zr).1;obtain⟨W1,hW1⟩:=zB (W0.alloc (.cells #[.string yy.name,.int .i64 yy.line,.slice lD iL lF,.slice pU pV pW,.slice vN rP vO,.slice wS uq wU,.slice Dy zH Dz,.slice Au xq Aw] 101));have aW:Hid (O0 W0 W1):=zA3;have Jg:Hid (∀W,O0 W0 W->O0 W1 W->W.cell? ⟨w.heap.size+1,0,none⟩=some (.string yy.name)/\W.cell? ⟨w.heap.size+1,1,none⟩=some (.int .i64 yy.line)/\W.cell? ⟨w.heap.size+1,2,none⟩=some (.slice lD iL lF)/\W.cell? ⟨w.heap.size+1,3,none⟩=some (.slice pU pV pW)/\W.cell? ⟨w.heap.size+1,4,none⟩=some (.slice vN rP vO)/\W.cell? ⟨w.heap.size+1,5,none⟩=some (.slice wS uq wU)/\W.cell? ⟨w.heap.size+1,6,none⟩=some (.slice Dy zH Dz)/\W.cell? ⟨w.heap.size+1,7,none⟩=some (.slice Au xq Aw)):=fun W _ ho=>by have b0:W1.heap[w.heap.size+1]? =some (.cells #[.string yy.name,.int .i64 yy.line,.slice lD iL lF,.slice pU pV pW,.slice vN rP vO,.slice wS uq wU,.slice Dy zH Dz,.slice Au xq Aw] 101):=zAr;have b1:=aC b0 ho (fun f=>f);exact zCK
 rw[hW0]at fE;go_enter Tryz.func53,Tryz.ntmps53;go_wp2_with (refine wpList_load_mid rfl 101 (.tmp 11) rfl Ah (kX+i*8) rfl _ _ fE.out Tryz.underlying101 rfl zk ?_);rw[<-hW0,<-hW1];clear hW0 hW1 fE;have Sm:Hid (O0 W1 W1):=Only.refl _ _;obtain⟨k0,k1⟩:=aU.out W1 (aW.out.same Sm.out);obtain⟨p0,p1,p2,p3,p4,p5,p6,p7⟩:=Jg.out W1 (aW.out.same Sm.out) Sm.out;go_wp2_with fail;refine(HF.out W1 aW.out).mono ?_;rintro e w1 ⟨rfl,O1⟩;have Vk:=zh O1;clear O1 Sm k0 k1 p0 p1 p2 p3 p4 p5 p6 p7;obtain⟨k0,k1⟩:=aU.out w1 (aW.out.same Vk.out);obtain⟨p0,p1,p2,p3,p4,p5,p6,p7⟩:=Jg.out w1 (aW.out.same Vk.out) Vk.out;by_cases hfi:f=(i:Int)
 ·subst hfi;have hfi:(i:Int)=(i:Int):=rfl;go_wp2_with fail;refine(VL.out w1 (aW.out.same Vk.out)).mono ?_;rintro e w2 ⟨ap,cp,rfl,O1⟩;have HP2:=zh (Vk.out.same O1);have hpn:=HPn.out;clear O1 k0 k1 p0 p1 p2 p3 p4 p5 p6 p7;obtain⟨k0,k1⟩:=aU.out w2 (aW.out.same HP2.out);obtain⟨p0,p1,p2,p3,p4,p5,p6,p7⟩:=Jg.out w2 (aW.out.same HP2.out) HP2.out;by_cases cpn:0<pn;·exact zFJ
  have ai9:pn=0:=by omega
  by_cases z1:iL=0;·exact zFM
  have z3:((iL:Int)==0)=false:=by rw[yC];omega
  by_cases q1:10<iL;·exact zFF
  by_cases q2:16<uq;·exact zFE
  by_cases q3:8<zH;·exact zFG
  by_cases q4:4<rP;·exact zFI
  by_cases q5:8<xq;·exact zFH
  have HV0:Hid ((w2.alloc (.cells #[] 9)).ownsRow 0 9 1 (.slice (some ⟨w2.heap.size,0,none⟩) 0 0) 0 (fH (oD yy.aX 0))):=ab7 w2;have Sm:Hid (O0 W1 (w2.alloc (.cells #[] 9))):=HP2.out.alloc _;have HB0:Hid (∀k,(Value.slice (some ⟨w2.heap.size,0,none⟩) 0 0).ownBlock=some k->W1.heap.size<=k):=fun k hk=>by simp[Value.ownBlock]at hk;have:=HP2.out.size;omega
  have aqK:Hid (∀r∈yy.aX,okS r.version):=fun r hr=>by obtain⟨k,hk⟩:=List.mem_iff_getElem?.1 hr;obtain⟨_,_,_,h,_⟩:=JA (uK.out W0 zr) hk;exact h
  obtain⟨-,-,o2,-,-,-,-,-⟩:=Jg.out _ (aW.out.same Sm.out) Sm.out;go_wp2_with fail;clear o2;go_loopw [6,61] (fun vo vj iJ=>Hid (O0 W1 iJ)/\∃j:Nat,vj= .int .i64 j/\j<=iL/\Hid (iJ.ownsRow 0 9 1 vo j (fH (oD yy.aX j)))/\Hid (∀k,vo.ownBlock=some k->W1.heap.size<=k)) (fun _ v _=>iL-(RowKit.intOf v).toNat);case atStart=>exact⟨Sm,0,rfl,qE _,HV0,HB0⟩
  case round=>
   obtain⟨iJ,rfl⟩:=zB wr;clear Sm HV0 HB0 k0 k1 p0 p1 p2 p3 p4 p5 p6 p7;obtain⟨Bh,j,rfl,hj,HV,Zi⟩:=hrel;have Di:=Bh;obtain⟨k0,k1⟩:=aU.out iJ (aW.out.same Bh.out);obtain⟨p0,p1,p2,p3,p4,p5,p6,p7⟩:=Jg.out iJ (aW.out.same Bh.out) Bh.out;obtain⟨au,cu,rfl,-,-⟩:=aJ HV.out;by_cases cj:j<iL
   ·have iG:=zw (j+1);obtain⟨yz,hxz⟩:=zG yy.aX j zA5;obtain⟨NG,xM,wE,Ky,mJ⟩:=JA (uK.out W0 zr) hxz;first|subst wE| (simp only[qG,qO,and_true]at wE;obtain⟨rfl,rfl⟩:=wE)
    have vM:=zh mJ;have Bg:=zh hxz;clear mJ hxz;have hrz:=(vM.out iJ (aW.out.same Bh.out)).1;have GN:=hrz 0 _ rfl;rw[qF]at GN;clear hrz;go_wp2_with (at_builtin;go_must (refine AL (u:=.string yz.version) zM rfl (.tmp 64) (.tmp 71) rfl rfl rfl (cell_new0 _ _ _) rfl (aG HV.out ((Only.refl (fun _=>False) _).alloc _) (fun _ _ f=>f)) zAB zBV ?_));intro v' w2 r1 r2 r3;have HVv:Hid (w2.ownsRow 0 9 1 v' (j+1) (fH (oD yy.aX (j+1)))):=by rw[IL Bg.out];simpa[fH,Hid]using r1
    have HOv:=zh (((Di.out.alloc _).trans r2 fun k hk=>.inr (Zi.out k hk)));have HBv:Hid (∀k,v'.ownBlock=some k->W1.heap.size<=k):=by
     intro k hk;obtain⟨g,cap',rfl,-,-,h|h⟩:=r3;·exact zDl
     simp[Value.ownBlock]at hk;subst hk;have:=Di.out.size;simp at h;omega
    obtain⟨g,cap',rfl,-,-,-⟩:=r3;clear r1 r2;exact zDh
   obtain rfl:iL=j:=by omega
   go_wp2_with fail;have HTv:Hid (Calls Tryz.prog 125 #[.slice au iL cu] iJ fun e w'=>e= .returned (.bool (!tw))/\O0 iJ w'):=by
    rw[<-HTw.out];exact Gu (sG (WV (by rw[Io.out];exact qH _)) HV.out (fun s hs=>by
     unfold oD at hs
     obtain⟨r,hr,rfl⟩:=yD.1 hs
     exact aqK.out r (List.mem_of_mem_take hr)))
   refine(HTv.out).mono ?_;rintro e w3 ⟨rfl,O1⟩;have rH:=zh (Bh.out.same O1);clear O1 k0 k1 p0 p1 p2 p3 p4 p5 p6 p7;obtain⟨k0,k1⟩:=aU.out w3 (aW.out.same rH.out);obtain⟨p0,p1,p2,p3,p4,p5,p6,p7⟩:=Jg.out w3 (aW.out.same rH.out) rH.out;clear HTv HV Zi;cases tw with
   |false=>
    have hres:decide (((5:Int))=0)=ok:=by rw[bD.out];simp
    go_wp2_with fail;go_ret;exact eX.mk _ rfl zAD hres (bM.out.same (aW.out.same rH.out))
   |true=>
    go_wp2_with fail;refine(HMv.out w3 (aW.out.same rH.out)).mono ?_;rintro e w4 ⟨rfl,O1⟩;have xu:=zh (rH.out.same O1);clear O1 k0 k1 p0 p1 p2 p3 p4 p5 p6 p7;obtain⟨k0,k1⟩:=aU.out w4 (aW.out.same xu.out);obtain⟨p0,p1,p2,p3,p4,p5,p6,p7⟩:=Jg.out w4 (aW.out.same xu.out) xu.out;cases mv with
    |false=>
     have hres:decide (((6:Int))=0)=ok:=by rw[bD.out];simp
     exact zEl
    |true=>
     go_wp2_with fail;refine(HT3.out w4 (aW.out.same xu.out)).mono ?_;rintro e w5 ⟨rfl,O1⟩;have CQ:=zh (xu.out.same O1);clear O1 k0 k1 p0 p1 p2 p3 p4 p5 p6 p7;obtain⟨k0,k1⟩:=aU.out w5 (aW.out.same CQ.out);obtain⟨p0,p1,p2,p3,p4,p5,p6,p7⟩:=Jg.out w5 (aW.out.same CQ.out) CQ.out;cases t3 with
     |false=>
      have hres:decide (((5:Int))=0)=ok:=by rw[bD.out];simp
      exact zEn
     |true=>
      go_wp2_with fail;refine(HT6.out w5 (aW.out.same CQ.out)).mono ?_;rintro e w6 ⟨rfl,O1⟩;have DC:=zh (CQ.out.same O1);clear O1 k0 k1 p0 p1 p2 p3 p4 p5 p6 p7;obtain⟨k0,k1⟩:=aU.out w6 (aW.out.same DC.out);obtain⟨p0,p1,p2,p3,p4,p5,p6,p7⟩:=Jg.out w6 (aW.out.same DC.out) DC.out;cases t6 with
      |false=>
       have hres:decide (((5:Int))=0)=ok:=by rw[bD.out];simp
       exact zDZ
      |true=>
       have hres:decide (((0:Int))=0)=ok:=by exact zC5
       exact zDZ
 have avQ:(f==(i:Int))=false:=by rw[yC];exact hfi
 have hres:decide (((2:Int))=0)=ok:=by rw[bD.out,qP hfi];simp
 exact zEm
end
end Go.Proofs.YtdmmebjjojimiaaGreatDoor
namespace Go.Proofs
theorem zAP{p:Prop}(h:p:=by(intro w hSw;(try dsimp only at hSw);obtain⟨k0,k1⟩:=aU.out w (aW.out.same hSw);obtain⟨d0,d1,d2⟩:=uM.out w hSw;have hrs:=(Ea.out w (aW.out.same hSw)).1;have gs0:=hrs 0 _ rfl;rw[qF]at gs0;rw[yH]at gs0;clear hrs;go_simp<;>(try with_reducible rfl))):p:=h
theorem zAR{p:Prop}(h:p:=by(intro w hSw;(try dsimp only at hSw);obtain⟨k0,k1⟩:=aU.out w (aW.out.same hSw);obtain⟨d0,d1,d2⟩:=uM.out w hSw;have xU:=(HEv.out w (aW.out.same hSw)).1;have gv4:=xU 4 _ rfl;clear xU;go_simp<;>(try with_reducible rfl))):p:=h
end Go.Proofs
namespace Go.Proofs.YtdmmebjjojimiaaGreatDoor
open Go.RowKit
section
variable {w w':World} {B:Nat}
attribute [local irreducible] wpQuiet
theorem RU{α:Type}{p:α->Bool}{l:List α}{k i:Nat}{t:α}(ht:l[k]? =some t)(hk:k<i)(hp:p t=true):(l.take i).any p=true:=by refine yU.2 ⟨t,?_,hp⟩;exact qT (show(l.take i)[k]? =some t by rw[List.getElem?_take,if_pos hk];exact ht)
theorem Jh{α:Type}{p:α->Bool}{l:List α}{k:Nat}{t:α}(ht:l[k]? =some t)(h:(l.take k).any p=false)(hn:p t=false):(l.take (k+1)).any p=false:=by rw[nT ht,h,hn];rfl
theorem aa4{pR:List Value}{x:aF}(hx:gy B w pR x)(hlen:x.packs.length<=1000000){i:Nat}(hi:i<x.cO.length):Calls Tryz.prog 55 #[.agg pR.toArray,.int .i64 (i:Int)] w fun e w'=>e= .returned (.bool (x.uG i))/\O0 w w':=by
 obtain⟨aV,ak,aS,aT,aK,aO,rfl,fV,fZ,dQ,dR,aB,bJ,qo⟩:=open_rec hx;clear hx;try rw[aB.out]
 obtain⟨W0,hW0,bM,vC,aU⟩:=Nj w (.slice aV ak aS) (.slice aT aK aO) 25;obtain⟨gI,bK,bT⟩:=qo W0 bM.out;clear qo;rw[aB.out]at hlen;rw[bJ.out]at hi;obtain⟨yy,hxy⟩:=zG x.cO i zAn;obtain⟨Ah,kX,lD,iL,lF,nN,jX,yV,Ed,jw⟩:=wu (bT.out W0 zr) hxy;first|subst nN| (simp only[qG,qO,and_true]at nN;obtain⟨rfl,rfl⟩:=nN)
 have Io:=zh jX;have jk:=zh jw;have xO:=zh hxy;clear jw hxy jX;have uK:Hid (∀W,O0 W0 W->aQ 1 dN B W (.slice lD iL lF) yy.names):=fun W ho=>(jk.out W ho).2.1;obtain⟨r,hr⟩:=ze (x.uG i);rw[hr];have bD:Hid (r=(x.nS yy.virtual&& !((x.cO.take i).any (fun g:uQ=>decide (g.virtual=yy.virtual)))&&dA yy.names&& !(yy.names.any (fun n=> !(decide (0<=x.find n)&&iT (x.pack (x.find n).toNat).provides yy.virtual))))):=by
  have hpy:x.cO.getD i default=yy:=by rw[qC,xO.out];rfl
  show _=_;rw[<-hr];unfold aF.uG;rw[hpy]
 clear hr;have hbn:iL<=9223372036854775807:=by obtain⟨_,_,_,g1,g2⟩:=(uK.out W0 zr).shape;rw[Io.out]at g1;omega
 have fE:=zh (jk.out W0 zr).1;obtain⟨W1,hW1⟩:=zB (W0.alloc (.cells #[.string yy.virtual,.slice lD iL lF,.int .i64 yy.line] 103));have aW:Hid (O0 W0 W1):=zA3;have uM:Hid (∀W,O0 W1 W->W.cell? ⟨(w.heap.size+1),0,none⟩=some (.string yy.virtual)/\W.cell? ⟨(w.heap.size+1),1,none⟩=some (.slice lD iL lF)/\W.cell? ⟨(w.heap.size+1),2,none⟩=some (.int .i64 yy.line)):=fun W ho=>by have b0:W1.heap[(w.heap.size+1)]? =some (.cells #[.string yy.virtual,.slice lD iL lF,.int .i64 yy.line] 103):=zAr;have b1:=aC b0 ho (fun f=>f);exact⟨by rw[aj b1];rfl,by rw[aj b1];rfl,by rw[aj b1];rfl⟩
 rw[hW0]at fE;go_enter Tryz.func55,Tryz.ntmps55;go_wp2_with (refine wpList_load_mid rfl 103 (.tmp 12) rfl Ah (kX+i*3) rfl _ _ fE.out Tryz.underlying103 rfl zk ?_);rw[<-hW0,<-hW1];clear hW0 hW1 fE;have ku:Hid (O0 W1 W1):=Only.refl _ _;go_wp2_with fail;go_loopw [6] (fun vk Dx=>Hid (O0 W1 Dx)/\∃k:Nat,vk= .int .i64 k/\k<=i/\Hid ((x.cO.take k).any (fun g:uQ=>decide (g.virtual=yy.virtual))=false)) (fun v _=>i-(RowKit.intOf v).toNat);case atStart=>exact⟨ku,0,rfl,qE _,show Hid _ from rfl⟩
 case round=>
  obtain⟨Dx,rfl⟩:=zB wr;clear ku;obtain⟨OI,k,rfl,hk,HQk⟩:=hrel;obtain⟨k0,k1⟩:=aU.out Dx (aW.out.same OI.out);obtain⟨d0,d1,d2⟩:=uM.out Dx OI.out;by_cases ck:k<i
  ·have iG:=zw (k+1);obtain⟨yz,hxz⟩:=zG x.cO k zAn;obtain⟨NG,xM,VO,VP,VQ,wE,Eb,Ky,acn,mJ⟩:=wu (bT.out W0 zr) hxz;first|subst wE| (simp only[qG,qO,and_true]at wE;obtain⟨rfl,rfl⟩:=wE)
   have vM:=zh mJ;have Bg:=zh hxz;clear mJ hxz Eb;have hrz:=(vM.out Dx (aW.out.same OI.out)).1;have GN:=hrz 0 _ rfl;rw[qF]at GN;clear hrz;have hbd:=lu yz.virtual yy.virtual;obtain⟨bb,hbb⟩:∃b,decide (yz.virtual=yy.virtual)=b:=⟨_,rfl⟩;have Jc:=zh hbb;rw[hbb]at hbd;clear hbb;go_wp2_with fail;go_quiet (fail);cases bb with
   |true=>
    obtain rfl:r=false:=by rw[bD.out];rw[show(x.cO.take i).any (fun g:uQ=>decide (g.virtual=yy.virtual))=true from RU (p:=(fun g:uQ=>decide (g.virtual=yy.virtual))) Bg.out ck Jc.out];simp
    go_wp2_with fail;go_ret;exact⟨rfl,bM.out.same (aW.out.same (OI.out.drewN _))⟩
   |false=>
    have HQ2:Hid ((x.cO.take (k+1)).any (fun g:uQ=>decide (g.virtual=yy.virtual))=false):=Jh (p:=(fun g:uQ=>decide (g.virtual=yy.virtual))) Bg.out HQk.out Jc.out;go_wp2_with fail;go_roundw;case rel=>exact⟨show Hid _ from(OI.out.drewN _),k+1,by first|rfl|go_num,by omega,HQ2⟩
    case measure=>simp[RowKit.intOf]<;>omega
  obtain rfl:i=k:=by omega
  have ku:=OI;go_wp2_with fail;clear k0 k1 d0 d1 d2;go_loopw [31] (fun vm BL=>Hid (O0 W1 BL)/\∃m:Nat,vm= .int .i64 m/\m<=iL/\Hid ((yy.names.take m).any (fun n=> !(decide (0<=x.find n)&&iT (x.pack (x.find n).toNat).provides yy.virtual))=false)) (fun v _=>iL-(RowKit.intOf v).toNat);case atStart=>exact⟨ku,0,rfl,qE _,show Hid _ from rfl⟩
  case round=>
   obtain⟨BL,rfl⟩:=zB wr;clear ku;obtain⟨Jr,m,rfl,hm,HQm⟩:=hrel;obtain⟨k0,k1⟩:=aU.out BL (aW.out.same Jr.out);obtain⟨d0,d1,d2⟩:=uM.out BL Jr.out;by_cases cm:m<iL
   ·have iG:=zw (m+1);obtain⟨ys,hxs⟩:=zG yy.names m zA5;obtain⟨bks,ahL,hes,afk,Kw⟩:=zL (uK.out W0 zr) hxs;first|subst hes| (simp only[qG,qO,and_true]at hes;obtain⟨rfl,rfl⟩:=hes)
    have Ea:=zh Kw;have MV:=zh hxs;clear Kw hxs;obtain⟨f,hf⟩:=ze (x.find ys);have NH:=x.pY ys;rw[hf,aB.out]at NH;have HF:Hid (∀W,O0 W0 W->Calls Tryz.prog 38 #[.agg #[.slice aV ak aS,.slice (some ⟨Ah,kX,none⟩) aK aO],.string ys] W fun e w'=>e= .returned (.int .i64 f)/\O0 W w'):=fun W hW=>by rw[<-hf];exact sH (gI.out W hW) ys
    have HFx:Hid (x.find ys=f):=hf;clear hf;go_wp2_with fail;clear k0 k1 d0 d1 d2;refine fO (fun w'=>O0 W1 w') zk zk (by exact(Jr.out).drew) ?_;refine qV ?_ (hy:=zAP);refine qV ?_;refine qV ?_ (hy:=zAP);iterate 2 refine qV ?_
    refine qV ?_ (hy:=zAP);refine gY (v:=.int .i64 f) (f:=38) (args:= #[.agg #[.slice aV ak aS,.slice (some ⟨Ah,kX,none⟩) aK aO],.string ys]) (by rfl) ?_ ?_ ?_;·exact zB9
    ·(intro w hSw;exact(HF.out w (aW.out.same hSw)).mono fun _ _ ⟨he,ho⟩=>⟨he,hSw.same ho⟩)
    try simp only[Act.put,eF,fA,eG,dW,dX,dY]
    refine qV ?_;refine wpQuiet_nil ?_;(intro w9 FD;have BZ:=zh FD;clear FD);clear HF;go_wp2_with fail;by_cases fl:f<0
    ·refine fO (fun w'=>O0 W1 w') zk zk (by exact(BZ.out).drew) ?_;iterate 3 refine qV ?_
     iterate 10 refine qS ?_
     refine qV ?_;refine wpQuiet_nil ?_;(intro w8 hw8;have JM:=zh hw8;clear hw8);obtain rfl:r=false:=by rw[bD.out];rw[show yy.names.any (fun n=> !(decide (0<=x.find n)&&iT (x.pack (x.find n).toNat).provides yy.virtual))=true from yU.2 ⟨ys,qT MV.out,by rw[HFx.out,qP (show¬(0:Int)<=f by omega)];rfl⟩];simp
     go_wp2_with fail;go_ret;exact⟨rfl,bM.out.same (aW.out.same JM.out)⟩
    obtain⟨fn,rfl⟩:∃i:Nat,f=i:=⟨f.toNat,by omega⟩;obtain⟨yv,hxv⟩:=zG x.packs fn zAV;obtain⟨bkv,adV,av1,nv1,cv1,av2,nv2,cv2,av3,nv3,cv3,av4,nv4,cv4,av5,nv5,cv5,av6,nv6,cv6,hev,adW,adX,adY,adZ,ad1,ad2,amk,inv1,Vq⟩:=jH (bK.out W0 zr) hxv;first|subst hev| (simp only[qG,qO,and_true]at hev;obtain⟨rfl,rfl⟩:=hev)
    have HEv:=zh Vq;have HXv:=zh hxv;clear Vq hxv adW adX adY adZ ad1 ad2;have aqL:Hid (∀W,O0 W0 W->aQ 1 dN B W (.slice av3 nv3 cv3) yv.provides):=fun W ho=>(HEv.out W ho).2.2.2.1;obtain⟨hb,hhb⟩:=ze (iT yv.provides yy.virtual);have hpk:x.pack fn=yv:=by unfold aF.pack;rw[qC,HXv.out];rfl
    have HHb:Hid ((!(decide (0<=x.find ys)&&iT (x.pack (x.find ys).toNat).provides yy.virtual))= !hb):=by rw[Hid,HFx.out,qX (show(0:Int)<=(fn:Int) by omega),yT,hpk,hhb];rfl
    clear hpk;have Bc:Hid (∀W,O0 W0 W->Calls Tryz.prog 128 #[.slice av3 nv3 cv3,.string yy.virtual] W fun e w'=>e= .returned (.bool hb)/\O0 W w'):=fun W hW=>by rw[<-hhb];exact Kv (aqL.out W hW) _
    clear hhb;refine fO (fun w'=>O0 W1 w') zk zk (by exact(BZ.out).drew) ?_;iterate 4 refine qV ?_
    refine qV ?_ (hy:=zAR);iterate 3 refine qV ?_
    refine qV ?_ (hy:=zAR);refine qV ?_;refine qV ?_ (hy:=zAR);refine gY (v:=.bool hb) (f:=128) (args:= #[.slice av3 nv3 cv3,.string yy.virtual]) (by rfl) ?_ ?_ ?_;·exact zB9
    ·(intro w hSw;exact(Bc.out w (aW.out.same hSw)).mono fun _ _ ⟨he,ho⟩=>⟨he,hSw.same ho⟩)
    try simp only[Act.put,eF,fA,eG,dW,dX,dY]
    iterate 2 refine qV ?_
    refine wpQuiet_nil ?_;(intro w8 hw8;have JM:=zh hw8;clear hw8);cases hb with
    |true=>
     have aqM:Hid ((yy.names.take (m+1)).any (fun n=> !(decide (0<=x.find n)&&iT (x.pack (x.find n).toNat).provides yy.virtual))=false):=Jh (p:=(fun n=> !(decide (0<=x.find n)&&iT (x.pack (x.find n).toNat).provides yy.virtual))) MV.out HQm.out HHb.out;go_wp2_with fail;go_roundw;case rel=>exact⟨JM,m+1,by first|rfl|go_num,by omega,aqM⟩
     case measure=>simp[RowKit.intOf]<;>omega
    |false=>
     obtain rfl:r=false:=by rw[bD.out];rw[show yy.names.any (fun n=> !(decide (0<=x.find n)&&iT (x.pack (x.find n).toNat).provides yy.virtual))=true from yU.2 ⟨ys,qT MV.out,by rw[HHb.out];rfl⟩];simp
     go_wp2_with fail;go_ret;exact⟨rfl,bM.out.same (aW.out.same JM.out)⟩
   obtain rfl:iL=m:=by omega
   obtain⟨vb,hvb⟩:=ze (x.nS yy.virtual);have HVt:Hid (∀W,O0 W0 W->Calls Tryz.prog 129 #[.agg #[.slice aV ak aS,.slice (some ⟨Ah,kX,none⟩) aK aO],.string yy.virtual] W fun e w'=>e= .returned (.bool vb)/\O0 W w'):=fun W hW=>by rw[<-hvb];exact Fq (gI.out W hW) zAN yy.virtual
   have HVb:Hid (x.nS yy.virtual=vb):=hvb;clear hvb;go_wp2_with fail;refine(HVt.out BL (aW.out.same Jr.out)).mono ?_;rintro e w2 ⟨rfl,O2⟩;have HP2:=zh (Jr.out.same O2);clear O2 HVt;clear k0 k1 d0 d1 d2;obtain⟨k0,k1⟩:=aU.out w2 (aW.out.same HP2.out);obtain⟨d0,d1,d2⟩:=uM.out w2 HP2.out;cases vb with
   |false=>
    obtain rfl:r=false:=by rw[bD.out];rw[HVb.out];rfl
    exact zDt
   |true=>
    obtain⟨tw,htw⟩:=ze (dA yy.names);have HTw:=zh htw;have HTc:Hid (Calls Tryz.prog 125 #[.slice lD iL lF] w2 fun e w'=>e= .returned (.bool (!tw))/\O0 w2 w'):=by rw[<-htw];exact Gu (uK.out w2 (aW.out.same HP2.out))
    clear htw;go_wp2_with fail;refine HTc.out.mono ?_;rintro e w3 ⟨rfl,O3⟩;have rH:=zh (HP2.out.same O3);clear O3;have hn1:(x.cO.take i).any (fun g:uQ=>decide (g.virtual=yy.virtual))=false:=HQk.out;have hn2:yy.names.any (fun n=> !(decide (0<=x.find n)&&iT (x.pack (x.find n).toNat).provides yy.virtual))=false:=by have h:=HQm.out;rw[qI (yG Io.out)]at h;exact h
    cases tw with
    |false=>
     obtain rfl:r=false:=by rw[bD.out];rw[HTw.out];simp
     exact zDw
    |true=>
     obtain rfl:r=true:=by rw[bD.out];rw[HVb.out,hn1,hn2,HTw.out];rfl
     exact zDw
end
end Go.Proofs.YtdmmebjjojimiaaGreatDoor
