/- slices.IndexFunc, ContainsFunc at strings; package variant: one$1.; The graph of choices opened. Printed by gen_opn.py. -/
import Derived.Test.YtdmmebjjojimiaaGreatDoorG33
set_option maxRecDepth 100000
set_option maxHeartbeats 8000000
set_option linter.all false
namespace Go.Proofs.YtdmmebjjojimiaaGreatDoor
open Go.RowKit Go.Shelf
section
variable {w w':World} {B:Nat}
def Ze(g:Nat)(cb:Array Value)(p:Str->Bool)(w:World):Prop:= ∀W s,O0 w W->okS s->Calls Tryz.prog g (#[.string s]++cb) W fun e w'=>e= .returned (.bool (p s))/\O0 W w'
theorem U8{v:Value}{xs:List Str}(h:aQ 1 dN B w v xs){g:Nat}{cb:Array Value}{p:Str->Bool}(eg:∀args w,(callFunc g args).run Tryz.prog w= .ok (.enter g args) w)(hp:Ze g cb p w):Calls Tryz.prog 271 #[v,.func (.func g) #[] cb] w fun e w'=>e= .returned (.int .i64 (kR p xs))/\O0 w w':=by
 obtain⟨ao,cap,rfl,hc1,hc2⟩:=h.shape;have HH:=zh h;have Jm:=zh hp;obtain⟨n,hn⟩:=ze xs.length;have HN:=zh hn;rw[hn]at hc1⊢;clear h hp hn;go_enter Tryz.func271,Tryz.ntmps271;go_wp2_with fail;go_loopw [5,8] (fun _ vi wr=>Hid (O0 w wr)/\∃i:Nat,vi= .int .i64 i/\i<=n/\Hid (∀x∈xs.take i,p x=false)) (fun _ v _=>n-(intOf v).toNat);case atStart=>exact⟨show Hid _ from Only.refl _ _,0,rfl,qE _,show Hid _ from fun x hx=>by simp at hx⟩
 case round=>
  obtain⟨HO,i,rfl,hi,HZ⟩:=hrel;by_cases ci:i<n
  ·have h2:=HH.out;rw[HN.out]at h2;obtain⟨b,off,he,-,-⟩:=h2.at zAi;subst he;obtain⟨x,hx⟩:=zG xs i zAT;obtain⟨cs,hl,hr,hC⟩:=(h2.keep dN.keep (Kp.gV HO.out)).get hx;obtain⟨rfl,hok⟩:=hC;have hce:=hr 0 _ rfl;rw[qF,yH]at hce;have iG:=zw (i+1);have HX:=zh hx;have HC:=zh (Jm.out wr x HO.out hok);obtain⟨y,hy⟩:=ze (p x);rw[hy]at HC;have HY:=zh hy;clear hr hx hy h2 hl hok;cases y with
   |true=>go_wp2_with fail;exact zCE
   |false=>
    go_wp2_with fail;refine HC.out.mono ?_;rintro e w1 ⟨rfl,O1⟩;have aW:=zh (HO.out.same O1);clear O1 hce;go_wp2_with fail;go_roundw;case rel=>exact⟨aW,i+1,by first|rfl|go_num,by omega,show Hid _ from fun z hz=>by
     rcases bH HX.out hz with h|rfl
     ·exact HZ.out z h
     ·exact HY.out⟩
    case measure=>simp[intOf]<;>omega
  exact zCB
theorem BH{v:Value}{xs:List Str}(h:aQ 1 dN B w v xs){g:Nat}{cb:Array Value}{p:Str->Bool}(eg:∀args w,(callFunc g args).run Tryz.prog w= .ok (.enter g args) w)(hp:Ze g cb p w)(r:Bool)(hr:xs.any p=r):Calls Tryz.prog 189 #[v,.func (.func g) #[] cb] w fun e w'=>e= .returned (.bool r)/\O0 w w':=by
 have H:=zh (U8 h eg hp);obtain⟨i,hi⟩:=ze (kR p xs);have hr2:decide (0<=kR p xs)=r:=by
  rw[<-hr]
  unfold kR
  cases h:xs.any p with
  |true=>rw[if_pos rfl];exact qX zAB
  |false=>rw[if_neg zBZ];exact qP zAB
 rw[hi]at H hr2;clear h hp hi hr;go_enter Tryz.func189,Tryz.ntmps189;go_wp2_with fail;refine H.out.mono ?_;rintro e w1 ⟨rfl,O1⟩;go_wp2_with fail;go_ret;refine⟨?_,O1⟩;first|rfl| (rw[<-hr2];rfl)| (rw[<-hr2];simp)|simp
theorem XW:∀args w,(callFunc 332 args).run Tryz.prog w= .ok (.enter 332 args) w:=enters_of Tryz.func332 zk rfl
theorem aiV(w:World):Ze 332 #[] (fun s=> !Lk.lH s.toList) w:=by intro W s hO hs;have HV:=zh (ac7 (w:=W) s hs _ rfl);obtain⟨r,hr⟩:=ze (Lk.lH s.toList);show Calls Tryz.prog _ #[.string s] W fun e w'=>e= .returned (.bool (!Lk.lH s.toList))/\O0 W w';rw[hr]at HV⊢;clear hr hO;go_enter Tryz.func332,Tryz.ntmps332;go_wp2_with fail;refine HV.out.mono ?_;rintro e w2 ⟨rfl,O2⟩;go_wp2_with fail;go_ret;exact⟨rfl,O2⟩
end
end Go.Proofs.YtdmmebjjojimiaaGreatDoor
namespace Go.Proofs.YtdmmebjjojimiaaGreatDoor
open Go.RowKit
end Go.Proofs.YtdmmebjjojimiaaGreatDoor
namespace Go.Proofs.YtdmmebjjojimiaaGreatDoor
def Ju(x:aF)(names:List Str)(i:Nat):Bool:=names.any fun s=>decide (i∈x.targets s)
def Ru(x:aF)(f:List Bool)(i:Nat)(k:Nat):Bool:=f.getD k false&&Ju x ((x.pack k).deps.map fun d=>d.on.name) i
def uO(x:aF)(names:List Str)(f:List Bool)(i:Nat):Bool:=Ju x names i||(List.range x.packs.length).any (Ru x f i)
def stepD(x:aF)(names:List Str)(f:List Bool)(i:Nat):List Bool:=if (!f.getD i false&&uO x names f i)=true then f.set i true else f
def jc(x:aF)(names:List Str)(f:List Bool)(k:Nat):List Bool:=(List.range k).foldl (stepD x names) f
def fC(x:aF)(names:List Str):Nat->List Bool
 |0=>List.replicate x.packs.length false
 |n+1=>jc x names (fC x names n) x.packs.length
theorem rE(x:aF)(names:List Str)(f:List Bool)(k:Nat):jc x names f (k+1)=stepD x names (jc x names f k) k:=by unfold jc;rw[List.range_succ,List.foldl_append];rfl
theorem aaH(x:aF)(names:List Str)(f:List Bool)(i:Nat):(stepD x names f i).length=f.length:=by unfold stepD;split<;>simp
theorem U9(x:aF)(names:List Str)(f:List Bool)(k:Nat):(jc x names f k).length=f.length:=by
 induction k with
 |zero=>rfl
 |succ k ih=>rw[rE,aaH,ih]
theorem Je(x:aF)(names:List Str)(n:Nat):(fC x names n).length=x.packs.length:=by
 induction n with
 |zero=>simp[fC]
 |succ n ih=>rw[fC,U9,ih]
def Rw(f g:List Bool):Prop:=f.length=g.length/\∀i,f.getD i false=true->g.getD i false=true
theorem Rw.refl(f:List Bool):Rw f f:=⟨rfl,fun _ h=>h⟩
theorem Rw.trans{f g h:List Bool}(a:Rw f g)(b:Rw g h):Rw f h:=⟨a.1.trans b.1,fun i hi=>b.2 i (a.2 i hi)⟩
theorem Rw.anti{f g:List Bool}(a:Rw f g)(b:Rw g f):f=g:=by refine List.ext_getElem a.1 fun i h1 h2=>?_;have h3:=a.2 i;have h4:=b.2 i;simp only[qC,qA h1,qA h2,Option.getD_some]at h3 h4;cases hf:f[i]<;>cases hg:g[i]<;>simp_all
theorem Mc{f:List Bool}{i j:Nat}(hi:i<f.length):(f.set i true).getD j false=if j=i then true else f.getD j false:=by
 simp only[qC,List.getElem?_set];by_cases h:i=j;·subst h;simp[hi]
 rw[if_neg h,if_neg (fun e=>h e.symm)]
theorem adK(x:aF)(names:List Str)(f:List Bool)(i:Nat):Rw f (stepD x names f i):=by
 unfold stepD;split
 ·refine⟨by simp,fun j hj=>?_⟩;by_cases hi:i<f.length
  ·rw[Mc hi];split;·rfl
   exact hj
  rw[List.set_eq_of_length_le zAB];exact hj
 exact Rw.refl f
theorem Ac(x:aF)(names:List Str)(f:List Bool)(j k:Nat)(h:j<=k):Rw (jc x names f j) (jc x names f k):=by
 induction k with
 |zero=>
  obtain rfl:j=0:=by omega
  exact Rw.refl _
 |succ k ih=>
  by_cases hj:j=k+1;·subst hj;exact Rw.refl _
  rw[rE];exact(ih zAB).trans (adK _ _ _ _)
def Oc(f:List Bool):Nat:=f.countP id
theorem Zf:∀{f g:List Bool},Rw f g->f≠g->Oc f<Oc g
 | [],[],_,h=>absurd rfl h
 | [],b::g,h,_=>by have:=h.1;simp at this
 |a::f,[],h,_=>by have:=h.1;simp at this
 |a::f,b::g,h,hn=>by
  have ht:Rw f g:=⟨by simpa using h.1,fun i hi=>by have:=h.2 (i+1);simp only[List.getD_cons_succ]at this;exact this hi⟩
  have hd:a=true->b=true:=by have:=h.2 0;simpa using this
  unfold Oc
  rw[List.countP_cons,List.countP_cons]
  by_cases hfg:f=g
  ·subst hfg
   cases a<;>cases b<;>simp_all
  ·have:=Zf ht hfg
   unfold Oc at this
   cases a<;>cases b<;>simp_all<;>omega
def Zg(x:aF)(names:List Str)(f:List Bool):Prop:=jc x names f x.packs.length=f
theorem Zg.asked{x:aF}{names:List Str}{f:List Bool}(h:Zg x names f)(hl:f.length=x.packs.length){i:Nat}(hi:i<x.packs.length)(ha:uO x names f i=true):f.getD i false=true:=by
 have h0:Rw f (jc x names f i):=Ac x names f 0 i zAB;have h1:Rw (jc x names f i) f:=by have:=Ac x names f i _ (Nat.le_of_lt hi);rw[h]at this;exact this
 have e1:=h1.anti h0;have h2:Rw (jc x names f (i+1)) f:=by have:=Ac x names f (i+1) _ hi;rw[h]at this;exact this
 rw[rE,e1]at h2;by_cases hf:f.getD i false=true;·exact hf
 refine h2.2 i ?_;unfold stepD;rw[if_pos (by rw[ha];simp only[Bool.not_eq_true]at hf;rw[hf];rfl),Mc zAB,if_pos rfl]
theorem Vd(x:aF)(names:List Str)(n:Nat):Zg x names (fC x names n)\/n<=Oc (fC x names n):=by
 induction n with
 |zero=>exact .inr (qE _)
 |succ n ih=>
  rcases ih with h|h;·refine .inl ?_;have:fC x names (n+1)=fC x names n:=h;rw[this];exact h
  by_cases hs:fC x names (n+1)=fC x names n;·refine .inl ?_;rw[hs];exact hs
  refine .inr ?_;have:=Zf (Ac x names (fC x names n) 0 x.packs.length (qE _)) (fun e=>hs e.symm);have h2:Oc (jc x names (fC x names n) 0)=Oc (fC x names n):=rfl;rw[h2]at this;have h3:Oc (jc x names (fC x names n) x.packs.length)=Oc (fC x names (n+1)):=rfl;rw[h3]at this;omega
theorem Jv(x:aF)(names:List Str):Zg x names (fC x names (x.packs.length+1)):=by
 rcases Vd x names (x.packs.length+1)with h|h;·exact h
 exfalso;have:Oc (fC x names (x.packs.length+1))<=(fC x names (x.packs.length+1)).length:=List.countP_le_length;rw[Je]at this;omega
def Ij(x:aF)(names:List Str)(f:List Bool):Prop:= ∀i,f.getD i false=true->x.Reach names i
theorem zy{x:aF}{names:List Str}{i:Nat}:Ju x names i=true↔ ∃s∈names,i∈x.targets s:=by unfold Ju;rw[yU];simp only[yP]
theorem Ve{x:aF}{names:List Str}{f:List Bool}(hs:Ij x names f){i:Nat}(h:uO x names f i=true):x.Reach names i:=by
 unfold uO at h;rw[Bool.or_eq_true]at h;rcases h with h|h;·obtain⟨s,h1,h2⟩:=zy.1 h;exact .root h1 h2
 obtain⟨k,hk,h2⟩:=yU.1 h;unfold Ru at h2;rw[Bool.and_eq_true]at h2;obtain⟨s,h3,h4⟩:=zy.1 h2.2;obtain⟨d,hd,rfl⟩:=yD.1 h3;exact .step (hs k h2.1) hd h4
theorem Vf{x:aF}{names:List Str}{f:List Bool}(hs:Ij x names f)(i:Nat):Ij x names (stepD x names f i):=by
 unfold stepD;split
 ·rename_i h;rw[Bool.and_eq_true]at h;intro j hj;by_cases hi:i<f.length
  ·rw[Mc hi]at hj;split at hj;·next e=>subst e;exact Ve hs h.2
   exact hs j hj
  rw[List.set_eq_of_length_le zAB]at hj;exact hs j hj
 exact hs
theorem Oe{x:aF}{names:List Str}{f:List Bool}(hs:Ij x names f)(k:Nat):Ij x names (jc x names f k):=by
 induction k with
 |zero=>exact hs
 |succ k ih=>rw[rE];exact Vf ih k
theorem Rx(x:aF)(names:List Str)(n:Nat):Ij x names (fC x names n):=by
 induction n with
 |zero=>intro i hi;exfalso;simp only[fC,qC,List.getElem?_replicate]at hi;split at hi<;>cases hi
 |succ n ih=>exact Oe ih _
theorem Ry(x:aF)(names:List Str)(i:Nat):(fC x names (x.packs.length+1)).getD i false=true↔x.Reach names i:=by
 refine⟨Rx x names _ i,fun h=>?_⟩;have hs:=Jv x names;have hl:=Je x names (x.packs.length+1);generalize fC x names (x.packs.length+1)=f at hs hl;induction h with
 |root h1 h2=>refine hs.asked hl (aF.rZ h2) ?_;unfold uO;rw[Bool.or_eq_true];exact .inl (zy.2 ⟨_,h1,h2⟩)
 |step h1 h2 h3 ih=>refine hs.asked hl (aF.rZ h3) ?_;unfold uO;rw[Bool.or_eq_true];refine .inr (yU.2 ⟨_,yI.2 (h1.lt),?_⟩);unfold Ru;rw[Bool.and_eq_true];exact⟨ih,zy.2 ⟨_,yD.2 ⟨_,h2,rfl⟩,h3⟩⟩
def BI(f:List Bool)(k:Nat):List Nat:=(List.range k).filter fun i=>f.getD i false
theorem PK(f:List Bool)(k:Nat):BI f (k+1)=if f.getD k false=true then BI f k++[k]else BI f k:=by
 unfold BI;rw[List.range_succ,List.filter_append];by_cases h:f.getD k false=true;·rw[if_pos h];simp only[List.filter_cons,h,if_true,List.filter_nil]
 rw[if_neg h];simp only[List.filter_cons,if_neg h,List.filter_nil,List.append_nil]
theorem BJ(x:aF)(names:List Str):BI (fC x names (x.packs.length+1)) x.packs.length=x.closure names:=by unfold BI aF.closure;refine List.filter_congr fun i _=>?_;rw[Bool.eq_iff_iff,Ry];simp
end Go.Proofs.YtdmmebjjojimiaaGreatDoor
namespace Go.Proofs
theorem zAK{p:Prop}(h:p:=by(intro w hSw;obtain⟨k0,k1,k2⟩:=aU.out w hSw;have hrz:=(vM.out w hSw).1;have gz5:=hrz 5 _ rfl;clear hrz;have FI:=(HEu.out w hSw).1;have gu0:=FI 0 _ rfl;rw[qF]at gu0;clear FI;go_simp<;>(try with_reducible rfl))):p:=h
theorem zAX{p:Prop}(h:p:=by(intro w hSw;obtain⟨k0,k1,k2⟩:=aU.out w hSw;have fE:=(jk.out w hSw).1;have Ee:=fE 0 _ rfl;rw[qF]at Ee;clear fE;go_simp<;>(try with_reducible rfl))):p:=h
theorem zAm{p:Prop}(h:p:=by rw[dK.out];omega):p:=h
theorem zDW{p:Prop}(h:p:=by(try dsimp only)<;>(exact Only.same hHeld o5)):p:=h
theorem zE1{p:Prop}(h:p:=by
 subst hrt
 clear bD
 go_wp2_with fail
 go_ret
 exact⟨rfl,bM.out.same pG.out⟩):p:=h
end Go.Proofs
namespace Go.Proofs.YtdmmebjjojimiaaGreatDoor
open Go.RowKit
section
variable {w w':World} {B:Nat}
theorem xQ{l:List Nat}{i:Nat}:(intsOf l).contains (i:Int)=decide (i∈l):=by
 rw[Bool.eq_iff_iff,List.contains_iff_mem,yP];unfold intsOf;rw[yD];constructor
 ·rintro⟨j,hj,e⟩;obtain rfl:j=i:=by omega
  exact hj
 exact fun h=>⟨i,h,rfl⟩
def Na(w:World)(g m:Nat)(f:List Bool):Prop:=f.length=m/\w.ownsRow 0 4 1 (.slice (some ⟨g,0,none⟩) m m) m (f.map Value.bool)
theorem Na.aH{g m:Nat}{f:List Bool}(h:Na w g m f)(ho:O0 w w'):Na w' g m f:=⟨h.1,aG h.2 ho (fun _ _ f=>f)⟩
theorem Na.cell{g m:Nat}{f:List Bool}(h:Na w g m f){k:Nat}(hk:k<m):w.cell? ⟨g,k,none⟩=some (.bool (f.getD k false)):=by rw[h.2.cellAt k zAB];rw[List.getElem?_map,qC,qA (by rw[h.1];exact hk)];rfl
theorem PL(x:aF)(l:List Str)(s:Str)(i:Nat):Ju x (l++[s]) i=(Ju x l i||decide (i∈x.targets s)):=by unfold Ju;simp[List.any_append]
theorem DV{pR:List Value}{x:aF}(hx:gy B w pR x)(hlen:x.packs.length<=1000000)(s:Str):Calls Tryz.prog 146 #[.agg pR.toArray,.string s] w fun e w'=> ∃v,e= .returned v/\Ints w' v (intsOf (x.targets s))/\O0 w w':=by
 obtain⟨aV,ak,aS,aT,aK,aO,rfl,fV,fZ,dQ,dR,aB,bJ,qo⟩:=open_rec hx;clear hx;try rw[aB.out]
 obtain⟨W0,hW0,bM,vC,aU⟩:=Nj w (.slice aV ak aS) (.slice aT aK aO) 25;obtain⟨gI,bK,bT⟩:=qo W0 bM.out;clear qo;rw[aB.out]at hlen;obtain⟨f,hf⟩:=ze (x.find s);have NH:=x.pY s;rw[hf,aB.out]at NH;have HT:Hid (x.targets s=if 0<=f then [f.toNat]else x.dh s):=by unfold aF.targets;rw[hf];exact rfl
 have HF:=zh (sH (gI.out W0 zr) s);rw[hf]at HF;clear hf;obtain⟨k0,k1⟩:=aU.out W0 zr;rw[hW0]at k0 k1;go_enter Tryz.func146,Tryz.ntmps146;go_wp2_with fail;rw[<-hW0]at k0 k1⊢;clear hW0;refine HF.out.mono ?_;rintro e w1 ⟨rfl,O1⟩;have aW:=zh O1;clear O1 HF k0 k1;obtain⟨k0,k1⟩:=aU.out w1 aW.out;by_cases hf0:0<=f;·go_wp2_with fail;go_ret;refine⟨_,rfl,?_,bM.out.same (aW.out.alloc _)⟩;rw[HT.out,if_pos hf0];refine uX ?_ (fun i hi=>by simp at hi;omega);exact zDs
 have VL:=zh (wz (gI.out w1 aW.out) zAN s);have hT2:x.targets s=x.dh s:=by rw[HT.out,if_neg hf0]
 rw[<-hT2]at VL;clear hT2;go_wp2_with fail;refine VL.out.mono ?_;rintro e w2 ⟨v,rfl,r1,r2,r3⟩;have HR:=zh (And.intro r1 r3);obtain⟨av,cv,rfl,-,-⟩:=aJ r1;clear r1 r2 r3 VL;go_wp2_with fail;go_ret;refine⟨_,rfl,uX HR.out.1 (fun i hi=>?_),bM.out.same (aW.out.same HR.out.2)⟩;have:=aF.rZ hi;rw[aB.out]at this;omega
theorem aaI{pR:List Value}{x:aF}(hx:gy B w pR x){Rz:List Value}{q:dH}(hq:lW B w Rz q)(hlen:x.packs.length<=1000000){g:Nat}{f:List Bool}(hin:Na w g x.packs.length f)(i:Nat):Calls Tryz.prog 96 #[.agg pR.toArray,.agg Rz.toArray,.slice (some ⟨g,0,none⟩) x.packs.length x.packs.length,.int .i64 (i:Int)] w fun e w'=>e= .returned (.bool (uO x q.names f i))/\O0 w w':=by
 obtain⟨aV,ak,aS,aT,aK,aO,rfl,fV,fZ,dQ,dR,aB,bJ,qo⟩:=open_rec hx;clear hx;try rw[aB.out]
 obtain⟨jD,bZ,jE,rfl,zA,zC,dK,Vg⟩:=xY hq;clear hq;try rw[dK.out]
 obtain⟨W0,hW0,bM,vC,aU⟩:=GY w (.slice aV ak aS) (.slice aT aK aO) (.slice jD bZ jE) 25 28;obtain⟨gI,bK,bT⟩:=qo W0 bM.out;clear qo;obtain⟨BK,kU⟩:=Vg W0 bM.out;clear Vg;rw[aB.out]at hlen hin;obtain⟨r,hr⟩:=ze (uO x q.names f i);rw[hr];have bD:=zh hr;have HIn:Hid (∀W,O0 W0 W->Na W g ak f):=fun W hW=>hin.aH (bM.out.same hW);clear hr hin;obtain⟨k0,k1,k2⟩:=aU.out W0 zr;rw[hW0]at k0 k1 k2;go_enter Tryz.func96,Tryz.ntmps96;go_wp2_with fail;rw[<-hW0];clear hW0 k0 k1 k2;have ku:Hid (O0 W0 W0):=Only.refl _ _;go_loopw [15] (fun vk Dx=>Hid (O0 W0 Dx)/\∃k:Nat,vk= .int .i64 k/\k<=bZ/\Hid (Ju x (q.names.take k) i=false)) (fun v _=>bZ-(RowKit.intOf v).toNat);case atStart=>exact⟨ku,0,rfl,qE _,show Hid _ from rfl⟩
 case round=>
  obtain⟨Dx,rfl⟩:=zB wr;clear ku;obtain⟨vw,k,rfl,hk,HZ⟩:=hrel;obtain⟨k0,k1,k2⟩:=aU.out Dx vw.out;by_cases ck:k<bZ
  ·have iG:=zw (k+1);obtain⟨yy,hxy⟩:=zG q.roots k zAm;obtain⟨Ah,kX,lD,iL,lF,pU,pV,pW,nN,jX,ny,yV,Ed,jw⟩:=Ba (kU.out W0 zr) hxy;first|subst nN| (simp only[qG,qO,and_true]at nN;obtain⟨rfl,rfl⟩:=nN)
   have jk:=zh jw;have xO:=zh hxy;clear jw hxy jX ny;obtain⟨bb,hbb⟩:=ze (decide (i∈x.targets yy.spec.name));have Xd:Hid (∀W,O0 W0 W->Calls Tryz.prog 146 #[.agg #[.slice aV ak aS,.slice aT aK aO],.string yy.spec.name] W fun e w'=> ∃v,e= .returned v/\Ints w' v (intsOf (x.targets yy.spec.name))/\O0 W w'):=fun W hW=>DV (gI.out W hW) zAN _;have HHs:Hid (∀W v,Ints W v (intsOf (x.targets yy.spec.name))->Calls Tryz.prog 39 #[v,.int .i64 (i:Int)] W fun e w'=>e= .returned (.bool bb)/\O0 W w'):=fun W v hv=>by rw[<-hbb,<-xQ];exact Qn hv _
   have Jc:=zh hbb;clear hbb;go_wp2_with fail;clear k0 k1 k2;refine bC (n:=11) (E:=fun _=>false) (S:=fun W=>O0 W0 W) zk rfl (by exact(vw.out).drew) (fun hHeld=>?_);refine tK 0 ?_ (hy:=zAX);refine tW 1 ?_;refine tK 2 ?_ (hy:=zAX);refine tW 3 ?_;refine tW 4 ?_;refine tW 5 ?_;refine tW 6 ?_;refine tK 7 ?_ (hy:=zAX);refine tW 9 ?_;refine tO 8 fun K hK=>?_;(go_simp;refine(Xd.out _ hHeld).mono ?_;rintro e w5 ⟨vt,rfl,hI,o5⟩;try go_wp2_with fail);refine hK.out _ _ ?_ (fun hHeld=>?_);·exact zDW
   clear hK K;try simp only[Act.put,eF,eG,dW,dX,dY]
   refine tO 10 fun K hK=>?_;(go_simp;refine(HHs.out _ _ hI).mono ?_;rintro e w6 ⟨rfl,o6⟩;try go_wp2_with fail);refine hK.out _ _ ?_ (fun hHeld=>?_);·(try dsimp only)<;>(exact Only.same hHeld o6)
   clear hK K;try simp only[Act.put,eF,fA,eG,dW,dX,dY]
   refine bf zk ?_ _;have pG:=zh hHeld;clear hHeld Xd HHs;obtain⟨k0,k1,k2⟩:=aU.out _ pG.out;cases bb with
   |true=>
    have hrt:r=true:=by rw[<-bD.out];unfold uO;rw[Bool.or_eq_true];refine .inl (zy.2 ⟨yy.spec.name,?_,of_decide_eq_true Jc.out⟩);unfold dH.names;exact yD.2 ⟨yy,qT xO.out,rfl⟩
    exact zE1
   |false=>
    have HZ2:Hid (Ju x (q.names.take (k+1)) i=false):=by unfold dH.names;rw[wH (fun r:Dn=>r.spec.name) xO.out,PL,Jc.out];have:=HZ.out;unfold dH.names at this;rw[this];rfl
    go_wp2_with fail;go_roundw;case rel=>exact⟨pG,k+1,by first|rfl|go_num,by omega,HZ2⟩
    case measure=>simp[RowKit.intOf]<;>omega
  obtain rfl:bZ=k:=by omega
  have VR:Hid (Ju x q.names i=false):=by have:=HZ.out;rw[qI (by unfold dH.names;rw[qM];exact yG dK.out)]at this;exact this
  have ku:=vw;go_wp2_with fail;clear k0 k1 k2;go_loopw [33] (fun vk Dx=>Hid (O0 W0 Dx)/\∃k:Nat,vk= .int .i64 k/\k<=ak/\Hid ((List.range k).any (Ru x f i)=false)) (fun v _=>ak-(RowKit.intOf v).toNat);case atStart=>exact⟨ku,0,rfl,qE _,show Hid _ from rfl⟩
  case round=>
   obtain⟨Dx,rfl⟩:=zB wr;clear ku;obtain⟨vw,k,rfl,hk,HZk⟩:=hrel;obtain⟨k0,k1,k2⟩:=aU.out Dx vw.out;by_cases ck:k<ak
   ·have iG:=zw (k+1);obtain⟨yz,hxz⟩:=zG x.packs k zAV;obtain⟨NG,xM,VO,VP,VQ,ZO,ZP,ZQ,WY,WZ,Xa,VT,OM,VU,az5,nz5,cz5,az6,nz6,cz6,wE,Eb,aci,acj,ZR,apN,apO,Ky,acn,mJ⟩:=jH (bK.out W0 zr) hxz;first|subst wE| (simp only[qG,qO,and_true]at wE;obtain⟨rfl,rfl⟩:=wE)
    have Nz4:=zh ZR;have vM:=zh mJ;have Bg:=zh hxz;clear mJ hxz Eb aci acj ZR apN apO;have ZT:Hid (∀W,O0 W0 W->aQ 7 nH B W (.slice VT OM VU) yz.deps):=fun W ho=>(vM.out W ho).2.2.2.2.1;have HPz:Hid (x.pack k=yz):=by unfold aF.pack;rw[qC,Bg.out];exact rfl
    obtain⟨_,_,-,hb3,hb4⟩:=(ZT.out W0 zr).shape;rw[Nz4.out]at hb3;have gin:=(HIn.out Dx vw.out).cell ck;obtain⟨fk,hfk⟩:=ze (f.getD k false);rw[hfk]at gin;have HFk:=zh hfk;clear hfk;have hrz:=(vM.out Dx vw.out).1;have gz5:=hrz 5 _ rfl;clear hrz;cases fk with
    |false=>
     have HZ2:Hid ((List.range (k+1)).any (Ru x f i)=false):=by rw[List.range_succ,List.any_append,HZk.out];simp only[List.any_cons,List.any_nil,Bool.or_false,Bool.false_or];unfold Ru;rw[HFk.out,yQ];exact rfl
     go_wp2_with fail;go_roundw;case rel=>exact⟨vw,k+1,by first|rfl|go_num,by omega,HZ2⟩
     case measure=>simp[RowKit.intOf]<;>omega
    |true=>
     have ku:=vw;go_wp2_with fail;clear gin gz5;clear k0 k1 k2;go_loopw [48] (fun vn V6=>Hid (O0 W0 V6)/\∃n:Nat,vn= .int .i64 n/\n<=OM/\Hid (Ju x ((yz.deps.map fun d=>d.on.name).take n) i=false)) (fun v _=>OM-(RowKit.intOf v).toNat);case atStart=>exact⟨ku,0,rfl,qE _,show Hid _ from rfl⟩
     case round=>
      obtain⟨V6,rfl⟩:=zB wr;clear ku;obtain⟨QW,n,rfl,hn,HZn⟩:=hrel;obtain⟨k0,k1,k2⟩:=aU.out V6 QW.out;by_cases cn:n<OM
      ·have iG:=zw (n+1);obtain⟨yu,hxu⟩:=zG yz.deps n (by rw[Nz4.out];omega);obtain⟨bku,aga,au1,nu1,cu1,au2,nu2,cu2,au3,nu3,cu3,au4,nu4,cu4,heu,apQ,apR,apS,apT,apU,avg,avh,adL⟩:=Qi (ZT.out W0 zr) hxu;first|subst heu| (simp only[qG,qO,and_true]at heu;obtain⟨rfl,rfl⟩:=heu)
       have HEu:=zh adL;have HXu:=zh hxu;clear adL hxu apQ apR apS apT;obtain⟨bb,hbb⟩:=ze (decide (i∈x.targets yu.on.name));have Xd:Hid (∀W,O0 W0 W->Calls Tryz.prog 146 #[.agg #[.slice (some ⟨NG,xM,none⟩) ak aS,.slice aT aK aO],.string yu.on.name] W fun e w'=> ∃v,e= .returned v/\Ints w' v (intsOf (x.targets yu.on.name))/\O0 W w'):=fun W hW=>DV (gI.out W hW) zAN _;have HHs:Hid (∀W v,Ints W v (intsOf (x.targets yu.on.name))->Calls Tryz.prog 39 #[v,.int .i64 (i:Int)] W fun e w'=>e= .returned (.bool bb)/\O0 W w'):=fun W v hv=>by rw[<-hbb,<-xQ];exact Qn hv _
       have Jc:=zh hbb;clear hbb;go_wp2_with fail;clear k0 k1 k2;refine bC (n:=15) (E:=fun _=>false) (S:=fun W=>O0 W0 W) zk rfl (by exact(QW.out).drew) (fun hHeld=>?_);refine tK 0 ?_ (hy:=zAK);refine tW 1 ?_;refine tK 2 ?_ (hy:=zAK);refine tW 3 ?_;refine tW 4 ?_;refine tW 5 ?_;refine tK 6 ?_ (hy:=zAK);refine tW 7 ?_;refine tW 8 ?_;refine tW 9 ?_;refine tW 10 ?_;refine tK 11 ?_ (hy:=zAK);refine tW 13 ?_;refine tO 12 fun K hK=>?_;(go_simp;refine(Xd.out _ hHeld).mono ?_;rintro e w5 ⟨vt,rfl,hI,o5⟩;try go_wp2_with fail);refine hK.out _ _ ?_ (fun hHeld=>?_);·exact zDW
       clear hK K;try simp only[Act.put,eF,eG,dW,dX,dY]
       refine tO 14 fun K hK=>?_;(go_simp;refine(HHs.out _ _ hI).mono ?_;rintro e w6 ⟨rfl,o6⟩;try go_wp2_with fail);refine hK.out _ _ ?_ (fun hHeld=>?_);·(try dsimp only)<;>(exact Only.same hHeld o6)
       clear hK K;try simp only[Act.put,eF,fA,eG,dW,dX,dY]
       refine bf zk ?_ _;have pG:=zh hHeld;clear hHeld Xd HHs;obtain⟨k0,k1,k2⟩:=aU.out _ pG.out;cases bb with
       |true=>
        have hrt:r=true:=by rw[<-bD.out];unfold uO;rw[Bool.or_eq_true];refine .inr (yU.2 ⟨k,yI.2 (by rw[aB.out];exact ck),?_⟩);unfold Ru;rw[HFk.out,HPz.out];refine zy.2 ⟨yu.on.name,yD.2 ⟨yu,qT HXu.out,rfl⟩,of_decide_eq_true Jc.out⟩
        exact zE1
       |false=>
        have HZ4:Hid (Ju x ((yz.deps.map fun d=>d.on.name).take (n+1)) i=false):=by rw[wH (fun d:tJ=>d.on.name) HXu.out,PL,Jc.out,HZn.out];rfl
        go_wp2_with fail;go_roundw;case rel=>exact⟨pG,n+1,by first|rfl|go_num,by omega,HZ4⟩
        case measure=>simp[RowKit.intOf]<;>omega
      obtain rfl:OM=n:=by omega
      have HZ2:Hid ((List.range (k+1)).any (Ru x f i)=false):=by rw[List.range_succ,List.any_append,HZk.out];simp only[List.any_cons,List.any_nil,Bool.or_false,Bool.false_or];unfold Ru;rw[HPz.out];have:=HZn.out;rw[qI (by rw[qM];exact yG Nz4.out)]at this;rw[this,Bool.and_false];exact rfl
      go_wp2_with fail;go_roundw;case rel=>exact⟨QW,k+1,by first|rfl|go_num,by omega,HZ2⟩
      case measure=>simp[RowKit.intOf]<;>omega
   obtain rfl:ak=k:=by omega
   have hrf:r=false:=by rw[<-bD.out];unfold uO;rw[VR.out,aB.out,HZk.out];rfl
   subst hrf;clear bD;go_wp2_with fail;go_ret;exact⟨rfl,bM.out.same vw.out⟩
end
end Go.Proofs.YtdmmebjjojimiaaGreatDoor
namespace Go.Proofs
theorem zDl{p:Prop}(h:p:=by simp[Value.ownBlock]at hk;subst hk;exact Zi.out _ h):p:=h
end Go.Proofs
namespace Go.Proofs.YtdmmebjjojimiaaGreatDoor
open Go.RowKit
section
variable {w w':World} {B:Nat}
theorem Na.set{g m:Nat}{f:List Bool}(h:Na w g m f)(i:Nat):Na (w.setCell ⟨g,i,none⟩ (.bool true)) g m (f.set i true):=by refine⟨by rw[List.length_set];exact h.1,?_⟩;have:=(h.2.stored i (.bool true)).1;rw[List.map_set];exact this
theorem Og{pR:List Value}{x:aF}(hx:gy B w pR x){Rz:List Value}{q:dH}(hq:lW B w Rz q)(hlen:x.packs.length<=1000000):Calls Tryz.prog 37 #[.agg pR.toArray,.agg Rz.toArray] w fun e w'=> ∃v,e= .returned v/\w'.ownsRow 0 3 1 v (x.closure q.names).length (gW (x.closure q.names))/\(∀k,v.ownBlock=some k->w.heap.size<=k)/\O0 w w':=by
 obtain⟨aV,ak,aS,aT,aK,aO,rfl,fV,fZ,dQ,dR,aB,bJ,qo⟩:=open_rec hx;clear hx;try rw[aB.out]
 obtain⟨jD,bZ,jE,rfl,zA,zC,dK,Vg⟩:=xY hq;clear hq;try rw[dK.out]
 obtain⟨W0,hW0,bM,vC,aU⟩:=GY w (.slice aV ak aS) (.slice aT aK aO) (.slice jD bZ jE) 25 28;obtain⟨gI,bK,bT⟩:=qo W0 bM.out;clear qo;obtain⟨BK,kU⟩:=Vg W0 bM.out;clear Vg;rw[aB.out]at hlen;go_enter Tryz.func37,Tryz.ntmps37;go_wp2_with (at_make;go_must (refine wpM (bytes:=1) (z:=.bool false) Tryz.underlying58 zk rfl rfl _ _ rfl ak rfl rfl rfl rfl zAB zBV ?_));rw[<-hW0];clear hW0;intro w7 t1 t2 t3;obtain⟨g,hg⟩:=ze (w.heap.size+1+1);rw[hg]at t1⊢;have HG:Hid (W0.heap.size<=g):=by rw[vC.out,Hid];omega
 have amb:Hid (Na w7 g ak (fC x q.names 0)):=⟨by simp[fC,aB.out],by rw[fC,aB.out,List.map_replicate];exact t1⟩;have ku:=zh t2;clear t1 t2 t3 hg;go_wp2_with fail;go_loopw [6] (fun vn V6=>Hid (O0 W0 V6)/\∃n:Nat,vn= .int .i64 n/\n<=(ak+1)/\Hid (Na V6 g ak (fC x q.names n))) (fun v _=>(ak+1)-(RowKit.intOf v).toNat);case atStart=>exact⟨ku,0,rfl,qE _,amb⟩
 case round=>
  obtain⟨V6,rfl⟩:=zB wr;clear ku amb;obtain⟨QW,n,rfl,hn,HBn⟩:=hrel;obtain⟨k0,k1,k2⟩:=aU.out V6 QW.out;by_cases cn:n<(ak+1)
  ·have iG:=zw (n+1);have hle:(n:Int)<=(ak:Int):=zAB;obtain⟨F,hF⟩:=ze (fC x q.names n);have HFF:=zh hF;have HB0:Hid (Na V6 g ak (jc x q.names F 0)):=by rw[<-hF];exact HBn.out
   have ku:=QW;clear hF;go_wp2_with fail;go_loopw [24] (fun vi fM=>Hid (O0 W0 fM)/\∃i:Nat,vi= .int .i64 i/\i<=ak/\Hid (Na fM g ak (jc x q.names F i))) (fun v _=>ak-(RowKit.intOf v).toNat);case atStart=>exact⟨ku,0,rfl,qE _,HB0⟩
   case round=>
    obtain⟨fM,rfl⟩:=zB wr;clear ku HB0;obtain⟨xK,i,rfl,hi,Zh⟩:=hrel;clear k0 k1 k2;obtain⟨k0,k1,k2⟩:=aU.out fM xK.out;by_cases ci:i<ak
    ·have iG:=zw (i+1);obtain⟨fi,hfi⟩:=ze (jc x q.names F i);rw[hfi]at Zh;have HFi:=zh hfi;clear hfi;have gin:=Zh.out.cell ci;obtain⟨b0,hb0⟩:=ze (fi.getD i false);rw[hb0]at gin;have HB0:=zh hb0;clear hb0;obtain⟨ab,hab⟩:=ze (uO x q.names fi i);have HAs:Hid (Calls Tryz.prog 96 #[.agg #[.slice aV ak aS,.slice aT aK aO],.agg #[.slice jD bZ jE],.slice (some ⟨g,0,none⟩) ak ak,.int .i64 (i:Int)] fM fun e w'=>e= .returned (.bool ab)/\O0 fM w'):=by have:=aaI (gI.out fM xK.out) (BK.out fM xK.out) zAN (by rw[aB.out];exact Zh.out) i;rw[hab,aB.out]at this;exact this
     have HAb:=zh hab;clear hab;have kN:Hid (jc x q.names F (i+1)=if (!b0&&ab)=true then fi.set i true else fi):=by rw[rE,HFi.out,stepD,HB0.out,HAb.out];exact rfl
     cases b0 with
     |true=>
      have HB2:Hid (Na fM g ak (jc x q.names F (i+1))):=by rw[kN.out];simp only[Bool.not_true,yQ,Bool.false_eq_true,if_false];exact Zh.out
      go_wp2_with fail;go_roundw;case rel=>exact⟨xK,i+1,by first|rfl|go_num,by omega,HB2⟩
      case measure=>simp[RowKit.intOf]<;>omega
     |false=>
      go_wp2_with fail;refine HAs.out.mono ?_;rintro e w2 ⟨rfl,O2⟩;have iO:=zh (xK.out.same O2);have HB1:=zh (Zh.out.aH O2);clear O2 HAs gin k0 k1 k2;obtain⟨k0,k1,k2⟩:=aU.out w2 iO.out;have gin:=HB1.out.cell ci;cases ab with
      |false=>
       have HB2:Hid (Na w2 g ak (jc x q.names F (i+1))):=by rw[kN.out];simp only[Bool.and_false,Bool.false_eq_true,if_false];exact HB1.out
       go_wp2_with fail;go_roundw;case rel=>exact⟨iO,i+1,by first|rfl|go_num,by omega,HB2⟩
       case measure=>simp[RowKit.intOf]<;>omega
      |true=>
       have hfr:=HB1.out.2.frozenAt i;have HB2:Hid (Na (w2.setCell ⟨g,i,none⟩ (.bool true)) g ak (jc x q.names F (i+1))):=by rw[kN.out];simp only[Bool.not_false,Bool.and_true,if_true];exact HB1.out.set i
       have uw:Hid (O0 W0 (w2.setCell ⟨g,i,none⟩ (.bool true))):=iO.out.setCell (p:=⟨g,i,none⟩) (.inr HG.out) _;go_wp2_with fail;go_roundw;case rel=>exact⟨uw,i+1,by first|rfl|go_num,by omega,HB2⟩
       case measure=>simp[RowKit.intOf]<;>omega
    obtain rfl:ak=i:=by omega
    have HB2:Hid (Na fM g ak (fC x q.names (n+1))):=by have:=Zh.out;rw[<-HFF.out,<-aB.out]at this;rw[<-aB.out];exact this
    have iO:=xK;go_wp2_with fail;go_roundw;case rel=>exact⟨iO,n+1,by first|rfl|go_num,by omega,HB2⟩
    case measure=>simp[RowKit.intOf]<;>omega
  obtain rfl:(ak+1)=n:=by omega
  obtain⟨WB,hWB⟩:=zB V6;obtain⟨F,hF⟩:=ze (fC x q.names (ak+1));rw[hF]at HBn;have HFF:=zh hF;clear hF;have HOW:Hid (O0 W0 WB):=by rw[hWB];exact QW.out
  have HIn:Hid (∀W,O0 WB W->Na W g ak F):=fun W hW=>by rw[hWB]at hW;exact HBn.out.aH hW
  have aW:Hid (O0 WB (WB.alloc (.cells #[] 3))):=zr.alloc _;have GX:Hid ((WB.alloc (.cells #[] 3)).ownsRow 0 3 1 (.slice (some ⟨WB.heap.size,0,none⟩) 0 0) (BI F 0).length (gW (BI F 0))):=SQ WB;have HB1:Hid (∀k,(Value.slice (some ⟨WB.heap.size,0,none⟩) 0 0).ownBlock=some k->WB.heap.size<=k):=fun k hk=>by simp[Value.ownBlock]at hk;omega
  have hnl:¬((ak:Int)+1<=ak):=zAB;rw[<-hWB];rw[<-hWB]at k0 k1 k2;clear hWB HBn QW;go_wp2_with fail;clear k0 k1 k2;go_loopw [8,46] (fun vo vj iJ=>Hid (O0 WB iJ)/\∃j:Nat,vj= .int .i64 j/\j<=ak/\Hid (iJ.ownsRow 0 3 1 vo (BI F j).length (gW (BI F j)))/\Hid (∀k,vo.ownBlock=some k->WB.heap.size<=k)) (fun _ v _=>ak-(RowKit.intOf v).toNat);case atStart=>exact⟨aW,0,rfl,qE _,GX,HB1⟩
  case round=>
   obtain⟨iJ,rfl⟩:=zB wr;clear aW GX HB1;obtain⟨Di,j,rfl,hj,HV,Zi⟩:=hrel;obtain⟨au,cu,rfl,-,-⟩:=aJ HV.out;by_cases cj:j<ak
   ·have hpl:(BI F j).length<=j:=by unfold BI;have:=yO (fun i=>F.getD i false) (List.range j);simpa using this
    have iG:=zw (j+1);have gin:=(HIn.out iJ Di.out).cell cj;obtain⟨b0,hb0⟩:=ze (F.getD j false);rw[hb0]at gin;have HB0:=zh hb0;clear hb0;cases b0 with
    |false=>
     have IG:Hid (iJ.ownsRow 0 3 1 (.slice au (BI F j).length cu) (BI F (j+1)).length (gW (BI F (j+1)))):=by rw[PK,HB0.out,if_neg zAF];exact HV.out
     go_wp2_with fail;go_roundw;case rel=>exact⟨Di,j+1,by first|rfl|go_num,by omega,IG,Zi⟩
     case measure=>simp[RowKit.intOf]<;>omega
    |true=>
     go_wp2_with (at_builtin;go_must (refine AL (u:=.int .i64 (j:Int)) lY rfl (.tmp 53) (.tmp 55) rfl rfl rfl (cell_new0 _ _ _) rfl (aG HV.out ((Only.refl (fun _=>False) _).alloc _) (fun _ _ f=>f)) zAB zBV ?_));intro v' w2 r1 r2 r3;have IG:Hid (w2.ownsRow 0 3 1 v' (BI F (j+1)).length (gW (BI F (j+1)))):=by rw[PK,HB0.out,if_pos rfl];simpa[gW,Hid]using r1
     have iO:=zh (((Di.out.alloc _).trans r2 fun k hk=>.inr (Zi.out k hk)));have HB2:Hid (∀k,v'.ownBlock=some k->WB.heap.size<=k):=by
      intro k hk;obtain⟨g,cap',rfl,-,-,h|h⟩:=r3;·exact zDl
      simp[Value.ownBlock]at hk;subst hk;have:=Di.out.size;simp at h;omega
     obtain⟨g2,cap',rfl,-,-,-⟩:=r3;clear r1 r2;go_wp2_with fail;go_roundw;case rel=>exact⟨iO,j+1,by first|rfl|go_num,by omega,IG,HB2⟩
     case measure=>simp[RowKit.intOf]<;>omega
   obtain rfl:ak=j:=by omega
   go_wp2_with fail;go_ret;refine⟨_,rfl,?_,fun k hk=>by have:=Zi.out k hk;have:=bM.out.size;have:=HOW.out.size;omega,bM.out.same (HOW.out.same Di.out)⟩;have:=HV.out;rw[<-HFF.out,<-aB.out,BJ]at this;rw[<-HFF.out,<-aB.out,BJ];exact this
end
section
variable {w w':World} {B:Nat}
def RD(F:Nat->Prop)(w:World)(v:Value)(l:List bW):Prop:=w.ownsRow 0 158 4 v l.length (rQ l)/\∀k,v.ownBlock=some k->F k
theorem RD.app{F:Nat->Prop}{w w1 w2:World}{v v':Value}{l:List bW}{r:bW}(h:RD F w v l)(hF:∀k,w1.heap.size<=k->F k)(s1:w2.ownsRow 0 158 4 v' (l.length+1) (rQ l++r.cells))(s3:V8 w1 v v'):RD F w2 v' (l++[r]):=by
 refine⟨?_,fun k hk=>?_⟩
 ·rw[OO,qK];have:rQ [r]=r.cells:=by simp[rQ]
  rw[this];exact s1
 rcases s3 k hk with hg|hg;·exact h.2 _ hg
 exact hF k hg
theorem RD.mono{F G:Nat->Prop}{w:World}{v:Value}{l:List bW}(h:RD F w v l)(hF:∀k,F k->G k):RD G w v l:=⟨h.1,fun k hk=>hF k (h.2 k hk)⟩
theorem RD.aH{F:Nat->Prop}{v:Value}{l:List bW}(h:RD F w v l)(ho:O0 w w'):RD F w' v l:=⟨aG h.1 ho (fun _ _ f=>f),h.2⟩
end
end Go.Proofs.YtdmmebjjojimiaaGreatDoor
namespace Go.Proofs
theorem zCm{p:Prop}(h:p:=by
 obtain⟨g,cap,rfl,-,-,hg⟩:=a
 simp only[Value.ownBlock,qG]at hk
 subst hk
 rcases hg with hg|hg
 ·exact h.new g hg
 ·omega):p:=h
end Go.Proofs
namespace Go.Proofs.YtdmmebjjojimiaaGreatDoor
open Go.RowKit
section
variable {w w':World} {B:Nat}
def onB(off:List Bool)(i:Nat):Bool:=decide (off.length<=i)|| !off.getD i false
def Zj(g:GD)(w w':World)(e:Ending):Prop:= ∃r:Int,e= .returned (.int .i64 r)/\ -1<=r/\r<(dZ g.x g.q (g.x.closure g.q.names)).length/\O0 w w'
theorem Zj.mk{g:GD}(r:Int){w w':World}{e:Ending}(he:e= .returned (.int .i64 r))(h1: -1<=r)(h2:r<(dZ g.x g.q (g.x.closure g.q.names)).length)(ho:O0 w w'):Zj g w w' e:=⟨r,he,h1,h2,ho⟩
end
section
variable {w w':World} {B:Nat}
def adM(g:GD):Prop:= ∃n,n<(dZ g.x g.q (g.x.closure g.q.names)).length/\onB g.off n=true
end
section
variable {w w':World} {B:Nat}
theorem Vh{e e':TypeId}{s s' n n':Nat}{v v':Value}{xs xs':List Value}(hne:e≠e')(h:w.ownsRow 0 e s v n xs)(h':w.ownsRow 0 e' s' v' n' xs'){k:Nat}(hk:v.ownBlock=some k):v'.ownBlock≠some k:=by
 intro h2;rcases h.2 with⟨rfl,_⟩| ⟨g,cap,cur,rfl,-,hg,-⟩;·cases hk
 rcases h'.2 with⟨rfl,_⟩| ⟨g',cap',cur',rfl,-,hg',-⟩;·cases h2
 simp only[Value.ownBlock,qG]at hk h2;subst hk;subst h2;rw[hg]at hg';simp only[qG,Obj.cells.injEq]at hg';exact hne hg'.2.1
structure RB (w0 w:World) (v:Value) (bs:List Bool):Prop where
 own:w.ownsRow 0 4 1 v bs.length (bs.map Value.bool)
 new:∀k,v.ownBlock=some k->w0.heap.size<=k
structure BB (w0 w:World) (v:Value) (n:Nat) (L:List Value):Prop where
 own:w.ownsRow 0 58 1 v L.length L
 new:∀k,v.ownBlock=some k->w0.heap.size<=k
 rows:∀r∈L,∃bs:List Bool,bs.length=n/\w.ownsRow 0 4 1 r n (bs.map Value.bool)
theorem RB.app{w0 w1 w2:World}{v v':Value}{bs:List Bool}{b:Bool}(h:RB w0 w1 v bs)(hs:w0.heap.size<=w1.heap.size)(s1:w2.ownsRow 0 4 1 v' (bs.length+1) (bs.map Value.bool++[.bool b]))(a:AB w1 v v' (bs.length+1)):RB w0 w2 v' (bs++[b]):=by refine⟨by simpa using s1,fun k hk=>?_⟩;exact zCm
theorem BB.only{w0 w1 w2:World}{v:Value}{n:Nat}{L:List Value}{F:Nat->Prop}(h:BB w0 w1 v n L)(ho:Only F w1 w2)(hF:∀k,F k->w1.heap.size<=k):BB w0 w2 v n L:=by refine⟨aG h.own ho (fun k hk f=>by have:=dP h.own hk;have:=hF k f;omega),h.new,fun r hr=>?_⟩;obtain⟨bs,e,hb⟩:=h.rows r hr;exact⟨bs,e,aG hb ho (fun k hk f=>by have:=dP hb hk;have:=hF k f;omega)⟩
theorem BB.aH{w0 w1 w2:World}{v:Value}{n:Nat}{L:List Value}(h:BB w0 w1 v n L)(ho:O0 w1 w2):BB w0 w2 v n L:=h.only ho (fun _ f=>f.elim)
theorem BB.app{w0 w1 w2:World}{v v':Value}{n:Nat}{L:List Value}{r:Value}(h:BB w0 w1 v n L)(hs:w0.heap.size<=w1.heap.size)(s1:w2.ownsRow 0 58 1 v' (L.length+1) (L++[r]))(o:Only (fun k=>v.ownBlock=some k) w1 w2)(a:AB w1 v v' (L.length+1))(hr:∃bs:List Bool,bs.length=n/\w1.ownsRow 0 4 1 r n (bs.map Value.bool)):BB w0 w2 v' n (L++[r]):=by
 have keep:∀r',(∃bs:List Bool,bs.length=n/\w1.ownsRow 0 4 1 r' n (bs.map Value.bool))->∃bs:List Bool,bs.length=n/\w2.ownsRow 0 4 1 r' n (bs.map Value.bool):=by rintro r' ⟨bs,e,hb⟩;exact⟨bs,e,aG hb o (fun k hk f=>Vh zAD hb h.own hk f)⟩
 refine⟨by simpa using s1,fun k hk=>?_,fun r' hr'=>?_⟩;·exact zCm
 rcases qW.1 hr' with hr'|hr';·exact keep _ (h.rows r' hr')
 rw[yJ.1 hr'];exact keep _ hr
theorem BB.set{w0 w1:World}{g m cap n:Nat}{L:List Value}(h:BB w0 w1 (.slice (some ⟨g,0,none⟩) m cap) n L){i:Nat}{r:Value}(hr:∃bs:List Bool,bs.length=n/\w1.ownsRow 0 4 1 r n (bs.map Value.bool)):BB w0 (w1.setCell ⟨g,i,none⟩ r) (.slice (some ⟨g,0,none⟩) m cap) n (L.set i r):=by
 have o:Only (fun k=>k=g) w1 (w1.setCell ⟨g,i,none⟩ r):=(Only.refl (fun k=>k=g) w1).setCell (p:=⟨g,i,none⟩) (.inl rfl) _;have keep:∀r',(∃bs:List Bool,bs.length=n/\w1.ownsRow 0 4 1 r' n (bs.map Value.bool))->∃bs:List Bool,bs.length=n/\(w1.setCell ⟨g,i,none⟩ r).ownsRow 0 4 1 r' n (bs.map Value.bool):=by rintro r' ⟨bs,e,hb⟩;exact⟨bs,e,aG hb o (fun k hk f=>Vh zAD hb h.own hk (by rw[f];rfl))⟩
 have hm:m=L.length:=by obtain⟨ao,c,e,-,-⟩:=aJ h.own;simp only[qU]at e;exact e.2.1
 subst hm;refine⟨by rw[List.length_set];exact(h.own.stored i r).1,h.new,fun r' hr'=>?_⟩;rcases List.mem_or_eq_of_mem_set hr' with hr'|rfl;·exact keep _ (h.rows r' hr')
 exact keep _ hr
theorem BB.get{w0:World}{v:Value}{n:Nat}{L:List Value}(h:BB w0 w v n L){i:Nat}(hi:i<L.length):∃g cap a c,v= .slice (some ⟨g,0,none⟩) L.length cap/\L[i]? =some (.slice a n c)/\w.cell? ⟨g,i,none⟩=some (.slice a n c)/\∀k,k<n->∃b y,a=some ⟨b,0,none⟩/\w.cell? ⟨b,k,none⟩=some (.bool y):=by
 obtain⟨g,cap,rfl,-,-⟩:=dU h.own zAB;have hm:L[i]∈L:=qZ hi;obtain⟨bs,e,hb⟩:=h.rows _ hm;obtain⟨a,c,e2,-,-⟩:=aJ hb;refine⟨g,cap,a,c,rfl,by rw[qA hi,e2],?_,fun k hk=>?_⟩;·rw[h.own.cellAt i zAB,qA hi,e2]
 rw[e2]at hb;obtain⟨b,c2,e3,-,-⟩:=dU hb zAB;simp only[qU]at e3;obtain⟨rfl,-,rfl⟩:=e3;refine⟨b,bs[k]'zAB,rfl,?_⟩;rw[hb.cellAt k zAB];simp[show k<bs.length by omega]
end
end Go.Proofs.YtdmmebjjojimiaaGreatDoor
