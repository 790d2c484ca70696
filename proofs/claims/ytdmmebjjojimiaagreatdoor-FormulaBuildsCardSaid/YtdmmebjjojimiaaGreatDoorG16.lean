/- VnP1 VnP2 VnP3, in one text.; Ve1 Ve2 Ve3 Ve4, in one text. -/
import Derived.Test.YtdmmebjjojimiaaGreatDoorG10
import Derived.Lib.SplitLaws
import Derived.Shelf.Strconv.Itoa3
import Derived.Shelf.Strconv.ErrVarAll
import Derived.Shelf.Strings.Search3
set_option maxRecDepth 100000
set_option maxHeartbeats 8000000
set_option linter.all false
namespace Go.Proofs
theorem zBZ{p:Prop}(h:p:=by simp):p:=h
theorem zBl{p:Prop}(h:p:=by omega):p:=h
theorem zBp{p:Prop}(h:p:=by decide):p:=h
theorem zEI{p:Prop}(h:p:=by
 have:=congrArg UInt8.toNat e'
 rw[UInt8.toNat_ofNat']at this
 have h48:(48:UInt8).toNat=48:=rfl
 omega):p:=h
theorem zE3{p:Prop}(h:p:=by
 cases hh:JC l with
 |false=>rfl
 |true=>rw[YM hh]at h;exact nomatch h):p:=h
end Go.Proofs
namespace Go.Proofs.YtdmmebjjojimiaaGreatDoor
namespace Vn
open Go.Lib
def kY(c:UInt8):Bool:=decide (48<=c.toNat/\c.toNat<=57)
def isLt(c:UInt8):Bool:=decide (97<=c.toNat/\c.toNat<=122)
def Qu(l:List UInt8):Bool:=l.all kY&& !l.isEmpty
def JC(l:List UInt8):Bool:=l.all isLt&& !l.isEmpty
def Eh(l:List UInt8):Bool:=Qu l&&decide (l.length<=9)&&(l==[48]||l.head? != some 48)
def jI(l:List UInt8):Bool:=JC l||Eh l
def val(acc:Nat)(l:List UInt8):Nat:=l.foldl (fun a c=>a*10+(c.toNat-48)) acc
theorem wI{c:UInt8}:kY c=true↔48<=c.toNat/\c.toNat<=57:=by unfold kY;rw[yP]
theorem acD{c:UInt8}:isLt c=true↔97<=c.toNat/\c.toNat<=122:=by unfold isLt;rw[yP]
theorem acE:∀(l:List UInt8) (acc k:Nat),(∀c∈l,kY c=true)->acc<10^k->val acc l<10^(k+l.length)
 | [],acc,k,_,h=>by simpa[val]using h
 |c::r,acc,k,hd,h=>by
  have hc:=wI.1 (hd c qQ)
  have:=acE r (acc*10+(c.toNat-48)) (k+1) (fun d hd'=>hd d (yE _ hd')) (by rw[Nat.pow_succ];omega)
  show val (acc*10+(c.toNat-48)) r<_
  rw[qN,show k+(r.length+1)=k+1+r.length by omega]
  exact this
theorem OY:∀(l:List UInt8) (acc k:Nat),(∀c∈l,kY c=true)->acc<10^k->k+l.length<=18->parseUint10 acc l= .ok (val acc l)
 | [],acc,k,_,_,_=>rfl
 |c::r,acc,k,hd,h,hk=>by
  have hc:=wI.1 (hd c qQ)
  simp only[qN]at hk
  have h17:acc<10^17:=Nat.lt_of_lt_of_le h (Nat.pow_le_pow_right (by decide) zBl)
  have e17:(10:Nat)^17=100000000000000000:=zBp
  rw[e17]at h17
  simp only[parseUint10]
  rw[if_pos hc,if_neg (by omega),if_neg zBl]
  exact OY r (acc*10+(c.toNat-48)) (k+1) (fun d hd'=>hd d (yE _ hd')) (by rw[Nat.pow_succ];omega) zBl
theorem acF(acc:Nat)(l:List UInt8)(c:UInt8):val acc (l++[c])=val acc l*10+(c.toNat-48):=by unfold val;rw[List.foldl_append];rfl
theorem acG:∀(l:List UInt8) (acc:Nat),acc<=val acc l
 | [],_=>qH _
 |c::r,acc=>qR zBl (acG r (acc*10+(c.toNat-48)))
theorem byte_of{c:UInt8}(h:kY c=true):UInt8.ofNat (48+(c.toNat-48))=c:=by have:=wI.1 h;rw[show 48+(c.toNat-48)=c.toNat by omega,UInt8.ofNat_toNat]
theorem YL:∀(n:Nat) (l:List UInt8),l.length=n->(∀c∈l,kY c=true)->l≠[]->(l=[48]\/l.head?≠some 48)->decDigits (val 0 l)=l
 |0,l,hn,_,hne,_=>absurd (yF hn) hne
 |n+1,l,hn,hd,hne,hz=>by
  obtain⟨l',c,rfl⟩:∃l' c,l=l'++[c]:=⟨l.dropLast,l.getLast hne,(List.dropLast_concat_getLast hne).symm⟩
  have hc:=hd c zBZ
  have hc':=wI.1 hc
  rw[acF]
  cases l' with
  |nil=>
   have hv:val 0 ([]:List UInt8)=0:=rfl
   rw[hv,decDigits,dif_pos zBl,Nat.zero_mul,Nat.zero_add,byte_of hc]
   rfl
  |cons a r=>
   have hz2:(a::r).head?≠some 48:=by
    rcases hz with h|h
    ·have:=congrArg List.length h
     simp at this
    ·simpa using h
   have ha:=wI.1 (hd a zBZ)
   have ha2:a.toNat≠48:=fun e=>hz2 (by
    show some a=some 48
    congr 1
    exact UInt8.toNat_inj.1 e)
   have hge:1<=val 0 (a::r):=by
    refine qR ?_ (acG r (0*10+(a.toNat-48)))
    omega
   have hl:(a::r).length=n:=by simpa using hn
   have ih:=YL n (a::r) hl (fun d hd'=>hd d (by rw[qW];exact .inl hd')) zBZ (.inr hz2)
   rw[decDigits,dif_neg zBl]
   rw[show(val 0 (a::r)*10+(c.toNat-48))/10=val 0 (a::r) by omega,show(val 0 (a::r)*10+(c.toNat-48))%10=c.toNat-48 by omega,ih,byte_of hc]
theorem Ud{d:Nat}(h:d<10):kY (UInt8.ofNat (48+d))=true:=by rw[wI,UInt8.toNat_ofNat'];omega
theorem aft(u:Nat):(∀c∈decDigits u,kY c=true)/\decDigits u≠[]/\(decDigits u=[48]\/(decDigits u).head?≠some 48):=by
 induction u using Nat.strongRecOn with
 |_ u ih=>
  by_cases h:u<10
  ·rw[decDigits,dif_pos h];refine⟨fun c hc=>by rw[yJ.1 hc];exact Ud h,by simp,?_⟩;by_cases h0:u=0;·subst h0;exact .inl rfl
   refine .inr fun e=>?_;have e':UInt8.ofNat (48+u)=48:=by simpa using e
   exact zEI
  rw[decDigits,dif_neg h];obtain⟨h1,h2,h3⟩:=ih (u/10) zBl;refine⟨fun c hc=>?_,by simp,.inr ?_⟩
  ·rcases qW.1 hc with hc|hc;·exact h1 c hc
   rw[yJ.1 hc];exact Ud zBl
  rcases h3 with h3|h3
  ·-- the number above is 0: not so
   exfalso;have:u/10=0:=by
    by_cases hb:u/10<10
    ·rw[decDigits,dif_pos hb]at h3;have e':UInt8.ofNat (48+u/10)=48:=by simpa using h3
     exact zEI
    rw[decDigits,dif_neg hb]at h3;have h6:=congrArg List.length h3;have h4:=(ih (u/10/10) zBl).2.1;have h5:0<(decDigits (u/10/10)).length:=List.length_pos_iff.2 h4;rw[qK]at h6;simp at h6;exact absurd h6 h4
   omega
  intro e;refine h3 ?_;cases hh:decDigits (u/10)with
  |nil=>exact absurd hh h2
  |cons a r=>rw[hh]at e;simpa using e
theorem KQ:∀(k u:Nat),1<=k->u<10^k->nDigits u<=k
 |0,_,h,_=>by omega
 |k+1,u,_,h=>by
  by_cases hu:u<10
  ·rw[nDigits_small hu];omega
  ·rw[nDigits_big hu]
   rw[Nat.pow_succ]at h
   have h1:1<=k:=by
    rcases Nat.eq_zero_or_pos k with rfl|h'
    ·simp at h;omega
    ·exact h'
   have:=KQ k (u/10) h1 zBl
   omega
theorem FK{l:List UInt8}(h:Eh l=true):atoiAll l= .ok (val 0 l:Int)/\(val 0 l:Int)<=999999999/\itoa (val 0 l:Int)=l:=by
 unfold Eh Qu at h;simp only[Bool.and_eq_true,Bool.or_eq_true,List.all_eq_true,yP,beq_iff_eq,bne_iff_ne,Bool.not_eq_true',List.isEmpty_eq_false_iff]at h;obtain⟨⟨⟨h1,h2⟩,h3⟩,h4⟩:=h;have hv:=acE l 0 0 h1 zBp;have hv9:val 0 l<10^9:=Nat.lt_of_lt_of_le hv (Nat.pow_le_pow_right (by decide) zBl);have e9:(10:Nat)^9=1000000000:=zBp;rw[e9]at hv9;have hp:=OY l 0 0 h1 (by decide) zBl;refine⟨?_,by omega,?_⟩
 ·cases l with
  |nil=>exact absurd rfl h2
  |cons c r=>
   have hc:=wI.1 (h1 c qQ);have hm:parseMag (c::r)= .ok (val 0 (c::r)):=by unfold parseMag;rw[if_neg zBZ];exact hp
   unfold atoiAll;simp only;rw[if_neg zBl,hm];simp only;rw[if_neg (by omega),if_neg (by omega),if_neg zBl]
 unfold itoa;rw[if_neg zBl,yT];exact YL _ l rfl h1 h2 h4
theorem acH{l:List UInt8}{n:Int}(h0:0<=n)(h9:n<=999999999)(hi:itoa n=l):Eh l=true:=by
 unfold itoa at hi;rw[if_neg zBl]at hi;obtain⟨h1,h2,h3⟩:=aft n.toNat;rw[hi]at h1 h2 h3;have hl:l.length<=9:=by rw[<-hi,decDigits_length];refine KQ 9 _ zBp ?_;have e9:(10:Nat)^9=1000000000:=zBp;rw[e9];omega
 unfold Eh Qu;simp only[Bool.and_eq_true,Bool.or_eq_true,List.all_eq_true,yP,beq_iff_eq,bne_iff_ne,Bool.not_eq_true',List.isEmpty_eq_false_iff];exact⟨⟨⟨h1,h2⟩,hl⟩,h3⟩
theorem YM{l:List UInt8}(h:JC l=true):atoiAll l=atoiAll []:=by
 unfold JC at h;simp only[Bool.and_eq_true,List.all_eq_true,Bool.not_eq_true',List.isEmpty_eq_false_iff]at h;obtain⟨h1,h2⟩:=h;cases l with
 |nil=>exact absurd rfl h2
 |cons c r=>
  have hc:=acD.1 (h1 c qQ);have hm:parseMag (c::r)=parseMag []:=by show(if c::r=[]then _ else parseUint10 0 (c::r))=_;rw[if_neg zBZ];simp only[parseUint10];rw[if_neg zBl];rfl
  unfold atoiAll;simp only;rw[if_neg zBl,hm];rfl
end Vn
namespace Vn
open Go.Lib
abbrev By:=List UInt8
def gJ(a:By):Nat:=if a=[]then 1 else if JC a=true then 0 else 2
def numeral(a:By):Nat:=if a=[]then 0 else if JC a=true then 0 else val 0 a
def dS(a:By):By:=if JC a=true then a else []
def Qv(a b:By):Prop:=gJ a<gJ b\/(gJ a=gJ b/\(numeral a<numeral b\/(numeral a=numeral b/\dS a<dS b)))
instance (a b:By):Decidable (Qv a b):=by unfold Qv;infer_instance
theorem Z8(a:By):¬a<a:=List.lt_irrefl a
theorem acI{a b:By}(h:a≠b):a<b\/b<a:=by
 rcases Decidable.em (a<b)with h1|h1;·exact .inl h1
 rcases Decidable.em (b<a)with h2|h2;·exact .inr h2
 exact absurd (List.le_antisymm (List.not_lt.1 h2) (List.not_lt.1 h1)) h
abbrev atP(x:List By)(i:Nat):By:=x.getD i []
theorem afu{a:By}(h:jI a=true):a≠[]:=by rintro rfl;revert h;decide
def DJ(x y:List By):Nat->Nat->Int
 |0,_=>0
 |k+1,i=>if Qv (atP x i) (atP y i)then -1 else if Qv (atP y i) (atP x i)then 1 else DJ x y k (i+1)
end Vn
namespace Vn
open Go.Lib
theorem Z9{l:List UInt8}{v:Int}(h:atoiAll l= .ok v):jI l=(decide (0<=v)&&decide (v<=999999999)&&decide (itoa v=l)):=by
 have hl:JC l=false:=by exact zE3
 unfold jI;rw[hl,Bool.false_or];cases hn:Eh l with
 |true=>obtain⟨h1,h2,h3⟩:=FK hn;rw[h1]at h;cases h;rw[h3,qX zBl,qX h2,qX rfl];rfl
 |false=>
  symm;by_cases c1:0<=v
  ·by_cases c2:v<=999999999;·rw[qP (p:=itoa v=l) (fun e=>by rw[acH c1 c2 e]at hn;cases hn),Bool.and_false]
   rw[qP c2,Bool.and_false,yQ]
  rw[qP c1,yQ,yQ]
theorem acJ{l:List UInt8}{v:Int}(h:atoiAll l= .ok v)(hp:jI l=true):gJ l=2/\(numeral l:Int)=v/\dS l=[]:=by
 have hl:JC l=false:=by exact zE3
 have hn:Eh l=true:=by unfold jI at hp;rw[hl,Bool.false_or]at hp;exact hp
 have hne:l≠[]:=afu hp;have h1:=(FK hn).1;rw[h]at h1;unfold gJ numeral dS;rw[if_neg hne,if_neg hne,hl];simp only[Bool.false_eq_true,if_false];refine⟨trivial,?_,trivial⟩;cases h1;rfl
theorem KR{l:List UInt8}(h:∀v,atoiAll l≠ .ok v):jI l=JC l:=by
 unfold jI;cases hn:Eh l with
 |true=>exact absurd (FK hn).1 (h _)
 |false=>rw[Bool.or_false]
theorem aac{l:List UInt8}(hp:JC l=true):gJ l=0/\numeral l=0/\dS l=l:=by
 have hne:l≠[]:=by rintro rfl;revert hp;decide
 unfold gJ numeral dS;rw[if_neg hne,if_neg hne,if_pos hp,if_pos hp,if_pos hp];exact⟨rfl,rfl,rfl⟩
end Vn
end Go.Proofs.YtdmmebjjojimiaaGreatDoor
namespace Go.Proofs
theorem zAt{p:Prop}(h:p:=by unfold okS maxLen at hs;omega):p:=h
theorem zCh{p:Prop}(h:p:=by
 go_wp2_with fail
 go_ret
 exact⟨rfl,HO.out⟩):p:=h
end Go.Proofs
namespace Go.Proofs.YtdmmebjjojimiaaGreatDoor
open Go.RowKit
open Vn (Qu JC kY isLt jI Eh)
section
variable {w w':World} {B:Nat}
theorem iH(s:Str):s.toList.length=s.size:=by rw[ByteArray.toList_eq,Array.length_toList];rfl
theorem Ce{s:Str}{i:Nat}(h:i<s.size):s.toList[i]? =some s[i]:=by
 rw[ByteArray.toList_eq];have h2:i<s.data.toList.length:=by rw[Array.length_toList];exact h
 rw[qA h2];rfl
theorem jY{s:Str}{p:UInt8->Bool}{i:Nat}(h:i<s.size):(s.toList.take (i+1)).all p=((s.toList.take i).all p&&p s[i]):=by rw[List.take_add_one,Ce h];simp[List.all_append]
theorem all_false{s:Str}{p:UInt8->Bool}{i:Nat}(h:i<s.size)(hp:p s[i]=false):s.toList.all p=false:=by
 cases hh:s.toList.all p;·rfl
 rw[List.all_eq_true]at hh;have:=hh s[i] (qT (Ce h));rw[this]at hp;cases hp
theorem take_size(s:Str):s.toList.take s.size=s.toList:=qI (by rw[iH];exact qH _)
theorem isE{s:Str}:s.toList.isEmpty=decide (s.size=0):=by rw[<-iH];cases s.toList<;>simp
theorem acK(s:Str)(hs:okS s)(r:Bool)(hr:Qu s.toList=r):Calls Tryz.prog 210 #[.string s] w (fun e w'=>e= .returned (.bool r)/\O0 w w'):=by
 have hs2:s.size<=9223372036854775807:=zAt;unfold Qu at hr;rw[isE]at hr;have bD:=zh hr;clear hs hr;by_cases h0:s.size=0
 ·have hrf:r=false:=by rw[<-bD.out,qX h0,Bool.not_true,Bool.and_false]
  subst hrf;clear bD;obtain rfl:=BX h0;clear hs2 h0;go_enter Tryz.func210,Tryz.ntmps210;go_wp2_with fail;go_loopw [3] (fun vi wr=>ahK w 0 vi wr) (fun v _=>0-(RowKit.intOf v).toNat);case atStart=>exact⟨show Hid _ from Only.refl _ _,0,rfl,qE _⟩
  case round=>
   obtain⟨HO,i,rfl,hi⟩:=hrel;obtain rfl:i=0:=by omega
   exact zCh
 have hemp:s.toList.isEmpty=false:=by rw[isE,qP h0]
 have HR2:Hid (s.toList.all kY=r):=by rw[<-bD.out,qP h0,Bool.not_false,Bool.and_true];exact rfl
 clear h0 bD;go_enter Tryz.func210,Tryz.ntmps210;go_wp2_with fail;go_loopw [3] (fun vi wr=>Hid (O0 w wr)/\∃i:Nat,vi= .int .i64 i/\i<=s.size/\Hid ((s.toList.take i).all kY=true)) (fun v _=>s.size-(RowKit.intOf v).toNat);case atStart=>exact⟨show Hid _ from Only.refl _ _,0,rfl,qE _,show Hid _ from by simp[Hid]⟩
 case round=>
  obtain⟨HO,i,rfl,hi,HA⟩:=hrel;by_cases ci:i<s.size
  ·have iG:=zw (i+1);obtain⟨b,hb⟩:∃b:UInt8,s[i]=b:=⟨_,rfl⟩;by_cases c1:b.toNat<48
   ·have hrf:r=false:=by rw[<-HR2.out];exact all_false ci (by rw[hb];unfold kY;rw[qP];omega)
    subst hrf;go_wp2_with fail;all_goals (go_ret;exact⟨rfl,HO.out⟩)
   by_cases c2:57<b.toNat
   ·have hrf:r=false:=by rw[<-HR2.out];exact all_false ci (by rw[hb];unfold kY;rw[qP];omega)
    subst hrf;go_wp2_with fail;all_goals (go_ret;exact⟨rfl,HO.out⟩)
   have HA2:Hid ((s.toList.take (i+1)).all kY=true):=by rw[Hid,jY ci,HA.out,hb,yR];unfold kY;rw[yP];omega
   go_wp2_with fail;all_goals exact⟨⟨HO,i+1,by first|rfl|go_num,by omega,HA2⟩,by simp[RowKit.intOf]<;>omega⟩
  obtain rfl:i=s.size:=by omega
  have hrt:r=true:=by rw[<-HR2.out,<-HA.out,take_size]
  subst hrt;exact zCh
theorem afv{s:Str}(h:0<s.size):s.toList.head?=some s[0]:=by rw[List.head?_eq_getElem?];exact Ce h
def jf(c:UInt8):List UInt8->List (List UInt8)
 | []=>[[]]
 |b::r=>if b=c then []::jf c r else match jf c r with
  | []=>[[b]]
  |h::t=>(b::h)::t
theorem afw(c:UInt8):∀l,jf c l≠[]
 | []=>by simp[jf]
 |b::r=>by
  unfold jf
  split
  ·simp
  ·split<;>simp
theorem OZ{c:UInt8}:∀{l:List UInt8},(∀b∈l,b≠c)->jf c l=[l]
 | [],_=>rfl
 |b::r,h=>by
  have ih:=OZ (c:=c) (l:=r) fun x hx=>h x (yE _ hx)
  unfold jf
  rw[if_neg (h b qQ),ih]
theorem YN{c:UInt8}:∀{l r:List UInt8},(∀b∈l,b≠c)->jf c (l++c::r)=l::jf c r
 | [],r,_=>by
  show jf c (c::r)=_
  rw[jf,if_pos rfl]
 |b::l,r,h=>by
  have ih:=YN (c:=c) (l:=l) (r:=r) fun x hx=>h x (yE _ hx)
  show jf c (b::(l++c::r))=_
  rw[jf,if_neg (h b qQ),ih]
theorem ext_toList(s:Str)(i j:Nat):(s.extract i j).toList=(s.toList.drop i).take (j-i):=by rw[ByteArray.toList_eq,ByteArray.toList_eq,ByteArray.data_extract,Array.toList_extract]
end
end Go.Proofs.YtdmmebjjojimiaaGreatDoor
namespace Go.Proofs.YtdmmebjjojimiaaGreatDoor
open Go.RowKit
section
variable {w w':World} {B:Nat}
def Texts(w w':World)(v:Value)(L:List (List UInt8)):Prop:= ∃l:List Str,l.map ByteArray.toList=L/\w'.ownsRow 0 9 1 v l.length (fH l)/\(∀s∈l,okS s)/\(∀k,v.ownBlock=some k->w.heap.size<=k)
theorem Texts.aH{w0:World}{v:Value}{L:List (List UInt8)}(h:Texts w0 w v L)(ho:O0 w w'):Texts w0 w' v L:=by obtain⟨l,h0,h1,h2,h3⟩:=h;exact⟨l,h0,aG h1 ho (fun _ _ f=>f),h2,h3⟩
theorem Texts.row{w0:World}{v:Value}{L:List (List UInt8)}(h:Texts w0 w v L):∃l:List Str,l.map ByteArray.toList=L/\aQ 1 dN w.heap.size w v l:=by obtain⟨l,h0,h1,h2,h3⟩:=h;exact⟨l,h0,sG rfl h1 h2⟩
def ah1(s:Str)(d:UInt8)(f i:Nat)(l:List Str):Prop:=
 (i<=s.size->(l.map ByteArray.toList++jf d (s.toList.drop f)=jf d s.toList/\∀b∈(s.toList.drop f).take (i-f),b≠d))/\(s.size<i->l.map ByteArray.toList=jf d s.toList)
theorem ah1.go{s:Str}{d:UInt8}{f i:Nat}{l:List Str}(h:ah1 s d f i l)(hf:f<=i)(hi:i<s.size)(hb:s[i]≠d):ah1 s d f (i+1) l:=by
 obtain⟨h1,h2⟩:=h.1 zAB;refine⟨fun _=>⟨h1,fun b hb'=>?_⟩,fun h=>by omega⟩;have e:(s.toList.drop f).take (i+1-f)=(s.toList.drop f).take (i-f)++[s[i]]:=by rw[show i+1-f=(i-f)+1 by omega,List.take_add_one,List.getElem?_drop,show f+(i-f)=i by omega,Ce hi];rfl
 rw[e]at hb';rcases qW.1 hb' with hb'|hb';·exact h2 b hb'
 rw[yJ.1 hb'];exact hb
end
end Go.Proofs.YtdmmebjjojimiaaGreatDoor
namespace Go.Proofs.YtdmmebjjojimiaaGreatDoor
open Go.RowKit
open Vn (Qu JC jI)
theorem Bq:∀(x y:List UInt8),Op.bytesLess x y=decide (x<y)
 | [],[]=>by simp[Op.bytesLess]
 | [],_::_=>by simp[Op.bytesLess]
 |_::_,[]=>by simp[Op.bytesLess]
 |a::x,b::y=>by
  rw[Op.bytesLess,Bq x y]
  simp only[List.cons_lt_cons_iff]
  by_cases h1:a<b<;>by_cases h2:a=b<;>by_cases h3:x<y<;>simp[h1,h2,h3]
def wW(l:List UInt8):Bool:=decide (0<l.length)&&decide (l.length<=40)&&(jf 46 l).all jI&&decide ((jf 46 l).length<=8)
section
variable {w w':World} {B:Nat}
theorem toList_inj{a b:Str}(h:a.toList=b.toList):a=b:=by
 rw[ByteArray.toList_eq,ByteArray.toList_eq]at h;cases a with|mk x=>cases b with|mk y=>
  congr 1
  exact Array.toList_inj.1 h
end
end Go.Proofs.YtdmmebjjojimiaaGreatDoor
namespace Go.Proofs.YtdmmebjjojimiaaGreatDoor
open Go.RowKit
theorem Ue{s:Str}(h:wW s.toList=true):(jf 46 s.toList).length<=8:=by unfold wW at h;simp only[Bool.and_eq_true,yP]at h;exact h.2
end Go.Proofs.YtdmmebjjojimiaaGreatDoor
namespace Go.Proofs.YtdmmebjjojimiaaGreatDoor
open Go.RowKit
open Vn (jI)
end Go.Proofs.YtdmmebjjojimiaaGreatDoor
namespace Go.Proofs.YtdmmebjjojimiaaGreatDoor.Lk
open Go.RowKit
open Vn (Qu JC kY isLt jI Eh)
abbrev By:=List UInt8
def nX(c:UInt8):Bool:=isLt c||kY c||decide (c.toNat=45)
def nameB(l:By):Bool:=decide (0<l.length)&&decide (l.length<=24)&&l.head?.any isLt&&l.all nX
def lH(l:By):Bool:=nameB l||Qu l&&decide (l.length<=3)
end Go.Proofs.YtdmmebjjojimiaaGreatDoor.Lk
namespace Go.Proofs.YtdmmebjjojimiaaGreatDoor.Lk
open Go.RowKit
open Vn (Qu JC kY isLt jI Eh)
end Go.Proofs.YtdmmebjjojimiaaGreatDoor.Lk
namespace Go.Proofs.YtdmmebjjojimiaaGreatDoor.Lk
open Go.RowKit
open Vn (Qu JC kY isLt jI Eh)
end Go.Proofs.YtdmmebjjojimiaaGreatDoor.Lk
namespace Go.Proofs.YtdmmebjjojimiaaGreatDoor.Lk
open Go.RowKit
end Go.Proofs.YtdmmebjjojimiaaGreatDoor.Lk
namespace Go.Proofs.YtdmmebjjojimiaaGreatDoor
open Go.RowKit
def ak9(p:fP)(s:kC):Bool:=p.vars.any fun v=>decide (v.name=s.name)&&iT v.values s.value
def Xl(p:fP)(l:List kC):Bool:=l.all (ak9 p)
def eU(l:List jm):Bool:=match l with
 | [s]=>decide (s.lo=ByteArray.empty)&&decide (s.hi=ByteArray.empty)
 |_=>false
def aF.ala(x:aF)(s:Str):Bool:=decide (x.find s<0)&&decide (0<(x.dh s).length)
def aF.Xm(x:aF)(s:gZ):Bool:=
 if 0<=x.find s.name then Xl (x.pack (x.find s.name).toNat) s.sets
 else decide (0<(x.dh s.name).length)&&eU s.spans&&s.sets.isEmpty
def dA:List Str->Bool
 | []=>true
 |a::r=> !iT r a&&dA r
def lQ(v:eP):Bool:=Lk.nameB v.name.toList&&decide (0<v.values.length)&&decide (v.values.length<=4)&&v.values.all (fun s=>Lk.lH s.toList)&&dA v.values
def lI(l:List eP):Bool:=l.all lQ&&decide (l.length<=4)&&dA (l.map eP.name)
def aF.kL(x:aF)(i:Nat):Bool:=
 let p:=x.pack i
 decide (x.find p.name=i)&&decide ((x.dh p.name).length=0)&&decide (0<p.aX.length)
  &&(decide (p.aX.length<=10)&&decide (p.deps.length<=16)&&decide (p.cons.length<=8)&&decide (p.provides.length<=4)&&decide (p.files.length<=8))
  &&dA (p.aX.map lV.version)&&lI p.vars&&dA p.provides&&dA p.files
def aF.alb(x:aF)(p:fP)(d:tJ):Bool:=x.Xm d.on&&Xl p d.cond.sets
def aF.alc(x:aF)(p:fP)(c:xX):Bool:=Xl p c.cond.sets&&(decide (c.with'.name=ByteArray.empty)||decide (0<=x.find c.with'.name)&&x.Xm c.with')
def aF.afx(x:aF)(p:fP):Bool:=p.deps.all (x.alb p)&&p.cons.all (x.alc p)
def aF.ah2(x:aF)(i:Nat):Bool:=
 let f:=x.cO.getD i default
 x.ala f.virtual&& !((x.cO.take i).any fun g=>decide (g.virtual=f.virtual))&&dA f.names
  &&f.names.all fun n=>decide (0<=x.find n)&&iT (x.pack (x.find n).toNat).provides f.virtual
def aF.ok(x:aF):Bool:=decide (x.packs.length<=24)&&decide (x.cO.length<=8)&&(List.range x.packs.length).all x.kL&&x.packs.all x.afx&&(List.range x.cO.length).all x.ah2
def dH.ok(x:aF)(q:dH):Bool:=decide (0<q.roots.length)&&decide (q.roots.length<=8)&&q.roots.all fun r=>x.Xm r.spec
theorem sQ:∀{l:List Str},dA l=true↔l.Nodup
 | []=>by simp[dA]
 |a::r=>by
  unfold dA
  rw[Bool.and_eq_true,sQ,List.nodup_cons,Bool.not_eq_true',Bool.eq_false_iff,Ne,AO]
theorem IV{l:List Str}{i:Nat}{a:Str}(ha:l[i]? =some a)(h:dA (l.take i)=true):dA (l.take (i+1))= !iT (l.take i) a:=by rw[Bool.eq_iff_iff,sQ,List.take_add_one,ha];simp only[Option.toList_some,List.nodup_append,Bool.not_eq_true',Bool.eq_false_iff,Ne,AO];rw[sQ]at h;simp[h];exact⟨fun h1 h2=>h1 a h2 rfl,fun h1 b hb e=>h1 (e▸hb)⟩
theorem KT{l:List Str}{i:Nat}(h:dA (l.take i)=false):dA l=false:=by rw[Bool.eq_false_iff,Ne,sQ]at h⊢;exact fun hn=>h (List.Sublist.nodup (List.take_sublist _ _) hn)
theorem aF.afy{x:aF}{i:Nat}(hi:i<x.packs.length):0<=x.find (x.pack i).name/\x.find (x.pack i).name<=i:=by
 have hp:x.pack i=x.packs[i]:=by simp[aF.pack,qC,qA hi]
 have hany:x.packs.any (fun p=>decide (p.name=(x.pack i).name))=true:=by rw[yU];exact⟨x.packs[i],qZ hi,by rw[hp];simp⟩
 unfold aF.find kR;rw[if_pos hany];refine⟨by omega,?_⟩;have h:=List.not_of_lt_findIdx (p:=fun p=>decide (p.name=(x.pack i).name)) (xs:=x.packs) (i:=i);by_cases hc:i<x.packs.findIdx fun p=>decide (p.name=(x.pack i).name);·have:=h hc;simp[hp]at this
 omega
section
variable {w w':World} {B:Nat}
theorem UA{vl:Value}{l:List Str}(hl:aQ 1 dN B w vl l)(s:Str):Calls Tryz.prog 272 #[vl,.string s] w fun e w'=>e= .returned (.int .i64 (kR (fun t=>decide (t=s)) l))/\O0 w w':=by
 obtain⟨a_l,YA,rfl,g_l,TL⟩:=hl.shape;obtain⟨uJ,e1⟩:=ze l.length;have Ap:=zh e1;rw[e1]at hl g_l⊢;have alj:=zh hl;clear e1 hl;obtain⟨W0,hW0⟩:=zB w;have bM:Hid (O0 w W0):=by rw[hW0];exact Only.refl _ _
 have yg:Hid (∀W,O0 W0 W->aQ 1 dN B W (.slice a_l uJ YA) l):=fun W ho=>alj.out.keep dN.keep (Kp.gV (bM.out.same ho));clear alj;obtain⟨r,hr⟩:∃r,kR (fun t=>decide (t=s)) l=r:=⟨_,rfl⟩;rw[hr];have bD:=zh hr;clear hr;subst hW0;go_enter Tryz.func272,Tryz.ntmps272;go_wp2_with fail;go_loopw [5,8] (fun _ vi wr=>Hid (O0 W0 wr)/\∃i:Nat,vi= .int .i64 i/\i<=uJ/\Hid (∀t∈l.take i,decide (t=s)=false)) (fun _ v _=>uJ-(RowKit.intOf v).toNat);case atStart=>exact⟨show Hid _ from Only.refl _ _,0,rfl,qE _,show Hid _ from by simp[Hid]⟩
 case round=>
  obtain⟨HO,i,rfl,hi,HZ⟩:=hrel;by_cases ci:i<uJ
  ·have hrow:=yg.out wr HO.out;have hrow0:=hrow;rw[<-Ap.out]at hrow0;obtain⟨b,off,he,-,-⟩:=hrow0.at (by have:=Ap.out;omega);subst he;obtain⟨y,hx⟩:=zG l i (by rw[Ap.out];omega);obtain⟨cs,hl,hr,hC⟩:=hrow.get hx;clear hrow hrow0;obtain⟨rfl,-⟩:=hC;have hcell:=hr 0 _ rfl;simp only[yH,qF]at hcell;have iG:=zw (i+1);have HX:=zh hx;clear hx hr hl;by_cases hy:y=s
   ·have hbd:(s.toList==y.toList)=true:=by rw[hy];exact beq_self_eq_true _
    have hri:r=i:=by rw[<-bD.out];exact tN HX.out (qX hy) HZ.out
    subst hri;clear hy;go_wp2_with fail;go_ret;exact⟨rfl,bM.out.same HO.out⟩
   have hbd:(s.toList==y.toList)=false:=by rw[yC];exact fun h=>hy (toList_inj h.symm)
   have HD:=zh (qP hy);have HZ2:Hid (∀t∈l.take (i+1),decide (t=s)=false):=fun z hz=>by
    rcases bH HX.out hz with h|rfl;·exact HZ.out z h
    exact HD.out
   clear hy;go_wp2_with fail;go_roundw;case rel=>exact⟨HO,i+1,by first|rfl|go_num,by omega,HZ2⟩
   case measure=>simp[RowKit.intOf]<;>omega
  obtain rfl:uJ=i:=by omega
  have hri:r= -1:=by rw[<-bD.out];have:=HZ.out;rw[qI (yG Ap.out)]at this;exact oO this
  subst hri;go_wp2_with fail;go_ret;exact⟨rfl,bM.out.same HO.out⟩
end
end Go.Proofs.YtdmmebjjojimiaaGreatDoor
namespace Go.Proofs.YtdmmebjjojimiaaGreatDoor.Lk
open Go.RowKit
open Vn (Qu JC kY isLt jI Eh)
end Go.Proofs.YtdmmebjjojimiaaGreatDoor.Lk
namespace Go.Proofs.YtdmmebjjojimiaaGreatDoor
open Go.Shelf Go.RowKit Go.Lib Go.Sort
def Sv.Qw:Go.Shelf.Ren:=⟨fun |172=>402|244=>414|245=>415|247=>419|279=>420|280=>421|281=>422|282=>423|287=>425|316=>426|171=>403|205=>427|321=>432|322=>433|243=>416|246=>424|283=>428|284=>429|285=>430|286=>431|129=>253|317=>434|318=>435|319=>436|320=>437|337=>438|338=>439|n=>n,fun |9=>9|3=>3|75=>397|76=>398|4=>4|5=>5|167=>410|37=>52|0=>0|85=>411|2=>2|168=>413|53=>290|175=>417|46=>239|210=>421|127=>428|145=>431|143=>429|21=>21|171=>423|173=>425|212=>433|51=>288|20=>20|213=>434|232=>435|233=>436|80=>437|n=>n,fun |15=>3|16=>4|17=>5|18=>6|19=>7|n=>n⟩
theorem Sv.laysC172:Go.Proofs.LaysC.n172 Tryz.prog Sv.Qw:={
 mixed:=by kernel_rfl
 f129:=Tryz.func253.trans (congrArg some zk)
 f171:=Tryz.func403.trans (congrArg some zk)
 f172:=Tryz.func402.trans (congrArg some zk)
 f205:=Tryz.func427.trans (congrArg some zk)
 f243:=Tryz.func416.trans (congrArg some zk)
 f244:=Tryz.func414.trans (congrArg some zk)
 f245:=Tryz.func415.trans (congrArg some zk)
 f246:=Tryz.func424.trans (congrArg some zk)
 f247:=Tryz.func419.trans (congrArg some zk)
 f279:=Tryz.func420.trans (congrArg some zk)
 f280:=Tryz.func421.trans (congrArg some zk)
 f281:=Tryz.func422.trans (congrArg some zk)
 f282:=Tryz.func423.trans (congrArg some zk)
 f283:=Tryz.func428.trans (congrArg some zk)
 f284:=Tryz.func429.trans (congrArg some zk)
 f285:=Tryz.func430.trans (congrArg some zk)
 f286:=Tryz.func431.trans (congrArg some zk)
 f287:=Tryz.func425.trans (congrArg some zk)
 f316:=Tryz.func426.trans (congrArg some zk)
 f317:=Tryz.func434.trans (congrArg some zk)
 f318:=Tryz.func435.trans (congrArg some zk)
 f319:=Tryz.func436.trans (congrArg some zk)
 f320:=Tryz.func437.trans (congrArg some zk)
 f321:=Tryz.func432.trans (congrArg some zk)
 f322:=Tryz.func433.trans (congrArg some zk)
 f337:=Tryz.func438.trans (congrArg some zk)
 f338:=Tryz.func439.trans (congrArg some zk)
 t0:=Tryz.underlying0
 a0:=Tryz.isAgg0
 z0:=Tryz.sizeOf0
 v0:=Tryz.zeroValue0
 t2:=Tryz.underlying2
 a2:=Tryz.isAgg2
 z2:=Tryz.sizeOf2
 v2:=Tryz.zeroValue2
 t3:=Tryz.underlying3
 a3:=Tryz.isAgg3
 z3:=Tryz.sizeOf3
 v3:=Tryz.zeroValue3
 t4:=Tryz.underlying4
 a4:=Tryz.isAgg4
 z4:=Tryz.sizeOf4
 v4:=Tryz.zeroValue4
 t5:=Tryz.underlying5
 a5:=Tryz.isAgg5
 z5:=Tryz.sizeOf5
 v5:=Tryz.zeroValue5
 t9:=Tryz.underlying9
 a9:=Tryz.isAgg9
 z9:=Tryz.sizeOf9
 v9:=Tryz.zeroValue9
 t20:=Tryz.underlying20
 a20:=Tryz.isAgg20
 z20:=Tryz.sizeOf20
 v20:=Tryz.zeroValue20
 t21:=Tryz.underlying21
 a21:=Tryz.isAgg21
 z21:=Tryz.sizeOf21
 v21:=Tryz.zeroValue21
 t37:=Tryz.underlying52
 a37:=Tryz.isAgg52
 z37:=Tryz.sizeOf52
 v37:=Tryz.zeroValue52
 t46:=Tryz.underlying239
 a46:=Tryz.isAgg239
 z46:=Tryz.sizeOf239
 v46:=Tryz.zeroValue239
 t51:=Tryz.underlying288
 a51:=Tryz.isAgg288
 z51:=Tryz.sizeOf288
 v51:=Tryz.zeroValue288
 t53:=Tryz.underlying290
 a53:=Tryz.isAgg290
 z53:=Tryz.sizeOf290
 v53:=Tryz.zeroValue290
 t75:=Tryz.underlying397
 a75:=Tryz.isAgg397
 z75:=Tryz.sizeOf397
 v75:=Tryz.zeroValue397
 t76:=Tryz.underlying398
 a76:=Tryz.isAgg398
 z76:=Tryz.sizeOf398
 v76:=Tryz.zeroValue398
 t85:=Tryz.underlying411
 a85:=Tryz.isAgg411
 z85:=Tryz.sizeOf411
 v85:=Tryz.zeroValue411
 t127:=Tryz.underlying428
 a127:=Tryz.isAgg428
 z127:=Tryz.sizeOf428
 v127:=Tryz.zeroValue428
 t143:=Tryz.underlying429
 a143:=Tryz.isAgg429
 z143:=Tryz.sizeOf429
 v143:=Tryz.zeroValue429
 t145:=Tryz.underlying431
 a145:=Tryz.isAgg431
 z145:=Tryz.sizeOf431
 v145:=Tryz.zeroValue431
 t167:=Tryz.underlying410
 a167:=Tryz.isAgg410
 z167:=Tryz.sizeOf410
 v167:=Tryz.zeroValue410
 t168:=Tryz.underlying413
 a168:=Tryz.isAgg413
 z168:=Tryz.sizeOf413
 v168:=Tryz.zeroValue413
 t171:=Tryz.underlying423
 a171:=Tryz.isAgg423
 z171:=Tryz.sizeOf423
 v171:=Tryz.zeroValue423
 t173:=Tryz.underlying425
 a173:=Tryz.isAgg425
 z173:=Tryz.sizeOf425
 v173:=Tryz.zeroValue425
 t175:=Tryz.underlying417
 a175:=Tryz.isAgg417
 z175:=Tryz.sizeOf417
 v175:=Tryz.zeroValue417
 t210:=Tryz.underlying421
 a210:=Tryz.isAgg421
 z210:=Tryz.sizeOf421
 v210:=Tryz.zeroValue421
 t212:=Tryz.underlying433
 a212:=Tryz.isAgg433
 z212:=Tryz.sizeOf433
 v212:=Tryz.zeroValue433
 t213:=Tryz.underlying434
 a213:=Tryz.isAgg434
 z213:=Tryz.sizeOf434
 t232:=Tryz.underlying435
 a232:=Tryz.isAgg435
 z232:=Tryz.sizeOf435
 v232:=Tryz.zeroValue435
 t233:=Tryz.underlying436
 a233:=Tryz.isAgg436
 z233:=Tryz.sizeOf436
 v233:=Tryz.zeroValue436
 g15:=by kernel_rfl
 g16:=by kernel_rfl
 g17:=by kernel_rfl
 g18:=by kernel_rfl
 g19:=by kernel_rfl
 t80:=Tryz.underlying437
 a80:=Tryz.isAgg437
 z80:=Tryz.sizeOf437
 v80:=Tryz.zeroValue437
 i0:=by kernel_rfl
 i2:=by kernel_rfl
 i3:=by kernel_rfl
 i4:=by kernel_rfl
 i5:=by kernel_rfl
 i9:=by kernel_rfl
 i20:=by kernel_rfl
 i21:=by kernel_rfl
 i37:=by kernel_rfl
 i46:=by kernel_rfl
 i51:=by kernel_rfl
 i53:=by kernel_rfl
 i75:=by kernel_rfl
 i76:=by kernel_rfl
 i80:=by kernel_rfl
 i85:=by kernel_rfl
 i127:=by kernel_rfl
 i143:=by kernel_rfl
 i145:=by kernel_rfl
 i167:=by kernel_rfl
 i168:=by kernel_rfl
 i171:=by kernel_rfl
 i173:=by kernel_rfl
 i175:=by kernel_rfl
 i210:=by kernel_rfl
 i212:=by kernel_rfl
 i232:=by kernel_rfl
 i233:=by kernel_rfl
 m15:=by kernel_rfl
 m16:=by kernel_rfl
 m17:=by kernel_rfl
 m18:=by kernel_rfl
 m19:=by kernel_rfl
 c0:=by kernel_rfl
 c2:=by kernel_rfl
 c3:=by kernel_rfl
 c4:=by kernel_rfl
 c5:=by kernel_rfl
 c9:=by kernel_rfl
 c20:=by kernel_rfl
 c21:=by kernel_rfl
 c37:=by kernel_rfl
 c46:=by kernel_rfl
 c51:=by kernel_rfl
 c53:=by kernel_rfl
 c75:=by kernel_rfl
 c76:=by kernel_rfl
 c80:=by kernel_rfl
 c85:=by kernel_rfl
 c127:=by kernel_rfl
 c143:=by kernel_rfl
 c145:=by kernel_rfl
 c167:=by kernel_rfl
 c168:=by kernel_rfl
 c171:=by kernel_rfl
 c173:=by kernel_rfl
 c175:=by kernel_rfl
 c210:=by kernel_rfl
 c212:=by kernel_rfl
 c213:=by kernel_rfl
 c232:=by kernel_rfl
 c233:=by kernel_rfl}
def Sv.Qx:Go.Shelf.Ren:=⟨fun |171=>403|243=>416|246=>424|283=>428|284=>429|285=>430|286=>431|129=>253|317=>434|318=>435|319=>436|320=>437|337=>438|338=>439|n=>n,fun |3=>3|9=>9|2=>2|4=>4|171=>423|0=>0|53=>290|37=>52|5=>5|173=>425|212=>433|51=>288|20=>20|213=>434|46=>239|232=>435|233=>436|n=>n,fun |17=>5|18=>6|19=>7|n=>n⟩
theorem Sv.laysM171:Go.Proofs.LaysM.n171 Tryz.prog Sv.Qx:={
 mixed:=by kernel_rfl
 f129:=Tryz.func253.trans (congrArg some zk)
 f171:=Tryz.func403.trans (congrArg some zk)
 f243:=Tryz.func416.trans (congrArg some zk)
 f246:=Tryz.func424.trans (congrArg some zk)
 f283:=Tryz.func428.trans (congrArg some zk)
 f284:=Tryz.func429.trans (congrArg some zk)
 f285:=Tryz.func430.trans (congrArg some zk)
 f286:=Tryz.func431.trans (congrArg some zk)
 f317:=Tryz.func434.trans (congrArg some zk)
 f318:=Tryz.func435.trans (congrArg some zk)
 f319:=Tryz.func436.trans (congrArg some zk)
 f320:=Tryz.func437.trans (congrArg some zk)
 f337:=Tryz.func438.trans (congrArg some zk)
 f338:=Tryz.func439.trans (congrArg some zk)
 t0:=Tryz.underlying0
 a0:=Tryz.isAgg0
 z0:=Tryz.sizeOf0
 v0:=Tryz.zeroValue0
 t2:=Tryz.underlying2
 a2:=Tryz.isAgg2
 z2:=Tryz.sizeOf2
 v2:=Tryz.zeroValue2
 t3:=Tryz.underlying3
 a3:=Tryz.isAgg3
 z3:=Tryz.sizeOf3
 v3:=Tryz.zeroValue3
 t4:=Tryz.underlying4
 a4:=Tryz.isAgg4
 z4:=Tryz.sizeOf4
 v4:=Tryz.zeroValue4
 t5:=Tryz.underlying5
 a5:=Tryz.isAgg5
 z5:=Tryz.sizeOf5
 v5:=Tryz.zeroValue5
 t9:=Tryz.underlying9
 a9:=Tryz.isAgg9
 z9:=Tryz.sizeOf9
 v9:=Tryz.zeroValue9
 t20:=Tryz.underlying20
 a20:=Tryz.isAgg20
 z20:=Tryz.sizeOf20
 v20:=Tryz.zeroValue20
 t37:=Tryz.underlying52
 a37:=Tryz.isAgg52
 z37:=Tryz.sizeOf52
 v37:=Tryz.zeroValue52
 t46:=Tryz.underlying239
 a46:=Tryz.isAgg239
 z46:=Tryz.sizeOf239
 v46:=Tryz.zeroValue239
 t51:=Tryz.underlying288
 a51:=Tryz.isAgg288
 z51:=Tryz.sizeOf288
 v51:=Tryz.zeroValue288
 t53:=Tryz.underlying290
 a53:=Tryz.isAgg290
 z53:=Tryz.sizeOf290
 v53:=Tryz.zeroValue290
 t171:=Tryz.underlying423
 a171:=Tryz.isAgg423
 z171:=Tryz.sizeOf423
 v171:=Tryz.zeroValue423
 t173:=Tryz.underlying425
 a173:=Tryz.isAgg425
 z173:=Tryz.sizeOf425
 v173:=Tryz.zeroValue425
 t212:=Tryz.underlying433
 a212:=Tryz.isAgg433
 z212:=Tryz.sizeOf433
 v212:=Tryz.zeroValue433
 t213:=Tryz.underlying434
 a213:=Tryz.isAgg434
 z213:=Tryz.sizeOf434
 t232:=Tryz.underlying435
 a232:=Tryz.isAgg435
 z232:=Tryz.sizeOf435
 v232:=Tryz.zeroValue435
 t233:=Tryz.underlying436
 a233:=Tryz.isAgg436
 z233:=Tryz.sizeOf436
 v233:=Tryz.zeroValue436
 g17:=by kernel_rfl
 g18:=by kernel_rfl
 g19:=by kernel_rfl
 i0:=by kernel_rfl
 i2:=by kernel_rfl
 i3:=by kernel_rfl
 i4:=by kernel_rfl
 i5:=by kernel_rfl
 i9:=by kernel_rfl
 i20:=by kernel_rfl
 i37:=by kernel_rfl
 i46:=by kernel_rfl
 i51:=by kernel_rfl
 i53:=by kernel_rfl
 i171:=by kernel_rfl
 i173:=by kernel_rfl
 i212:=by kernel_rfl
 i232:=by kernel_rfl
 i233:=by kernel_rfl
 m17:=by kernel_rfl
 m18:=by kernel_rfl
 m19:=by kernel_rfl}
def Sv.Uf:Go.Shelf.Ren:=⟨fun |143=>256|219=>325|217=>365|225=>366|224=>367|267=>368|266=>399|314=>400|n=>n,fun |9=>9|3=>3|4=>4|5=>5|46=>239|146=>393|51=>288|n=>n,fun |1=>0|n=>n⟩
theorem Sv.lays143:Go.Proofs.Lays.n143 Tryz.prog Sv.Uf:={
 mixed:=by kernel_rfl
 f143:=Tryz.func256.trans (congrArg some zk)
 f217:=Tryz.func365.trans (congrArg some zk)
 f219:=Tryz.func325.trans (congrArg some zk)
 f224:=Tryz.func367.trans (congrArg some zk)
 f225:=Tryz.func366.trans (congrArg some zk)
 f266:=Tryz.func399.trans (congrArg some zk)
 f267:=Tryz.func368.trans (congrArg some zk)
 f314:=Tryz.func400.trans (congrArg some zk)
 t3:=Tryz.underlying3
 a3:=Tryz.isAgg3
 z3:=Tryz.sizeOf3
 v3:=Tryz.zeroValue3
 t4:=Tryz.underlying4
 a4:=Tryz.isAgg4
 z4:=Tryz.sizeOf4
 v4:=Tryz.zeroValue4
 t5:=Tryz.underlying5
 a5:=Tryz.isAgg5
 z5:=Tryz.sizeOf5
 v5:=Tryz.zeroValue5
 t9:=Tryz.underlying9
 a9:=Tryz.isAgg9
 z9:=Tryz.sizeOf9
 v9:=Tryz.zeroValue9
 t46:=Tryz.underlying239
 a46:=Tryz.isAgg239
 z46:=Tryz.sizeOf239
 v46:=Tryz.zeroValue239
 t51:=Tryz.underlying288
 a51:=Tryz.isAgg288
 z51:=Tryz.sizeOf288
 v51:=Tryz.zeroValue288
 t146:=Tryz.underlying393
 a146:=Tryz.isAgg393
 z146:=Tryz.sizeOf393
 v146:=Tryz.zeroValue393
 g1:=by kernel_rfl}
def Sv.AQ:Go.Shelf.Ren:=⟨fun |122=>235|215=>315|n=>n,fun |3=>3|4=>4|n=>n,fun |n=>n⟩
theorem Sv.P8:Go.Proofs.Lays.n122 Tryz.prog Sv.AQ:={
 mixed:=by kernel_rfl
 f122:=Tryz.func235.trans (congrArg some zk)
 f215:=Tryz.func315.trans (congrArg some zk)
 t3:=Tryz.underlying3
 a3:=Tryz.isAgg3
 z3:=Tryz.sizeOf3
 v3:=Tryz.zeroValue3
 t4:=Tryz.underlying4
 a4:=Tryz.isAgg4
 z4:=Tryz.sizeOf4
 v4:=Tryz.zeroValue4}
theorem Sv.strconv_Atoi_ok(s:ByteArray)(hmax:s.size<=9223372036854775806)(v:Int)(h:Lib.atoiAll s.data.toList= .ok v)(w:World):Calls Tryz.prog 402 #[.string s] w fun e w'=>e= .returned (.tuple #[.int .i64 v,.nilIface])/\(w'=w\/ ∃t,w'=Lib.bytesWorld w 5 t):=Any.strconv_Atoi_ok Sv.laysC172 s hmax v h w
theorem Sv.Ht(s:ByteArray)(hlim:s.size<=281474976710656)(h:Lib.atoiAll s.data.toList=Lib.atoiAll [])(tp:TypeId)(p:Value)(w:World)(hvar:w.var? Tryz.prog "strconv.ErrSyntax" =some #[.iface tp p]):Calls Tryz.prog 402 #[.string s] w fun e w'=> ∃N,e= .returned (.tuple #[.int .i64 0,.iface 413 (.pointer (some ⟨N,0,none⟩))])/\w.heap.size<=N/\w'.heap[N]? =some (.cells #[.string ⟨#[65,116,111,105]⟩,.string s,.iface tp p] 421 (0,0))/\Below w.heap.size w w':=Any.strconv_Atoi_syntax_var Sv.laysC172 s hlim h tp p w hvar
theorem Sv.strconv_Atoi_range_var(s:ByteArray)(hlim:s.size<=281474976710656)(h:Lib.atoiAll s.data.toList= .range)(tp:TypeId)(p:Value)(w:World)(hvar:w.var? Tryz.prog "strconv.ErrRange" =some #[.iface tp p]):Calls Tryz.prog 402 #[.string s] w fun e w'=> ∃N,e= .returned (.tuple #[.int .i64 (Lib.atoiSat s.data.toList),.iface 413 (.pointer (some ⟨N,0,none⟩))])/\w.heap.size<=N/\w'.heap[N]? =some (.cells #[.string ⟨#[65,116,111,105]⟩,.string s,.iface tp p] 421 (0,0))/\Below w.heap.size w w':=Any.strconv_Atoi_range_var Sv.laysC172 s hlim h tp p w hvar
theorem Sv.strconv_Itoa(n:Int)(h0: -9223372036854775808<=n)(h1:n<=9223372036854775807)(w:World)(htab:Lib.TabIs Tryz.prog w "internal/strconv.uint64pow10" .u64 Lib.pow10Tab):Calls Tryz.prog 403 #[.int .i64 n] w fun e w'=>e= .returned (.string ⟨(Lib.itoa n).toArray⟩)/\∃k os,w'=grow (w.drewN k) os:=Any.strconv_Itoa Sv.laysM171 n h0 h1 w htab
theorem Sv.strings_Index_one(s:ByteArray)(c:UInt8)(w:World):Calls Tryz.prog 256 #[.string s,.string ⟨#[c]⟩] w fun e w'=>e= .returned (.int .i64 (Lib.indexByte s.data.toList c))/\w'=w:=Any.strings_Index_one Sv.lays143 s c w
theorem Sv.cmp_Compare_int(x y:Int)(w:World):Calls Tryz.prog 235 #[.int .i64 x,.int .i64 y] w fun e w'=>e= .returned (.int .i64 (Lib.compareInt x y))/\w'=w:=Any.cmp_Compare_int Sv.P8 x y w
end Go.Proofs.YtdmmebjjojimiaaGreatDoor
