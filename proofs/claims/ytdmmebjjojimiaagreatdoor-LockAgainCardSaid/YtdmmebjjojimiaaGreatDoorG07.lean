/- VnP1 VnP2 VnP3, in one text. -/
import Derived.Test.YtdmmebjjojimiaaGreatDoorG00
import Derived.Lib.AtoiAll
import Derived.Lib.ItoaNum
set_option maxRecDepth 100000
set_option maxHeartbeats 8000000
set_option linter.all false
namespace Go.Proofs
theorem zCd{p:Prop}(h:p:=by simpa using h3):p:=h
theorem zCj{p:Prop}(h:p:=by omega):p:=h
theorem zHZ{p:Prop}(h:p:=by decide):p:=h
theorem zCt{p:Prop}(h:p:=by simp):p:=h
theorem zGT{p:Prop}(h:p:=by
 have:=congrArg UInt8.toNat e'
 rw[UInt8.toNat_ofNat']at this
 have h48:(48:UInt8).toNat=48:=rfl
 omega):p:=h
theorem zHI{p:Prop}(h:p:=by
 cases hh:xJ l with
 |false=>rfl
 |true=>rw[aac hh]at h;exact nomatch h):p:=h
theorem zHO{p:Prop}(h:p:=by simp at h;omega):p:=h
theorem zHP{p:Prop}(h:p:=by decide):p:=h
end Go.Proofs
namespace Go.Proofs.YtdmmebjjojimiaaGreatDoor
namespace Vn
open Go.Lib
def ku(c:UInt8):Bool:=decide (48<=c.toNat/\c.toNat<=57)
def isLt(c:UInt8):Bool:=decide (97<=c.toNat/\c.toNat<=122)
def GZ(l:List UInt8):Bool:=l.all ku&& !l.isEmpty
def xJ(l:List UInt8):Bool:=l.all isLt&& !l.isEmpty
def wW(l:List UInt8):Bool:=GZ l&&decide (l.length<=9)&&(l==[48]||l.head? != some 48)
def gI(l:List UInt8):Bool:=xJ l||wW l
def val(acc:Nat)(l:List UInt8):Nat:=l.foldl (fun a c=>a*10+(c.toNat-48)) acc
theorem nD{c:UInt8}:ku c=true↔48<=c.toNat/\c.toNat<=57:=by unfold ku;rw[yP]
theorem VT{c:UInt8}:isLt c=true↔97<=c.toNat/\c.toNat<=122:=by unfold isLt;rw[yP]
theorem Yv:∀(l:List UInt8) (acc k:Nat),(∀c∈l,ku c=true)->acc<10^k->val acc l<10^(k+l.length)
 | [],acc,k,_,h=>by simpa[val]using h
 |c::r,acc,k,hd,h=>by
  have hc:=nD.1 (hd c qQ)
  have:=Yv r (acc*10+(c.toNat-48)) (k+1) (fun d hd'=>hd d (yE _ hd')) (by rw[Nat.pow_succ];omega)
  show val (acc*10+(c.toNat-48)) r<_
  rw[qN,show k+(r.length+1)=k+1+r.length by omega]
  exact this
theorem Ru:∀(l:List UInt8) (acc k:Nat),(∀c∈l,ku c=true)->acc<10^k->k+l.length<=18->parseUint10 acc l= .ok (val acc l)
 | [],acc,k,_,_,_=>rfl
 |c::r,acc,k,hd,h,hk=>by
  have hc:=nD.1 (hd c qQ)
  simp only[qN]at hk
  have h17:acc<10^17:=Nat.lt_of_lt_of_le h (Nat.pow_le_pow_right zHP zCj)
  have e17:(10:Nat)^17=100000000000000000:=zHZ
  rw[e17]at h17
  simp only[parseUint10]
  rw[if_pos hc,if_neg (by omega),if_neg zCj]
  exact Ru r (acc*10+(c.toNat-48)) (k+1) (fun d hd'=>hd d (yE _ hd')) (by rw[Nat.pow_succ];omega) zCj
theorem adq(acc:Nat)(l:List UInt8)(c:UInt8):val acc (l++[c])=val acc l*10+(c.toNat-48):=by unfold val;rw[List.foldl_append];rfl
theorem adr:∀(l:List UInt8) (acc:Nat),acc<=val acc l
 | [],_=>qH _
 |c::r,acc=>qR zCj (adr r (acc*10+(c.toNat-48)))
theorem byte_of{c:UInt8}(h:ku c=true):UInt8.ofNat (48+(c.toNat-48))=c:=by have:=nD.1 h;rw[show 48+(c.toNat-48)=c.toNat by omega,UInt8.ofNat_toNat]
theorem MW:∀(n:Nat) (l:List UInt8),l.length=n->(∀c∈l,ku c=true)->l≠[]->(l=[48]\/l.head?≠some 48)->decDigits (val 0 l)=l
 |0,l,hn,_,hne,_=>absurd (yF hn) hne
 |n+1,l,hn,hd,hne,hz=>by
  obtain⟨l',c,rfl⟩:∃l' c,l=l'++[c]:=⟨l.dropLast,l.getLast hne,(List.dropLast_concat_getLast hne).symm⟩
  have hc:=hd c zCt
  have hc':=nD.1 hc
  rw[adq]
  cases l' with
  |nil=>
   have hv:val 0 ([]:List UInt8)=0:=rfl
   rw[hv,decDigits,dif_pos zCj,Nat.zero_mul,Nat.zero_add,byte_of hc]
   rfl
  |cons a r=>
   have hz2:(a::r).head?≠some 48:=by
    rcases hz with h|h
    ·have:=congrArg List.length h
     simp at this
    ·simpa using h
   have ha:=nD.1 (hd a zCt)
   have ha2:a.toNat≠48:=fun e=>hz2 (by
    show some a=some 48
    congr 1
    exact UInt8.toNat_inj.1 e)
   have hge:1<=val 0 (a::r):=by
    refine qR ?_ (adr r (0*10+(a.toNat-48)))
    omega
   have hl:(a::r).length=n:=by simpa using hn
   have ih:=MW n (a::r) hl (fun d hd'=>hd d (by rw[qW];exact .inl hd')) zCt (.inr hz2)
   rw[decDigits,dif_neg zCj]
   rw[show(val 0 (a::r)*10+(c.toNat-48))/10=val 0 (a::r) by omega,show(val 0 (a::r)*10+(c.toNat-48))%10=c.toNat-48 by omega,ih,byte_of hc]
theorem VU{d:Nat}(h:d<10):ku (UInt8.ofNat (48+d))=true:=by rw[nD,UInt8.toNat_ofNat'];omega
theorem agy(u:Nat):(∀c∈decDigits u,ku c=true)/\decDigits u≠[]/\(decDigits u=[48]\/(decDigits u).head?≠some 48):=by
 induction u using Nat.strongRecOn with
 |_ u ih=>
  by_cases h:u<10
  ·rw[decDigits,dif_pos h];refine⟨fun c hc=>by rw[yJ.1 hc];exact VU h,by simp,?_⟩;by_cases h0:u=0;·subst h0;exact .inl rfl
   refine .inr fun e=>?_;have e':UInt8.ofNat (48+u)=48:=by simpa using e
   exact zGT
  rw[decDigits,dif_neg h];obtain⟨h1,h2,h3⟩:=ih (u/10) zCj;refine⟨fun c hc=>?_,by simp,.inr ?_⟩
  ·rcases qW.1 hc with hc|hc;·exact h1 c hc
   rw[yJ.1 hc];exact VU zCj
  rcases h3 with h3|h3
  ·-- the number above is 0: not so
   exfalso;have:u/10=0:=by
    by_cases hb:u/10<10;·rw[decDigits,dif_pos hb]at h3;have e':UInt8.ofNat (48+u/10)=48:=zCd;exact zGT
    rw[decDigits,dif_neg hb]at h3;have h6:=congrArg List.length h3;have h4:=(ih (u/10/10) zCj).2.1;have h5:0<(decDigits (u/10/10)).length:=List.length_pos_iff.2 h4;rw[qK]at h6;simp at h6;exact absurd h6 h4
   omega
  intro e;refine h3 ?_;cases hh:decDigits (u/10)with
  |nil=>exact absurd hh h2
  |cons a r=>rw[hh]at e;simpa using e
theorem ND:∀(k u:Nat),1<=k->u<10^k->nDigits u<=k
 |0,_,h,_=>by omega
 |k+1,u,_,h=>by
  by_cases hu:u<10
  ·rw[nDigits_small hu];omega
  ·rw[nDigits_big hu]
   rw[Nat.pow_succ]at h
   have h1:1<=k:=by
    rcases Nat.eq_zero_or_pos k with rfl|h'
    ·simp at h;omega
    ·exact h'
   have:=ND k (u/10) h1 zCj
   omega
theorem IC{l:List UInt8}(h:wW l=true):atoiAll l= .ok (val 0 l:Int)/\(val 0 l:Int)<=999999999/\itoa (val 0 l:Int)=l:=by
 unfold wW GZ at h;simp only[Bool.and_eq_true,Bool.or_eq_true,List.all_eq_true,yP,beq_iff_eq,bne_iff_ne,Bool.not_eq_true',List.isEmpty_eq_false_iff]at h;obtain⟨⟨⟨h1,h2⟩,h3⟩,h4⟩:=h;have hv:=Yv l 0 0 h1 zHZ;have hv9:val 0 l<10^9:=Nat.lt_of_lt_of_le hv (Nat.pow_le_pow_right zHP zCj);have e9:(10:Nat)^9=1000000000:=zHZ;rw[e9]at hv9;have hp:=Ru l 0 0 h1 zHP zCj;refine⟨?_,by omega,?_⟩
 ·cases l with
  |nil=>exact absurd rfl h2
  |cons c r=>
   have hc:=nD.1 (h1 c qQ);have hm:parseMag (c::r)= .ok (val 0 (c::r)):=by unfold parseMag;rw[if_neg zCt];exact hp
   unfold atoiAll;simp only;rw[if_neg zCj,hm];simp only;rw[if_neg (by omega),if_neg (by omega),if_neg zCj]
 unfold itoa;rw[if_neg zCj,yT];exact MW _ l rfl h1 h2 h4
theorem ads{l:List UInt8}{n:Int}(h0:0<=n)(h9:n<=999999999)(hi:itoa n=l):wW l=true:=by
 unfold itoa at hi;rw[if_neg zCj]at hi;obtain⟨h1,h2,h3⟩:=agy n.toNat;rw[hi]at h1 h2 h3;have hl:l.length<=9:=by rw[<-hi,decDigits_length];refine ND 9 _ zHZ ?_;have e9:(10:Nat)^9=1000000000:=zHZ;rw[e9];omega
 unfold wW GZ;simp only[Bool.and_eq_true,Bool.or_eq_true,List.all_eq_true,yP,beq_iff_eq,bne_iff_ne,Bool.not_eq_true',List.isEmpty_eq_false_iff];exact⟨⟨⟨h1,h2⟩,hl⟩,h3⟩
theorem aac{l:List UInt8}(h:xJ l=true):atoiAll l=atoiAll []:=by
 unfold xJ at h;simp only[Bool.and_eq_true,List.all_eq_true,Bool.not_eq_true',List.isEmpty_eq_false_iff]at h;obtain⟨h1,h2⟩:=h;cases l with
 |nil=>exact absurd rfl h2
 |cons c r=>
  have hc:=VT.1 (h1 c qQ);have hm:parseMag (c::r)=parseMag []:=by show(if c::r=[]then _ else parseUint10 0 (c::r))=_;rw[if_neg zCt];simp only[parseUint10];rw[if_neg zCj];rfl
  unfold atoiAll;simp only;rw[if_neg zCj,hm];rfl
end Vn
namespace Vn
open Go.Lib
abbrev By:=List UInt8
def fU(a:By):Nat:=if a=[]then 1 else if xJ a=true then 0 else 2
def numeral(a:By):Nat:=if a=[]then 0 else if xJ a=true then 0 else val 0 a
def eU(a:By):By:=if xJ a=true then a else []
def Yw(a:By):Prop:=a=[]\/gI a=true
def Ar(a b:By):Prop:=fU a<fU b\/(fU a=fU b/\(numeral a<numeral b\/(numeral a=numeral b/\eU a<eU b)))
instance (a b:By):Decidable (Ar a b):=by unfold Ar;infer_instance
theorem JV(a:By):¬a<a:=List.lt_irrefl a
theorem adt{a b c:By}(h1:a<b)(h2:b<c):a<c:=List.lt_trans h1 h2
theorem VW{a b:By}(h:a≠b):a<b\/b<a:=by
 rcases Decidable.em (a<b)with h1|h1;·exact .inl h1
 rcases Decidable.em (b<a)with h2|h2;·exact .inr h2
 exact absurd (List.le_antisymm (List.not_lt.1 h2) (List.not_lt.1 h1)) h
theorem zD(a:By):¬Ar a a:=by
 unfold Ar;have:=JV (eU a);rintro(h| ⟨-,h| ⟨-,h⟩⟩);·omega
 ·omega
 exact this h
theorem Rw{a b c:By}(h1:Ar a b)(h2:Ar b c):Ar a c:=by
 unfold Ar at*;rcases h1 with h1| ⟨e1,h1| ⟨f1,h1⟩⟩<;>rcases h2 with h2| ⟨e2,h2| ⟨f2,h2⟩⟩;·exact .inl zCj
 ·exact .inl zCj
 ·exact .inl zCj
 ·exact .inl zCj
 ·exact .inr ⟨by omega,.inl zCj⟩
 ·exact .inr ⟨by omega,.inl zCj⟩
 ·exact .inl zCj
 ·exact .inr ⟨by omega,.inl zCj⟩
 exact .inr ⟨by omega,.inr ⟨by omega,adt h1 h2⟩⟩
theorem La{a:By}(h:xJ a=true):GZ a=false:=by
 unfold xJ at h;unfold GZ;simp only[Bool.and_eq_true,List.all_eq_true,Bool.not_eq_true',List.isEmpty_eq_false_iff]at h;obtain⟨h1,h2⟩:=h;cases a with
 |nil=>exact absurd rfl h2
 |cons c r=>
  have hc:=VT.1 (h1 c qQ);have:ku c=false:=by
   cases hh:ku c;·rfl
   have:=nD.1 hh;omega
  simp[this]
theorem oQ{a:By}(h:wW a=true):(∀c∈a,ku c=true)/\a≠[]/\a.length<=9/\(a=[48]\/a.head?≠some 48):=by unfold wW GZ at h;simp only[Bool.and_eq_true,Bool.or_eq_true,List.all_eq_true,yP,beq_iff_eq,bne_iff_ne,Bool.not_eq_true',List.isEmpty_eq_false_iff]at h;exact⟨h.1.1.1,h.1.1.2,h.1.2,h.2⟩
theorem key_inj{a b:By}(ha:Yw a)(hb:Yw b)(h1:fU a=fU b)(h2:numeral a=numeral b)(h3:eU a=eU b):a=b:=by
 unfold fU at h1;unfold numeral at h2;unfold eU at h3;rcases ha with rfl|ha
 ·rcases hb with rfl|hb;·rfl
  rw[if_pos rfl]at h1;split at h1;·rename_i e;exact e.symm
  split at h1<;>omega
 rcases hb with rfl|hb
 ·rw[if_pos rfl]at h1;split at h1;·assumption
  split at h1<;>omega
 unfold gI at ha hb;rw[Bool.or_eq_true]at ha hb;by_cases la:xJ a=true
 ·by_cases lb:xJ b=true;·rw[if_pos la,if_pos lb]at h3;exact h3
  exfalso;have nb:=hb.resolve_left lb;have na:a≠[]:=by rintro rfl;simp[xJ]at la
  rw[if_neg na,if_pos la,if_neg (oQ nb).2.1,if_neg lb]at h1;omega
 have na:=ha.resolve_left la;by_cases lb:xJ b=true
 ·exfalso;have nb:b≠[]:=by rintro rfl;simp[xJ]at lb
  rw[if_neg (oQ na).2.1,if_neg la,if_neg nb,if_pos lb]at h1;omega
 have nb:=hb.resolve_left lb;rw[if_neg (oQ na).2.1,if_neg la,if_neg (oQ nb).2.1,if_neg lb]at h2;obtain⟨a1,a2,a3,a4⟩:=oQ na;obtain⟨b1,b2,b3,b4⟩:=oQ nb;have ea:=MW _ a rfl a1 a2 a4;have eb:=MW _ b rfl b1 b2 b4;rw[<-ea,<-eb,h2]
theorem aa1{a b:By}(ha:Yw a)(hb:Yw b)(h:a≠b):Ar a b\/Ar b a:=by
 unfold Ar;rcases Nat.lt_trichotomy (fU a) (fU b)with h1|h1|h1;·exact .inl (.inl h1)
 ·rcases Nat.lt_trichotomy (numeral a) (numeral b)with h2|h2|h2;·exact .inl (.inr ⟨h1,.inl h2⟩)
  ·by_cases h3:eU a=eU b;·exact absurd (key_inj ha hb h1 h2 h3) h
   rcases VW h3 with h4|h4;·exact .inl (.inr ⟨h1,.inr ⟨h2,h4⟩⟩)
   exact .inr (.inr ⟨h1.symm,.inr ⟨h2.symm,h4⟩⟩)
  exact .inr (.inr ⟨h1.symm,.inl h2⟩)
 exact .inr (.inl h1)
theorem TS:∀(a b:By) (m n:Nat),a.length=b.length->(∀c∈a,ku c=true)->(∀c∈b,ku c=true)->m<n->val m a<val n b
 | [],[],m,n,_,_,_,h=>h
 | [],_::_,_,_,hl,_,_,_=>by simp at hl
 |_::_,[],_,_,hl,_,_,_=>by simp at hl
 |c::a,d::b,m,n,hl,ha,hb,h=>by
  have hc:=nD.1 (ha c qQ)
  have hd:=nD.1 (hb d qQ)
  show val (m*10+(c.toNat-48)) a<val (n*10+(d.toNat-48)) b
  exact TS a b _ _ (by simpa using hl) (fun x hx=>ha x (yE _ hx)) (fun x hx=>hb x (yE _ hx)) zCj
theorem aad:∀(a b:By) (m:Nat),a.length=b.length->(∀c∈a,ku c=true)->(∀c∈b,ku c=true)->(val m a<val m b↔a<b)
 | [],[],m,_,_,_=>by simp[]
 | [],_::_,_,hl,_,_=>by simp at hl
 |_::_,[],_,hl,_,_=>by simp at hl
 |c::a,d::b,m,hl,ha,hb=>by
  have hc:=nD.1 (ha c qQ)
  have hd:=nD.1 (hb d qQ)
  have hl':a.length=b.length:=by simpa using hl
  have ha':∀x∈a,ku x=true:=fun x hx=>ha x (yE _ hx)
  have hb':∀x∈b,ku x=true:=fun x hx=>hb x (yE _ hx)
  show val (m*10+(c.toNat-48)) a<val (m*10+(d.toNat-48)) b↔_
  rw[List.cons_lt_cons_iff]
  rcases Nat.lt_trichotomy c.toNat d.toNat with h|h|h
  ·have:=TS a b (m*10+(c.toNat-48)) (m*10+(d.toNat-48)) hl' ha' hb' zCj
   exact⟨fun _=>.inl (UInt8.lt_iff_toNat_lt.2 h),fun _=>this⟩
  ·have e:c=d:=UInt8.toNat_inj.1 h
   subst e
   rw[aad a b _ hl' ha' hb']
   exact⟨fun h2=>.inr ⟨rfl,h2⟩,fun h2=>h2.elim (fun h3=>by have:=UInt8.lt_iff_toNat_lt.1 h3;omega) (fun h3=>h3.2)⟩
  ·have:=TS b a (m*10+(d.toNat-48)) (m*10+(c.toNat-48)) hl'.symm hb' ha' zCj
   refine⟨fun h2=>by omega,fun h2=>h2.elim (fun h3=>by have:=UInt8.lt_iff_toNat_lt.1 h3;omega) (fun h3=>by rw[h3.1]at h;omega)⟩
theorem adu:∀(a:By) (m:Nat),(∀c∈a,ku c=true)->m*10^a.length<=val m a
 | [],m,_=>by simp[val]
 |c::a,m,h=>by
  have:=adu a (m*10+(c.toNat-48)) (fun x hx=>h x (yE _ hx))
  show _<=val (m*10+(c.toNat-48)) a
  refine qR ?_ this
  rw[qN,Nat.pow_succ,Nat.mul_comm (10^a.length),<-Nat.mul_assoc]
  exact Nat.mul_le_mul_right _ zCj
theorem aae{a b:By}(ha:wW a=true)(hb:wW b=true)(h:a.length<b.length):val 0 a<val 0 b:=by
 obtain⟨a1,a2,a3,a4⟩:=oQ ha;obtain⟨b1,b2,b3,b4⟩:=oQ hb;have h1:=Yv a 0 0 a1 zHZ;rw[Nat.zero_add]at h1;have hal:1<=a.length:=List.length_pos_iff.2 a2;cases b with
 |nil=>exact absurd rfl b2
 |cons d r=>
  have hd:=nD.1 (b1 d qQ);have hne:(d::r).head?≠some 48:=by
   rcases b4 with e|e;·rw[e]at h;have h':a.length<1:=h;omega
   exact e
  have hd2:d.toNat≠48:=fun e=>hne (by
   show some d=some 48
   congr 1
   exact UInt8.toNat_inj.1 e)
  have h2:=adu r (0*10+(d.toNat-48)) (fun x hx=>b1 x (yE _ hx));have h3:10^a.length<=10^r.length:=Nat.pow_le_pow_right zHZ zHO;have h4:10^r.length<=(0*10+(d.toNat-48))*10^r.length:=Nat.le_mul_of_pos_left _ zCj;show val 0 a<val (0*10+(d.toNat-48)) r;exact Nat.lt_of_lt_of_le h1 (qR h3 (qR h4 h2))
theorem aiE{a b:By}(ha:wW a=true)(hb:wW b=true):val 0 a<val 0 b↔(a.length<b.length\/(a.length=b.length/\a<b)):=by
 rcases Nat.lt_trichotomy a.length b.length with h|h|h;·exact⟨fun _=>.inl h,fun _=>aae ha hb h⟩
 ·rw[aad a b 0 h (oQ ha).1 (oQ hb).1];exact⟨fun h2=>.inr ⟨h,h2⟩,fun h2=>h2.elim (fun h3=>by omega) (fun h3=>h3.2)⟩
 have:=aae hb ha h;exact⟨fun h2=>by omega,fun h2=>by omega⟩
def Yx(a b:By):Bool:=
 if a=b then false else if a=[]then GZ b else if b=[]then xJ a else
 if (xJ a != xJ b)=true then xJ a else if (GZ a&&(a.length != b.length))=true then decide (a.length<b.length)else decide (a<b)
theorem aaf{a b:By}(ha:Yw a)(hb:Yw b):Yx a b=true↔Ar a b:=by
 unfold Yx;by_cases e:a=b;·subst e;rw[if_pos rfl];exact⟨fun h=>by simp at h,fun h=>absurd h (zD a)⟩
 rw[if_neg e];by_cases na:a=[]
 ·subst na;rw[if_pos rfl];have nb:b≠[]:=fun h=>e h.symm;have pb:=hb.resolve_left nb;unfold Ar fU;rw[if_pos rfl,if_neg nb];unfold gI at pb;rw[Bool.or_eq_true]at pb;by_cases lb:xJ b=true;·rw[La lb,if_pos lb];exact⟨fun h=>(by cases h),fun h=>zCj⟩
  rw[if_neg lb];have:=pb.resolve_left lb;unfold wW at this;simp only[Bool.and_eq_true]at this;exact⟨fun _=>.inl zCj,fun _=>this.1.1⟩
 rw[if_neg na];have pa:=ha.resolve_left na;unfold gI at pa;rw[Bool.or_eq_true]at pa;by_cases nb:b=[]
 ·subst nb;rw[if_pos rfl];unfold Ar fU;rw[if_neg na,if_pos rfl];by_cases la:xJ a=true;·rw[if_pos la];exact⟨fun _=>.inl zCj,fun _=>la⟩
  rw[if_neg la];exact⟨fun h=>absurd h la,fun h=>by omega⟩
 rw[if_neg nb];have pb:=hb.resolve_left nb;unfold gI at pb;rw[Bool.or_eq_true]at pb;unfold Ar fU numeral eU;rw[if_neg na,if_neg nb];by_cases la:xJ a=true
 ·by_cases lb:xJ b=true
  ·rw[la,lb,La la];simp only[if_true,bne_self_eq_false,Bool.false_eq_true,if_false,yQ,yP,if_neg na,if_neg nb];constructor;·intro h;exact .inr ⟨trivial,.inr ⟨trivial,h⟩⟩
   rintro(h| ⟨-,h| ⟨-,h⟩⟩);·omega
   ·omega
   exact h
  have lb':xJ b=false:=by simpa using lb
  rw[la,lb'];simp
 have la':xJ a=false:=by simpa using la
 have na':=pa.resolve_left la;by_cases lb:xJ b=true;·rw[la',lb];simp
 have lb':xJ b=false:=by simpa using lb
 have nb':=pb.resolve_left lb;have da:GZ a=true:=by unfold wW at na';simp only[Bool.and_eq_true]at na';exact na'.1.1
 rw[la',lb',da];simp only[bne_self_eq_false,Bool.false_eq_true,if_false,yR,bne_iff_ne,if_neg na,if_neg nb];have hn:=aiE na' nb';constructor
 ·intro h;refine .inr ⟨trivial,.inl (hn.2 ?_)⟩;split at h;·exact .inl (of_decide_eq_true h)
  rename_i hl;exact .inr ⟨by omega,of_decide_eq_true h⟩
 rintro(h| ⟨-,h| ⟨-,h⟩⟩);·omega
 ·have h2:=hn.1 h;split;·rename_i hl;exact qX (h2.elim id (fun h3=>absurd h3.1 hl))
  rename_i hl;exact qX (h2.elim (fun h3=>by omega) (fun h3=>h3.2))
 exact absurd h (JV _)
abbrev Ah(x:List By)(i:Nat):By:=x.getD i []
def vlt(x y:List By):Prop:= ∃i,(∀j,j<i->Ah x j=Ah y j)/\Ar (Ah x i) (Ah y i)
theorem Yy(x:List By):¬vlt x x:=fun⟨_,_,h⟩=>zD _ h
theorem aa2{x y z:List By}(h1:vlt x y)(h2:vlt y z):vlt x z:=by
 obtain⟨i,a1,b1⟩:=h1;obtain⟨k,a2,b2⟩:=h2;rcases Nat.lt_trichotomy i k with h|h|h;·exact⟨i,fun j hj=>(a1 j hj).trans (a2 j zCj),by rw[<-a2 i h];exact b1⟩
 ·subst h;exact⟨i,fun j hj=>(a1 j hj).trans (a2 j hj),Rw b1 b2⟩
 exact⟨k,fun j hj=>(a1 j zCj).trans (a2 j hj),by rw[a1 k h];exact b2⟩
theorem TT{x:List By}(h:∀a∈x,gI a=true)(i:Nat):Yw (Ah x i):=by
 by_cases hi:i<x.length;·refine .inr (h _ ?_);rw[Ah,qC,qA hi];exact qZ hi
 refine .inl ?_;rw[Ah,qC,List.getElem?_eq_none zCj];rfl
theorem agA{a:By}(h:gI a=true):a≠[]:=by rintro rfl;revert h;decide
def uw(x y:List By):Nat->Nat->Int
 |0,_=>0
 |k+1,i=>if Ar (Ah x i) (Ah y i)then -1 else if Ar (Ah y i) (Ah x i)then 1 else uw x y k (i+1)
theorem Rx{x y:List By}:∀(k i:Nat),(∀j,j<i->Ah x j=Ah y j)->(∀j,i+k<=j->Ah x j=Ah y j)->(∀j,Yw (Ah x j)/\Yw (Ah y j))->(uw x y k i<0↔vlt x y)
 |0,i,h1,h2,_=>by
  refine⟨fun h=>by simp[uw]at h,fun⟨j,_,h⟩=>?_⟩
  exfalso
  rcases yK j i with hj|hj
  ·rw[h1 j hj]at h;exact zD _ h
  ·rw[h2 j zCj]at h;exact zD _ h
 |k+1,i,h1,h2,ok=>by
  unfold uw
  by_cases c1:Ar (Ah x i) (Ah y i)
  ·rw[if_pos c1];exact⟨fun _=>⟨i,h1,c1⟩,fun _=>by omega⟩
  ·rw[if_neg c1]
   by_cases c2:Ar (Ah y i) (Ah x i)
   ·rw[if_pos c2]
    refine⟨fun h=>by omega,fun h=>absurd (aa2 h ⟨i,fun j hj=>(h1 j hj).symm,c2⟩) (Yy x)⟩
   ·rw[if_neg c2]
    have e:Ah x i=Ah y i:=by
     by_cases e:Ah x i=Ah y i
     ·exact e
     ·rcases aa1 (ok i).1 (ok i).2 e with h|h
      ·exact absurd h c1
      ·exact absurd h c2
    exact Rx k (i+1) (fun j hj=>by
     rcases yK j i with h|h
     ·exact h1 j h
     ·have e2:j=i:=by omega
      rw[e2];exact e) (fun j hj=>h2 j zCj) ok
end Vn
namespace Vn
open Go.Lib
theorem aa3{l:List UInt8}{v:Int}(h:atoiAll l= .ok v):gI l=(decide (0<=v)&&decide (v<=999999999)&&decide (itoa v=l)):=by
 have hl:xJ l=false:=by exact zHI
 unfold gI;rw[hl,Bool.false_or];cases hn:wW l with
 |true=>obtain⟨h1,h2,h3⟩:=IC hn;rw[h1]at h;cases h;rw[h3,qX zCj,qX h2,qX rfl];rfl
 |false=>
  symm;by_cases c1:0<=v
  ·by_cases c2:v<=999999999;·rw[qP (p:=itoa v=l) (fun e=>by rw[ads c1 c2 e]at hn;cases hn),Bool.and_false]
   rw[qP c2,Bool.and_false,yQ]
  rw[qP c1,yQ,yQ]
theorem adv{l:List UInt8}{v:Int}(h:atoiAll l= .ok v)(hp:gI l=true):fU l=2/\(numeral l:Int)=v/\eU l=[]:=by
 have hl:xJ l=false:=by exact zHI
 have hn:wW l=true:=by unfold gI at hp;rw[hl,Bool.false_or]at hp;exact hp
 have hne:l≠[]:=agA hp;have h1:=(IC hn).1;rw[h]at h1;unfold fU numeral eU;rw[if_neg hne,if_neg hne,hl];simp only[Bool.false_eq_true,if_false];refine⟨trivial,?_,trivial⟩;cases h1;rfl
theorem NG{l:List UInt8}(h:∀v,atoiAll l≠ .ok v):gI l=xJ l:=by
 unfold gI;cases hn:wW l with
 |true=>exact absurd (IC hn).1 (h _)
 |false=>rw[Bool.or_false]
theorem aa4{l:List UInt8}(hp:xJ l=true):fU l=0/\numeral l=0/\eU l=l:=by
 have hne:l≠[]:=by rintro rfl;revert hp;decide
 unfold fU numeral eU;rw[if_neg hne,if_neg hne,if_pos hp,if_pos hp,if_pos hp];exact⟨rfl,rfl,rfl⟩
end Vn
end Go.Proofs.YtdmmebjjojimiaaGreatDoor
