/- Ve1 Ve2 Ve3 Ve4, in one text.; Cutting a text and joining it again: plain. -/
import Derived.Test.YtdmmebjjojimiaaGreatDoorG04
import Derived.Test.YtdmmebjjojimiaaGreatDoorG07
set_option maxRecDepth 100000
set_option maxHeartbeats 8000000
set_option linter.all false
namespace Go.Proofs
theorem zBD{p:Prop}(h:p:=by simp[Value.ownBlock]at hk;omega):p:=h
theorem zBM{p:Prop}(h:p:=by unfold okS maxLen at hs;omega):p:=h
theorem zBd{p:Prop}(h:p:=by rw[yC];omega):p:=h
theorem zBs{p:Prop}(h:p:=by rw[hb];unfold isLt;rw[qP];omega):p:=h
theorem zDc{p:Prop}(h:p:=by
 clear hor
 go_wp2_with fail
 refine(HAa.out _ i t1 zAA H1.out gK.out).mono ?_
 rintro e w5 ⟨rfl,O5⟩
 have xK:=zh (gK.out.same O5)
 clear O5
 go_wp2_with fail
 refine(HAb.out _ i t2 zAA H2.out xK.out).mono ?_
 rintro e w6 ⟨rfl,O6⟩
 have Gz:=zh (xK.out.same O6)
 clear O6
 go_wp2_with fail
 refine(HB1.out _).mono ?_
 rintro e w7 ⟨rfl,O7⟩
 have pz:=zh (Gz.out.same O7)
 clear O7 HB1
 cases b1 with
 |true=>
  have hr2:true=r:=HRj.out
  subst hr2
  clear HRj
  go_wp2_with fail
  go_ret
  exact⟨rfl,Ej.out.same pz.out⟩
 |false=>
  go_wp2_with fail
  refine(HAb.out _ i t2 zAA H2.out pz.out).mono ?_
  rintro e w8 ⟨rfl,O8⟩
  have uH:=zh (pz.out.same O8)
  clear O8
  go_wp2_with fail
  refine(HAa.out _ i t1 zAA H1.out uH.out).mono ?_
  rintro e w9 ⟨rfl,O9⟩
  have fK:=zh (uH.out.same O9)
  clear O9
  go_wp2_with fail
  refine(HB2.out _).mono ?_
  rintro e w10 ⟨rfl,Qy⟩
  have uY:=zh (fK.out.same Qy)
  clear Qy HB2
  cases b2 with
  |true=>
   have hr2:false=r:=HRj.out
   subst hr2
   clear HRj
   go_wp2_with fail
   go_ret
   exact⟨rfl,Ej.out.same uY.out⟩
  |false=>
   have HRk:Hid (DX (la.map ByteArray.toList) (lb.map ByteArray.toList) (m-(i+1)) (i+1)=r):=HRj.out
   go_wp2_with fail
   go_roundw
   case rel=>exact⟨uY,i+1,by first|rfl|go_num,by omega,HRk⟩
   case measure=>simp[RowKit.intOf]<;>omega):p:=h
theorem zDo{p:Prop}(h:p:=by
 go_wp2_with fail
 go_ret
 exact⟨rfl,Only.refl _ _⟩):p:=h
theorem zDy{p:Prop}(h:p:=by
 go_wp2_with fail
 go_ret
 exact⟨rfl,HO.out⟩):p:=h
theorem zEH{p:Prop}(h:p:=by
 go_wp2_with fail
 go_ret
 exact⟨rfl,eF.out⟩):p:=h
theorem zEi{p:Prop}(h:p:=by
 go_wp2_with fail
 go_ret
 exact⟨rfl,aI.out⟩):p:=h
theorem zE9{p:Prop}(h:p:=by
 go_wp2_with fail
 go_loopw [3] (fun vi wr=>adf w 0 vi wr) (fun v _=>0-(RowKit.intOf v).toNat)
 case atStart=>exact⟨show Hid _ from Only.refl _ _,0,rfl,qE _⟩
 case round=>
  obtain⟨HO,i,rfl,hi⟩:=hrel
  obtain rfl:i=0:=by omega
  exact zDy):p:=h
theorem zFi{p:Prop}(h:p:=by
 go_wp2_with fail
 go_ret
 exact⟨rfl,kD.out⟩):p:=h
theorem zGK{p:Prop}(h:p:=by
 obtain rfl:i=s.size:=by omega
 have hrt:r=true:=by
  rw[<-HR2.out,<-HA.out,take_size]
 subst hrt
 exact zDy):p:=h
theorem zGL{p:Prop}(h:p:=by
 rw[<-aZ.out,qP h0,Bool.not_false,Bool.and_true]
 exact rfl):p:=h
theorem zGN{p:Prop}(h:p:=by
 rcases qW.1 ht with h|h
 ·exact Hk.out t h
 ·obtain rfl:=yJ.1 h
  exact BA (by unfold okS maxLen;omega) _ _):p:=h
theorem zGj{p:Prop}(h:p:=by rw[<-aZ.out,qX h0,Bool.not_true,Bool.and_false]):p:=h
end Go.Proofs
namespace Go.Proofs.YtdmmebjjojimiaaGreatDoor
open Go.RowKit
open Vn (GZ xJ ku isLt gI wW)
section
variable {w w':World} {B:Nat}
theorem bC(s:Str):s.toList.length=s.size:=by rw[ByteArray.toList_eq,Array.length_toList];rfl
theorem y7{s:Str}{i:Nat}(h:i<s.size):s.toList[i]? =some s[i]:=by
 rw[ByteArray.toList_eq];have h2:i<s.data.toList.length:=by rw[Array.length_toList];exact h
 rw[qA h2];rfl
theorem NH{s:Str}{i:Nat}(h:i<s.toList.length)(h':i<s.size):s.toList[i]=s[i]:=by have:=y7 h';rw[qA h]at this;exact Option.some.inj this
theorem kK{s:Str}{p:UInt8->Bool}{i:Nat}(h:i<s.size):(s.toList.take (i+1)).all p=((s.toList.take i).all p&&p s[i]):=by rw[List.take_add_one,y7 h];simp[List.all_append]
theorem all_false{s:Str}{p:UInt8->Bool}{i:Nat}(h:i<s.size)(hp:p s[i]=false):s.toList.all p=false:=by
 cases hh:s.toList.all p;·rfl
 rw[List.all_eq_true]at hh;have:=hh s[i] (qT (y7 h));rw[this]at hp;cases hp
theorem take_size(s:Str):s.toList.take s.size=s.toList:=qI (by rw[bC];exact qH _)
theorem isE{s:Str}:s.toList.isEmpty=decide (s.size=0):=by rw[<-bC];cases s.toList<;>simp
theorem IE(s:Str)(hs:okS s)(r:Bool)(hr:GZ s.toList=r):Calls Tryz.prog 210 #[.string s] w (fun e w'=>e= .returned (.bool r)/\O0 w w'):=by
 have hs2:s.size<=9223372036854775807:=zBM;unfold GZ at hr;rw[isE]at hr;have aZ:=zh hr;clear hs hr;by_cases h0:s.size=0
 ·have hrf:r=false:=by exact zGj
  subst hrf;clear aZ;obtain rfl:=wB h0;clear hs2 h0;go_enter Tryz.func210,Tryz.ntmps210;exact zE9
 have hemp:s.toList.isEmpty=false:=by rw[isE,qP h0]
 have HR2:Hid (s.toList.all ku=r):=by exact zGL
 clear h0 aZ;go_enter Tryz.func210,Tryz.ntmps210;go_wp2_with fail;go_loopw [3] (fun vi wr=>Hid (O0 w wr)/\∃i:Nat,vi= .int .i64 i/\i<=s.size/\Hid ((s.toList.take i).all ku=true)) (fun v _=>s.size-(RowKit.intOf v).toNat);case atStart=>exact⟨show Hid _ from Only.refl _ _,0,rfl,qE _,show Hid _ from by simp[Hid]⟩
 case round=>
  obtain⟨HO,i,rfl,hi,HA⟩:=hrel;by_cases ci:i<s.size
  ·have iE:=zw (i+1);obtain⟨b,hb⟩:∃b:UInt8,s[i]=b:=⟨_,rfl⟩;by_cases c1:b.toNat<48
   ·have hrf:r=false:=by rw[<-HR2.out];exact all_false ci (by rw[hb];unfold ku;rw[qP];omega)
    subst hrf;go_wp2_with fail;all_goals (go_ret;exact⟨rfl,HO.out⟩)
   by_cases c2:57<b.toNat
   ·have hrf:r=false:=by rw[<-HR2.out];exact all_false ci (by rw[hb];unfold ku;rw[qP];omega)
    subst hrf;go_wp2_with fail;all_goals (go_ret;exact⟨rfl,HO.out⟩)
   have HA2:Hid ((s.toList.take (i+1)).all ku=true):=by rw[Hid,kK ci,HA.out,hb,yR];unfold ku;rw[yP];omega
   go_wp2_with fail;all_goals exact⟨⟨HO,i+1,by first|rfl|go_num,by omega,HA2⟩,by simp[RowKit.intOf]<;>omega⟩
  exact zGK
theorem JW(s:Str)(hs:okS s)(r:Bool)(hr:xJ s.toList=r):Calls Tryz.prog 289 #[.string s] w (fun e w'=>e= .returned (.bool r)/\O0 w w'):=by
 have hs2:s.size<=9223372036854775807:=zBM;unfold xJ at hr;rw[isE]at hr;have aZ:=zh hr;clear hs hr;by_cases h0:s.size=0
 ·have hrf:r=false:=by exact zGj
  subst hrf;clear aZ;obtain rfl:=wB h0;clear hs2 h0;go_enter Tryz.func289,Tryz.ntmps289;exact zE9
 have hemp:s.toList.isEmpty=false:=by rw[isE,qP h0]
 have HR2:Hid (s.toList.all isLt=r):=by exact zGL
 clear h0 aZ;go_enter Tryz.func289,Tryz.ntmps289;go_wp2_with fail;go_loopw [3] (fun vi wr=>Hid (O0 w wr)/\∃i:Nat,vi= .int .i64 i/\i<=s.size/\Hid ((s.toList.take i).all isLt=true)) (fun v _=>s.size-(RowKit.intOf v).toNat);case atStart=>exact⟨show Hid _ from Only.refl _ _,0,rfl,qE _,show Hid _ from by simp[Hid]⟩
 case round=>
  obtain⟨HO,i,rfl,hi,HA⟩:=hrel;by_cases ci:i<s.size
  ·have iE:=zw (i+1);obtain⟨b,hb⟩:∃b:UInt8,s[i]=b:=⟨_,rfl⟩;by_cases c1:b.toNat<97
   ·have hrf:r=false:=by rw[<-HR2.out];exact all_false ci zBs
    subst hrf;go_wp2_with fail;all_goals (go_ret;exact⟨rfl,HO.out⟩)
   by_cases c2:122<b.toNat
   ·have hrf:r=false:=by rw[<-HR2.out];exact all_false ci zBs
    subst hrf;go_wp2_with fail;all_goals (go_ret;exact⟨rfl,HO.out⟩)
   have HA2:Hid ((s.toList.take (i+1)).all isLt=true):=by rw[Hid,kK ci,HA.out,hb,yR];unfold isLt;rw[yP];omega
   go_wp2_with fail;all_goals exact⟨⟨HO,i+1,by first|rfl|go_num,by omega,HA2⟩,by simp[RowKit.intOf]<;>omega⟩
  exact zGK
theorem aag{s:Str}(h:0<s.size):s.toList.head?=some s[0]:=by rw[List.head?_eq_getElem?];exact y7 h
theorem aiF(s:Str)(hs:okS s)(r:Bool)(hr:gI s.toList=r):Calls Tryz.prog 209 #[.string s] w (fun e w'=>e= .returned (.bool r)/\O0 w w'):=by
 obtain⟨bl,hbl⟩:=ze (xJ s.toList);obtain⟨bd,hbd⟩:=ze (GZ s.toList);have HL:=zh (JW (w:=w) s hs bl hbl);have HD:Hid (∀W,Calls Tryz.prog 210 #[.string s] W (fun e w'=>e= .returned (.bool bd)/\O0 W w')):=fun W=>IE s hs bd hbd;unfold gI wW at hr;rw[hbl,hbd,bC]at hr;have hpos:bd=true->0<s.size:=fun h=>by rw[h]at hbd;unfold GZ at hbd;rw[isE]at hbd;simp only[Bool.and_eq_true,Bool.not_eq_true',decide_eq_false_iff_not]at hbd;omega
 clear hs hbl hbd;go_enter Tryz.func209,Tryz.ntmps209;go_wp2_with fail;refine HL.out.mono ?_;rintro e w1 ⟨rfl,O1⟩;have aI:=zh O1;clear O1 HL;cases bl with
 |true=>
  obtain rfl:true=r:=by simpa using hr
  clear hr hpos;exact zEi
 |false=>
  rw[Bool.false_or]at hr;go_wp2_with fail;refine(HD.out _).mono ?_;rintro e w2 ⟨rfl,O2⟩;have eF:=zh (aI.out.same O2);clear O2 HD;cases bd with
  |false=>
   obtain rfl:false=r:=by simpa using hr
   clear hr hpos;exact zEH
  |true=>
   have hp:=hpos rfl;rw[yR]at hr;clear hpos;by_cases h9:s.size<=9
   ·have h9':(s.size:Int)<=9:=by omega
    rw[qX h9,yR,aag hp]at hr;obtain⟨b,hb⟩:∃b:UInt8,s[0]=b:=⟨_,rfl⟩;rw[hb]at hr;obtain⟨bz,hbz⟩:∃z:Bool,(s.toList==[48])=z:=⟨_,rfl⟩;rw[hbz]at hr;cases bz with
    |true=>
     obtain rfl:true=r:=by simpa using hr
     clear hr;go_wp2_with fail;all_goals (go_ret;exact⟨rfl,eF.out⟩)
    |false=>
     rw[Bool.false_or]at hr;by_cases h48:b.toNat=48
     ·have e48:b=48:=UInt8.toNat_inj.1 h48;have h48':(((b.toNat:Nat):Int)==48)=true:=by rw[h48];rfl
      obtain rfl:false=r:=by rw[<-hr,e48];decide
      clear hr e48;go_wp2_with fail;all_goals (go_ret;exact⟨rfl,eF.out⟩)
     have h48':(((b.toNat:Nat):Int)==48)=false:=by rw[yC];omega
     have arQ:(((b.toNat:Nat):Int) != 48)=true:=by rw[bne_iff_ne];omega
     obtain rfl:true=r:=by rw[<-hr];symm;rw[bne_iff_ne];intro e;have:=Option.some.inj e;rw[this]at h48;exact h48 rfl
     clear hr;go_wp2_with fail;all_goals (go_ret;exact⟨rfl,eF.out⟩)
   have h9':¬((s.size:Int)<=9):=by omega
   rw[qP h9,yQ]at hr;obtain rfl:false=r:=hr;go_wp2_with fail;all_goals (go_ret;exact⟨rfl,eF.out⟩)
def dZ(c:UInt8):List UInt8->List (List UInt8)
 | []=>[[]]
 |b::r=>if b=c then []::dZ c r else match dZ c r with
  | []=>[[b]]
  |h::t=>(b::h)::t
theorem Au(c:UInt8):∀l,dZ c l≠[]
 | []=>by simp[dZ]
 |b::r=>by
  unfold dZ
  split
  ·simp
  ·split<;>simp
theorem F5{c:UInt8}:∀{l:List UInt8},(∀b∈l,b≠c)->dZ c l=[l]
 | [],_=>rfl
 |b::r,h=>by
  have ih:=F5 (c:=c) (l:=r) fun x hx=>h x (yE _ hx)
  unfold dZ
  rw[if_neg (h b qQ),ih]
theorem IG{c:UInt8}:∀{l r:List UInt8},(∀b∈l,b≠c)->dZ c (l++c::r)=l::dZ c r
 | [],r,_=>by
  show dZ c (c::r)=_
  rw[dZ,if_pos rfl]
 |b::l,r,h=>by
  have ih:=IG (c:=c) (l:=l) (r:=r) fun x hx=>h x (yE _ hx)
  show dZ c (b::(l++c::r))=_
  rw[dZ,if_neg (h b qQ),ih]
theorem ext_toList(s:Str)(i j:Nat):(s.extract i j).toList=(s.toList.drop i).take (j-i):=by rw[ByteArray.toList_eq,ByteArray.toList_eq,ByteArray.data_extract,Array.toList_extract]
end
end Go.Proofs.YtdmmebjjojimiaaGreatDoor
namespace Go.Proofs.YtdmmebjjojimiaaGreatDoor
open Go.RowKit
section
variable {w w':World} {B:Nat}
def Texts(w w':World)(v:Value)(L:List (List UInt8)):Prop:= ∃l:List Str,l.map ByteArray.toList=L/\w'.ownsRow 0 9 1 v l.length (bZ l)/\(∀s∈l,okS s)/\(∀k,v.ownBlock=some k->w.heap.size<=k)
theorem Texts.dK{w0:World}{v:Value}{L:List (List UInt8)}(h:Texts w0 w v L)(ho:O0 w w'):Texts w0 w' v L:=by obtain⟨l,h0,h1,h2,h3⟩:=h;exact⟨l,h0,aW h1 ho (fun _ _ f=>f),h2,h3⟩
theorem Texts.row{w0:World}{v:Value}{L:List (List UInt8)}(h:Texts w0 w v L):∃l:List Str,l.map ByteArray.toList=L/\aS 1 bU w.heap.size w v l:=by obtain⟨l,h0,h1,h2,h3⟩:=h;exact⟨l,h0,oO rfl h1 h2⟩
def II(s:Str)(d:UInt8)(f i:Nat)(l:List Str):Prop:=
 (i<=s.size->(l.map ByteArray.toList++dZ d (s.toList.drop f)=dZ d s.toList/\∀b∈(s.toList.drop f).take (i-f),b≠d))/\(s.size<i->l.map ByteArray.toList=dZ d s.toList)
theorem Yz{s:Str}{f i:Nat}(hf:f<=i)(hi:i<s.size):s.toList.drop f=(s.toList.drop f).take (i-f)++s[i]::s.toList.drop (i+1):=by
 conv=>lhs;rw[<-List.take_append_drop (i-f) (s.toList.drop f)]
 congr 1;rw[List.drop_drop,show f+(i-f)=i by omega];have hl:i<s.toList.length:=by rw[bC];exact hi
 rw[List.drop_eq_getElem_cons hl,NH hl hi]
theorem II.cut{s:Str}{d:UInt8}{f i:Nat}{l:List Str}(h:II s d f i l)(hf:f<=i)(hi:i<s.size)(hb:s[i]=d):II s d (i+1) (i+1) (l++[s.extract f i]):=by obtain⟨h1,h2⟩:=h.1 zAA;refine⟨fun _=>⟨?_,fun b hb'=>by simp at hb'⟩,fun h=>by omega⟩;rw[Yz hf hi,hb,IG h2]at h1;rw[List.map_append,yW,List.map_cons,List.map_nil,ext_toList];exact h1
theorem II.last{s:Str}{d:UInt8}{f:Nat}{l:List Str}(h:II s d f s.size l)(hf:f<=s.size):II s d (s.size+1) (s.size+1) (l++[s.extract f s.size]):=by obtain⟨h1,h2⟩:=h.1 (qH _);refine⟨fun h=>by omega,fun _=>?_⟩;have ht:(s.toList.drop f).take (s.size-f)=s.toList.drop f:=qI (by rw[List.length_drop,bC];exact qH _);rw[ht]at h2;rw[F5 h2]at h1;rw[List.map_append,List.map_cons,List.map_nil,ext_toList,ht];exact h1
theorem II.go{s:Str}{d:UInt8}{f i:Nat}{l:List Str}(h:II s d f i l)(hf:f<=i)(hi:i<s.size)(hb:s[i]≠d):II s d f (i+1) l:=by
 obtain⟨h1,h2⟩:=h.1 zAA;refine⟨fun _=>⟨h1,fun b hb'=>?_⟩,fun h=>by omega⟩;have e:(s.toList.drop f).take (i+1-f)=(s.toList.drop f).take (i-f)++[s[i]]:=by rw[show i+1-f=(i-f)+1 by omega,List.take_add_one,List.getElem?_drop,show f+(i-f)=i by omega,y7 hi];rfl
 rw[e]at hb';rcases qW.1 hb' with hb'|hb';·exact h2 b hb'
 rw[yJ.1 hb'];exact hb
theorem VX(s:Str)(hs:s.size<=1000000)(d:UInt8)(c:Int)(hc:(d.toNat:Int)=c):Calls Tryz.prog 58 #[.string s,.int .u8 c] w (fun e w'=> ∃v,e= .returned v/\Texts w w' v (dZ d s.toList)/\O0 w w'):=by
 have HD:=zh hc;have TU:Hid (II s d 0 0 []):=⟨fun _=>⟨rfl,fun b hb=>by simp at hb⟩,fun h=>by omega⟩;clear hc;go_enter Tryz.func58,Tryz.ntmps58;go_wp2_with fail;go_loopw [5,6,7] (fun vo vf vi wr=>Hid (O0 w wr)/\∃(f i:Nat) (l:List Str),vf= .int .i64 f/\vi= .int .i64 i/\f<=i/\i<=s.size+1/\l.length<=i/\Hid (wr.ownsRow 0 9 1 vo l.length (bZ l))/\Hid (∀s∈l,okS s)/\Hid (∀k,vo.ownBlock=some k->w.heap.size<=k)/\Hid (II s d f i l)) (fun _ _ v _=>s.size+1-(RowKit.intOf v).toNat);case atStart=>exact⟨show Hid _ from zr.alloc _,0,0,[],rfl,rfl,qH _,qE _,qH _,show Hid _ from zn w,show Hid _ from fun s hs=>(by cases hs),show Hid _ from fun k hk=>zBD,TU⟩
 case round=>
  clear TU;obtain⟨bD,rfl⟩:=zB wr;obtain⟨HO,f,i,l,rfl,rfl,hfi,hi,hl,HV,Hk,HB,HC⟩:=hrel;obtain⟨n,hn⟩:=ze l.length;rw[hn]at HV hl;obtain⟨au,cu,rfl,-,-⟩:=bg HV.out;have HN:=zh hn;clear hn;by_cases ci:i<=s.size
  ·have iE:=zw (i+1);have hle:(i:Int)<=(s.size:Int):=zAA;have hsl:∀W,(Instr.slice 9 (.string s) (some (.int .i64 (f:Int))) (some (.int .i64 (i:Int))) none).run Tryz.prog W= .ok (.string (s.extract f i)) W:=fun W=>by rw[Go.run_slice_string_if W 9 s .i64 .i64 f i Tryz.underlying9,if_pos zCj,if_pos zAA];simp
   have app:∀(P:Prop),P->P:=fun _ h=>h;by_cases ce:i=s.size
   ·have HC2:Hid (II s d (s.size+1) (s.size+1) (l++[s.extract f s.size])):=by rw[ce]at HC;exact HC.out.last zAA
    subst ce;go_wp2_with (at_builtin;go_must (refine Ai (u:=.string (s.extract f s.size)) iU rfl (.tmp 26) (.tmp 31) rfl rfl rfl (cell_new0 _ _ _) rfl (aW HV.out ((Only.refl (fun _=>False) _).alloc _) (fun _ _ f=>f)) zAA zHZ ?_));intro v' w2 r1 r2 r3;have uN:Hid (w2.ownsRow 0 9 1 v' (l++[s.extract f s.size]).length (bZ (l++[s.extract f s.size]))):=by rw[qK,HN.out];simpa[bZ,Hid]using r1
    have eF:=zh (((HO.out.alloc _).trans r2 fun k hk=>.inr (HB.out k hk)));have Hk2:Hid (∀t∈l++[s.extract f s.size],okS t):=fun t ht=>by exact zGN
    have HB2:Hid (∀k,v'.ownBlock=some k->w.heap.size<=k):=by
     intro k hk;obtain⟨g,cap',rfl,-,-,h|h⟩:=r3;·exact zFy
     simp[Value.ownBlock]at hk;subst hk;have:=HO.out.size;simp at h;omega
    obtain⟨g,cap',rfl,-,-,-⟩:=r3;clear r1 r2;go_wp2_with fail;go_roundw;case rel=>exact⟨eF,s.size+1,s.size+1,l++[s.extract f s.size],by first|rfl|go_num,by first|rfl|go_num,qH _,qH _,by rw[qK,HN.out];simp;omega,uN,Hk2,HB2,HC2⟩
    case measure=>simp[RowKit.intOf]<;>omega
   have hlt:i<s.size:=by omega
   have hne:((i:Int)==(s.size:Int))=false:=zBd;obtain⟨b,hb⟩:∃b:UInt8,s[i]=b:=⟨_,rfl⟩;by_cases cb:((b.toNat:Int)=c)
   ·have hbd:b=d:=UInt8.toNat_inj.1 (by have:=HD.out;omega);have HC2:Hid (II s d (i+1) (i+1) (l++[s.extract f i])):=HC.out.cut hfi hlt (by rw[hb];exact hbd);clear hbd;have cb2:(((b.toNat:Nat):Int)==c)=true:=by rw[cb];simp
    go_wp2_with (at_builtin;go_must (refine Ai (u:=.string (s.extract f i)) iU rfl (.tmp 26) (.tmp 31) rfl rfl rfl (cell_new0 _ _ _) rfl (aW HV.out ((Only.refl (fun _=>False) _).alloc _) (fun _ _ f=>f)) zAA zHZ ?_));intro v' w2 r1 r2 r3;have uN:Hid (w2.ownsRow 0 9 1 v' (l++[s.extract f i]).length (bZ (l++[s.extract f i]))):=by rw[qK,HN.out];simpa[bZ,Hid]using r1
    have eF:=zh (((HO.out.alloc _).trans r2 fun k hk=>.inr (HB.out k hk)));have Hk2:Hid (∀t∈l++[s.extract f i],okS t):=fun t ht=>by exact zGN
    have HB2:Hid (∀k,v'.ownBlock=some k->w.heap.size<=k):=by
     intro k hk;obtain⟨g,cap',rfl,-,-,h|h⟩:=r3;·exact zFy
     simp[Value.ownBlock]at hk;subst hk;have:=HO.out.size;simp at h;omega
    obtain⟨g,cap',rfl,-,-,-⟩:=r3;clear r1 r2;go_wp2_with fail;go_roundw;case rel=>exact⟨eF,i+1,i+1,l++[s.extract f i],by first|rfl|go_num,by first|rfl|go_num,qH _,by omega,by rw[qK,HN.out];simp;omega,uN,Hk2,HB2,HC2⟩
    case measure=>simp[RowKit.intOf]<;>omega
   have hbd:b≠d:=fun e=>cb (by rw[e];exact HD.out);have HC2:Hid (II s d f (i+1) l):=HC.out.go hfi hlt (by rw[hb];exact hbd);clear hbd;have cb2:(((b.toNat:Nat):Int)==c)=false:=by rw[yC];exact cb
   have uN:Hid (bD.ownsRow 0 9 1 (.slice au n cu) l.length (bZ l)):=by rw[HN.out];exact HV.out
   go_wp2_with fail;go_roundw;case rel=>exact⟨HO,f,i+1,l,by first|rfl|go_num,by first|rfl|go_num,by omega,by omega,by rw[HN.out];omega,uN,Hk,HB,HC2⟩
   case measure=>simp[RowKit.intOf]<;>omega
  have arR:¬((i:Int)<=(s.size:Int)):=by omega
  go_wp2_with fail;go_ret;exact⟨_,rfl,⟨l,HC.out.2 zAA,by rw[HN.out];exact HV.out,Hk.out,HB.out⟩,HO.out⟩
end
end Go.Proofs.YtdmmebjjojimiaaGreatDoor
namespace Go.Proofs.YtdmmebjjojimiaaGreatDoor
open Go.RowKit
open Vn (GZ xJ gI Yx)
theorem iD:∀(x y:List UInt8),Op.bytesLess x y=decide (x<y)
 | [],[]=>by simp[Op.bytesLess]
 | [],_::_=>by simp[Op.bytesLess]
 |_::_,[]=>by simp[Op.bytesLess]
 |a::x,b::y=>by
  rw[Op.bytesLess,iD x y]
  simp only[List.cons_lt_cons_iff]
  by_cases h1:a<b<;>by_cases h2:a=b<;>by_cases h3:x<y<;>simp[h1,h2,h3]
def iV(l:List UInt8):Bool:=decide (0<l.length)&&decide (l.length<=40)&&(dZ 46 l).all gI&&decide ((dZ 46 l).length<=8)
section
variable {w w':World} {B:Nat}
theorem VY(s:Str)(hs:okS s)(r:Bool)(hr:iV s.toList=r):Calls Tryz.prog 131 #[.string s] w (fun e w'=>e= .returned (.bool r)/\O0 w w'):=by
 unfold iV at hr;rw[bC]at hr;by_cases h0:s.size=0;·rw[qP zAA,yQ,yQ,yQ]at hr;subst hr;obtain rfl:=wB h0;clear hs;go_enter Tryz.func131,Tryz.ntmps131;exact zDo
 rw[qX (by omega:0<s.size),yR]at hr;have hemp:s.toList.isEmpty=false:=by rw[isE,qP h0]
 by_cases h40:40<s.size;·rw[qP zAA,yQ,yQ]at hr;subst hr;have h41:(40:Int)<(s.size:Int):=zAA;clear hs;go_enter Tryz.func131,Tryz.ntmps131;exact zDo
 have h41:s.size<=40:=by omega
 rw[qX h41,yR]at hr;have aZ:=zh hr;have HC:=zh (VX (w:=w) s zAA 46 46 rfl);clear hs hr;go_enter Tryz.func131,Tryz.ntmps131;go_wp2_with fail;refine HC.out.mono ?_;rintro e w1 ⟨v,rfl,hT,O1⟩;obtain⟨l,hL,hR⟩:=hT.row;have aI:=zh O1;obtain⟨ao,cap,rfl,hc1,hc2⟩:=hR.shape;obtain⟨n,hn⟩:=ze l.length;rw[hn]at hR hc1⊢;have HN:=zh hn;have HR:Hid (∀W,O0 w1 W->aS 1 bU w1.heap.size W (.slice ao n cap) l):=fun W ho=>hR.keep bU.keep (Kp.dV ho);have fQ:Hid (O0 w1 w1):=Only.refl _ _;have HR2:Hid ((l.all (fun t=>gI t.toList)&&decide (n<=8))=r):=by rw[<-aZ.out,<-hL,qM,hn,List.all_map];rfl
 clear O1 HC hn hT hR hL aZ;go_wp2_with fail;go_loopw [16] (fun vi bD=>Hid (O0 w1 bD)/\∃i:Nat,vi= .int .i64 i/\i<=n/\Hid ((l.take i).all (fun t=>gI t.toList)=true)) (fun v _=>n-(RowKit.intOf v).toNat);case atStart=>exact⟨fQ,0,rfl,qE _,show Hid _ from rfl⟩
 case round=>
  obtain⟨bD,rfl⟩:=zB wr;clear fQ;obtain⟨gK,i,rfl,hi,HA⟩:=hrel;by_cases ci:i<n
  ·have iE:=zw (i+1);obtain⟨y,hx⟩:=zG l i zAe;obtain⟨b,off,he,hok,hE⟩:=iR (HR.out bD gK.out) hx;subst he;have hr:=(hE bD zr).1;have g0:=hr 0 _ rfl;rw[qF,yH]at g0;obtain⟨b2,hb2⟩:=ze (gI y.toList);have HP:=zh (aiF (w:=bD) y hok b2 hb2);have HX:=zh hx;have HB2:=zh hb2;clear hr hE hx hok hb2;go_wp2_with fail;refine HP.out.mono ?_;rintro e w2 ⟨rfl,O2⟩;have eF:=zh (gK.out.same O2);clear O2 HP g0;cases b2 with
   |false=>
    have hrf:r=false:=by
     rw[<-HR2.out];have:l.all (fun t=>gI t.toList)=false:=by
      cases hh:l.all (fun t=>gI t.toList);·rfl
      rw[List.all_eq_true]at hh;have:=hh y (qT HX.out);rw[HB2.out]at this;cases this
     rw[this];rfl
    subst hrf;clear HR2;go_wp2_with fail;go_ret;exact⟨rfl,aI.out.same eF.out⟩
   |true=>
    have HA2:Hid ((l.take (i+1)).all (fun t=>gI t.toList)=true):=by rw[Hid,List.take_add_one,HX.out];simp only[Option.toList_some,List.all_append,HA.out,List.all_cons,HB2.out,List.all_nil];rfl
    go_wp2_with fail;go_roundw;case rel=>exact⟨eF,i+1,by first|rfl|go_num,by omega,HA2⟩
    case measure=>simp[RowKit.intOf]<;>omega
  obtain rfl:n=i:=by omega
  have hr2:=HR2.out;have ha:=HA.out;rw[qI (yG HN.out)]at ha;rw[ha,yR]at hr2;clear HR2 ha HA;by_cases h8:n<=8;·rw[qX h8]at hr2;subst hr2;have h8':(n:Int)<=8:=zAA;go_wp2_with fail;go_ret;exact⟨rfl,aI.out.same gK.out⟩
  rw[qP h8]at hr2;subst hr2;have h8':¬((n:Int)<=8):=zAA;go_wp2_with fail;go_ret;exact⟨rfl,aI.out.same gK.out⟩
theorem ak5{v:Value}{l:List Str}(h:aS 1 bU B w v l)(i:Nat)(hi:i<=1000000000)(t:Str)(ht:l.getD i .empty=t):Calls Tryz.prog 291 #[v,.int .i64 (i:Int)] w (fun e w'=>e= .returned (.string t)/\O0 w w'):=by
 obtain⟨ao,cap,rfl,g1,g2⟩:=h.shape;obtain⟨n,hn⟩:=ze l.length;by_cases ci:i<l.length;·obtain⟨y,hx⟩:=zG l i ci;rw[qC,hx]at ht;have ht':y=t:=ht;subst ht';obtain⟨b,off,he,hok,hE⟩:=iR h hx;subst he;have hr:=(hE w zr).1;have g0:=hr 0 _ rfl;rw[qF,yH]at g0;rw[hn]at ci g1⊢;clear hr hE hx h hn ht hok;go_enter Tryz.func291,Tryz.ntmps291;exact zDo
 rw[qC,List.getElem?_eq_none zAA]at ht;have ht':ByteArray.empty=t:=ht;subst ht';rw[hn]at ci g1⊢;clear h hn ht;go_enter Tryz.func291,Tryz.ntmps291;exact zDo
theorem toList_inj{a b:Str}(h:a.toList=b.toList):a=b:=by
 rw[ByteArray.toList_eq,ByteArray.toList_eq]at h;cases a with|mk x=>cases b with|mk y=>
  congr 1
  exact Array.toList_inj.1 h
theorem VZ(a b:Str)(ha:okS a)(hb:okS b)(r:Bool)(hr:Yx a.toList b.toList=r):Calls Tryz.prog 290 #[.string a,.string b] w (fun e w'=>e= .returned (.bool r)/\O0 w w'):=by
 have hbd:=fP a b;obtain⟨ee,hee⟩:∃e,decide (a=b)=e:=⟨_,rfl⟩;rw[hee]at hbd;obtain⟨ea,hea⟩:=ze a.toList.isEmpty;obtain⟨eb,heb⟩:=ze b.toList.isEmpty;obtain⟨la,hla⟩:=ze (xJ a.toList);obtain⟨lb,hlb⟩:=ze (xJ b.toList);obtain⟨da,hda⟩:=ze (GZ a.toList);obtain⟨db,hdb⟩:=ze (GZ b.toList);have TV:Hid (∀W,Calls Tryz.prog 289 #[.string a] W (fun e w'=>e= .returned (.bool la)/\O0 W w')):=fun W=>JW a ha la hla;have HLb:Hid (∀W,Calls Tryz.prog 289 #[.string b] W (fun e w'=>e= .returned (.bool lb)/\O0 W w')):=fun W=>JW b hb lb hlb;have HDa:Hid (∀W,Calls Tryz.prog 210 #[.string a] W (fun e w'=>e= .returned (.bool da)/\O0 W w')):=fun W=>IE a ha da hda;have HDb:Hid (∀W,Calls Tryz.prog 210 #[.string b] W (fun e w'=>e= .returned (.bool db)/\O0 W w')):=fun W=>IE b hb db hdb;have hr2:(if ee=true then false else if ea=true then db else if eb=true then la else if (la != lb)=true then la else if (da&&(a.size != b.size))=true then decide (a.size<b.size)else Op.bytesLess a.toList b.toList)=r:=by
  rw[<-hr];unfold Yx;have e1:(ee=true)=(a.toList=b.toList):=by rw[<-hee,yP,eq_iff_iff];exact⟨fun h=>by rw[h],toList_inj⟩
  have e2:(ea=true)=(a.toList=[]):=by rw[<-hea,List.isEmpty_iff]
  have e3:(eb=true)=(b.toList=[]):=by rw[<-heb,List.isEmpty_iff]
  simp only[e1,e2,e3,hla,hlb,hda,hdb,bC,iD]
 clear ha hb hr hee hla hlb hda hdb;have aZ:=zh hr2;clear hr2;go_enter Tryz.func290,Tryz.ntmps290;cases ee with
 |true=>have hres:=aZ.out;simp only[if_true]at hres;subst hres;clear aZ;exact zDo
 |false=>
  cases ea with
  |true=>have hres:=aZ.out;simp only[Bool.false_eq_true,if_true,if_false]at hres;subst hres;clear aZ;go_wp2_with fail;refine(HDb.out _).mono ?_;rintro e w1 ⟨rfl,O1⟩;have aI:=zh O1;clear O1;exact zEi
  |false=>
   cases eb with
   |true=>have hres:=aZ.out;simp only[Bool.false_eq_true,if_true,if_false]at hres;subst hres;clear aZ;go_wp2_with fail;refine(TV.out _).mono ?_;rintro e w1 ⟨rfl,O1⟩;have aI:=zh O1;clear O1;exact zEi
   |false=>
    go_wp2_with fail;refine(TV.out _).mono ?_;rintro e w1 ⟨rfl,O1⟩;have aI:=zh O1;clear O1;go_wp2_with fail;refine(HLb.out _).mono ?_;rintro e w2 ⟨rfl,O2⟩;have eF:=zh (aI.out.same O2);clear O2 aI;cases la<;>cases lb;case false.true|true.false=>
     have hres:=aZ.out;first| (have hres2:true=r:=hres;subst hres2)| (have hres2:false=r:=hres;subst hres2)
     clear hres;clear aZ;go_wp2_with fail;refine(TV.out _).mono ?_;rintro e w3 ⟨rfl,O3⟩;have kD:=zh (eF.out.same O3);clear O3 eF;exact zFi
    case false.false|true.true=>
     have aah:Hid ((if (da&&(a.size != b.size))=true then decide (a.size<b.size)else Op.bytesLess a.toList b.toList)=r):=by
      exact aZ.out
     clear aZ
     go_wp2_with fail
     refine(HDa.out _).mono ?_
     rintro e w3 ⟨rfl,O3⟩
     have kD:=zh (eF.out.same O3)
     clear O3 eF
     cases da with
     |false=>
      have hres:=aah.out
      rw[yQ,if_neg zAH]at hres
      subst hres
      clear aah
      exact zFi
     |true=>
      have hres:=aah.out
      rw[yR]at hres
      clear aah
      by_cases hl:a.size=b.size
      ·have hl2:((a.size:Int)==(b.size:Int))=true:=by rw[hl];simp
       have hl3:(a.size != b.size)=false:=by rw[hl];simp
       rw[hl3,if_neg zAH]at hres
       subst hres
       clear hl3
       go_wp2_with fail
       all_goals (go_ret;exact⟨rfl,kD.out⟩)
      ·have hl2:((a.size:Int)==(b.size:Int))=false:=by rw[yC];omega
       have hl3:(a.size != b.size)=true:=by rw[bne_iff_ne];exact hl
       rw[hl3,if_pos rfl]at hres
       subst hres
       clear hl3
       go_wp2_with fail
       all_goals (go_ret;exact⟨rfl,kD.out⟩)
end
end Go.Proofs.YtdmmebjjojimiaaGreatDoor
namespace Go.Proofs.YtdmmebjjojimiaaGreatDoor
open Go.RowKit
open Vn (Yx)
def DX(x y:List (List UInt8)):Nat->Nat->Bool
 |0,_=>false
 |k+1,i=>if Yx (x.getD i []) (y.getD i [])=true then true else if Yx (y.getD i []) (x.getD i [])=true then false else DX x y k (i+1)
def pJ(a b:List UInt8):Bool:=if (iV a&&iV b)=true then DX (dZ 46 a) (dZ 46 b) (max (dZ 46 a).length (dZ 46 b).length) 0 else !iV a&&iV b
theorem JX{s:Str}(h:iV s.toList=true):s.size<=40:=by unfold iV at h;simp only[Bool.and_eq_true,yP,bC]at h;exact h.1.1.2
theorem IJ{s:Str}(h:iV s.toList=true):(dZ 46 s.toList).length<=8:=by unfold iV at h;simp only[Bool.and_eq_true,yP]at h;exact h.2
theorem DY(l:List Str)(i:Nat):(l.map ByteArray.toList).getD i []=(l.getD i .empty).toList:=by
 rw[qC,qC,List.getElem?_map];cases l[i]? with
 |none=>exact(by rw[ByteArray.toList_eq];rfl:([]:List UInt8)=ByteArray.toList ByteArray.empty)
 |some x=>rfl
theorem aS.aai{w:World}{B:Nat}{v:Value}{l:List Str}(h:aS 1 bU B w v l)(i:Nat):okS (l.getD i .empty):=by
 obtain⟨ao,cap,rfl,-,-⟩:=h.shape;rw[qC];cases hx:l[i]? with
 |none=>exact(by unfold okS;decide:okS ByteArray.empty)
 |some y=>exact(iR h hx).choose_spec.choose_spec.2.1
section
variable {w w':World} {B:Nat}
theorem TW(a b:Str)(ha:okS a)(hb:okS b)(r:Bool)(hr:pJ a.toList b.toList=r):Calls Tryz.prog 211 #[.string a,.string b] w (fun e w'=>e= .returned (.bool r)/\O0 w w'):=by
 unfold pJ at hr;obtain⟨ma,hma⟩:=ze (iV a.toList);obtain⟨mb,hmb⟩:=ze (iV b.toList);rw[hma,hmb]at hr;have HMa:Hid (∀W,Calls Tryz.prog 131 #[.string a] W (fun e w'=>e= .returned (.bool ma)/\O0 W w')):=fun W=>VY a ha ma hma;have HMb:Hid (∀W,Calls Tryz.prog 131 #[.string b] W (fun e w'=>e= .returned (.bool mb)/\O0 W w')):=fun W=>VY b hb mb hmb;clear ha hb;have aZ:=zh hr;have HMA:=zh hma;have HMB:=zh hmb;clear hr hma hmb;go_enter Tryz.func211,Tryz.ntmps211;cases ma with
 |false=>have hres:(!false&&mb)=r:=aZ.out;have hres2:mb=r:=hres;subst hres2;clear aZ HMA hres;go_wp2_with fail;refine(HMa.out _).mono ?_;rintro e w1 ⟨rfl,O1⟩;have aI:=zh O1;clear O1;go_wp2_with fail;refine(HMa.out _).mono ?_;rintro e w2 ⟨rfl,O2⟩;have eF:=zh (aI.out.same O2);clear O2;go_wp2_with fail;refine(HMb.out _).mono ?_;rintro e w3 ⟨rfl,O3⟩;have kD:=zh (eF.out.same O3);clear O3;exact zFi
 |true=>
  go_wp2_with fail;refine(HMa.out _).mono ?_;rintro e w1 ⟨rfl,O1⟩;have aI:=zh O1;clear O1;go_wp2_with fail;refine(HMb.out _).mono ?_;rintro e w2 ⟨rfl,O2⟩;have eF:=zh (aI.out.same O2);clear O2;cases mb with
  |false=>have hres:false=r:=aZ.out;subst hres;clear aZ HMA HMB;go_wp2_with fail;refine(HMa.out _).mono ?_;rintro e w3 ⟨rfl,O3⟩;have kD:=zh (eF.out.same O3);clear O3;exact zFi
  |true=>
   have hres:DX (dZ 46 a.toList) (dZ 46 b.toList) (max (dZ 46 a.toList).length (dZ 46 b.toList).length) 0=r:=aZ.out;have HCa:=zh (VX (w:=w2) a (qR (JX HMA.out) zAH) 46 46 rfl);have HCb:Hid (∀W,_):=fun W=>VX (w:=W) b (qR (JX HMB.out) zAH) 46 46 rfl;clear HMa HMb aZ;have aZ:=zh hres;clear hres;go_wp2_with fail;refine HCa.out.mono ?_;rintro e w3 ⟨va,rfl,hTa,O3⟩;obtain⟨la,hLa,hRa⟩:=hTa.row;have kD:=zh (eF.out.same O3);obtain⟨aa,ca,rfl,ka1,ka2⟩:=hRa.shape;obtain⟨na,hna⟩:=ze la.length;rw[hna]at hRa ka1⊢;have NI:=zh hna;have TV:=zh hLa;clear hTa O3 hna HCa hLa;go_wp2_with fail;refine(HCb.out _).mono ?_;rintro e w4 ⟨vb,rfl,hTb,O4⟩;obtain⟨lb,hLb,hRb⟩:=hTb.row;have Ej:=zh (kD.out.same O4);obtain⟨ab,cb,rfl,kb1,kb2⟩:=hRb.shape;obtain⟨nb,hnb⟩:=ze lb.length;rw[hnb]at hRb kb1⊢;have HAa:Hid (∀W (i:Nat) (t:Str),i<=1000000000->la.getD i .empty=t->O0 w4 W->Calls Tryz.prog 291 #[.slice aa na ca,.int .i64 (i:Int)] W (fun e w'=>e= .returned (.string t)/\O0 W w')):=fun W i t hi ht hW=>ak5 (hRa.keep bU.keep (Kp.dV (O4.same hW))) i hi t ht;have HAb:Hid (∀W (i:Nat) (t:Str),i<=1000000000->lb.getD i .empty=t->O0 w4 W->Calls Tryz.prog 291 #[.slice ab nb cb,.int .i64 (i:Int)] W (fun e w'=>e= .returned (.string t)/\O0 W w')):=fun W i t hi ht hW=>ak5 (hRb.keep bU.keep (Kp.dV hW)) i hi t ht;have HKa:Hid (∀i,okS (la.getD i .empty)):=fun i=>hRa.aai i;have HKb:Hid (∀i,okS (lb.getD i .empty)):=fun i=>hRb.aai i;obtain⟨m,hm⟩:=ze (max na nb);have hm1:m<=1000000000:=by have h1:=IJ HMA.out;have h2:=IJ HMB.out;rw[<-TV.out,qM,NI.out]at h1;rw[<-hLb,qM,hnb]at h2;omega
   have HR0:Hid (DX (la.map ByteArray.toList) (lb.map ByteArray.toList) m 0=r):=by have h:=aZ.out;rw[<-TV.out,<-hLb,qM,qM,NI.out,hnb,hm]at h;exact h
   have HM:=zh hm;have fQ:Hid (O0 w4 w4):=Only.refl _ _;clear hTb O4 hnb HCb hRa hRb hm aZ TV hLb NI HMA HMB;go_wp2_with fail;go_loopw [7] (fun vi bD=>Hid (O0 w4 bD)/\∃i:Nat,vi= .int .i64 i/\i<=m/\Hid (DX (la.map ByteArray.toList) (lb.map ByteArray.toList) (m-i) i=r)) (fun v _=>m-(RowKit.intOf v).toNat);case atStart=>exact⟨fQ,0,rfl,qE _,HR0⟩
   case round=>
    obtain⟨bD,rfl⟩:=zB wr;clear fQ HR0;obtain⟨gK,i,rfl,hi,HRi⟩:=hrel;by_cases ci:i<m
    ·have iE:=zw (i+1);have hor:i<na\/i<nb:=by have:=HM.out;omega
     obtain⟨t1,h1⟩:=ze (la.getD i .empty);obtain⟨t2,h2⟩:=ze (lb.getD i .empty);have k1:=HKa.out i;have k2:=HKb.out i;rw[h1]at k1;rw[h2]at k2;obtain⟨b1,hb1⟩:=ze (Yx t1.toList t2.toList);obtain⟨b2,hb2⟩:=ze (Yx t2.toList t1.toList);have HRj:Hid ((if b1=true then true else if b2=true then false else DX (la.map ByteArray.toList) (lb.map ByteArray.toList) (m-(i+1)) (i+1))=r):=by have h:=HRi.out;obtain⟨k,hk⟩:∃k,m-i=k+1:=⟨m-i-1,by omega⟩;have hk2:m-(i+1)=k:=zAA;rw[hk,DX,DY,DY,h1,h2,hb1,hb2]at h;rw[hk2];exact h
     have HB1:Hid (∀W,Calls Tryz.prog 290 #[.string t1,.string t2] W (fun e w'=>e= .returned (.bool b1)/\O0 W w')):=fun W=>VZ t1 t2 k1 k2 b1 hb1;have HB2:Hid (∀W,Calls Tryz.prog 290 #[.string t2,.string t1] W (fun e w'=>e= .returned (.bool b2)/\O0 W w')):=fun W=>VZ t2 t1 k2 k1 b2 hb2;have H1:=zh h1;have H2:=zh h2;clear HRi h1 h2 k1 k2 hb1 hb2;by_cases ca1:i<na;·exact zDc
     have cb1:i<nb:=by omega
     exact zDc
    have c1:¬i<na:=by have:=HM.out;omega
    have c2:¬i<nb:=by have:=HM.out;omega
    have hr2:false=r:=by have h:=HRi.out;rw[show m-i=0 by omega]at h;exact h
    subst hr2;clear HRi;go_wp2_with fail;go_ret;exact⟨rfl,Ej.out.same gK.out⟩
end
end Go.Proofs.YtdmmebjjojimiaaGreatDoor
namespace Go.Proofs.YtdmmebjjojimiaaGreatDoor
open Go.RowKit
open Vn (gI)
theorem BK{l:List UInt8}(h:iV l=true):∀a∈dZ 46 l,gI a=true:=by unfold iV at h;simp only[Bool.and_eq_true,List.all_eq_true]at h;exact h.1.2
def DZ(c:UInt8):List (List UInt8)->List UInt8
 | []=>[]
 | [a]=>a
 |a::b::r=>a++c::DZ c (b::r)
theorem IK(c:UInt8):∀l:List UInt8,DZ c (dZ c l)=l
 | []=>rfl
 |b::r=>by
  have ih:=IK c r
  unfold dZ
  by_cases h:b=c
  ·rw[if_pos h]
   cases hc:dZ c r with
   |nil=>exact absurd hc (Au c r)
   |cons x t=>
    rw[hc]at ih
    show[]++c::DZ c (x::t)=_
    rw[ih,h];rfl
  ·rw[if_neg h]
   cases hc:dZ c r with
   |nil=>exact absurd hc (Au c r)
   |cons x t=>
    rw[hc]at ih
    cases t with
    |nil=>
     have:x=r:=ih
     rw[this];rfl
    |cons y t=>
     have:x++c::DZ c (y::t)=r:=ih
     show(b::x)++c::DZ c (y::t)=_
     rw[<-this];rfl
end Go.Proofs.YtdmmebjjojimiaaGreatDoor
