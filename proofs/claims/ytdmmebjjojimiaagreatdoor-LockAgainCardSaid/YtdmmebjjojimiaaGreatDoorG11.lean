/- Wv4 Wv5 Wv6, in one text.; Names and values: the program's way and the document's. -/
import Derived.Test.YtdmmebjjojimiaaGreatDoorG10
import Derived.Test.YtdmmebjjojimiaaGreatDoorG09
set_option maxRecDepth 100000
set_option maxHeartbeats 8000000
set_option linter.all false
namespace Go.Proofs
theorem zBL{p:Prop}(h:p:=by simp;omega):p:=h
theorem zBR{p:Prop}(h:p:=by rw[qD];omega):p:=h
theorem zB0{p:Prop}(h:p:=by simpa using h2):p:=h
theorem zCQ{p:Prop}(h:p:=by rw[List.length_drop,bC];omega):p:=h
theorem zC9{p:Prop}(h:p:=by simp[Value.oneCell']):p:=h
end Go.Proofs
namespace Go.Proofs.YtdmmebjjojimiaaGreatDoor
open Go.RowKit
attribute [local go_sem] Oper.semAt_some
theorem adI{l:List UInt8}{c:UInt8}(h:Lib.indexByte l c= -1):dZ c l=[l]:=
 F5 fun b hb e=>by
  subst e
  obtain⟨k,hk⟩:=List.mem_iff_getElem?.1 hb
  exact Lib.indexByte_none h k hk
theorem adJ{l:List UInt8}{c:UInt8}{o:Nat}(h:Lib.indexByte l c=o):o<l.length/\dZ c l=l.take o::dZ c (l.drop (o+1)):=by
 obtain⟨h1,h2⟩:=Lib.indexByte_some h;obtain⟨hlt,h3⟩:=qJ.1 h1;refine⟨hlt,?_⟩;have e:l=l.take o++c::l.drop (o+1):=by rw[<-h3,<-List.drop_eq_getElem_cons hlt,List.take_append_drop]
 conv=>lhs;rw[e]
 refine IG fun b hb e=>?_;subst e;obtain⟨k,hk⟩:=List.mem_iff_getElem?.1 hb;rw[List.getElem?_take]at hk;split at hk;·exact h2 k (by assumption) hk
 cases hk
abbrev YI(a:List UInt8):Str:=⟨a.toArray⟩
theorem YJ(s:Str):YI s.toList=s:=toList_inj (by rw[ByteArray.toList_eq])
def adK(bs:Nat)(w:World):Nat:=match w.cell? ⟨bs,0,none⟩with|some (.string r)=>r.size+1|_=>0
theorem Wj{bs:Nat}{w:World}{r:Str}(h:Boxed w bs 9 (.string r)):adK bs w=r.size+1:=by unfold adK;rw[h.cell]
section
variable {w w':World} {B:Nat}
theorem agH(s:Str)(W:World):Calls Tryz.prog 256 #[.string s,.string ⟨#[46]⟩] W (fun e w'=>e= .returned (.int .i64 (Lib.indexByte s.toList 46))/\w'=W):=by rw[ByteArray.toList_eq];exact Sv.strings_Index_one s 46 W
theorem abg(n:Nat)(hn:1<=n)(bp bs bv:Nat)(s:Str)(hs:s.size<=1000000)(h1:bs≠bp)(h2:bs≠bv)
  (hp:Boxed w bp 9 (.string ⟨#[46]⟩)) (hbs:Boxed w bs 9 (.string s)) (hv:Boxed w bv 3 (.int .i64 0)):
  alc Fence.wide n Tryz.prog 413 #[.pointer (some ⟨bp,0,none⟩),.pointer (some ⟨bs,0,none⟩),.pointer (some ⟨bv,0,none⟩)] (fun a:List UInt8=>.string (YI a)) (fun k=>k=bp\/k=bs\/k=bv) (dZ 46 s.toList) w:=fun l J Jx W hC hsz hJ hJx hY h0=>by
 have hp0:Boxed W bp 9 (.string ⟨#[46]⟩):=(hC bp (.inl rfl)).trans hp
 have hs0:Boxed W bs 9 (.string s):=(hC bs (.inr (.inl rfl))).trans hbs
 have hv0:Boxed W bv 3 (.int .i64 0):=(hC bv (.inr (.inr rfl))).trans hv
 have HY:=zh hY
 have HJ:=zh hJ
 have TU:=zh hs0
 have HV0:=zh hv0
 have VE:=zh hp0
 have cp:=hp0.cell
 have cs:=hs0.cell
 clear hY hJ hC hp hbs hv hs0 hv0 hp0
 refine callsIn_of_wp Tryz.func413 rfl trivial ?_ rfl
 simp only[Tryz.ntmps413,List.size_toArray,qN,List.length_nil,Nat.reduceAdd,Nat.reduceSub,Array.replicate_succ,Array.replicate_zero,List.push_toArray,List.append_toArray,List.nil_append,List.cons_append]
 gi_wp2
 gi_loopw [7] (fun _ wr=> ∃(pre:List (List UInt8)) (r:Str),Hid (dZ 46 s.toList=pre++dZ 46 r.toList)/\r.size<=1000000/\Hid (Boxed wr bs 9 (.string r))/\Hid (Boxed wr bp 9 (.string ⟨#[46]⟩))/\Hid (Boxed wr bv 3 (.int .i64 0))/\Hid (J pre wr)) (fun _ wr=>adK bs wr)
 case atStart=>exact⟨[],s,rfl,hs,TU,VE,HV0,h0⟩
 case round=>
  obtain⟨pre,r,HX,hr,EU,HBp,HBv,HJr⟩:=hrel
  have cp:=HBp.out.cell
  have cs:=EU.out.cell
  have cv:=HBv.out.cell
  have fs:=EU.out.frozen
  obtain⟨o,ho⟩:=ze (Lib.indexByte r.toList 46)
  have hge:=Lib.indexByte_ge r.toList 46
  rw[ho]at hge
  have HI:Hid (∀m,CallsIn Fence.wide m Tryz.prog 256 #[.string r,.string ⟨#[46]⟩] wr fun e w'=>e= .returned (.int .i64 o)/\w'=wr):=fun m=>callsIn_wide.2 (by rw[<-ho];exact agH r wr)
  by_cases c0:o<0
  ·have hx:dZ 46 s.toList=pre++r.toList::[]:=by rw[HX.out,adI (by rw[ho];omega)]
   obtain⟨fn,tmps,assign,body,hy,hR⟩:=HY.out pre r.toList [] wr HJr.out hx
   rw[YJ]at hy
   have HR:=zh hR
   have HX2:=zh hx
   clear hR hx HX ho HJ HY
   gi_wp2
   refine⟨trivial,(HI.out _).mono ?_⟩
   rintro e w1 ⟨rfl,rfl⟩
   gi_wp2
   refine HR.out.mono ?_
   rintro e W2 (⟨rfl,hJ2,-,-⟩| ⟨rfl,hJx⟩)
   ·gi_wp2
    go_end0
    exact⟨⟨_,rfl⟩,.inl (by rw[HX2.out];exact hJ2)⟩
   ·gi_wp2
    go_end0
    exact⟨⟨_,rfl⟩,.inr ⟨_,by rw[HX2.out];exact List.prefix_refl _,hJx⟩⟩
  ·obtain⟨k,rfl⟩:∃k:Nat,o=k:=⟨o.toNat,by omega⟩
   obtain⟨hk,hcut⟩:=adJ ho
   rw[bC]at hk
   have e1:YI (r.toList.take k)=r.extract 0 k:=toList_inj (by rw[ext_toList,List.drop_zero,Nat.sub_zero,ByteArray.toList_eq])
   have e2:(r.extract (k+1) r.size).toList=r.toList.drop (k+1):=by
    rw[ext_toList]
    exact qI zCQ
   have hx:dZ 46 s.toList=pre++r.toList.take k::dZ 46 (r.toList.drop (k+1)):=by rw[HX.out,hcut]
   obtain⟨fn,tmps,assign,body,hy,hR⟩:=HY.out pre (r.toList.take k) _ wr HJr.out hx
   rw[e1]at hy
   have HR:=zh hR
   have HX2:Hid (dZ 46 s.toList=(pre++[r.toList.take k])++dZ 46 (r.extract (k+1) r.size).toList):=by
    rw[Hid,hx,e2,yW];rfl
   have anI:Hid ((pre++[r.toList.take k])<+:dZ 46 s.toList):=⟨_,HX2.out.symm⟩
   have ew1:IntKind.i64.wrap ((k:Int)+0)=(k:Int):=zBR
   have ew2:IntKind.i64.wrap ((k:Int)+1)=((k+1:Nat):Int):=zBR
   clear hR hx hcut HX ho e1 e2 HY
   gi_wp2
   refine⟨trivial,(HI.out _).mono ?_⟩
   rintro e w1 ⟨rfl,rfl⟩
   gi_wp2
   refine HR.out.mono ?_
   rintro e W2 (⟨rfl,hJ2,hC2,hS2⟩| ⟨rfl,hJx⟩)
   ·have hp2:Boxed W2 bp 9 (.string ⟨#[46]⟩):=(hC2 bp (.inl rfl)).trans HBp.out
    have hs2:Boxed W2 bs 9 (.string r):=(hC2 bs (.inr (.inl rfl))).trans EU.out
    have hv2:Boxed W2 bv 3 (.int .i64 0):=(hC2 bv (.inr (.inr rfl))).trans HBv.out
    have HB2:=zh (And.intro hp2 (And.intro hs2 (And.intro hv2 hJ2)))
    have cp2:=hp2.cell
    have cs2:=hs2.cell
    have cv2:=hv2.cell
    have fs2:=hs2.frozen
    clear hp2 hs2 hv2 hJ2 cp cs cv fs HR
    gi_wp2
    go_roundw
    case rel=>
     obtain⟨hp2,hs2,hv2,hJ2⟩:=HB2.out
     exact⟨_,_,HX2,by rw[ByteArray.size_extract];omega,hs2.set _,hp2.other h1.symm _,hv2.other h2.symm _,HJ.out _ _ _ hJ2 (zr.setCell (p:=⟨bs,0,none⟩) (.inl (.inr (.inl rfl))) _)⟩
    case measure=>
     obtain⟨hp2,hs2,hv2,hJ2⟩:=HB2.out
     rw[Wj (hs2.set _),Wj EU.out,ByteArray.size_extract]
     omega
   ·gi_wp2
    refine bodyPost_ret (results_none rfl _ _ _) rfl ?_
    exact⟨⟨_,rfl⟩,.inr ⟨_,anI.out,hJx⟩⟩
end
end Go.Proofs.YtdmmebjjojimiaaGreatDoor
namespace Go.Proofs.YtdmmebjjojimiaaGreatDoor
open Go.RowKit
open Vn (gI fU numeral eU)
attribute [local go_sem] Oper.semAt_some
section
variable {w w':World} {B:Nat}
theorem YK(s sep:Str):Calls Tryz.prog 369 #[.string s,.string sep] w (fun e w'=>e= .returned (.func (.func 413) #[] #[.pointer (some ⟨w.heap.size+1,0,none⟩),.pointer (some ⟨w.heap.size,0,none⟩),.pointer (some ⟨w.heap.size+2,0,none⟩)])/\w'=((w.alloc (.cells #[.string s] 9)).alloc (.cells #[.string sep] 9)).alloc (.cells #[.int .i64 0] 3)):=by go_enter Tryz.func369,Tryz.ntmps369;go_wp2;go_ret;exact⟨by simp,rfl⟩
def IL(l:List (List UInt8)):List Value:=l.flatMap fun a=>[.int .i64 (fU a:Int),.int .i64 (numeral a:Int),.string (YI (eU a))]
theorem YL(l:List (List UInt8))(a:List UInt8):IL (l++[a])=IL l++[.int .i64 (fU a:Int),.int .i64 (numeral a:Int),.string (YI (eU a))]:=by simp[IL]
theorem Wl:∀(l:List (List UInt8)) (i:Nat) (a:List UInt8),l[i]? =some a->∀j u,[Value.int .i64 (fU a:Int),.int .i64 (numeral a:Int),.string (YI (eU a))][j]? =some u->(IL l)[i*3+j]? =some u
 | [],i,a,h,_,_,_=>by simp at h
 |b::l,0,a,h,j,u,hu=>by
  simp at h
  subst h
  have hj:j<3:=by have:=(qJ.1 hu).1;simpa using this
  show([Value.int .i64 (fU b:Int),.int .i64 (numeral b:Int),.string (YI (eU b))]++IL l)[0*3+j]? =_
  rw[yM zBL,Nat.zero_mul,Nat.zero_add]
  exact hu
 |b::l,i+1,a,h,j,u,hu=>by
  show([Value.int .i64 (fU b:Int),.int .i64 (numeral b:Int),.string (YI (eU b))]++IL l)[(i+1)*3+j]? =_
  rw[yN zBL]
  have e:(i+1)*3+j-[Value.int .i64 (fU b:Int),.int .i64 (numeral b:Int),.string (YI (eU b))].length=i*3+j:=zBL
  rw[e]
  exact Wl l i a zBy j u hu
theorem adM:Gu Tryz.prog 342 355 3 32:=Gu.mk' (z:=.agg #[.int .i64 0,.int .i64 0,.string .empty]) Tryz.underlying342 zk rfl zAH
theorem Wn{base:Nat}{e:TypeId}{size k:Nat}{v:Value}{xs:List Value}(h:w.ownsRow base e size v k xs):w.ownsRow 0 e size v k xs:=by
 refine⟨h.1,?_⟩;rcases h.2 with⟨rfl,h0⟩| ⟨g,cap,cur,rfl,hb,hr⟩;·exact .inl ⟨rfl,h0⟩
 exact .inr ⟨g,cap,cur,rfl,qE _,hr⟩
theorem Wp(a:List UInt8):(YI a).toList=a:=by rw[ByteArray.toList_eq]
theorem abh{base:Nat}{v:Value}{l:List (List UInt8)}(h:w.ownsRow base 355 3 v l.length (IL l))(hp:l.all gI=true)(hk:∀a∈l,a.length<=1000):aS 3 NT w.heap.size w v (l.map partOf):=by
 refine aS.xC (e:=355) (cs:=IL l) (by rw[qM];exact Wn h) fun i hi=>?_;rw[qM]at hi;refine⟨_,rfl,Wl l i l[i] (qA hi),?_⟩;rw[List.getElem_map];rw[List.all_eq_true]at hp;have hpa:=hp l[i] (qZ hi);have hla:=hk l[i] (qZ hi);refine⟨rfl,?_,?_,?_⟩
 ·show fU l[i]<=2;unfold fU;split;·omega
  split<;>omega
 ·show numeral l[i]<=999999999;unfold numeral;split;·omega
  split;·omega
  rename_i h1 h2;unfold gI at hpa;rw[Bool.or_eq_true]at hpa;have:=(Vn.IC (hpa.resolve_left h2)).2.1;omega
 show okS (YI (eU l[i]));unfold okS YI;have:(eU l[i]).length<=1000:=by
  unfold eU;split;·exact hla
  simp
 show(eU l[i]).toArray.size<=_;rw[List.size_toArray];unfold maxLen;omega
end
attribute [local go_sem] Oper.semAt_some
section
variable {w w':World} {B:Nat}
def zJ(s:Str)(w w':World)(e:Ending):Prop:= ∃v ok,e= .returned (.tuple #[v,.bool ok])/\iV s.toList=ok/\(ok=true->aS 3 NT w'.heap.size w' v ((dZ 46 s.toList).map partOf))/\O0 w w'
theorem zJ.no{s:Str}{w w':World}{e:Ending}{v:Value}(he:e= .returned (.tuple #[v,.bool false]))(h:iV s.toList=false)(ho:O0 w w'):zJ s w w' e:=⟨v,false,he,h,(fun hh=>by cases hh),ho⟩
theorem wM{v:Value}{ok:Bool}{tmps:Array Value}{b2 b3:Nat}(h2:tmps.getD 2 undef= .pointer (some ⟨b2,0,none⟩))(h3:tmps.getD 3 undef= .pointer (some ⟨b3,0,none⟩))(hb2:Boxed w b2 342 v)(hb3:Boxed w b3 4 (.bool ok)):(results Tryz.f329 tmps).run Tryz.prog w= .ok (.tuple #[v,.bool ok]) w:=by have e:Tryz.f329.results= #[.cell 2 342,.cell 3 4]:=rfl;have c2:=hb2.cell;have c3:=hb3.cell;have g2:tmps[2]?.getD undef= .pointer (some ⟨b2,0,none⟩):=zB0;have g3:tmps[3]?.getD undef= .pointer (some ⟨b3,0,none⟩):=zCd;simp only[results,e];simp[Sem.run_bind,Result.andThen,g2,g3,asAddr,loadVar,c2,c3,go_sem]
theorem Uh{s:Str}{pre suf:List (List UInt8)}{x:List UInt8}(h:dZ 46 s.toList=pre++x::suf)(hx:gI x=false):iV s.toList=false:=by
 unfold iV;have:(dZ 46 s.toList).all gI=false:=by rw[h,List.all_append,List.all_cons,hx,yQ,Bool.and_false]
 rw[this,Bool.and_false,yQ]
theorem Ui{s:Str}{pre suf:List (List UInt8)}{x:List UInt8}(h:dZ 46 s.toList=pre++x::suf)(hl:pre.length=8):iV s.toList=false:=by unfold iV;rw[qP (p:=(dZ 46 s.toList).length<=8) (by rw[h,qK,qN];omega),Bool.and_false]
theorem IQ:∀(l:List UInt8),∀a∈dZ 46 l,a.length<=l.length
 | [],a,h=>by
  simp[dZ]at h
  simp[h]
 |b::r,a,h=>by
  unfold dZ at h
  split at h
  ·rcases qY.1 h with rfl|h
   ·simp
   ·have:=IQ r a h
    simp;omega
  ·split at h
   ·rename_i he
    exact absurd he (Au 46 r)
   ·rename_i h0 t he
    rcases qY.1 h with rfl|h
    ·have:=IQ r h0 (by rw[he];exact qQ)
     simp;omega
    ·have:=IQ r a (by rw[he];exact yE _ h)
     simp;omega
def PI(w:World)(b2 b3 b4 base:Nat)(pre:List (List UInt8))(W:World):Prop:= ∃v,Boxed W b4 342 v/\W.ownsRow base 355 3 v pre.length (IL pre)/\pre.all gI=true/\pre.length<=8/\
 Boxed W b2 342 (.slice none 0 0)/\Boxed W b3 4 (.bool false)/\O0 w W
theorem Boxed.only{W W':World}{k:Nat}{t:TypeId}{u:Value}{F:Nat->Prop}(h:Boxed W k t u)(ho:Only F W W')(hk:¬F k):Boxed W' k t u:=(ho.block k h.lt hk).trans h
theorem PI.keep{w:World}{b2 b3 b4 base:Nat}{pre:List (List UInt8)}{W W':World}{F:Nat->Prop}(h:PI w b2 b3 b4 base pre W)(ho:Only F W W')(h2:¬F b2)(h3:¬F b3)(h4:¬F b4)(hb:∀k,base<=k->¬F k)(hw:∀k,F k->w.heap.size<=k):PI w b2 b3 b4 base pre W':=by obtain⟨v,g1,g2,g3,g4,g5,g6,g7⟩:=h;exact⟨v,Boxed.only g1 ho h4,aW g2 ho (fun k hk=>hb k (g2.lt k hk).1),g3,g4,Boxed.only g5 ho h2,Boxed.only g6 ho h3,g7.trans ho fun k hk=>.inr (hw k hk)⟩
def PR(w:World)(s:Str)(b2 b3:Nat)(W:World):Prop:=iV s.toList=false/\Boxed W b2 342 (.slice none 0 0)/\Boxed W b3 4 (.bool false)/\O0 w W
theorem PR.keep{w:World}{s:Str}{b2 b3:Nat}{W W':World}{F:Nat->Prop}(h:PR w s b2 b3 W)(ho:Only F W W')(h2:¬F b2)(h3:¬F b3)(hw:∀k,F k->w.heap.size<=k):PR w s b2 b3 W':=by obtain⟨g1,g5,g6,g7⟩:=h;exact⟨g1,Boxed.only g5 ho h2,Boxed.only g6 ho h3,g7.trans ho fun k hk=>.inr (hw k hk)⟩
theorem Uj(s:Str)(hs:okS s)(hL:Laid w):Calls Tryz.prog 329 #[.string s] w (fun e w'=>zJ s w w' e):=by
 refine(callsIn_wide (n:=9)).1 ?_;refine callsIn_of_wp_marks Tryz.func329 rfl trivial ?_ rfl;simp only[Tryz.ntmps329,List.size_toArray,qN,List.length_nil,Nat.reduceAdd,Nat.reduceSub,Array.replicate_succ,Array.replicate_zero,List.push_toArray,List.append_toArray,List.nil_append,List.cons_append];have b2:Boxed ((w.alloc (.cells #[.slice none 0 0] 342)).alloc (.cells #[.bool false] 4)) w.heap.size 342 (.slice none 0 0):=(Boxed.new w _ _).alloc _;have b3:Boxed ((w.alloc (.cells #[.slice none 0 0] 342)).alloc (.cells #[.bool false] 4)) (w.heap.size+1) 4 (.bool false):=by have:=Boxed.new (w.alloc (.cells #[.slice none 0 0] 342)) 4 (.bool false);rwa[World.size_alloc]at this
 have oB:O0 w ((w.alloc (.cells #[.slice none 0 0] 342)).alloc (.cells #[.bool false] 4)):=((Only.refl _ w).alloc _).alloc _;have HB:=zh (And.intro b2 (And.intro b3 oB));clear b2 b3 oB;by_cases h0:s.size=0;·obtain rfl:=wB h0;clear hL hs;gi_wp2;obtain⟨b2,b3,oB⟩:=HB.out;exact⟨_,wM rfl rfl b2 b3,zJ.no rfl (by unfold iV;rw[bC,qP (by omega:¬0<(⟨#[]⟩:ByteArray).size),yQ,yQ,yQ]) oB⟩
 have hemp:s.toList.isEmpty=false:=by rw[isE,qP h0]
 by_cases h40:40<s.size
 ·have h41:(40:Int)<(s.size:Int):=by omega
  clear hL;gi_wp2;obtain⟨b2,b3,oB⟩:=HB.out;exact⟨_,wM rfl rfl b2 b3,zJ.no rfl (by unfold iV;rw[bC,qP (by omega:¬s.size<=40),Bool.and_false,yQ,yQ]) oB⟩
 have h41:¬(40:Int)<(s.size:Int):=by omega
 have h42:(s.size:Int)<=40:=zAA;have h43:s.size<=40:=zAA;have HL:=zh hL;obtain⟨wa,YM⟩:=ze (((w.alloc (.cells #[.slice none 0 0] 342)).alloc (.cells #[.bool false] 4)).alloc (.cells #[.slice none 0 0] 342));obtain⟨b2,b3,oB⟩:=HB.out;obtain⟨m,hm⟩:=ze (w.heap.size+3);have hsa:wa.heap.size=m:=by rw[<-YM,<-hm];simp
 have a2:Boxed wa w.heap.size 342 (.slice none 0 0):=by rw[<-YM];exact b2.alloc _
 have a3:Boxed wa (w.heap.size+1) 4 (.bool false):=by rw[<-YM];exact b3.alloc _
 have a4:Boxed wa (w.heap.size+1+1) 342 (.slice none 0 0):=by rw[<-YM];have:=Boxed.new ((w.alloc (.cells #[.slice none 0 0] 342)).alloc (.cells #[.bool false] 4)) 342 (.slice none 0 0);simpa using this
 have oa:O0 w wa:=by rw[<-YM];exact oB.alloc _
 have HA:=zh (And.intro a2 (And.intro a3 (And.intro a4 oa)));have HSA:=zh hsa;have hS:=YK (w:=wa) s ⟨#[46]⟩;rw[hsa]at hS;have HS:=zh hS;clear hS;clear HB b2 b3 oB a2 a3 a4 oa hsa hL hs;gi_wp2;clear YM;refine⟨trivial,(callsIn_wide.2 HS.out).mono ?_⟩;rintro e w1 ⟨rfl,hw1⟩;have c3:Boxed w1 m 9 (.string s):=by rw[hw1,<-HSA.out];exact((Boxed.new wa _ _).alloc _).alloc _
 have c4:Boxed w1 (m+1) 9 (.string ⟨#[46]⟩):=by rw[hw1];have:=(Boxed.new (wa.alloc (.cells #[.string s] 9)) 9 (.string ⟨#[46]⟩)).alloc (.cells #[.int .i64 0] 3);rw[World.size_alloc,HSA.out]at this;exact this
 have c5:Boxed w1 (m+2) 3 (.int .i64 0):=by rw[hw1];have:=Boxed.new ((wa.alloc (.cells #[.string s] 9)).alloc (.cells #[.string ⟨#[46]⟩] 9)) 3 (.int .i64 0);rw[World.size_alloc,World.size_alloc,HSA.out]at this;exact this
 have o1:O0 wa w1:=by rw[hw1];exact(((Only.refl _ wa).alloc _).alloc _).alloc _
 have hs1:w1.heap.size=m+3:=by rw[hw1];simp[HSA.out]
 obtain⟨a2,a3,a4,oa⟩:=HA.out;have keep:∀{k:Nat} {t:TypeId} {u:Value},Boxed wa k t u->Boxed w1 k t u:=fun h=>(o1.block _ h.lt (fun f=>f)).trans h;have HW1:=zh (And.intro (keep a2) (And.intro (keep a3) (And.intro (keep a4) (And.intro c3 (And.intro c4 (And.intro c5 (And.intro (oa.same o1) hs1)))))));clear hw1 c3 c4 c5 o1 hs1 a2 a3 a4 oa keep HA HS HSA;gi_wp2;obtain⟨a2,a3,a4,c3,c4,c5,ow,hs1⟩:=HW1.out;refine abe rfl zAA (gf:=413) (lb:= #[.pointer (some ⟨m+1,0,none⟩),.pointer (some ⟨m,0,none⟩),.pointer (some ⟨m+2,0,none⟩)]) (C:=fun k=>k=m+1\/k=m\/k=m+2) (enc:=fun a:List UInt8=>.string (YI a)) rfl trivial (enters_of Tryz.func413 zk rfl)
  (abg (w:=w1) 8 (by omega) (m+1) m (m+2) s zC8 zCj zAA c4 c3 c5) (fun k hk=>by omega) (Dl.refl _ _) (qH _) rfl
  (fun k=>k=w.heap.size\/k=w.heap.size+1\/k=w.heap.size+1+1\/m+5<=k) (fun k hk=>by omega)
  (PI w w.heap.size (w.heap.size+1) (w.heap.size+1+1) (m+5)) (fun _=>PR w s w.heap.size (w.heap.size+1))
  (fun p W W' h ho=>h.keep ho zC8 zCj zAA (fun k hk=>by omega) (fun k hk=>by omega))
  (fun p W W' h ho=>h.keep ho zCj zAA (fun k hk=>by omega))
  ⟨_,a4,World.ownsRow_nil _ _ _ _,rfl,by simp,a2,a3,ow⟩ (a₁:=?a1) ?assign ?body ?done ?stop
 case assign=>intro l x W K hK;gi_wp2;exact hK
 case body=>
  have Z4:=zh hs1
  clear a2 a3 a4 c3 c4 c5 ow hs1 HW1
  rintro l pre x suf W hsz hI hx
  obtain⟨v,g1,g2,g3,g4,g5,g6,g7⟩:=hI
  have hxl:x.length<=40:=by
   have:=IQ s.toList x (by rw[hx];simp)
   rw[bC]at this
   omega
  have Qi:=zh (aiM (w:=W) (YI x) (by show x.toArray.size<=_;rw[List.size_toArray];omega) (HL.out.only g7))
  have HX:=zh hx
  have HI:=zh (And.intro g1 (And.intro g2 (And.intro g3 (And.intro g4 (And.intro g5 (And.intro g6 g7))))))
  clear hx hxl g1 g2 g3 g4 g5 g6 g7
  gi_wp2
  refine⟨trivial,(CallsIn.inRound l (callsIn_wide.2 Qi.out)).mono ?_⟩
  rintro e W2 ⟨xr,yn,tw,ok,rfl,hok,hv,O2⟩
  rw[Wp]at hok hv
  obtain⟨g1,g2,g3,g4,g5,g6,g7⟩:=HI.out
  have k1:=Boxed.only g1 O2 (fun f=>f)
  have k2:=aW g2 O2 (fun _ _ f=>f)
  have k5:=Boxed.only g5 O2 (fun f=>f)
  have k6:=Boxed.only g6 O2 (fun f=>f)
  have HK:=zh (And.intro k1 (And.intro k2 (And.intro g3 (And.intro g4 (And.intro k5 (And.intro k6 (g7.same O2)))))))
  have HV:=zh (And.intro hok hv)
  have HO:=zh O2
  obtain⟨ao,cap,rfl,l1,l2⟩:=bg k2
  obtain⟨cs,hcs⟩:∃cs,(#[.int .i64 xr,.int .i64 yn,.string tw]:Array Value)=cs:=⟨_,rfl⟩
  have o3:O0 W2 (W2.alloc (.cells #[.int .i64 xr,.int .i64 yn,.string tw] 355)):=zr.alloc _
  have q4:=(Boxed.only k1 o3 (fun f=>f)).cell
  have f4:=(Boxed.only k1 o3 (fun f=>f)).frozen
  have q2:=(Boxed.only k5 o3 (fun f=>f)).cell
  have f2:=(Boxed.only k5 o3 (fun f=>f)).frozen
  have q3:=(Boxed.only k6 o3 (fun f=>f)).cell
  have f3:=(Boxed.only k6 o3 (fun f=>f)).frozen
  have hok2:=hok
  clear hok hv O2 g1 g2 g3 g4 g5 g6 g7 k1 k2 k5 k6 HI Qi o3 hcs
  cases ok with
  |false=>
   clear hok2
   gi_wp2
   obtain⟨k1,k2,g3,g4,k5,k6,g7⟩:=HK.out
   exact⟨(((HO.out.mono fun _ f=>f.elim).alloc _).setCell (p:=⟨w.heap.size,0,none⟩) (.inl (.inl rfl)) _).setCell (p:=⟨w.heap.size+1,0,none⟩) (.inl (.inr (.inl rfl))) _,
    Uh HX.out HV.out.1,((k5.alloc _).set _).other zCj _,((k6.alloc _).other zAA _).set _,((g7.alloc _).setCell (p:=⟨w.heap.size,0,none⟩) (.inr (qH _)) _).setCell (p:=⟨w.heap.size+1,0,none⟩) (.inr (by simp)) _⟩
  |true=>
   by_cases c8:pre.length=8
   ·have c8':(pre.length:Int)=8:=by omega
    gi_wp2
    obtain⟨k1,k2,g3,g4,k5,k6,g7⟩:=HK.out
    exact⟨(((HO.out.mono fun _ f=>f.elim).alloc _).setCell (p:=⟨w.heap.size,0,none⟩) (.inl (.inl rfl)) _).setCell (p:=⟨w.heap.size+1,0,none⟩) (.inl (.inr (.inl rfl))) _,
     Ui HX.out c8,((k5.alloc _).set _).other zCj _,((k6.alloc _).other zAA _).set _,((g7.alloc _).setCell (p:=⟨w.heap.size,0,none⟩) (.inr (qH _)) _).setCell (p:=⟨w.heap.size+1,0,none⟩) (.inr (by simp)) _⟩
   ·have c8':¬(pre.length:Int)=8:=by omega
    obtain⟨i0,z0,hi,hz0,hz1,hz2,hz3⟩:=adM.info
    have HI0:=zh (And.intro hi (And.intro hz0 (And.intro hz1 (And.intro hz2 hz3))))
    obtain⟨W4,MR⟩:=ze ((W2.alloc (.cells #[.int .i64 xr,.int .i64 yn,.string tw] 355)).alloc (.cells #[.int .i64 xr,.int .i64 yn,.string tw] 355))
    have o4:O0 W2 W4:=by rw[<-MR];exact(zr.alloc _).alloc _
    have hn4:W4.heap[W2.heap.size+1]? =some (.cells #[.int .i64 xr,.int .i64 yn,.string tw] 355 (0,0)):=by
     rw[<-MR]
     have:=qL (W2.alloc (.cells #[.int .i64 xr,.int .i64 yn,.string tw] 355)) (.cells #[.int .i64 xr,.int .i64 yn,.string tw] 355)
     rwa[World.size_alloc]at this
    obtain⟨k1,k2,g3,g4,k5,k6,g7⟩:=HK.out
    have h8:=g4
    have X6:Hid (∀(j:Nat) (u:Value),[Value.int .i64 xr,.int .i64 yn,.string tw][j]? =some u->W4.cell? ((⟨W2.heap.size+1,0,none⟩:Addr).add j)=some u):=fun j u hu=>by
     match j,hu with
     |0,hu=>simp at hu;subst hu;simp[World.cell?,Addr.add,hn4]
     |1,hu=>simp at hu;subst hu;simp[World.cell?,Addr.add,hn4]
     |2,hu=>simp at hu;subst hu;simp[World.cell?,Addr.add,hn4]
     |k+3,hu=>simp at hu
    have HOW:=zh (aW k2 o4 (fun _ _ f=>f))
    have HB4:=zh (Boxed.only k1 o4 (fun f=>f))
    have HNE:Hid (some (w.heap.size+1+1)≠(Value.slice ao pre.length cap).ownBlock):=fun e=>by have:=(HOW.out.lt _ e.symm).1;omega
    have Ej:=zh o4
    have HW4:=zh MR
    have hs4:m+5<=W4.heap.size:=by have:=HO.out.size;have:=o4.size;have:=Z4.out;omega
    clear k1 k2 g3 g4 k5 k6 g7 o4 hn4 hi hz0 hz1 hz2 hz3 MR
    gi_wp2_with (gi_at_builtin;rw[HW4.out];obtain⟨hi,hz0,hz1,hz2,hz3⟩:=HI0.out;refine wpListIn_append_own _ rfl _ _ 342 rfl (m+5) 355 i0 z0 3 32 adM.und hi hz0 hz1 hz2 hz3 zHZ _ _ _ rfl HOW.out ⟨W2.heap.size+1,0,none⟩ 1 1 [.int .i64 xr,.int .i64 yn,.string tw] rfl rfl X6.out zC9 (by unfold maxLen;omega) zAA hs4 ?_;intro v' w5 hown' hgrow _;obtain⟨g5,cap5,rfl⟩:=ownsRow_succ hown';have hb5:=HB4.out.kept hgrow HNE.out;have cb5:=hb5.cell;have fb5:=hb5.frozen)
    obtain⟨k1,k2,g3,g4,k5,k6,g7⟩:=HK.out
    obtain⟨hok,hv⟩:=HV.out
    obtain⟨rfl,rfl,ht⟩:=hv zCA
    have et:tw=YI (eU x):=toList_inj (by rw[ht,Wp])
    subst et
    have hrow:∀k,(Value.slice ao pre.length cap).ownBlock=some k->m+5<=k:=fun k hk=>(HOW.out.lt _ hk).1
    have adN:∀k,(Value.slice (some ⟨g5,0,none⟩) (pre.length+1) cap5).ownBlock=some k->m+5<=k:=fun k hk=>(hown'.lt _ hk).1
    have hsw:w.heap.size<=W2.heap.size:=g7.size
    have oW:Only (fun k=>k=w.heap.size\/k=w.heap.size+1\/k=w.heap.size+1+1\/m+5<=k) W w5:=((HO.out.same Ej.out).mono fun _ f=>f.elim).grown hgrow fun k hk=>.inl (.inr (.inr (.inr (hrow k hk))))
    have ow5:O0 w w5:=(g7.same Ej.out).grown hgrow fun k hk=>.inr (by have:=hrow k hk;omega)
    have z2:Boxed w5 w.heap.size 342 (.slice none 0 0):=(Boxed.only k5 Ej.out (fun f=>f)).kept hgrow (fun e=>by have:=hrow _ e.symm;omega)
    have z3:Boxed w5 (w.heap.size+1) 4 (.bool false):=(Boxed.only k6 Ej.out (fun f=>f)).kept hgrow (fun e=>by have:=hrow _ e.symm;omega)
    refine⟨oW.setCell (p:=⟨w.heap.size+1+1,0,none⟩) (.inl (.inr (.inr (.inl rfl)))) _,_,hb5.set _,?_,?_,?_,z2.other zCj _,z3.other zAA _,ow5.setCell (p:=⟨w.heap.size+1+1,0,none⟩) (.inr (by simp;omega)) _⟩
    ·rw[qK,YL]
     exact aW hown' ((Only.refl (fun k=>k=w.heap.size+1+1) w5).setCell (p:=⟨w.heap.size+1+1,0,none⟩) (.inl rfl) _) (fun k hk e=>by have:=adN k hk;omega)
    ·rw[List.all_append,g3,List.all_cons,hok];rfl
    ·rw[qK];simp;omega
 case done=>
  have Z4:=zh hs1;clear a2 a3 a4 c3 c4 c5 ow hs1 HW1;rintro W hI hK;obtain⟨v,g1,g2,g3,g4,g5,g6,g7⟩:=hI;obtain⟨ao,cap,rfl,l1,l2⟩:=bg g2;have HI:=zh (And.intro g1 (And.intro g2 (And.intro g3 (And.intro g4 (And.intro g5 (And.intro g6 g7))))));have HKK:=zh hK;have q4:=g1.cell;have q2:=g5.cell;have f2:=g5.frozen;have q3:=g6.cell;have f3:=g6.frozen;clear g1 g2 g3 g4 g5 g6 g7 hK;gi_wp2;obtain⟨g1,g2,g3,g4,g5,g6,g7⟩:=HI.out;have hD:=Z4.out;have o2:Only (fun k=>k=w.heap.size\/k=w.heap.size+1) W ((W.setCell ⟨w.heap.size,0,none⟩ (.slice ao (dZ 46 s.toList).length cap)).setCell ⟨w.heap.size+1,0,none⟩ (.bool true)):=
   ((Only.refl _ W).setCell (p:=⟨w.heap.size,0,none⟩) (.inl (.inl rfl)) _).setCell (p:=⟨w.heap.size+1,0,none⟩) (.inl (.inr rfl)) _
  have hK2:=(o2.block w1.heap.size (yA.1 HKK.out).1 zAA).trans HKK.out;refine⟨by simp,.inl ⟨_,_,rfl,run_takeDeferred hK2,?_⟩⟩;have o3:Only (fun k=>k=w1.heap.size) ((W.setCell ⟨w.heap.size,0,none⟩ (.slice ao (dZ 46 s.toList).length cap)).setCell ⟨w.heap.size+1,0,none⟩ (.bool true)) (((W.setCell ⟨w.heap.size,0,none⟩ (.slice ao (dZ 46 s.toList).length cap)).setCell ⟨w.heap.size+1,0,none⟩ (.bool true)).putObj w1.heap.size (.deferred none)):=
   ⟨rfl,rfl,rfl,by simp,fun k _ hn=>World.putObj_heap_other hn⟩
  have hrow:∀k,(Value.slice ao (dZ 46 s.toList).length cap).ownBlock=some k->m+5<=k:=fun k hk=>(g2.lt _ hk).1;have hm2:iV s.toList=true:=by unfold iV;rw[bC,qX zAA,qX h43,g3,qX g4];rfl
  refine⟨_,wM rfl rfl (Boxed.only ((g5.set _).other (by omega) _) o3 zC8) (Boxed.only ((g6.other zCj _).set _) o3 zAA),_,true,rfl,hm2,fun _=>?_,?_⟩;·exact abh (aW (aW g2 o2 fun k hk e=>by have:=hrow k hk;omega) o3 fun k hk e=>by have:=hrow k hk;omega) g3 fun a ha=>by have:=IQ s.toList a ha;rw[bC]at this;omega
  exact(g7.trans o2 fun k hk=>.inr zCj).trans o3 fun k hk=>.inr zAA
 case stop=>have Z4:=zh hs1;clear a2 a3 a4 c3 c4 c5 ow hs1 HW1;rintro pre W hpre hR hK;obtain⟨r1,r2,r3,r4⟩:=hR;have hD:=Z4.out;gi_wp2;refine⟨by simp,.inl ⟨_,_,rfl,run_takeDeferred hK,?_⟩⟩;have o3:Only (fun k=>k=w1.heap.size) W (W.putObj w1.heap.size (.deferred none)):=⟨rfl,rfl,rfl,by simp,fun k _ hn=>World.putObj_heap_other hn⟩;exact⟨_,wM rfl rfl (Boxed.only r2 o3 zC8) (Boxed.only r3 o3 zCj),zJ.no rfl r1 (r4.trans o3 fun k hk=>.inr zAA)⟩
end
end Go.Proofs.YtdmmebjjojimiaaGreatDoor
namespace Go.Proofs
theorem zCB{p:Prop}(h:p:=by have h:=HA.out;rw[take_size]at h;exact h):p:=h
theorem zEg{p:Prop}(h:p:=by
 go_wp2_with fail
 go_roundw
 case rel=>exact⟨kD,i+1,by first|rfl|go_num,by omega,HN⟩
 case measure=>simp[RowKit.intOf]<;>omega):p:=h
theorem zHC{p:Prop}(h:p:=by
 go_enter Tryz.func328,Tryz.ntmps328
 exact zDo):p:=h
theorem zHD{p:Prop}(h:p:=by
 go_enter Tryz.func327,Tryz.ntmps327
 exact zDo):p:=h
theorem zHK{p:Prop}(h:p:=by
 go_wp2_with fail
 go_ret
 exact⟨rfl,O1⟩):p:=h
end Go.Proofs
namespace Go.Proofs.YtdmmebjjojimiaaGreatDoor
open Go.RowKit
open Vn (GZ xJ ku isLt gI wW)
open Lk (nameB gW pF)
section
variable {w:World}
theorem IU{c:UInt8}(h:c.toNat<97):isLt c=false:=by unfold isLt;rw[qP];omega
theorem Uk{c:UInt8}(h:122<c.toNat):isLt c=false:=by unfold isLt;rw[qP];omega
theorem Ul{c:UInt8}(h:¬c.toNat<97)(h2:¬122<c.toNat):isLt c=true:=by unfold isLt;rw[yP];omega
theorem Um{c:UInt8}(h:c.toNat<48):ku c=false:=by unfold ku;rw[qP];omega
theorem Un{c:UInt8}(h:57<c.toNat):ku c=false:=by unfold ku;rw[qP];omega
theorem aaq{c:UInt8}(h:¬c.toNat<48)(h2:¬57<c.toNat):ku c=true:=by unfold ku;rw[yP];omega
theorem adQ(c:UInt8)(r:Bool)(hr:isLt c=r):Calls Tryz.prog 327 #[.int .u8 (c.toNat:Int)] w (fun e w'=>e= .returned (.bool r)/\O0 w w'):=by
 subst hr;by_cases c1:c.toNat<97;·rw[IU c1];exact zHD
 by_cases c2:122<c.toNat;·rw[Uk c2];have d:decide ((c.toNat:Int)<=122)=false:=qP zAA;exact zHD
 rw[Ul c1 c2];have d:decide ((c.toNat:Int)<=122)=true:=qX zAA;exact zHD
theorem aar(c:UInt8)(r:Bool)(hr:ku c=r):Calls Tryz.prog 328 #[.int .u8 (c.toNat:Int)] w (fun e w'=>e= .returned (.bool r)/\O0 w w'):=by
 subst hr;by_cases c1:c.toNat<48;·rw[Um c1];exact zHC
 by_cases c2:57<c.toNat;·rw[Un c2];have d:decide ((c.toNat:Int)<=57)=false:=qP zAA;exact zHC
 rw[aaq c1 c2];have d:decide ((c.toNat:Int)<=57)=true:=qX zAA;exact zHC
theorem IV{s:Str}(h:0<s.size):s.toList.head?.any isLt=isLt s[0]:=by rw[aag h];rfl
theorem NZ{s:Str}:nameB s.toList=(decide (0<s.size)&&decide (s.size<=24)&&s.toList.head?.any isLt&&s.toList.all pF):=by unfold nameB;rw[bC]
theorem IW(s:Str)(hs:okS s)(r:Bool)(hr:nameB s.toList=r):Calls Tryz.prog 258 #[.string s] w (fun e w'=>e= .returned (.bool r)/\O0 w w'):=by
 have hs2:s.size<=9223372036854775807:=zBM;rw[NZ]at hr;have aZ:=zh hr;clear hs hr;have QA:Hid (∀(W:World) (c:UInt8) (r:Bool),isLt c=r->Calls Tryz.prog 327 #[.int .u8 (c.toNat:Int)] W (fun e w'=>e= .returned (.bool r)/\O0 W w')):=fun W c r h=>adQ c r h;have HDg:Hid (∀(W:World) (c:UInt8) (r:Bool),ku c=r->Calls Tryz.prog 328 #[.int .u8 (c.toNat:Int)] W (fun e w'=>e= .returned (.bool r)/\O0 W w')):=fun W c r h=>aar c r h;go_enter Tryz.func258,Tryz.ntmps258;go_wp2_with fail;go_loopw [6] (fun vi wr=>Hid (O0 w wr)/\∃i:Nat,vi= .int .i64 i/\i<=s.size/\Hid ((s.toList.take i).all pF=true)) (fun v _=>s.size-(RowKit.intOf v).toNat);case atStart=>exact⟨show Hid _ from Only.refl _ _,0,rfl,qE _,show Hid _ from by simp[Hid]⟩
 case round=>
  obtain⟨HO,i,rfl,hi,HA⟩:=hrel;by_cases ci:i<s.size
  ·have iE:=zw (i+1);obtain⟨b,hb⟩:∃b:UInt8,s[i]=b:=⟨_,rfl⟩;have HB:=zh hb;cases hl:isLt b with
   |true=>
    have HL:=zh (QA.out wr b true hl);have HN:Hid ((s.toList.take (i+1)).all pF=true):=by rw[Hid,kK ci,HA.out,HB.out,yR];unfold pF;rw[hl];rfl
    clear hl;go_wp2_with fail;refine HL.out.mono ?_;rintro e w2 ⟨rfl,O2⟩;have eF:=zh (HO.out.same O2);clear O2 HL;go_wp2_with fail;go_roundw;case rel=>exact⟨eF,i+1,by first|rfl|go_num,by omega,HN⟩
    case measure=>simp[RowKit.intOf]<;>omega
   |false=>
    have HL:=zh (QA.out wr b false hl);have HLf:=zh hl;clear hl;go_wp2_with fail;refine HL.out.mono ?_;rintro e w2 ⟨rfl,O2⟩;have eF:=zh (HO.out.same O2);clear O2 HL;cases hd:ku b with
    |true=>
     have HD:=zh (HDg.out w2 b true hd);have HN:Hid ((s.toList.take (i+1)).all pF=true):=by rw[Hid,kK ci,HA.out,HB.out,yR];unfold pF;rw[hd];simp
     clear hd;go_wp2_with fail;refine HD.out.mono ?_;rintro e w3 ⟨rfl,O3⟩;have kD:=zh (eF.out.same O3);clear O3 HD;exact zEg
    |false=>
     have HD:=zh (HDg.out w2 b false hd);have HDf:=zh hd;clear hd;go_wp2_with fail;refine HD.out.mono ?_;rintro e w3 ⟨rfl,O3⟩;have kD:=zh (eF.out.same O3);clear O3 HD;by_cases c45:b.toNat=45
     ·have HN:Hid ((s.toList.take (i+1)).all pF=true):=by rw[Hid,kK ci,HA.out,HB.out,yR];unfold pF;rw[qX c45];simp
      exact zEg
     have hrf:r=false:=by rw[<-aZ.out,all_false ci (by rw[HB.out];unfold pF;rw[HLf.out,HDf.out,qP c45];rfl),Bool.and_false]
     subst hrf;exact zFi
  obtain rfl:i=s.size:=by omega
  have adR:Hid (s.toList.all pF=true):=zCB;clear HA;by_cases c0:0<s.size
  ·by_cases c24:s.size<=24
   ·obtain⟨b,hb⟩:∃b:UInt8,s[0]=b:=⟨_,rfl⟩;have hrl:isLt b=r:=by rw[<-aZ.out,qX c0,qX c24,adR.out,IV c0,hb];simp
    have HL:=zh (QA.out wr b r hrl);clear hrl;go_wp2_with fail;refine HL.out.mono ?_;rintro e w2 ⟨rfl,O2⟩;go_wp2_with fail;go_ret;exact⟨rfl,HO.out.same O2⟩
   have hrf:r=false:=by rw[<-aZ.out,qP c24];simp
   subst hrf;exact zDy
  have hrf:r=false:=by rw[<-aZ.out,qP c0];simp
  subst hrf;exact zDy
theorem abj{s:Str}(h:nameB s.toList=false):gW s.toList=(s.toList.all ku&&decide (0<s.size)&&decide (s.size<=3)):=by
 unfold gW GZ;rw[h,isE,bC,Bool.false_or];congr 2;by_cases c:s.size=0;·simp[c]
 rw[qP c,qX zAA];rfl
theorem Wq(s:Str)(hs:okS s)(r:Bool)(hr:gW s.toList=r):Calls Tryz.prog 331 #[.string s] w (fun e w'=>e= .returned (.bool r)/\O0 w w'):=by
 obtain⟨n,hn⟩:=ze (nameB s.toList);have RJ:=zh (IW (w:=w) s hs n hn);have hs2:s.size<=9223372036854775807:=zBM;have HDg:Hid (∀(W:World) (c:UInt8) (r:Bool),ku c=r->Calls Tryz.prog 328 #[.int .u8 (c.toNat:Int)] W (fun e w'=>e= .returned (.bool r)/\O0 W w')):=fun W c r h=>aar c r h;cases n with
 |true=>
  have hrt:r=true:=by rw[<-hr];unfold gW;rw[hn];rfl
  subst hrt;clear hr hn hs;go_enter Tryz.func331,Tryz.ntmps331;go_wp2_with fail;refine RJ.out.mono ?_;rintro e w1 ⟨rfl,O1⟩;exact zHK
 |false=>
  rw[abj hn]at hr;have aZ:=zh hr;clear hr hn hs;go_enter Tryz.func331,Tryz.ntmps331;go_wp2_with fail;refine RJ.out.mono ?_;rintro e w1 ⟨rfl,O1⟩;have aI:=zh O1;clear O1 RJ;go_wp2_with fail;go_loopw [8] (fun vi wr=>Hid (O0 w wr)/\∃i:Nat,vi= .int .i64 i/\i<=s.size/\Hid ((s.toList.take i).all ku=true)) (fun v _=>s.size-(RowKit.intOf v).toNat);case atStart=>exact⟨aI,0,rfl,qE _,show Hid _ from by simp[Hid]⟩
  case round=>
   obtain⟨HO,i,rfl,hi,HA⟩:=hrel;by_cases ci:i<s.size
   ·have iE:=zw (i+1);obtain⟨b,hb⟩:∃b:UInt8,s[i]=b:=⟨_,rfl⟩;have HB:=zh hb;cases hd:ku b with
    |true=>
     have HD:=zh (HDg.out wr b true hd);have HN:Hid ((s.toList.take (i+1)).all ku=true):=by rw[Hid,kK ci,HA.out,HB.out,yR,hd]
     clear hd;go_wp2_with fail;refine HD.out.mono ?_;rintro e w3 ⟨rfl,O3⟩;have kD:=zh (HO.out.same O3);clear O3 HD;exact zEg
    |false=>
     have HD:=zh (HDg.out wr b false hd);have hrf:r=false:=by rw[<-aZ.out,all_false ci (by rw[HB.out];exact hd)];simp
     subst hrf;clear hd;go_wp2_with fail;refine HD.out.mono ?_;rintro e w3 ⟨rfl,O3⟩;go_wp2_with fail;go_ret;exact⟨rfl,HO.out.same O3⟩
   obtain rfl:i=s.size:=by omega
   have adR:Hid (s.toList.all ku=true):=zCB;clear HA;by_cases c0:0<s.size
   ·by_cases c3:s.size<=3
    ·have d:decide ((s.size:Int)<=3)=true:=qX zAA;have hrt:r=true:=by rw[<-aZ.out,qX c0,qX c3,adR.out];rfl
     subst hrt;exact zDy
    have d:decide ((s.size:Int)<=3)=false:=qP zAA;have hrf:r=false:=by rw[<-aZ.out,qP c3];simp
    subst hrf;exact zDy
   have hrf:r=false:=by rw[<-aZ.out,qP c0];simp
   subst hrf;exact zDy
theorem YO(s:Str)(hs:okS s)(hL:Laid w)(r:Bool)(hr:iV s.toList=r):Calls Tryz.prog 259 #[.string s] w (fun e w'=>e= .returned (.bool r)/\O0 w w'):=by have HP:=zh (Uj s hs hL);have aZ:=zh hr;clear hr hL hs;go_enter Tryz.func259,Tryz.ntmps259;go_wp2_with fail;refine HP.out.mono ?_;rintro e w1 ⟨v,ok,rfl,h1,-,O1⟩;obtain rfl:ok=r:=h1.symm.trans aZ.out;clear h1 HP aZ;exact zHK
end
end Go.Proofs.YtdmmebjjojimiaaGreatDoor
namespace Go.Proofs
theorem zGJ{p:Prop}(h:p:=by
 subst hrf
 clear aZ
 go_enter Tryz.func130,Tryz.ntmps130
 exact zDo):p:=h
end Go.Proofs
namespace Go.Proofs.YtdmmebjjojimiaaGreatDoor
open Go.RowKit
open Vn (GZ xJ ku isLt gI wW)
open Lk (nameB gW pF cutAt)
section
variable {w:World}
theorem size_pos{s:Str}(h:0<s.size):(s.toList==([]:List UInt8))=false:=by
 have:=Ro h;cases hl:s.toList with
 |nil=>exact absurd hl this
 |cons a l=>rfl
theorem aly{b:UInt8}(h:b.toNat<45):pF b=false:=by unfold pF;rw[IU zC8,Um zCj,qP zAA];rfl
theorem alz{b:UInt8}(h:b.toNat=45):pF b=true:=by unfold pF;rw[qX h];simp
theorem alA{b:UInt8}(h:45<b.toNat)(h2:b.toNat<48):pF b=false:=by unfold pF;rw[IU zC8,Um zCj,qP zAA];rfl
theorem alB{b:UInt8}(h:¬b.toNat<48)(h2:¬57<b.toNat):pF b=true:=by unfold pF;rw[aaq h h2];simp
theorem ajq{b:UInt8}(h:57<b.toNat)(h2:b.toNat<97):pF b=false:=by unfold pF;rw[IU h2,Un h,qP zAA];rfl
theorem alC{b:UInt8}(h:¬b.toNat<97)(h2:¬122<b.toNat):pF b=true:=by unfold pF;rw[Ul h h2];simp
theorem alD{b:UInt8}(h:122<b.toNat):pF b=false:=by unfold pF;rw[Uk h,Un zCj,qP zAA];rfl
theorem Ja(s:Str)(hs:okS s)(r:Bool)(hr:nameB s.toList=r):Calls Tryz.prog 130 #[.string s] w (fun e w'=>e= .returned (.bool r)/\O0 w w'):=by
 have hs2:s.size<=9223372036854775807:=zBM;rw[NZ]at hr;have aZ:=zh hr;clear hs hr;by_cases c0:s.size=0
 ·obtain rfl:=wB c0;have hrf:r=false:=by rw[<-aZ.out];rfl
  subst hrf;clear aZ hs2 c0;go_enter Tryz.func130,Tryz.ntmps130;exact zDo
 have h0:0<s.size:=by omega
 have he:=size_pos h0;by_cases c24:24<s.size
 ·have hrf:r=false:=by rw[<-aZ.out,qP (show¬s.size<=24 by omega)];simp
  exact zGJ
 obtain⟨b0,hb0⟩:∃b:UInt8,s[0]=b:=⟨_,rfl⟩;by_cases c97:b0.toNat<97
 ·have hrf:r=false:=by rw[<-aZ.out,IV h0,hb0,IU c97];simp
  exact zGJ
 by_cases alE:122<b0.toNat
 ·have hrf:r=false:=by rw[<-aZ.out,IV h0,hb0,Uk alE];simp
  exact zGJ
 have HR2:Hid (s.toList.all pF=r):=by rw[<-aZ.out,IV h0,hb0,Ul c97 alE,qX h0,qX (show s.size<=24 by omega)];simp[Hid]
 clear aZ;go_enter Tryz.func130,Tryz.ntmps130;go_wp2_with fail;go_loopw [3] (fun vi wr=>Hid (O0 w wr)/\∃i:Nat,vi= .int .i64 i/\i<=s.size/\Hid ((s.toList.take i).all pF=true)) (fun v _=>s.size-(RowKit.intOf v).toNat);case atStart=>exact⟨show Hid _ from Only.refl _ _,0,rfl,qE _,show Hid _ from by simp[Hid]⟩
 case round=>
  obtain⟨HO,i,rfl,hi,HA⟩:=hrel;by_cases ci:i<s.size
  ·have iE:=zw (i+1);obtain⟨b,hb⟩:∃b:UInt8,s[i]=b:=⟨_,rfl⟩;have HB:=zh hb;have hyes:pF b=true->Hid ((s.toList.take (i+1)).all pF=true):=fun h=>by rw[Hid,kK ci,HA.out,HB.out,h];rfl
   have hno:pF b=false->r=false:=fun h=>by rw[<-HR2.out];exact all_false ci (by rw[HB.out];exact h)
   have Fb:=zh hyes;have uI:=zh hno;clear hyes hno;by_cases d1:b.toNat<97
   ·by_cases d2:b.toNat<48
    ·have q:decide ((b.toNat:Int)=45)=decide (b.toNat=45):=decide_eq_decide.2 zAA;by_cases d3:b.toNat=45;·have HN:=Fb.out (alz d3);go_wp2_with fail;all_goals exact⟨⟨HO,i+1,by first|rfl|go_num,by omega,HN⟩,by simp[RowKit.intOf]<;>omega⟩
     have hrf:r=false:=uI.out (by by_cases d4:b.toNat<45;exact aly d4;exact alA zAA d2);subst hrf;have q2:((b.toNat:Int)==45)=false:=zBd;go_wp2_with fail;all_goals (go_ret;exact⟨rfl,HO.out⟩)
    by_cases d3:57<b.toNat;·have hrf:r=false:=uI.out (ajq d3 d1);subst hrf;have d4:¬b.toNat=45:=zAA;have q1:decide ((b.toNat:Int)<=57)=false:=qP zAA;have q2:((b.toNat:Int)==45)=false:=zBd;go_wp2_with fail;all_goals (go_ret;exact⟨rfl,HO.out⟩)
    have HN:=Fb.out (alB d2 d3);have q1:decide ((b.toNat:Int)<=57)=true:=qX zAA;go_wp2_with fail;all_goals exact⟨⟨HO,i+1,by first|rfl|go_num,by omega,HN⟩,by simp[RowKit.intOf]<;>omega⟩
   by_cases d2:122<b.toNat;·have hrf:r=false:=uI.out (alD d2);subst hrf;have d3:¬b.toNat<48:=zAA;have d5:57<b.toNat:=zAA;have d4:¬b.toNat=45:=zAA;have q0:decide ((b.toNat:Int)<=122)=false:=qP zAA;have q1:decide ((b.toNat:Int)<=57)=false:=qP zAA;have q2:((b.toNat:Int)==45)=false:=zBd;go_wp2_with fail;all_goals (go_ret;exact⟨rfl,HO.out⟩)
   have HN:=Fb.out (alC d1 d2);have q1:decide ((b.toNat:Int)<=122)=true:=qX zAA;go_wp2_with fail;all_goals exact⟨⟨HO,i+1,by first|rfl|go_num,by omega,HN⟩,by simp[RowKit.intOf]<;>omega⟩
  obtain rfl:i=s.size:=by omega
  have hrt:r=true:=by rw[<-HR2.out,<-HA.out,take_size]
  subst hrt;exact zDy
theorem Xe(s:Str)(hs:okS s)(r:Bool)(hr:gW s.toList=r):Calls Tryz.prog 132 #[.string s] w (fun e w'=>e= .returned (.bool r)/\O0 w w'):=by
 obtain⟨n,hn⟩:=ze (nameB s.toList);obtain⟨d,hd⟩:=ze (GZ s.toList);have RJ:=zh (Ja (w:=w) s hs n hn);have HDg:Hid (∀W,Calls Tryz.prog 210 #[.string s] W (fun e w'=>e= .returned (.bool d)/\O0 W w')):=fun W=>IE s hs d hd;have hs2:s.size<=9223372036854775807:=zBM;have hr2:(n||d&&decide (s.size<=3))=r:=by rw[<-hr,<-hn,<-hd,<-bC];rfl
 clear hr hn hd hs;go_enter Tryz.func132,Tryz.ntmps132;go_wp2_with fail;refine RJ.out.mono ?_;rintro e w1 ⟨rfl,O1⟩;have aI:=zh O1;clear O1 RJ;cases n with
 |true=>
  have hrt:r=true:=by rw[<-hr2];rfl
  subst hrt;clear hr2;exact zEi
 |false=>
  have HD:=zh (HDg.out w1);have HR:=zh hr2;clear hr2 HDg;go_wp2_with fail;refine HD.out.mono ?_;rintro e w2 ⟨rfl,O2⟩;have eF:=zh (aI.out.same O2);clear O2 HD;cases d with
  |false=>
   have hrt:r=false:=by rw[<-HR.out];rfl
   subst hrt;exact zEH
  |true=>
   have q:decide ((s.size:Int)<=3)=r:=by rw[<-HR.out];simp;omega
   clear HR;exact zEH
end
end Go.Proofs.YtdmmebjjojimiaaGreatDoor
