/- A range over a function whose iterator keeps its state in cells of its own that lay ahead ; Wv4 Wv5 Wv6, in one text. -/
import Derived.Test.YtdmmebjjojimiaaGreatDoorG15
import Derived.RangeFuncNested
set_option maxRecDepth 100000
set_option maxHeartbeats 8000000
set_option linter.all false
namespace Go.Proofs.YtdmmebjjojimiaaGreatDoor
open Go.RowKit
def J7(C:Nat->Prop)(W W':World):Prop:= ∀k,C k->W'.heap[k]? =W.heap[k]?
theorem J7.refl(C:Nat->Prop)(W:World):J7 C W W:=fun _ _=>rfl
theorem J7.trans{C:Nat->Prop}{X Y Z:World}(h:J7 C X Y)(k:J7 C Y Z):J7 C X Z:=fun i hi=>(k i hi).trans (h i hi)
def AbC{β:Type}(C:Nat->Prop)(J:β->World->Prop):Prop:= ∀s W W',J s W->Only C W W'->J s W'
def ak9{α:Type}(F:Fence)(n:Nat)(P:Program)(g:Nat)(lb:Array Value)(enc:α->Value)(C:Nat->Prop)(xs:List α)(w:World):Prop:=
 ∀(l:Nat) (J Jx:List α->World->Prop) (W:World),J7 C w W->w.heap.size<=W.heap.size->AbC C J->AbC C Jx->
  (∀pre x suf W1,J pre W1->xs=pre++x::suf->YieldAt F (n-1) P l #[enc x] W1 fun e W'=>
   (e= .returned (.bool true)/\J (pre++[x]) W'/\J7 C W1 W'/\W1.heap.size<=W'.heap.size)\/(e= .returned (.bool false)/\Jx (pre++[x]) W'))->
  J [] W->
  CallsIn F n P g (#[.func (.yield l) #[] #[]]++lb) W fun e W'=>(∃v,e= .returned v)/\(J xs W'\/ ∃pre,pre<+:xs/\Jx pre W')
def ae7{α:Type}(G:Nat->Prop)(I Ir:List α->World->Prop)(xs:List α)(W:World):Exit->Act->World->Prop
 | .normal,_,W'=>Only G W W'/\I xs W'
 | .ret,_,W'=>Only G W W'/\Ir xs W'
 | .exit _,_,_=>False
 | .goto _,_,_=>False
 | .panic _,_,_=>False
 | .outgrown,_,_=>False
variable {F:Fence} {n:Nat} {P:Program}
theorem Z4{α:Type}{g:Operand}{ps:Array Tmp}{assign body:Code}{Q:Exit->Act->World->Prop}{a:Act}{w:World}
  (hro:F.round=none) (h1:1<=n) {gf:Nat} {lb:Array Value} (hg:a.eval g= .func (.func gf) #[] lb) (hFg:F.fn gf) (eg:∀args w,(callFunc gf args).run P w= .ok (.enter gf args) w)
  {enc:α->Value} {C:Nat->Prop} {xs:List α} {w0:World} (hseq:ak9 F (n-1) P gf lb enc C xs w0)
  (hC:∀k,C k->k<w.heap.size) (hw0:J7 C w0 w) (hsz:w0.heap.size<=w.heap.size) (hps:ps.size=1)
  (G:Nat->Prop) (hG:∀k,G k->¬C k/\k≠w.heap.size/\k≠w.heap.size+1)
  (I Ir:List α->World->Prop)
  (hI:∀s W W',I s W->Only (fun k=>C k\/k=w.heap.size\/k=w.heap.size+1) W W'->I s W')
  (V8:∀s W W',Ir s W->Only (fun k=>C k\/k=w.heap.size\/k=w.heap.size+1) W W'->Ir s W')
  (h0:I [] w) (a₁:α->Act)
  (hassign:∀(l:Nat) (x:α) (W:World) (K:Act->World->Prop),K (a₁ x) W->
   assign.wpIn (F.inRound l) (n-1-1) P (Exit.then K (fun _ _ _=>False)) {tmps:=(ps.zip #[enc x]).foldl (fun t (p,v)=>t.setIfInBounds p v) a.tmps,defers:=[]} W)
  (hbody:∀(l:Nat) (pre:List α) (x:α) (suf:List α) (W:World),w.heap.size+2<=W.heap.size->I pre W->xs=pre++x::suf->body.wpIn (F.inRound l) (n-1-1) P (ae7 G I Ir (pre++[x]) W) (a₁ x) W)
  (hdone:∀(W:World),I xs W->W.heap[w.heap.size]? =some (.deferred (some []))->Q .normal {a with defers:={target:=.collected w.heap.size,args:= #[]}::a.defers} W)
  (hstop:∀(pre:List α) (W:World),pre<+:xs->Ir pre W->W.heap[w.heap.size]? =some (.deferred (some []))->Code.ret.wpIn F n P Q {a with defers:={target:=.collected w.heap.size,args:= #[]}::a.defers} W):
  (Code.rangeFunc g ps assign body).wpIn F n P Q a w:=by
 refine wpIn_rangeFunc ?_
 intro fn hfn
 rw[hro]
 obtain⟨rec,hrec⟩:∃rec:LoopState->Option Code->Loop,rec=fun st pe=>{state:=st,pending:=pe,fn,tmps:=a.tmps,params:=ps,assign,body,defers:=w.heap.size}:=⟨_,rfl⟩
 obtain⟨W1,hW1⟩:=ze ((w.alloc (.deferred (some []))).alloc (.loop (rec .ready none)))
 have hL1:W1.heap[w.heap.size+1]? =some (.loop (rec .ready none)):=by
  rw[<-hW1];have:=World.alloc_heap_new (w.alloc (.deferred (some []))) (.loop (rec .ready none));rwa[World.size_alloc]at this
 have hK1:W1.heap[w.heap.size]? =some (.deferred (some [])):=by
  rw[<-hW1];exact(Below.heap_alloc _ _ _ zAM).trans (World.alloc_heap_new w _)
 have ZF:O0 w W1:=by rw[<-hW1];exact((Only.refl _ w).alloc _).alloc _
 have hS1:W1.heap.size=w.heap.size+2:=by rw[<-hW1];simp
 have hput:∀(W:World) (o:Obj),Only (fun k=>C k\/k=w.heap.size\/k=w.heap.size+1) W (W.putObj (w.heap.size+1) o):=fun W o=>
  ⟨rfl,rfl,rfl,by simp,fun k _ hn=>World.putObj_heap_other (fun e=>hn (.inr (.inr e)))⟩
 have hcw:∀{W W':World},Only C W W'->Only (fun k=>C k\/k=w.heap.size\/k=w.heap.size+1) W W':=fun h=>h.mono fun _ hk=>.inl hk
 have hnc:∀k,w.heap.size<=k->¬C k:=fun k hk hc=>by have:=hC k hc;omega
 refine⟨w.heap.size+1,[{target:=.collected w.heap.size,args:= #[]}],W1,{target:=.fn (.func gf) lb,args:= #[.func (.yield (w.heap.size+1)) #[] #[]]},W1,gf,
  #[.func (.yield (w.heap.size+1)) #[] #[]]++lb,W1,?_,?_,?_,?_,fun _=>h1,?_⟩
 ·rw[<-hW1,hrec];exact run_enterLoop_outer _ _ _ _ _
 ·simp only[resolve,hg]
  simp[go_sem]
 ·intro f' hf';simp[Target.leads]at hf';subst hf';exact hFg
 ·simp[invoke,go_sem,eg]
 ·refine(hseq (w.heap.size+1)
   (fun pre W=>I pre W/\W.heap[w.heap.size+1]? =some (.loop (rec .ready none))/\W.heap[w.heap.size]? =some (.deferred (some [])))
   (fun pre W=>Ir pre W/\W.heap[w.heap.size+1]? =some (.loop (rec .done (some .ret)))/\W.heap[w.heap.size]? =some (.deferred (some [])))
   W1 (hw0.trans fun k hk=>ZF.block k (hC k hk) (fun f=>f)) (qR hsz ZF.size)
   (fun s A B hs ho=>⟨hI s A B hs.1 (hcw ho),(ho.block _ (yA.1 hs.2.1).1 (hnc _ zAC)).trans hs.2.1,(ho.block _ (yA.1 hs.2.2).1 (hnc _ zBk)).trans hs.2.2⟩)
   (fun s A B hs ho=>⟨V8 s A B hs.1 (hcw ho),(ho.block _ (yA.1 hs.2.1).1 (hnc _ zAC)).trans hs.2.1,(ho.block _ (yA.1 hs.2.2).1 (hnc _ zBk)).trans hs.2.2⟩)
   ?_ ⟨hI [] w W1 h0 (ZF.mono fun _ f=>f.elim),hL1,hK1⟩).mono ?_
  ·rintro pre x suf W ⟨hi,hl,hk⟩ hx
   have hlt:w.heap.size+1<W.heap.size:=(yA.1 hl).1
   have hy:=run_yield (P:=P) (args:= #[enc x]) hl (by rw[hrec];exact hps.symm)
   rw[hrec]at hy
   refine⟨fn,_,assign,body,hy,roundIn_of_wpIn hfn (hassign _ x W _ ⟨_,run_beginRound hl (by rw[hrec]),?_⟩)⟩
   obtain⟨Wb,hWb⟩:∃Wb,W.putObj (w.heap.size+1) (.loop {rec .ready none with state:=.busy})=Wb:=⟨_,rfl⟩
   rw[hWb]
   have hl2:Wb.heap[w.heap.size+1]? =some (.loop {rec .ready none with state:=.busy}):=by rw[<-hWb];exact World.putObj_heap_same hlt
   have hk2:Wb.heap[w.heap.size]? =some (.deferred (some [])):=by rw[<-hWb];exact(World.putObj_heap_other zBk).trans hk
   have hsb:Wb.heap.size=W.heap.size:=by rw[<-hWb];simp
   have hib:I pre Wb:=by rw[<-hWb];exact hI _ _ _ hi (hput _ _)
   have hcb:J7 C W Wb:=fun k hc=>by rw[<-hWb];exact World.putObj_heap_other (by have:=hC k hc;omega)
   refine wpIn_mono (hbody _ pre x suf _ zBk hib hx) ?_
   have fin:∀(jump:Option Code) (W3:World),Only G Wb W3->
     (Instr.endRound (w.heap.size+1) jump).run P W3= .ok (.bool jump.isNone) (W3.putObj (w.heap.size+1) (.loop (rec (if jump.isNone then .ready else .done) jump)))/\
     (W3.putObj (w.heap.size+1) (.loop (rec (if jump.isNone then .ready else .done) jump))).heap[w.heap.size+1]? =some (.loop (rec (if jump.isNone then .ready else .done) jump))/\
     (W3.putObj (w.heap.size+1) (.loop (rec (if jump.isNone then .ready else .done) jump))).heap[w.heap.size]? =some (.deferred (some []))/\
     J7 C Wb (W3.putObj (w.heap.size+1) (.loop (rec (if jump.isNone then .ready else .done) jump))):=fun jump W3 ho=>by
    have hl3:=(ho.block _ zBk (fun g=>(hG _ g).2.2 rfl)).trans hl2
    have hk3:=(ho.block _ zBk (fun g=>(hG _ g).2.1 rfl)).trans hk2
    have:=run_endRound (P:=P) jump hl3
    rw[hrec]at this⊢
    exact⟨this,World.putObj_heap_same (yA.1 hl3).1,(World.putObj_heap_other zBk).trans hk3,
     fun k hc=>(World.putObj_heap_other (by have:=hC k hc;omega)).trans (ho.block k (by have:=hC k hc;omega) (fun g=>(hG k g).1 hc))⟩
   rintro e a3 W3 hp
   cases e with
   |normal=>
    obtain⟨ho3,hi3⟩:=hp
    obtain⟨hr,hl4,hk4,hc4⟩:=fin none W3 ho3
    exact⟨_,_,hr,.inl ⟨rfl,⟨hI _ _ _ hi3 (hput _ _),hl4,hk4⟩,hcb.trans hc4,by simp;have:=ho3.size;omega⟩⟩
   |ret=>
    obtain⟨ho3,hi3⟩:=hp
    obtain⟨hr,hl4,hk4,hc4⟩:=fin (some .ret) W3 ho3
    exact⟨_,_,hr,.inr ⟨rfl,V8 _ _ _ hi3 (hput _ _),hl4,hk4⟩⟩
   |exit id=>exact hp.elim
   |goto t=>exact hp.elim
   |panic ch=>exact hp.elim
   |outgrown=>exact hp.elim
  ·rintro e W2 ⟨⟨v,rfl⟩,(⟨hi,hl,hk⟩| ⟨pre,hSp,hi,hl,hk⟩)⟩
   ·exact⟨none,_,by have:=run_endLoop (P:=P) hl (by rw[hrec];simp);rw[hrec]at this;exact this,hdone _ (hI _ _ _ hi (hput _ _)) ((World.putObj_heap_other zBk).trans hk)⟩
   ·exact⟨some .ret,_,by have:=run_endLoop (P:=P) hl (by rw[hrec];simp);rw[hrec]at this;exact this,hstop pre _ hSp (V8 _ _ _ hi (hput _ _)) ((World.putObj_heap_other zBk).trans hk)⟩
attribute [local go_sem] Oper.semAt_some
theorem acH{l:List UInt8}{c:UInt8}(h:Lib.indexByte l c= -1):jU c l=[l]:=
 Jd fun b hb e=>by
  subst e
  obtain⟨k,hk⟩:=List.mem_iff_getElem?.1 hb
  exact Lib.indexByte_none h k hk
theorem acI{l:List UInt8}{c:UInt8}{o:Nat}(h:Lib.indexByte l c=o):o<l.length/\jU c l=l.take o::jU c (l.drop (o+1)):=by
 obtain⟨h1,h2⟩:=Lib.indexByte_some h;obtain⟨hlt,h3⟩:=qJ.1 h1;refine⟨hlt,?_⟩;have e:l=l.take o++c::l.drop (o+1):=by rw[<-h3,<-List.drop_eq_getElem_cons hlt,List.take_append_drop]
 conv=>lhs;rw[e]
 refine YP fun b hb e=>?_;subst e;obtain⟨k,hk⟩:=List.mem_iff_getElem?.1 hb;rw[List.getElem?_take]at hk;split at hk;·exact h2 k (by assumption) hk
 cases hk
abbrev Xq(a:List UInt8):Str:=⟨a.toArray⟩
theorem Xr(s:Str):Xq s.toList=s:=toList_inj (by rw[ByteArray.toList_eq])
def acJ(bs:Nat)(w:World):Nat:=match w.cell? ⟨bs,0,none⟩with|some (.string r)=>r.size+1|_=>0
theorem UM{bs:Nat}{w:World}{r:Str}(h:Boxed w bs 9 (.string r)):acJ bs w=r.size+1:=by unfold acJ;rw[h.cell]
section
variable {w w':World} {B:Nat}
theorem ae8(s:Str)(W:World):Calls Tryz.prog 256 #[.string s,.string ⟨#[46]⟩] W (fun e w'=>e= .returned (.int .i64 (Lib.indexByte s.toList 46))/\w'=W):=by rw[ByteArray.toList_eq];exact Sv.strings_Index_one s 46 W
theorem Z5(n:Nat)(hn:1<=n)(bp bs bv:Nat)(s:Str)(hs:s.size<=1000000)(h1:bs≠bp)(h2:bs≠bv)
  (hp:Boxed w bp 9 (.string ⟨#[46]⟩)) (hbs:Boxed w bs 9 (.string s)) (hv:Boxed w bv 3 (.int .i64 0)):
  ak9 Fence.wide n Tryz.prog 413 #[.pointer (some ⟨bp,0,none⟩),.pointer (some ⟨bs,0,none⟩),.pointer (some ⟨bv,0,none⟩)] (fun a:List UInt8=>.string (Xq a)) (fun k=>k=bp\/k=bs\/k=bv) (jU 46 s.toList) w:=fun l J Jx W hC hsz hJ hJx hY h0=>by
 have hp0:Boxed W bp 9 (.string ⟨#[46]⟩):=(hC bp (.inl rfl)).trans hp
 have hs0:Boxed W bs 9 (.string s):=(hC bs (.inr (.inl rfl))).trans hbs
 have hv0:Boxed W bv 3 (.int .i64 0):=(hC bv (.inr (.inr rfl))).trans hv
 have HY:=zh hY
 have HJ:=zh hJ
 have HS0:=zh hs0
 have HV0:=zh hv0
 have Zz:=zh hp0
 have cp:=hp0.cell
 have cs:=hs0.cell
 clear hY hJ hC hp hbs hv hs0 hv0 hp0
 refine callsIn_of_wp Tryz.func413 rfl trivial ?_ rfl
 simp only[Tryz.ntmps413,List.size_toArray,qN,List.length_nil,Nat.reduceAdd,Nat.reduceSub,Array.replicate_succ,Array.replicate_zero,List.push_toArray,List.append_toArray,List.nil_append,List.cons_append]
 gi_wp2
 gi_loopw [7] (fun _ wr=> ∃(pre:List (List UInt8)) (r:Str),Hid (jU 46 s.toList=pre++jU 46 r.toList)/\r.size<=1000000/\Hid (Boxed wr bs 9 (.string r))/\Hid (Boxed wr bp 9 (.string ⟨#[46]⟩))/\Hid (Boxed wr bv 3 (.int .i64 0))/\Hid (J pre wr)) (fun _ wr=>acJ bs wr)
 case atStart=>exact⟨[],s,rfl,hs,HS0,Zz,HV0,h0⟩
 case round=>
  obtain⟨pre,r,HX,hr,HBs,HBp,HBv,HJr⟩:=hrel
  have cp:=HBp.out.cell
  have cs:=HBs.out.cell
  have cv:=HBv.out.cell
  have fs:=HBs.out.frozen
  obtain⟨o,ho⟩:=ze (Lib.indexByte r.toList 46)
  have hge:=Lib.indexByte_ge r.toList 46
  rw[ho]at hge
  have HI:Hid (∀m,CallsIn Fence.wide m Tryz.prog 256 #[.string r,.string ⟨#[46]⟩] wr fun e w'=>e= .returned (.int .i64 o)/\w'=wr):=fun m=>callsIn_wide.2 (by rw[<-ho];exact ae8 r wr)
  by_cases c0:o<0
  ·have hx:jU 46 s.toList=pre++r.toList::[]:=by rw[HX.out,acH (by rw[ho];omega)]
   obtain⟨fn,tmps,assign,body,hy,hR⟩:=HY.out pre r.toList [] wr HJr.out hx
   rw[Xr]at hy
   have HR:=zh hR
   have HX2:=zh hx
   clear hR hx HX ho HJ HY
   gi_wp2
   refine⟨trivial,(HI.out _).mono ?_⟩
   rintro e w1 ⟨rfl,rfl⟩
   gi_wp2
   refine HR.out.mono ?_
   rintro e W2 (⟨rfl,hJ2,-,-⟩| ⟨rfl,hJx⟩)
   ·gi_wp2
    go_end0
    exact⟨⟨_,rfl⟩,.inl (by rw[HX2.out];exact hJ2)⟩
   ·gi_wp2
    go_end0
    exact⟨⟨_,rfl⟩,.inr ⟨_,by rw[HX2.out];exact List.prefix_refl _,hJx⟩⟩
  ·obtain⟨k,rfl⟩:∃k:Nat,o=k:=⟨o.toNat,by omega⟩
   obtain⟨hk,hcut⟩:=acI ho
   rw[kL]at hk
   have e1:Xq (r.toList.take k)=r.extract 0 k:=toList_inj (by rw[ext_toList,List.drop_zero,Nat.sub_zero,ByteArray.toList_eq])
   have e2:(r.extract (k+1) r.size).toList=r.toList.drop (k+1):=by
    rw[ext_toList]
    exact qI (by rw[List.length_drop,kL];omega)
   have hx:jU 46 s.toList=pre++r.toList.take k::jU 46 (r.toList.drop (k+1)):=by rw[HX.out,hcut]
   obtain⟨fn,tmps,assign,body,hy,hR⟩:=HY.out pre (r.toList.take k) _ wr HJr.out hx
   rw[e1]at hy
   have HR:=zh hR
   have HX2:Hid (jU 46 s.toList=(pre++[r.toList.take k])++jU 46 (r.extract (k+1) r.size).toList):=by
    rw[Hid,hx,e2,yW];rfl
   have apx:Hid ((pre++[r.toList.take k])<+:jU 46 s.toList):=⟨_,HX2.out.symm⟩
   have ew1:IntKind.i64.wrap ((k:Int)+0)=(k:Int):=by rw[qD];omega
   have ew2:IntKind.i64.wrap ((k:Int)+1)=((k+1:Nat):Int):=by rw[qD];omega
   clear hR hx hcut HX ho e1 e2 HY
   gi_wp2
   refine⟨trivial,(HI.out _).mono ?_⟩
   rintro e w1 ⟨rfl,rfl⟩
   gi_wp2
   refine HR.out.mono ?_
   rintro e W2 (⟨rfl,hJ2,hC2,hS2⟩| ⟨rfl,hJx⟩)
   ·have hp2:Boxed W2 bp 9 (.string ⟨#[46]⟩):=(hC2 bp (.inl rfl)).trans HBp.out
    have hs2:Boxed W2 bs 9 (.string r):=(hC2 bs (.inr (.inl rfl))).trans HBs.out
    have hv2:Boxed W2 bv 3 (.int .i64 0):=(hC2 bv (.inr (.inr rfl))).trans HBv.out
    have HB2:=zh (And.intro hp2 (And.intro hs2 (And.intro hv2 hJ2)))
    have cp2:=hp2.cell
    have cs2:=hs2.cell
    have cv2:=hv2.cell
    have fs2:=hs2.frozen
    clear hp2 hs2 hv2 hJ2 cp cs cv fs HR
    gi_wp2
    go_roundw
    case rel=>
     obtain⟨hp2,hs2,hv2,hJ2⟩:=HB2.out
     exact⟨_,_,HX2,by rw[ByteArray.size_extract];omega,hs2.set _,hp2.other h1.symm _,hv2.other h2.symm _,HJ.out _ _ _ hJ2 (zr.setCell (p:=⟨bs,0,none⟩) (.inl (.inr (.inl rfl))) _)⟩
    case measure=>
     obtain⟨hp2,hs2,hv2,hJ2⟩:=HB2.out
     rw[UM (hs2.set _),UM HBs.out,ByteArray.size_extract]
     omega
   ·gi_wp2
    refine bodyPost_ret (results_none rfl _ _ _) rfl ?_
    exact⟨⟨_,rfl⟩,.inr ⟨_,apx.out,hJx⟩⟩
end
end Go.Proofs.YtdmmebjjojimiaaGreatDoor
namespace Go.Proofs.YtdmmebjjojimiaaGreatDoor
open Go.RowKit
open Vn (kY iZ numeral fZ)
attribute [local go_sem] Oper.semAt_some
section
variable {w w':World} {B:Nat}
theorem Xt(s sep:Str):Calls Tryz.prog 369 #[.string s,.string sep] w (fun e w'=>e= .returned (.func (.func 413) #[] #[.pointer (some ⟨w.heap.size+1,0,none⟩),.pointer (some ⟨w.heap.size,0,none⟩),.pointer (some ⟨w.heap.size+2,0,none⟩)])/\w'=((w.alloc (.cells #[.string s] 9)).alloc (.cells #[.string sep] 9)).alloc (.cells #[.int .i64 0] 3)):=by go_enter Tryz.func369,Tryz.ntmps369;go_wp2;go_ret;exact⟨by simp,rfl⟩
def G8(l:List (List UInt8)):List Value:=l.flatMap fun a=>[.int .i64 (iZ a:Int),.int .i64 (numeral a:Int),.string (Xq (fZ a))]
theorem Xu(l:List (List UInt8))(a:List UInt8):G8 (l++[a])=G8 l++[.int .i64 (iZ a:Int),.int .i64 (numeral a:Int),.string (Xq (fZ a))]:=by simp[G8]
theorem UN:∀(l:List (List UInt8)) (i:Nat) (a:List UInt8),l[i]? =some a->∀j u,[Value.int .i64 (iZ a:Int),.int .i64 (numeral a:Int),.string (Xq (fZ a))][j]? =some u->(G8 l)[i*3+j]? =some u
 | [],i,a,h,_,_,_=>by simp at h
 |b::l,0,a,h,j,u,hu=>by
  simp at h
  subst h
  have hj:j<3:=by have:=(qJ.1 hu).1;simpa using this
  show([Value.int .i64 (iZ b:Int),.int .i64 (numeral b:Int),.string (Xq (fZ b))]++G8 l)[0*3+j]? =_
  rw[yM zBt,Nat.zero_mul,Nat.zero_add]
  exact hu
 |b::l,i+1,a,h,j,u,hu=>by
  show([Value.int .i64 (iZ b:Int),.int .i64 (numeral b:Int),.string (Xq (fZ b))]++G8 l)[(i+1)*3+j]? =_
  rw[yN zBt]
  have e:(i+1)*3+j-[Value.int .i64 (iZ b:Int),.int .i64 (numeral b:Int),.string (Xq (fZ b))].length=i*3+j:=zBt
  rw[e]
  exact UN l i a (by simpa using h) j u hu
theorem acL:BM Tryz.prog 342 355 3 32:=BM.mk' (z:=.agg #[.int .i64 0,.int .i64 0,.string .empty]) Tryz.underlying342 zk rfl zAG
theorem acM{base:Nat}{e:TypeId}{size k:Nat}{v:Value}{xs:List Value}(h:w.ownsRow base e size v k xs):w.ownsRow 0 e size v k xs:=by
 refine⟨h.1,?_⟩;rcases h.2 with⟨rfl,h0⟩| ⟨g,cap,cur,rfl,hb,hr⟩;·exact .inl ⟨rfl,h0⟩
 exact .inr ⟨g,cap,cur,rfl,qE _,hr⟩
theorem UO(a:List UInt8):(Xq a).toList=a:=by rw[ByteArray.toList_eq]
theorem Z7{base:Nat}{v:Value}{l:List (List UInt8)}(h:w.ownsRow base 355 3 v l.length (G8 l))(hp:l.all kY=true)(hk:∀a∈l,a.length<=1000):aQ 3 Me w.heap.size w v (l.map partOf):=by
 refine aQ.fH (e:=355) (cs:=G8 l) (by rw[qM];exact acM h) fun i hi=>?_;rw[qM]at hi;refine⟨_,rfl,UN l i l[i] (qA hi),?_⟩;rw[List.getElem_map];rw[List.all_eq_true]at hp;have hpa:=hp l[i] (qZ hi);have hla:=hk l[i] (qZ hi);refine⟨rfl,?_,?_,?_⟩
 ·show iZ l[i]<=2;unfold iZ;split;·omega
  split<;>omega
 ·show numeral l[i]<=999999999;unfold numeral;split;·omega
  split;·omega
  rename_i h1 h2;unfold kY at hpa;rw[Bool.or_eq_true]at hpa;have:=(Vn.G7 (hpa.resolve_left h2)).2.1;omega
 show okS (Xq (fZ l[i]));unfold okS Xq;have:(fZ l[i]).length<=1000:=by
  unfold fZ;split;·exact hla
  simp
 show(fZ l[i]).toArray.size<=_;rw[List.size_toArray];unfold maxLen;omega
end
attribute [local go_sem] Oper.semAt_some
section
variable {w w':World} {B:Nat}
def xE(s:Str)(w w':World)(e:Ending):Prop:= ∃v ok,e= .returned (.tuple #[v,.bool ok])/\xR s.toList=ok/\(ok=true->aQ 3 Me w'.heap.size w' v ((jU 46 s.toList).map partOf))/\O0 w w'
theorem xE.no{s:Str}{w w':World}{e:Ending}{v:Value}(he:e= .returned (.tuple #[v,.bool false]))(h:xR s.toList=false)(ho:O0 w w'):xE s w w' e:=⟨v,false,he,h,(fun hh=>by cases hh),ho⟩
theorem uH{v:Value}{ok:Bool}{tmps:Array Value}{b2 b3:Nat}(h2:tmps.getD 2 undef= .pointer (some ⟨b2,0,none⟩))(h3:tmps.getD 3 undef= .pointer (some ⟨b3,0,none⟩))(hb2:Boxed w b2 342 v)(hb3:Boxed w b3 4 (.bool ok)):(results Tryz.f329 tmps).run Tryz.prog w= .ok (.tuple #[v,.bool ok]) w:=by
 have e:Tryz.f329.results= #[.cell 2 342,.cell 3 4]:=rfl;have c2:=hb2.cell;have c3:=hb3.cell;have g2:tmps[2]?.getD undef= .pointer (some ⟨b2,0,none⟩):=by simpa using h2
 have g3:tmps[3]?.getD undef= .pointer (some ⟨b3,0,none⟩):=by simpa using h3
 simp only[results,e];simp[Sem.run_bind,Result.andThen,g2,g3,asAddr,loadVar,c2,c3,go_sem]
theorem Rn{s:Str}{pre suf:List (List UInt8)}{x:List UInt8}(h:jU 46 s.toList=pre++x::suf)(hx:kY x=false):xR s.toList=false:=by
 unfold xR;have:(jU 46 s.toList).all kY=false:=by rw[h,List.all_append,List.all_cons,hx,yQ,Bool.and_false]
 rw[this,Bool.and_false,yQ]
theorem Ro{s:Str}{pre suf:List (List UInt8)}{x:List UInt8}(h:jU 46 s.toList=pre++x::suf)(hl:pre.length=8):xR s.toList=false:=by unfold xR;rw[qP (p:=(jU 46 s.toList).length<=8) (by rw[h,qK,qN];omega),Bool.and_false]
theorem G9:∀(l:List UInt8),∀a∈jU 46 l,a.length<=l.length
 | [],a,h=>by
  simp[jU]at h
  simp[h]
 |b::r,a,h=>by
  unfold jU at h
  split at h
  ·rcases qY.1 h with rfl|h
   ·simp
   ·have:=G9 r a h
    simp;omega
  ·split at h
   ·rename_i he
    exact absurd he (ae5 46 r)
   ·rename_i h0 t he
    rcases qY.1 h with rfl|h
    ·have:=G9 r h0 (by rw[he];exact qQ)
     simp;omega
    ·have:=G9 r a (by rw[he];exact yE _ h)
     simp;omega
def PI(w:World)(b2 b3 b4 base:Nat)(pre:List (List UInt8))(W:World):Prop:= ∃v,Boxed W b4 342 v/\W.ownsRow base 355 3 v pre.length (G8 pre)/\pre.all kY=true/\pre.length<=8/\
 Boxed W b2 342 (.slice none 0 0)/\Boxed W b3 4 (.bool false)/\O0 w W
theorem Boxed.only{W W':World}{k:Nat}{t:TypeId}{u:Value}{F:Nat->Prop}(h:Boxed W k t u)(ho:Only F W W')(hk:¬F k):Boxed W' k t u:=(ho.block k h.lt hk).trans h
theorem PI.keep{w:World}{b2 b3 b4 base:Nat}{pre:List (List UInt8)}{W W':World}{F:Nat->Prop}(h:PI w b2 b3 b4 base pre W)(ho:Only F W W')(h2:¬F b2)(h3:¬F b3)(h4:¬F b4)(hb:∀k,base<=k->¬F k)(hw:∀k,F k->w.heap.size<=k):PI w b2 b3 b4 base pre W':=by obtain⟨v,g1,g2,g3,g4,g5,g6,g7⟩:=h;exact⟨v,Boxed.only g1 ho h4,aI g2 ho (fun k hk=>hb k (g2.lt k hk).1),g3,g4,Boxed.only g5 ho h2,Boxed.only g6 ho h3,g7.trans ho fun k hk=>.inr (hw k hk)⟩
def PR(w:World)(s:Str)(b2 b3:Nat)(W:World):Prop:=xR s.toList=false/\Boxed W b2 342 (.slice none 0 0)/\Boxed W b3 4 (.bool false)/\O0 w W
theorem PR.keep{w:World}{s:Str}{b2 b3:Nat}{W W':World}{F:Nat->Prop}(h:PR w s b2 b3 W)(ho:Only F W W')(h2:¬F b2)(h3:¬F b3)(hw:∀k,F k->w.heap.size<=k):PR w s b2 b3 W':=by obtain⟨g1,g5,g6,g7⟩:=h;exact⟨g1,Boxed.only g5 ho h2,Boxed.only g6 ho h3,g7.trans ho fun k hk=>.inr (hw k hk)⟩
theorem Rq(s:Str)(hs:okS s)(hL:Laid w):Calls Tryz.prog 329 #[.string s] w (fun e w'=>xE s w w' e):=by
 refine(callsIn_wide (n:=9)).1 ?_;refine callsIn_of_wp_marks Tryz.func329 rfl trivial ?_ rfl;simp only[Tryz.ntmps329,List.size_toArray,qN,List.length_nil,Nat.reduceAdd,Nat.reduceSub,Array.replicate_succ,Array.replicate_zero,List.push_toArray,List.append_toArray,List.nil_append,List.cons_append];have b2:Boxed ((w.alloc (.cells #[.slice none 0 0] 342)).alloc (.cells #[.bool false] 4)) w.heap.size 342 (.slice none 0 0):=(Boxed.new w _ _).alloc _;have b3:Boxed ((w.alloc (.cells #[.slice none 0 0] 342)).alloc (.cells #[.bool false] 4)) (w.heap.size+1) 4 (.bool false):=by have:=Boxed.new (w.alloc (.cells #[.slice none 0 0] 342)) 4 (.bool false);rwa[World.size_alloc]at this
 have oB:O0 w ((w.alloc (.cells #[.slice none 0 0] 342)).alloc (.cells #[.bool false] 4)):=((Only.refl _ w).alloc _).alloc _;have HB:=zh (And.intro b2 (And.intro b3 oB));clear b2 b3 oB;by_cases h0:s.size=0;·obtain rfl:=Dz h0;clear hL hs;gi_wp2;obtain⟨b2,b3,oB⟩:=HB.out;exact⟨_,uH rfl rfl b2 b3,xE.no rfl (by unfold xR;rw[kL,qP (by omega:¬0<(⟨#[]⟩:ByteArray).size),yQ,yQ,yQ]) oB⟩
 have hemp:s.toList.isEmpty=false:=by rw[isE,qP h0]
 by_cases h40:40<s.size
 ·have h41:(40:Int)<(s.size:Int):=by omega
  clear hL;gi_wp2;obtain⟨b2,b3,oB⟩:=HB.out;exact⟨_,uH rfl rfl b2 b3,xE.no rfl (by unfold xR;rw[kL,qP (by omega:¬s.size<=40),Bool.and_false,yQ,yQ]) oB⟩
 have h41:¬(40:Int)<(s.size:Int):=by omega
 have h42:(s.size:Int)<=40:=zBk;have h43:s.size<=40:=zBk;have HL:=zh hL;obtain⟨wa,hwa⟩:=ze (((w.alloc (.cells #[.slice none 0 0] 342)).alloc (.cells #[.bool false] 4)).alloc (.cells #[.slice none 0 0] 342));obtain⟨b2,b3,oB⟩:=HB.out;obtain⟨m,hm⟩:=ze (w.heap.size+3);have hsa:wa.heap.size=m:=by rw[<-hwa,<-hm];simp
 have a2:Boxed wa w.heap.size 342 (.slice none 0 0):=by rw[<-hwa];exact b2.alloc _
 have a3:Boxed wa (w.heap.size+1) 4 (.bool false):=by rw[<-hwa];exact b3.alloc _
 have a4:Boxed wa (w.heap.size+1+1) 342 (.slice none 0 0):=by rw[<-hwa];have:=Boxed.new ((w.alloc (.cells #[.slice none 0 0] 342)).alloc (.cells #[.bool false] 4)) 342 (.slice none 0 0);simpa using this
 have oa:O0 w wa:=by rw[<-hwa];exact oB.alloc _
 have HA:=zh (And.intro a2 (And.intro a3 (And.intro a4 oa)));have HSA:=zh hsa;have hS:=Xt (w:=wa) s ⟨#[46]⟩;rw[hsa]at hS;have HS:=zh hS;clear hS;clear HB b2 b3 oB a2 a3 a4 oa hsa hL hs;gi_wp2;clear hwa;refine⟨trivial,(callsIn_wide.2 HS.out).mono ?_⟩;rintro e w1 ⟨rfl,hw1⟩;have c3:Boxed w1 m 9 (.string s):=by rw[hw1,<-HSA.out];exact((Boxed.new wa _ _).alloc _).alloc _
 have c4:Boxed w1 (m+1) 9 (.string ⟨#[46]⟩):=by rw[hw1];have:=(Boxed.new (wa.alloc (.cells #[.string s] 9)) 9 (.string ⟨#[46]⟩)).alloc (.cells #[.int .i64 0] 3);rw[World.size_alloc,HSA.out]at this;exact this
 have c5:Boxed w1 (m+2) 3 (.int .i64 0):=by rw[hw1];have:=Boxed.new ((wa.alloc (.cells #[.string s] 9)).alloc (.cells #[.string ⟨#[46]⟩] 9)) 3 (.int .i64 0);rw[World.size_alloc,World.size_alloc,HSA.out]at this;exact this
 have o1:O0 wa w1:=by rw[hw1];exact(((Only.refl _ wa).alloc _).alloc _).alloc _
 have hs1:w1.heap.size=m+3:=by rw[hw1];simp[HSA.out]
 obtain⟨a2,a3,a4,oa⟩:=HA.out;have keep:∀{k:Nat} {t:TypeId} {u:Value},Boxed wa k t u->Boxed w1 k t u:=fun h=>(o1.block _ h.lt (fun f=>f)).trans h;have HW1:=zh (And.intro (keep a2) (And.intro (keep a3) (And.intro (keep a4) (And.intro c3 (And.intro c4 (And.intro c5 (And.intro (oa.same o1) hs1)))))));clear hw1 c3 c4 c5 o1 hs1 a2 a3 a4 oa keep HA HS HSA;gi_wp2;obtain⟨a2,a3,a4,c3,c4,c5,ow,hs1⟩:=HW1.out;refine Z4 rfl zBk (gf:=413) (lb:= #[.pointer (some ⟨m+1,0,none⟩),.pointer (some ⟨m,0,none⟩),.pointer (some ⟨m+2,0,none⟩)]) (C:=fun k=>k=m+1\/k=m\/k=m+2) (enc:=fun a:List UInt8=>.string (Xq a)) rfl trivial (enters_of Tryz.func413 zk rfl)
  (Z5 (w:=w1) 8 zB7 (m+1) m (m+2) s zBy zAC zBk c4 c3 c5) (fun k hk=>by omega) (J7.refl _ _) (qH _) rfl
  (fun k=>k=w.heap.size\/k=w.heap.size+1\/k=w.heap.size+1+1\/m+5<=k) (fun k hk=>by omega)
  (PI w w.heap.size (w.heap.size+1) (w.heap.size+1+1) (m+5)) (fun _=>PR w s w.heap.size (w.heap.size+1))
  (fun p W W' h ho=>h.keep ho zBy zAC zBk (fun k hk=>by omega) (fun k hk=>by omega))
  (fun p W W' h ho=>h.keep ho zAC zBk (fun k hk=>by omega))
  ⟨_,a4,World.ownsRow_nil _ _ _ _,rfl,by simp,a2,a3,ow⟩ (a₁:=?a1) ?assign ?body ?done ?stop
 case assign=>intro l x W K hK;gi_wp2;exact hK
 case body=>
  have Td:=zh hs1
  clear a2 a3 a4 c3 c4 c5 ow hs1 HW1
  rintro l pre x suf W hsz hI hx
  obtain⟨v,g1,g2,g3,g4,g5,g6,g7⟩:=hI
  have hxl:x.length<=40:=by
   have:=G9 s.toList x (by rw[hx];simp)
   rw[kL]at this
   omega
  have HRd:=zh (ahP (w:=W) (Xq x) (by show x.toArray.size<=_;rw[List.size_toArray];omega) (HL.out.only g7))
  have HX:=zh hx
  have HI:=zh (And.intro g1 (And.intro g2 (And.intro g3 (And.intro g4 (And.intro g5 (And.intro g6 g7))))))
  clear hx hxl g1 g2 g3 g4 g5 g6 g7
  gi_wp2
  refine⟨trivial,(CallsIn.inRound l (callsIn_wide.2 HRd.out)).mono ?_⟩
  rintro e W2 ⟨xr,yn,tw,ok,rfl,hok,hv,O2⟩
  rw[UO]at hok hv
  obtain⟨g1,g2,g3,g4,g5,g6,g7⟩:=HI.out
  have k1:=Boxed.only g1 O2 (fun f=>f)
  have k2:=aI g2 O2 (fun _ _ f=>f)
  have k5:=Boxed.only g5 O2 (fun f=>f)
  have k6:=Boxed.only g6 O2 (fun f=>f)
  have HK:=zh (And.intro k1 (And.intro k2 (And.intro g3 (And.intro g4 (And.intro k5 (And.intro k6 (g7.same O2)))))))
  have HV:=zh (And.intro hok hv)
  have HO:=zh O2
  obtain⟨ao,cap,rfl,l1,l2⟩:=aC k2
  obtain⟨cs,hcs⟩:∃cs,(#[.int .i64 xr,.int .i64 yn,.string tw]:Array Value)=cs:=⟨_,rfl⟩
  have o3:O0 W2 (W2.alloc (.cells #[.int .i64 xr,.int .i64 yn,.string tw] 355)):=zr.alloc _
  have q4:=(Boxed.only k1 o3 (fun f=>f)).cell
  have f4:=(Boxed.only k1 o3 (fun f=>f)).frozen
  have q2:=(Boxed.only k5 o3 (fun f=>f)).cell
  have f2:=(Boxed.only k5 o3 (fun f=>f)).frozen
  have q3:=(Boxed.only k6 o3 (fun f=>f)).cell
  have f3:=(Boxed.only k6 o3 (fun f=>f)).frozen
  have hok2:=hok
  clear hok hv O2 g1 g2 g3 g4 g5 g6 g7 k1 k2 k5 k6 HI HRd o3 hcs
  cases ok with
  |false=>
   clear hok2
   gi_wp2
   obtain⟨k1,k2,g3,g4,k5,k6,g7⟩:=HK.out
   exact⟨(((HO.out.mono fun _ f=>f.elim).alloc _).setCell (p:=⟨w.heap.size,0,none⟩) (.inl (.inl rfl)) _).setCell (p:=⟨w.heap.size+1,0,none⟩) (.inl (.inr (.inl rfl))) _,
    Rn HX.out HV.out.1,((k5.alloc _).set _).other zAC _,((k6.alloc _).other zBk _).set _,((g7.alloc _).setCell (p:=⟨w.heap.size,0,none⟩) (.inr (qH _)) _).setCell (p:=⟨w.heap.size+1,0,none⟩) (.inr zCC) _⟩
  |true=>
   by_cases c8:pre.length=8
   ·have c8':(pre.length:Int)=8:=by omega
    gi_wp2
    obtain⟨k1,k2,g3,g4,k5,k6,g7⟩:=HK.out
    exact⟨(((HO.out.mono fun _ f=>f.elim).alloc _).setCell (p:=⟨w.heap.size,0,none⟩) (.inl (.inl rfl)) _).setCell (p:=⟨w.heap.size+1,0,none⟩) (.inl (.inr (.inl rfl))) _,
     Ro HX.out c8,((k5.alloc _).set _).other zAC _,((k6.alloc _).other zBk _).set _,((g7.alloc _).setCell (p:=⟨w.heap.size,0,none⟩) (.inr (qH _)) _).setCell (p:=⟨w.heap.size+1,0,none⟩) (.inr zCC) _⟩
   ·have c8':¬(pre.length:Int)=8:=by omega
    obtain⟨i0,z0,hi,hz0,hz1,hz2,hz3⟩:=acL.info
    have HI0:=zh (And.intro hi (And.intro hz0 (And.intro hz1 (And.intro hz2 hz3))))
    obtain⟨W4,xM⟩:=ze ((W2.alloc (.cells #[.int .i64 xr,.int .i64 yn,.string tw] 355)).alloc (.cells #[.int .i64 xr,.int .i64 yn,.string tw] 355))
    have o4:O0 W2 W4:=by rw[<-xM];exact(zr.alloc _).alloc _
    have hn4:W4.heap[W2.heap.size+1]? =some (.cells #[.int .i64 xr,.int .i64 yn,.string tw] 355 (0,0)):=by
     rw[<-xM]
     have:=qL (W2.alloc (.cells #[.int .i64 xr,.int .i64 yn,.string tw] 355)) (.cells #[.int .i64 xr,.int .i64 yn,.string tw] 355)
     rwa[World.size_alloc]at this
    obtain⟨k1,k2,g3,g4,k5,k6,g7⟩:=HK.out
    have h8:=g4
    have HC4:Hid (∀(j:Nat) (u:Value),[Value.int .i64 xr,.int .i64 yn,.string tw][j]? =some u->W4.cell? ((⟨W2.heap.size+1,0,none⟩:Addr).add j)=some u):=fun j u hu=>by
     match j,hu with
     |0,hu=>simp at hu;subst hu;simp[World.cell?,Addr.add,hn4]
     |1,hu=>simp at hu;subst hu;simp[World.cell?,Addr.add,hn4]
     |2,hu=>simp at hu;subst hu;simp[World.cell?,Addr.add,hn4]
     |k+3,hu=>simp at hu
    have HOW:=zh (aI k2 o4 (fun _ _ f=>f))
    have HB4:=zh (Boxed.only k1 o4 (fun f=>f))
    have HNE:Hid (some (w.heap.size+1+1)≠(Value.slice ao pre.length cap).ownBlock):=fun e=>by have:=(HOW.out.lt _ e.symm).1;omega
    have xw:=zh o4
    have HW4:=zh xM
    have hs4:m+5<=W4.heap.size:=by have:=HO.out.size;have:=o4.size;have:=Td.out;omega
    clear k1 k2 g3 g4 k5 k6 g7 o4 hn4 hi hz0 hz1 hz2 hz3 xM
    gi_wp2_with (gi_at_builtin;rw[HW4.out];obtain⟨hi,hz0,hz1,hz2,hz3⟩:=HI0.out;refine wpListIn_append_own _ rfl _ _ 342 rfl (m+5) 355 i0 z0 3 32 acL.und hi hz0 hz1 hz2 hz3 zBl _ _ _ rfl HOW.out ⟨W2.heap.size+1,0,none⟩ 1 1 [.int .i64 xr,.int .i64 yn,.string tw] rfl rfl HC4.out (by simp[Value.oneCell']) (by unfold maxLen;omega) zBk hs4 ?_;intro v' w5 hown' hgrow _;obtain⟨g5,cap5,rfl⟩:=ownsRow_succ hown';have hb5:=HB4.out.kept hgrow HNE.out;have cb5:=hb5.cell;have fb5:=hb5.frozen)
    obtain⟨k1,k2,g3,g4,k5,k6,g7⟩:=HK.out
    obtain⟨hok,hv⟩:=HV.out
    obtain⟨rfl,rfl,ht⟩:=hv zBU
    have et:tw=Xq (fZ x):=toList_inj (by rw[ht,UO])
    subst et
    have hrow:∀k,(Value.slice ao pre.length cap).ownBlock=some k->m+5<=k:=fun k hk=>(HOW.out.lt _ hk).1
    have ald:∀k,(Value.slice (some ⟨g5,0,none⟩) (pre.length+1) cap5).ownBlock=some k->m+5<=k:=fun k hk=>(hown'.lt _ hk).1
    have hsw:w.heap.size<=W2.heap.size:=g7.size
    have oW:Only (fun k=>k=w.heap.size\/k=w.heap.size+1\/k=w.heap.size+1+1\/m+5<=k) W w5:=((HO.out.same xw.out).mono fun _ f=>f.elim).grown hgrow fun k hk=>.inl (.inr (.inr (.inr (hrow k hk))))
    have ow5:O0 w w5:=(g7.same xw.out).grown hgrow fun k hk=>.inr (by have:=hrow k hk;omega)
    have z2:Boxed w5 w.heap.size 342 (.slice none 0 0):=(Boxed.only k5 xw.out (fun f=>f)).kept hgrow (fun e=>by have:=hrow _ e.symm;omega)
    have z3:Boxed w5 (w.heap.size+1) 4 (.bool false):=(Boxed.only k6 xw.out (fun f=>f)).kept hgrow (fun e=>by have:=hrow _ e.symm;omega)
    refine⟨oW.setCell (p:=⟨w.heap.size+1+1,0,none⟩) (.inl (.inr (.inr (.inl rfl)))) _,_,hb5.set _,?_,?_,?_,z2.other zAC _,z3.other zBk _,ow5.setCell (p:=⟨w.heap.size+1+1,0,none⟩) (.inr (by simp;omega)) _⟩
    ·rw[qK,Xu]
     exact aI hown' ((Only.refl (fun k=>k=w.heap.size+1+1) w5).setCell (p:=⟨w.heap.size+1+1,0,none⟩) (.inl rfl) _) (fun k hk e=>by have:=ald k hk;omega)
    ·rw[List.all_append,g3,List.all_cons,hok];rfl
    ·rw[qK];simp;omega
 case done=>
  have Td:=zh hs1;clear a2 a3 a4 c3 c4 c5 ow hs1 HW1;rintro W hI hK;obtain⟨v,g1,g2,g3,g4,g5,g6,g7⟩:=hI;obtain⟨ao,cap,rfl,l1,l2⟩:=aC g2;have HI:=zh (And.intro g1 (And.intro g2 (And.intro g3 (And.intro g4 (And.intro g5 (And.intro g6 g7))))));have HKK:=zh hK;have q4:=g1.cell;have q2:=g5.cell;have f2:=g5.frozen;have q3:=g6.cell;have f3:=g6.frozen;clear g1 g2 g3 g4 g5 g6 g7 hK;gi_wp2;obtain⟨g1,g2,g3,g4,g5,g6,g7⟩:=HI.out;have hD:=Td.out;have o2:Only (fun k=>k=w.heap.size\/k=w.heap.size+1) W ((W.setCell ⟨w.heap.size,0,none⟩ (.slice ao (jU 46 s.toList).length cap)).setCell ⟨w.heap.size+1,0,none⟩ (.bool true)):=
   ((Only.refl _ W).setCell (p:=⟨w.heap.size,0,none⟩) (.inl (.inl rfl)) _).setCell (p:=⟨w.heap.size+1,0,none⟩) (.inl (.inr rfl)) _
  have hK2:=(o2.block w1.heap.size (yA.1 HKK.out).1 zBk).trans HKK.out;refine⟨by simp,.inl ⟨_,_,rfl,run_takeDeferred hK2,?_⟩⟩;have o3:Only (fun k=>k=w1.heap.size) ((W.setCell ⟨w.heap.size,0,none⟩ (.slice ao (jU 46 s.toList).length cap)).setCell ⟨w.heap.size+1,0,none⟩ (.bool true)) (((W.setCell ⟨w.heap.size,0,none⟩ (.slice ao (jU 46 s.toList).length cap)).setCell ⟨w.heap.size+1,0,none⟩ (.bool true)).putObj w1.heap.size (.deferred none)):=
   ⟨rfl,rfl,rfl,by simp,fun k _ hn=>World.putObj_heap_other hn⟩
  have hrow:∀k,(Value.slice ao (jU 46 s.toList).length cap).ownBlock=some k->m+5<=k:=fun k hk=>(g2.lt _ hk).1;have hm2:xR s.toList=true:=by unfold xR;rw[kL,qX zBk,qX h43,g3,qX g4];rfl
  refine⟨_,uH rfl rfl (Boxed.only ((g5.set _).other zB7 _) o3 zBy) (Boxed.only ((g6.other zAC _).set _) o3 zBk),_,true,rfl,hm2,fun _=>?_,?_⟩;·exact Z7 (aI (aI g2 o2 fun k hk e=>by have:=hrow k hk;omega) o3 fun k hk e=>by have:=hrow k hk;omega) g3 fun a ha=>by have:=G9 s.toList a ha;rw[kL]at this;omega
  exact(g7.trans o2 fun k hk=>.inr zAC).trans o3 fun k hk=>.inr zBk
 case stop=>have Td:=zh hs1;clear a2 a3 a4 c3 c4 c5 ow hs1 HW1;rintro pre W hpre hR hK;obtain⟨r1,r2,r3,r4⟩:=hR;have hD:=Td.out;gi_wp2;refine⟨by simp,.inl ⟨_,_,rfl,run_takeDeferred hK,?_⟩⟩;have o3:Only (fun k=>k=w1.heap.size) W (W.putObj w1.heap.size (.deferred none)):=⟨rfl,rfl,rfl,by simp,fun k _ hn=>World.putObj_heap_other hn⟩;exact⟨_,uH rfl rfl (Boxed.only r2 o3 zBy) (Boxed.only r3 o3 zAC),xE.no rfl r1 (r4.trans o3 fun k hk=>.inr zBk)⟩
end
end Go.Proofs.YtdmmebjjojimiaaGreatDoor
namespace Go.Proofs.YtdmmebjjojimiaaGreatDoor
open Go.RowKit
open Vn (YM L9 D9 isLt kY G6)
open Lk (nameB acF ak2)
section
variable {w:World}
theorem ado(s:Str)(hs:okS s)(hL:Laid w)(r:Bool)(hr:xR s.toList=r):Calls Tryz.prog 259 #[.string s] w (fun e w'=>e= .returned (.bool r)/\O0 w w'):=by have HP:=zh (Rq s hs hL);have jd:=zh hr;clear hr hL hs;go_enter Tryz.func259,Tryz.ntmps259;go_wp2_with fail;refine HP.out.mono ?_;rintro e w1 ⟨v,ok,rfl,h1,-,O1⟩;obtain rfl:ok=r:=h1.symm.trans jd.out;clear h1 HP jd;go_wp2_with fail;go_ret;exact⟨rfl,O1⟩
end
end Go.Proofs.YtdmmebjjojimiaaGreatDoor
namespace Go.Proofs.YtdmmebjjojimiaaGreatDoor
open Go.RowKit
def V9:List Int->Int
 | []=>0
 |x::r=>if x=0 then V9 r else x
theorem MC{xs:List Int}:∀{i:Nat},i<=xs.length->(∀j,j<i->xs.getD j 0=0)->V9 xs=V9 (xs.drop i)
 |0,_,_=>by simp
 |i+1,h,ha=>by
  rw[MC (i:=i) zAC (fun j hj=>ha j zBk)]
  rw[List.drop_eq_getElem_cons (show i<xs.length by omega)]
  have:=ha i zBk
  rw[qC,qA (show i<xs.length by omega)]at this
  simp only[Option.getD_some]at this
  show(if xs[i]=0 then _ else _)=_
  rw[if_pos this]
theorem ahQ{xs:List Int}{i:Nat}(h:i<xs.length)(ha:∀j,j<i->xs.getD j 0=0)(hn:xs.getD i 0≠0):V9 xs=xs.getD i 0:=by
 rw[MC (Nat.le_of_lt h) ha,List.drop_eq_getElem_cons h];have e:xs.getD i 0=xs[i]:=by rw[qC,qA h];rfl
 rw[e]at hn⊢;show(if xs[i]=0 then _ else _)=_;rw[if_neg hn]
theorem ahR{w:World}{v:Value}{xs:List Int}(hI:Ints w v xs):Calls Tryz.prog 234 #[v] w fun e w'=>e= .returned (.int .i64 (V9 xs))/\w'=w:=by
 obtain⟨ao,cap,rfl,hl1,hl2⟩:=hI.shape;obtain⟨r,hr⟩:=ze (V9 xs);rw[hr];have HR:=zh hr;have HI:=zh hI;clear hI hr;go_enter Tryz.func234,Tryz.ntmps234;go_wp2_with fail;go_loopw [5,8] (fun _ vi wr=>w=wr/\∃i:Nat,vi= .int .i64 i/\i<=xs.length/\Hid (∀j,j<i->xs.getD j 0=0)) (fun _ v _=>xs.length-(intOf v).toNat);case atStart=>exact⟨rfl,0,rfl,qE _,fun j hj=>by omega⟩
 case round=>
  obtain⟨rfl,i,rfl,hi,HZ⟩:=hrel;by_cases ci:i<xs.length
  ·obtain⟨bl,ol,rfl,_,hcs⟩:=HI.out.cells _ _ _ rfl zBk;have qx:=hcs i ci;have jh:=zw (i+1);obtain⟨x,hx⟩:=ze (xs.getD i 0);rw[hx]at qx;have HX:=zh hx;clear hcs hx;by_cases c0:x=0
   ·subst c0;go_wp2_with fail;go_roundw;case rel=>exact⟨by first|rfl|trivial,i+1,by first|rfl|go_num,by omega,show Hid _ from fun j hj=>by
     by_cases c:j=i
     ·subst c;exact HX.out
     ·exact HZ.out j zBk⟩
    case measure=>simp[intOf]<;>omega
   have dx:decide (x=0)=false:=qP c0;have dx2:(x != 0)=true:=by simp[c0]
   go_wp2_with fail;go_ret;exact⟨by rw[<-HR.out,ahQ ci HZ.out (by rw[HX.out];exact c0),HX.out];rfl,rfl⟩
  have:i=xs.length:=by omega
  subst this;go_wp2_with fail;go_ret;refine⟨?_,rfl⟩;rw[<-HR.out,MC (qH _) HZ.out];simp[V9]
theorem acN{w:World}{b:Nat}{xs:List Int}{t:TypeId}{f:Nat×Nat}(h:w.heap[b]? =some (.cells (xs.map cI).toArray t f))(hr:∀x∈xs,bU x)(hl:xs.length<=9223372036854775807):Ints w (.slice (some ⟨b,0,none⟩) xs.length xs.length) xs:=by refine⟨⟨_,_,rfl,qH _,hl⟩,fun ao len cap hv hp=>?_,hr,fun len cap hv=>by simp at hv⟩;simp only[qU]at hv;obtain⟨rfl,rfl,rfl⟩:=hv;refine⟨b,0,rfl,dR h,fun i hi=>?_⟩;rw[ah h];simp[qC,hi]
theorem ae9(w:World)(xs:List Int)(t:TypeId)(n:Nat)(hn:n=w.heap.size)(hr:∀x∈xs,bU x)(hl:xs.length<=9223372036854775807):Ints (w.alloc (.cells (xs.map cI).toArray t)) (.slice (some ⟨n,0,none⟩) xs.length xs.length) xs:=by subst hn;exact acN (qL w _) hr hl
end Go.Proofs.YtdmmebjjojimiaaGreatDoor
