/- A range over a function, as Sq1: what the body leaves as it lay (C), and what the iterator; Maps from a key to a row of numbers that a call makes: what they hold, in plain words. -/
import Derived.Test.YtdmmebjjojimiaaGreatDoorG12
import Derived.DeepKeys5
set_option maxRecDepth 100000
set_option maxHeartbeats 8000000
set_option linter.all false
namespace Go.Proofs.YtdmmebjjojimiaaGreatDoor
open Go.RowKit
def agN{α:Type}(F:Fence)(n:Nat)(P:Program)(g:Nat)(lb:Array Value)(enc:α->Value)(C D:Nat->Prop)(xs:List α)(w:World):Prop:=
 ∀(l:Nat) (J Jx:List α->World->Prop) (W:World),Dl C w W->w.heap.size<=W.heap.size->AbC D J->AbC D Jx->
  (∀pre x suf W1,J pre W1->xs=pre++x::suf->YieldAt F (n-1) P l #[enc x] W1 fun e W'=>
   (e= .returned (.bool true)/\J (pre++[x]) W'/\Dl C W1 W'/\W1.heap.size<=W'.heap.size)\/(e= .returned (.bool false)/\Jx (pre++[x]) W'))->
  J [] W->
  CallsIn F n P g (#[.func (.yield l) #[] #[]]++lb) W fun e W'=>(∃v,e= .returned v)/\(J xs W'\/ ∃pre,pre<+:xs/\Jx pre W')
variable {F:Fence} {n:Nat} {P:Program}
theorem abp{α:Type}{g:Operand}{ps:Array Tmp}{assign body:Code}{Q:Exit->Act->World->Prop}{a:Act}{w:World}
  (hro:F.round=none) (h1:1<=n) {gf:Nat} {lb:Array Value} (hg:a.eval g= .func (.func gf) #[] lb) (hFg:F.fn gf) (eg:∀args w,(callFunc gf args).run P w= .ok (.enter gf args) w)
  {enc:α->Value} {C D:Nat->Prop} {xs:List α} {w0:World} (hseq:agN F (n-1) P gf lb enc C D xs w0)
  (hC:∀k,C k->k<w.heap.size) (hD:∀k,D k->k<w.heap.size) (hw0:Dl C w0 w) (hsz:w0.heap.size<=w.heap.size) (hps:ps.size=1)
  (G:Nat->Prop) (hG:∀k,G k->¬C k/\k≠w.heap.size/\k≠w.heap.size+1)
  (I Ir:List α->World->Prop)
  (hI:∀s W W',I s W->Only (fun k=>D k\/k=w.heap.size\/k=w.heap.size+1) W W'->I s W')
  (hIr:∀s W W',Ir s W->Only (fun k=>D k\/k=w.heap.size\/k=w.heap.size+1) W W'->Ir s W')
  (h0:I [] w) (a₁:α->Act)
  (hassign:∀(l:Nat) (x:α) (W:World) (K:Act->World->Prop),K (a₁ x) W->
   assign.wpIn (F.inRound l) (n-1-1) P (Exit.then K (fun _ _ _=>False)) {tmps:=(ps.zip #[enc x]).foldl (fun t (p,v)=>t.setIfInBounds p v) a.tmps,defers:=[]} W)
  (hbody:∀(l:Nat) (pre:List α) (x:α) (suf:List α) (W:World),w.heap.size+2<=W.heap.size->I pre W->xs=pre++x::suf->body.wpIn (F.inRound l) (n-1-1) P (aak G I Ir (pre++[x]) W) (a₁ x) W)
  (hdone:∀(W:World),I xs W->W.heap[w.heap.size]? =some (.deferred (some []))->Q .normal {a with defers:={target:=.collected w.heap.size,args:= #[]}::a.defers} W)
  (hstop:∀(pre:List α) (W:World),pre<+:xs->Ir pre W->W.heap[w.heap.size]? =some (.deferred (some []))->Code.ret.wpIn F n P Q {a with defers:={target:=.collected w.heap.size,args:= #[]}::a.defers} W):
  (Code.rangeFunc g ps assign body).wpIn F n P Q a w:=by
 refine wpIn_rangeFunc ?_
 intro fn hfn
 rw[hro]
 obtain⟨rec,hrec⟩:∃rec:LoopState->Option Code->Loop,rec=fun st pe=>{state:=st,pending:=pe,fn,tmps:=a.tmps,params:=ps,assign,body,defers:=w.heap.size}:=⟨_,rfl⟩
 obtain⟨W1,hW1⟩:=ze ((w.alloc (.deferred (some []))).alloc (.loop (rec .ready none)))
 have hL1:W1.heap[w.heap.size+1]? =some (.loop (rec .ready none)):=by
  exact zGB
 have hK1:W1.heap[w.heap.size]? =some (.deferred (some [])):=by
  exact zHF
 have hO1:O0 w W1:=by rw[<-hW1];exact((Only.refl _ w).alloc _).alloc _
 have hS1:W1.heap.size=w.heap.size+2:=by rw[<-hW1];simp
 have hput:∀(W:World) (o:Obj),Only (fun k=>D k\/k=w.heap.size\/k=w.heap.size+1) W (W.putObj (w.heap.size+1) o):=fun W o=>
  ⟨rfl,rfl,rfl,by simp,fun k _ hn=>World.putObj_heap_other (fun e=>hn (.inr (.inr e)))⟩
 have hcw:∀{W W':World},Only D W W'->Only (fun k=>D k\/k=w.heap.size\/k=w.heap.size+1) W W':=fun h=>h.mono fun _ hk=>.inl hk
 have hnc:∀k,w.heap.size<=k->¬D k:=fun k hk hc=>by have:=hD k hc;omega
 exact zDL
section
variable {w w':World} {c bt bb:Nat} {Bs:Nat}
theorem Kp.ahQ{F:Nat->Prop}(ho:Only F w w')(h:∀k,F k->Bs<=k):Kp Bs w w':=ho.mono h
end
end Go.Proofs.YtdmmebjjojimiaaGreatDoor
namespace Go.Proofs.YtdmmebjjojimiaaGreatDoor
open Go.RowKit Go.Sort Go.Shelf
def Tryz.abq:Go.Shelf.Ren:=⟨fun |6=>157|8=>174|9=>223|19=>252|20=>253|21=>301|22=>302|23=>303|24=>304|25=>305|26=>306|27=>307|28=>308|29=>309|31=>318|32=>319|36=>356|37=>357|38=>358|39=>175|41=>390|n=>n,fun |0=>0|3=>3|4=>4|5=>5|9=>9|26=>81|27=>81|29=>9|32=>239|35=>280|36=>281|41=>285|44=>288|46=>290|53=>332|57=>336|63=>369|64=>264|n=>n,fun n=>n⟩
theorem Tryz.oJ:Go.Proofs.SlLaysM.n6 Tryz.prog Tryz.abq:={
 mixed:=by kernel_rfl
 f6:=⟨Tryz.f157.name,by decide,Tryz.func157.trans (congrArg some zk)⟩
 f8:=Tryz.func174.trans (congrArg some zk)
 f9:=⟨Tryz.f223.name,by decide,Tryz.func223.trans (congrArg some zk)⟩
 f19:=Tryz.func252.trans (congrArg some zk)
 f20:=Tryz.func253.trans (congrArg some zk)
 f21:=⟨Tryz.f301.name,by decide,Tryz.func301.trans (congrArg some zk)⟩
 f22:=⟨Tryz.f302.name,by decide,Tryz.func302.trans (congrArg some zk)⟩
 f23:=⟨Tryz.f303.name,by decide,Tryz.func303.trans (congrArg some zk)⟩
 f24:=⟨Tryz.f304.name,by decide,Tryz.func304.trans (congrArg some zk)⟩
 f25:=⟨Tryz.f305.name,by decide,Tryz.func305.trans (congrArg some zk)⟩
 f26:=⟨Tryz.f306.name,by decide,Tryz.func306.trans (congrArg some zk)⟩
 f27:=⟨Tryz.f307.name,by decide,Tryz.func307.trans (congrArg some zk)⟩
 f28:=⟨Tryz.f308.name,by decide,Tryz.func308.trans (congrArg some zk)⟩
 f29:=⟨Tryz.f309.name,by decide,Tryz.func309.trans (congrArg some zk)⟩
 f31:=Tryz.func318.trans (congrArg some zk)
 f32:=Tryz.func319.trans (congrArg some zk)
 f36:=⟨Tryz.f356.name,by decide,Tryz.func356.trans (congrArg some zk)⟩
 f37:=⟨Tryz.f357.name,by decide,Tryz.func357.trans (congrArg some zk)⟩
 f38:=⟨Tryz.f358.name,by decide,Tryz.func358.trans (congrArg some zk)⟩
 f39:=⟨Tryz.f175.name,by decide,Tryz.func175.trans (congrArg some zk)⟩
 f41:=⟨Tryz.f390.name,by decide,Tryz.func390.trans (congrArg some zk)⟩
 t0:=Tryz.underlying0
 a0:=Tryz.isAgg0
 z0:=Tryz.sizeOf0
 v0:=Tryz.zeroValue0
 t3:=Tryz.underlying3
 a3:=Tryz.isAgg3
 z3:=Tryz.sizeOf3
 v3:=Tryz.zeroValue3
 t4:=Tryz.underlying4
 a4:=Tryz.isAgg4
 z4:=Tryz.sizeOf4
 v4:=Tryz.zeroValue4
 t5:=Tryz.underlying5
 a5:=Tryz.isAgg5
 z5:=Tryz.sizeOf5
 v5:=Tryz.zeroValue5
 t9:=Tryz.underlying9
 a9:=Tryz.isAgg9
 z9:=Tryz.sizeOf9
 v9:=Tryz.zeroValue9
 t26:=Tryz.underlying81
 a26:=Tryz.isAgg81
 z26:=Tryz.sizeOf81
 v26:=Tryz.zeroValue81
 t27:=Tryz.underlying81
 a27:=Tryz.isAgg81
 z27:=Tryz.sizeOf81
 v27:=Tryz.zeroValue81
 t29:=Tryz.underlying9
 a29:=Tryz.isAgg9
 z29:=Tryz.sizeOf9
 v29:=Tryz.zeroValue9
 t32:=Tryz.underlying239
 a32:=Tryz.isAgg239
 z32:=Tryz.sizeOf239
 v32:=Tryz.zeroValue239
 t35:=Tryz.underlying280
 a35:=Tryz.isAgg280
 z35:=Tryz.sizeOf280
 v35:=Tryz.zeroValue280
 t36:=Tryz.underlying281
 a36:=Tryz.isAgg281
 z36:=Tryz.sizeOf281
 v36:=Tryz.zeroValue281
 t41:=Tryz.underlying285
 a41:=Tryz.isAgg285
 z41:=Tryz.sizeOf285
 v41:=Tryz.zeroValue285
 t44:=Tryz.underlying288
 a44:=Tryz.isAgg288
 z44:=Tryz.sizeOf288
 v44:=Tryz.zeroValue288
 t46:=Tryz.underlying290
 a46:=Tryz.isAgg290
 z46:=Tryz.sizeOf290
 v46:=Tryz.zeroValue290
 t53:=Tryz.underlying332
 a53:=Tryz.isAgg332
 z53:=Tryz.sizeOf332
 v53:=Tryz.zeroValue332
 t57:=Tryz.underlying336
 a57:=Tryz.isAgg336
 z57:=Tryz.sizeOf336
 v57:=Tryz.zeroValue336
 t63:=Tryz.underlying369
 a63:=Tryz.isAgg369
 z63:=Tryz.sizeOf369
 v63:=Tryz.zeroValue369
 t64:=Tryz.underlying264
 a64:=Tryz.isAgg264
 z64:=Tryz.sizeOf264
 v64:=Tryz.zeroValue264}
def Tryz.Ut:Go.Shelf.Ren:=⟨fun |194=>158|n=>n,fun |0=>0|3=>3|4=>4|9=>9|31=>81|n=>n,fun n=>n⟩
theorem Tryz.gX:Go.Proofs.Lays.n194 Tryz.prog Tryz.Ut:={
 mixed:=by kernel_rfl
 f194:=Tryz.func158.trans (congrArg some zk)
 t0:=Tryz.underlying0
 a0:=Tryz.isAgg0
 z0:=Tryz.sizeOf0
 v0:=Tryz.zeroValue0
 t3:=Tryz.underlying3
 a3:=Tryz.isAgg3
 z3:=Tryz.sizeOf3
 v3:=Tryz.zeroValue3
 t4:=Tryz.underlying4
 a4:=Tryz.isAgg4
 z4:=Tryz.sizeOf4
 v4:=Tryz.zeroValue4
 t9:=Tryz.underlying9
 a9:=Tryz.isAgg9
 z9:=Tryz.sizeOf9
 v9:=Tryz.zeroValue9
 t31:=Tryz.underlying81
 a31:=Tryz.isAgg81
 z31:=Tryz.sizeOf81
 v31:=Tryz.zeroValue81}
abbrev fZ(s:Str):List UInt8:=s.data.toList
abbrev ofL(l:List UInt8):Str:=⟨l.toArray⟩
theorem J5(s:Str):ofL (fZ s)=s:=by cases s with|mk d=>simp[ofL,fZ]
theorem aat(l:List Str):(l.map fZ).map ofL=l:=by
 rw[List.map_map];conv=>rhs;rw[<-List.map_id l]
 exact List.map_congr_left fun s _=>J5 s
theorem Oc(l:List (List UInt8)):l.map encStr=bZ (l.map ofL):=by unfold bZ;rw[List.map_map];rfl
theorem RQ(l:List Str):bZ l=(l.map fZ).map encStr:=by rw[Oc,aat]
def oJ(l:List Str):List Str:=((l.map fZ).mergeSort fun x y=>decide (x<=y)).map ofL
def gX(l:List Str):List Str:=(Lib.compact (l.map fZ)).map ofL
theorem YW(l:List Str):(oJ l).Perm l:=by have h:=(List.mergeSort_perm (l.map fZ) fun x y=>decide (x<=y)).map ofL;rw[aat]at h;exact h
theorem RS(l:List Str):(oJ l).length=l.length:=(YW l).length_eq
theorem IY{α:Type}[DecidableEq α][Inhabited α](xs:List α):(∀x∈Lib.compact xs,x∈xs)/\(Lib.compact xs).length<=xs.length:=by
 unfold Lib.compact Lib.compactUpTo;refine⟨fun x hx=>?_,?_⟩;·obtain⟨i,hi,rfl⟩:=yD.1 hx;have h2:=yI.1 (List.mem_filter.1 hi).1;have h3:i<xs.length:=zB0;simp[h3]
 rw[qM];have:=yO (Lib.keeps xs.toArray) (List.range xs.length);simpa using this
section
variable {w:World}
theorem Lj{α:Type}[Inhabited α](enc:α->Value){e:TypeId}{g n cap:Nat}{xs:List Value}(h:w.ownsRow 0 e 1 (.slice (some ⟨g,0,none⟩) n cap) n xs)(d:Array α)(hd:d.size=n):(putRow enc w g 0 d).ownsRow 0 e 1 (.slice (some ⟨g,0,none⟩) n cap) n (d.toList.map enc):=by
 rcases h.2 with⟨h',_⟩| ⟨g',cap',cur,h',hb,hg,h1,h2,h3,htake⟩;·simp at h'
 simp only[qU,qG,qO,and_true,true_and]at h';obtain⟨rfl,rfl⟩:=h';refine⟨by simp[hd],.inr ⟨g,cap,putCells enc 0 d cur,rfl,qE _,?_,h1,h2,?_,?_⟩⟩;·show(w.heap.modify g _)[g]? =_;rw[Array.getElem?_modify,if_pos rfl,hg];rfl
 ·simpa[putCells]using h3
 apply List.ext_getElem?;intro j;simp only[yH,putCells,List.getElem?_take,List.getElem?_map];by_cases hj:j<n
 ·have hc:j<cur.size:=by omega
  simp[hj,hc,hd]
 rw[if_neg hj,List.getElem?_eq_none (by simp[hd];omega)];rfl
theorem IZ{α:Type}[Inhabited α](enc:α->Value)(w:World)(g:Nat)(d:Array α):Only (fun k=>k=g) w (putRow enc w g 0 d):=
 ⟨rfl,rfl,rfl,by simp[putRow,mapBlock],fun k _ hk=>by
  show(w.heap.modify g _)[k]? =_
  rw[Array.getElem?_modify,if_neg (fun e=>hk e.symm)]⟩
theorem Oe{e:TypeId}{g n cap:Nat}{xs:List (List UInt8)}(h:w.ownsRow 0 e 1 (.slice (some ⟨g,0,none⟩) n cap) n (xs.map encStr)):Holds encStr w g 0 xs.toArray:=by
 intro j hj;have hn:xs.length=n:=by simpa using h.1
 have hj':j<xs.length:=by simpa using hj
 refine⟨?_,h.frozenAt _⟩;rw[Nat.zero_add,h.cellAt j zAA];simp[hj']
theorem Uu{v:Value}{l:List Str}{n:Nat}(hn:l.length=n)(h:w.ownsRow 0 9 1 v n (bZ l))(hb:n<=1000000):Calls Tryz.prog 157 #[v] w fun e w'=>e= .returned (.tuple #[])/\w'.ownsRow 0 9 1 v n (bZ (oJ l))/\Only (fun k=>v.ownBlock=some k) w w':=by
 subst hn;by_cases h0:l.length=0
 ·have hx:l=[]:=yF h0;subst hx;obtain⟨ao,cap,rfl,_,_⟩:=bg h;refine(AnyM.slices_Sort_string_none Tryz.oJ ao cap w).mono fun e w' ⟨he,hw⟩=>⟨he,?_,?_⟩;·rw[hw];simpa[oJ]using h
  rw[hw];exact Only.refl _ _
 obtain⟨gb,cap,rfl,_,_⟩:=gQ h zAA;rw[RQ]at h;have hH:=Oe h;have hlt:=pq h (k:=gb) rfl;have key:=AnyM.slices_Sort_string Tryz.oJ gb 0 cap (l.map fZ) w hH hlt zBL;rw[qM]at key;refine key.mono fun e w' ⟨he,q,os,hw⟩=>⟨he,?_,?_⟩;·subst hw;have h1:=Lj encStr (w:=Sort.ahead w q) (g:=gb) (n:=l.length) (cap:=cap) (e:=9) h ((l.map fZ).mergeSort fun x y=>decide (x<=y)).toArray zAP;have h2:=aW h1 (Rn (Only.refl (fun _=>False) _) os) (fun _ _ f=>f);rw[Oc]at h2;exact h2
 subst hw;refine Rn ?_ os;have:=(Nq (Only.refl (fun k=>k=gb) w) q).same (IZ encStr (Sort.ahead w q) gb ((l.map fZ).mergeSort fun x y=>decide (x<=y)).toArray);exact this.mono fun i hi=>by subst hi;rfl
theorem Hg{v:Value}{l:List Str}{n:Nat}(hn:l.length=n)(h:w.ownsRow 0 9 1 v n (bZ l)):Calls Tryz.prog 158 #[v] w fun e w'=> ∃v',e= .returned v'/\w'.ownsRow 0 9 1 v' (gX l).length (bZ (gX l))/\v'.ownBlock=v.ownBlock/\Only (fun k=>v.ownBlock=some k) w w':=by
 subst hn;by_cases h0:l.length=0
 ·have hx:l=[]:=yF h0;subst hx;obtain⟨ao,cap,rfl,_,_⟩:=bg h;refine(Any.slices_Compact_string_empty Tryz.gX ao cap w).mono fun e w' ⟨he,hw⟩=>⟨_,he,?_,rfl,?_⟩;·rw[hw];exact h
  rw[hw];exact Only.refl _ _
 obtain⟨gb,cap,rfl,hc1,hc2⟩:=gQ h zAA;rw[RQ]at h;have hH:=Oe h;unfold maxLen at hc2;have key:=Any.slices_Compact_string Tryz.gX gb 0 cap (l.map fZ) w hH zBL (by simpa using hc1);rw[qM]at key;have hlen:(gX l).length=(Lib.compact (l.map fZ)).length:=by unfold gX;rw[qM]
 refine key.mono fun e w' ⟨he,q,hw⟩=>⟨_,he,?_,rfl,?_⟩
 ·subst hw;have hle:=(IY (l.map fZ)).2;rw[qM]at hle;have h1:=Lj encStr (w:=Sort.ahead w q) (g:=gb) (n:=l.length) (cap:=cap) (e:=9) h (Lib.compact (l.map fZ)++List.replicate (l.length-(Lib.compact (l.map fZ)).length) []).toArray zBL;have h2:=agr h1 (Lib.compact (l.map fZ)).length hle;rw[hlen];have e:((Lib.compact (l.map fZ)++List.replicate (l.length-(Lib.compact (l.map fZ)).length) []).toArray.toList.map encStr).take (Lib.compact (l.map fZ)).length=bZ (gX l):=by unfold gX;rw[<-Oc];simp
  rw[e]at h2;exact h2
 subst hw;have:=(Nq (Only.refl (fun k=>k=gb) w) q).same (IZ encStr (Sort.ahead w q) gb (Lib.compact (l.map fZ)++List.replicate (l.length-(Lib.compact (l.map fZ)).length) []).toArray);exact this.mono fun i hi=>by subst hi;rfl
end
end Go.Proofs.YtdmmebjjojimiaaGreatDoor
namespace Go.Proofs.YtdmmebjjojimiaaGreatDoor
open Go.RowKit
attribute [local go_sem] Oper.semAt_some
section
variable {w w':World} {B:Nat}
abbrev agO(s:Str):Value:=.string s
theorem Og{C:Nat->Prop}{W W':World}(h:Dl C W W'){b i:Nat}{u:Value}(hb:C b)(hc:W.cell? ⟨b,i,none⟩=some u):W'.cell? ⟨b,i,none⟩=some u:=by have e:=h b hb;unfold World.cell? at hc⊢;rw[e];exact hc
theorem YX(n:Nat)(hn:1<=n){bx:Nat}{v:Value}{l:List Str}(hc:w.cell? ⟨bx,0,none⟩=some v)(hR:aS 1 bU B w v l)(hlen:l.length<=1000000):
  agN Fence.wide n Tryz.prog 373 #[.pointer (some ⟨bx,0,none⟩)] agO (fun k=>k=bx\/0<l.length/\k<B) (fun _=>False) l w:=fun y J Jx W hC hsz hJ hJx hY h0=>by
 have HY:=zh hY
 have HC:=zh hC
 have HCx:=zh hc
 have c0:=Og hC (.inl rfl) hc
 obtain⟨ao,cap,rfl,-,-⟩:=hR.shape
 have HR:=zh hR
 obtain⟨m,hm⟩:=ze l.length
 have HM:=zh hm
 rw[hm]at c0 hlen HCx
 clear hY hC hR hJ hJx hc hm
 refine callsIn_of_wp Tryz.func373 rfl trivial ?_ rfl
 simp only[Tryz.ntmps373,List.size_toArray,qN,List.length_nil,Nat.reduceAdd,Nat.reduceSub,Array.replicate_succ,Array.replicate_zero,List.push_toArray,List.append_toArray,List.nil_append,List.cons_append]
 gi_wp2
 gi_loopw [7] (fun vi wr=> ∃i:Nat,vi= .int .i64 i/\i<=m/\Hid (Dl (fun k=>k=bx\/0<l.length/\k<B) w wr)/\Hid (J (l.take i) wr)) (fun v _=>m-(RowKit.intOf v).toNat)
 case atStart=>exact⟨0,rfl,qE _,HC,h0⟩
 case round=>
  obtain⟨i,rfl,hi,HCi,HJi⟩:=hrel
  by_cases ci:i<m
  ·obtain⟨x,hx⟩:=zG l i (by rw[HM.out];exact ci)
   have hil:i<l.length:=by rw[HM.out];exact ci
   obtain⟨b2,off2,rfl,hb2,hBb,hcell⟩:=HR.out.cells _ _ _ rfl zAA
   obtain⟨cs,g1,g2,g3,-⟩:=hcell i hil
   have hxe:l[i]=x:=by
    have:=qA hil
    rw[hx]at this
    exact(Option.some.inj this).symm
   rw[hxe]at g3
   subst g3
   have hce:=g2 0 _ rfl
   rw[qF,yH]at hce
   have ce:=Og HCi.out (.inr ⟨by omega,hb2⟩) hce
   have c1:=Og HCi.out (.inl rfl) HCx.out
   have hsplit:l=l.take i++x::l.drop (i+1):=by
    have h1:=List.take_append_drop i l
    rw[List.drop_eq_getElem_cons hil,hxe]at h1
    exact h1.symm
   obtain⟨fn,tmps,assign,body,hy,hRd⟩:=HY.out (l.take i) x (l.drop (i+1)) wr HJi.out hsplit
   have Qi:=zh hRd
   have X8:Hid (l.take i++[x]=l.take (i+1)):=by
    show _=_
    rw[List.take_add_one,hx];rfl
   have iE:=zw (i+1)
   clear hRd hsplit hce hcell g1 g2 hxe hx HY
   gi_wp2
   refine Qi.out.mono ?_
   rintro e W2 (⟨rfl,hJ2,hC2,hS2⟩| ⟨rfl,hJx⟩)
   ·rw[X8.out]at hJ2
    have H2:=zh (And.intro (HCi.out.trans hC2) hJ2)
    clear hJ2 hC2 Qi ce c1 hy
    gi_wp2
    go_roundw
    case rel=>exact⟨i+1,by first|rfl|go_num,by omega,H2.out.1,H2.out.2⟩
    case measure=>simp[RowKit.intOf]<;>omega
   ·rw[X8.out]at hJx
    gi_wp2
    refine bodyPost_ret (results_none rfl _ _ _) rfl ?_
    exact⟨⟨_,rfl⟩,.inr ⟨_,List.take_prefix _ _,hJx⟩⟩
  ·obtain rfl:m=i:=by omega
   have hJ:=HJi.out
   rw[qI (yG HM.out)]at hJ
   gi_wp2
   go_end0
   exact⟨⟨_,rfl⟩,.inl hJ⟩
def ApI(w:World)(b0 base:Nat)(pre:List Str)(W:World):Prop:= ∃v,Boxed W b0 81 v/\W.ownsRow base 9 1 v pre.length (bZ pre)/\O0 w W
theorem ApI.keep{w:World}{b0 base:Nat}{pre:List Str}{W W':World}{F:Nat->Prop}(h:ApI w b0 base pre W)(ho:Only F W W')(h0:¬F b0)(hb:∀k,base<=k->¬F k)(hw:∀k,F k->k<w.heap.size->False):ApI w b0 base pre W':=by obtain⟨v,g1,g2,g3⟩:=h;exact⟨v,Boxed.only g1 ho h0,aW g2 ho (fun k hk=>hb k (g2.lt k hk).1),g3.trans ho fun k hk=>.inr (Nat.le_of_not_lt fun h=>hw k hk h)⟩
theorem Uw{bx:Nat}{l:List Str}(hS:∀n,1<=n->agN Fence.wide n Tryz.prog 373 #[.pointer (some ⟨bx,0,none⟩)] agO (fun k=>k=bx\/0<l.length/\k<B) (fun _=>False) l w)(hbx:bx<w.heap.size)(hB:0<l.length->B<=w.heap.size)(hlen:l.length<=1000000):Calls Tryz.prog 404 #[.slice none 0 0,.func (.func 373) #[] #[.pointer (some ⟨bx,0,none⟩)]] w fun e w'=> ∃v,e= .returned v/\w'.ownsRow 0 9 1 v l.length (bZ l)/\(∀k,v.ownBlock=some k->w.heap.size<=k)/\O0 w w':=by
 refine(callsIn_wide (n:=9)).1 ?_;refine callsIn_of_wp_marks Tryz.func404 rfl trivial ?_ rfl;simp only[Tryz.ntmps404,List.size_toArray,qN,List.length_nil,Nat.reduceAdd,Nat.reduceSub,Array.replicate_succ,Array.replicate_zero,List.push_toArray,List.append_toArray,List.nil_append,List.cons_append];obtain⟨m,hm⟩:=ze w.heap.size;obtain⟨W0,hW0⟩:=ze (w.alloc (.cells #[.slice none 0 0] 81));have hb0:Boxed W0 m 81 (.slice none 0 0):=by rw[<-hW0,<-hm];exact Boxed.new w _ _
 have o0:O0 w W0:=by rw[<-hW0];exact(Only.refl _ w).alloc _
 have hs0:W0.heap.size=m+1:=by rw[<-hW0,<-hm];simp
 have HW:=zh (And.intro hb0 (And.intro o0 hs0));have HS:=zh hS;have HM:=zh hm;clear hb0 o0 hs0 hS;gi_wp2;obtain⟨hb0,o0,hs0⟩:=HW.out;have hm:=HM.out;refine abp rfl zAA (gf:=373) (lb:= #[.pointer (some ⟨bx,0,none⟩)]) (C:=fun k=>k=bx\/0<l.length/\k<B) (enc:=agO) rfl trivial (enters_of Tryz.func373 zk rfl)
  (HS.out 8 zCj) (fun k hk=>by omega) (fun _ f=>f.elim) (fun k hk=>o0.block k (by have h:k=bx\/0<l.length/\k<B:=hk;omega) (fun f=>f)) zAA rfl
  (fun k=>k=m\/m+3<=k) (fun k hk=>by omega)
  (ApI w m (m+3)) (fun _ _=>False)
  (fun p W W' h ho=>h.keep (F:=fun k=>k=m+1\/k=m+2) (ho.mono fun k hk=>hk.elim (fun f=>f.elim) (fun h=>by omega)) zAA (fun k hk=>by omega) (fun k hk=>by omega))
  (fun p W W' h ho=>h)
  ⟨_,hb0,World.ownsRow_nil _ _ _ _,o0⟩ (a₁:=?a1) ?assign ?body ?done ?stop
 case assign=>intro l x W K hK;gi_wp2;exact hK
 case body=>
  rintro y pre x suf W hsz ⟨v,g1,g2,g3⟩ hx;have hpl:pre.length<=1000000:=by have:=congrArg List.length hx;simp at this;omega
  obtain⟨ao,cap,rfl,l1,l2⟩:=bg g2;obtain⟨i0,z0,hi,hz0,hz1,hz2,hz3⟩:=iU.info;have HI0:=zh (And.intro hi (And.intro hz0 (And.intro hz1 (And.intro hz2 hz3))));obtain⟨W4,MR⟩:=ze (W.alloc (.cells #[.string x] 9));have o4:O0 W W4:=by rw[<-MR];exact zr.alloc _
  have hn4:W4.heap[W.heap.size]? =some (.cells #[.string x] 9 (0,0)):=by rw[<-MR];exact qL W _
  have X6:Hid (∀(j:Nat) (u:Value),[Value.string x][j]? =some u->W4.cell? ((⟨W.heap.size,0,none⟩:Addr).add j)=some u):=fun j u hu=>by
   match j,hu with
   |0,hu=>simp at hu;subst hu;simp[World.cell?,Addr.add,hn4]
   |k+1,hu=>simp at hu
  have HOW:=zh (aW g2 o4 (fun _ _ f=>f));have HB4:=zh (Boxed.only g1 o4 (fun f=>f));have HNE:Hid (some m≠(Value.slice ao pre.length cap).ownBlock):=fun e=>by have:=(HOW.out.lt _ e.symm).1;omega
  have Ej:=zh o4;have hs4:m+3<=W4.heap.size:=by have:=o4.size;omega
  have HG:=zh (And.intro g1 (And.intro g2 g3));have q4:=g1.cell;have f4:=g1.frozen;have q5:=HB4.out.cell;have f5:=HB4.out.frozen;have HsZ:=zh hsz;clear g1 g2 g3 o4 hn4 hi hz0 hz1 hz2 hz3 hx hb0 o0 hs0 HW;gi_wp2_with (gi_at_builtin;obtain⟨hi,hz0,hz1,hz2,hz3⟩:=HI0.out;refine wpListIn_append_own _ rfl _ _ 81 rfl (m+3) 9 i0 z0 1 16 iU.und hi hz0 hz1 hz2 hz3 zHZ _ _ _ rfl HOW.out ⟨W.heap.size,0,none⟩ 1 1 [.string x] rfl rfl X6.out zC9 (by unfold maxLen;omega) zAA hs4 ?_;intro v' w5 hown' hgrow _;obtain⟨g5,cap5,rfl⟩:=ownsRow_succ hown';have hb5:=HB4.out.kept hgrow HNE.out;have cb5:=hb5.cell;have fb5:=hb5.frozen);obtain⟨g1,g2,g3⟩:=HG.out;have hsz:=HsZ.out;have hrow:∀k,(Value.slice ao pre.length cap).ownBlock=some k->m+3<=k:=fun k hk=>(HOW.out.lt _ hk).1;have adN:∀k,(Value.slice (some ⟨g5,0,none⟩) (pre.length+1) cap5).ownBlock=some k->m+3<=k:=fun k hk=>(hown'.lt _ hk).1;have oW:Only (fun k=>k=m\/m+3<=k) W w5:=(Ej.out.mono fun _ f=>f.elim).grown hgrow fun k hk=>.inl (.inr (hrow k hk));have ow5:O0 w w5:=(g3.same Ej.out).grown hgrow fun k hk=>.inr (by have:=hrow k hk;omega);refine⟨oW.setCell (p:=⟨m,0,none⟩) (.inl (.inl rfl)) _,_,hb5.set _,?_,ow5.setCell (p:=⟨m,0,none⟩) (.inr (by show _<=m;omega)) _⟩;have e9:bZ (pre++[x])=bZ pre++[.string x]:=by simp[bZ]
  rw[qK,e9];exact aW hown' ((Only.refl (fun k=>k=m) w5).setCell (p:=⟨m,0,none⟩) (.inl rfl) _) (fun k hk e=>by have:=adN k hk;omega)
 case done=>rintro W ⟨v,g1,g2,g3⟩ hK;obtain⟨ao,cap,rfl,l1,l2⟩:=bg g2;have q1:=g1.cell;have HG:=zh (And.intro g1 (And.intro g2 g3));have HK:=zh hK;have hD:=hs0;clear g1 g2 g3 hK;gi_wp2;obtain⟨g1,g2,g3⟩:=HG.out;refine⟨by simp,.inl ⟨_,_,rfl,run_takeDeferred HK.out,?_⟩⟩;have o3:Only (fun k=>k=W0.heap.size) W (W.putObj W0.heap.size (.deferred none)):=⟨rfl,rfl,rfl,by simp,fun k _ hn=>World.putObj_heap_other hn⟩;have hrow:∀k,(Value.slice ao l.length cap).ownBlock=some k->m+3<=k:=fun k hk=>(g2.lt _ hk).1;refine⟨_,results_tmp rfl _ _ _,_,rfl,Wn (aW g2 o3 fun k hk e=>by have:=hrow k hk;omega),fun k hk=>by have:=hrow k hk;omega,g3.trans o3 fun k hk=>.inr zAA⟩
 case stop=>exact fun pre W h hf=>hf.elim
end
theorem YZ{α:Type}[DecidableEq α][Inhabited α](xs:List α):(Lib.compact xs).length<xs.length↔ ∃i,i<xs.length/\Lib.keeps xs.toArray i=false:=by
 unfold Lib.compact Lib.compactUpTo;rw[qM];constructor
 ·intro h;by_cases hc:∀i,i<xs.length->Lib.keeps xs.toArray i=true;·rw[List.filter_eq_self.2 (fun i hi=>hc i (yI.1 hi)),List.length_range]at h;omega
  simp only[Classical.not_forall]at hc;obtain⟨i,hi,h2⟩:=hc;exact⟨i,hi,by simpa using h2⟩
 rintro⟨i,hi,h2⟩;have h3:(List.range xs.length).filter (Lib.keeps xs.toArray)≠List.range xs.length:=fun e=>by have:=List.filter_eq_self.1 e i (yI.2 hi);rw[h2]at this;cases this
 have h4:=yO (Lib.keeps xs.toArray) (List.range xs.length);have h5:((List.range xs.length).filter (Lib.keeps xs.toArray)).length≠(List.range xs.length).length:=fun e=>h3 (List.filter_eq_self.2 (List.length_filter_eq_length_iff.1 e));rw[List.length_range]at h4 h5;omega
theorem AB{α:Type}[DecidableEq α][Inhabited α](xs:List α)(i:Nat)(hi:i<xs.length):Lib.keeps xs.toArray i=false↔ ∃j,i=j+1/\xs[i]? =xs[j]? :=by
 unfold Lib.keeps;rw[decide_eq_false_iff_not,not_or,Classical.not_not];cases i with
 |zero=>simp
 |succ j=>
  have h1:xs[j+1]? =some xs[j+1]:=qA hi;have h2:xs[j]? =some (xs[j]'zCj):=qA zAA;rw[Nat.add_sub_cancel,getElem!_pos xs.toArray (j+1) (by simpa using hi),getElem!_pos xs.toArray j zBL];constructor;·rintro⟨-,h⟩;exact⟨j,rfl,by rw[h1,h2];exact congrArg some zBy⟩
  rintro⟨k,hk,h⟩;obtain rfl:j=k:=by omega
  rw[h1,h2]at h;exact⟨by omega,by simpa using Option.some.inj h⟩
theorem Ux{xs:List (List UInt8)}(hs:xs.Pairwise (· <= ·)):(Lib.compact xs).length<xs.length↔ ¬xs.Nodup:=by
 rw[YZ];constructor;·rintro⟨i,hi,hk⟩ hn;obtain⟨j,rfl,he⟩:=(AB xs i hi).1 hk;have:=List.pairwise_iff_getElem.1 hn j (j+1) zCj hi zAA;rw[qA hi,qA zAA]at he;exact this (Option.some.inj he).symm
 intro hn;unfold List.Nodup at hn;rw[List.pairwise_iff_getElem]at hn;simp only[Classical.not_forall,Classical.not_not]at hn;obtain⟨i,j,hi,hj,hij,he'⟩:=hn;refine⟨i+1,by omega,(AB xs (i+1) zAA).2 ⟨i,rfl,?_⟩⟩;rw[qA zCj,qA zAA];have h1:=List.pairwise_iff_getElem.1 hs i (i+1) zC8 zCj zAA;have h2:xs[i+1]'zAA<=xs[j]:=by
  rcases yK (i+1) j with h|h;·exact List.pairwise_iff_getElem.1 hs (i+1) j zAA hj h
  have:i+1=j:=by omega
  subst this;exact List.le_refl _
 rw[<-he']at h2;exact congrArg some (List.le_antisymm h2 h1)
theorem Hl{a b:Str}(h:fZ a=fZ b):a=b:=by rw[<-J5 a,<-J5 b,h]
theorem WG(l:List Str):(l.map fZ).Nodup↔l.Nodup:=by
 constructor;·exact fun h=>(List.pairwise_map.1 h).imp fun hne e=>hne (by rw[e])
 exact fun h=>List.pairwise_map.2 (h.imp fun hne e=>hne (Hl e))
theorem abr(l:List Str):decide ((gX (oJ l)).length<l.length)= !eu l:=by
 have hp:=List.mergeSort_perm (l.map fZ) fun x y=>decide (x<=y);have hs:((l.map fZ).mergeSort fun x y=>decide (x<=y)).Pairwise (· <= ·):=by
  have:=List.pairwise_mergeSort (le:=fun x y:List UInt8=>decide (x<=y)) (fun a b c h1 h2=>by simp only[yP]at*;exact List.le_trans h1 h2) (fun a b=>by
   simp only[Bool.or_eq_true,yP];exact List.le_total a b) (l.map fZ)
  exact this.imp fun h=>by simpa using h
 have h1:(gX (oJ l)).length=(Lib.compact ((l.map fZ).mergeSort fun x y=>decide (x<=y))).length:=by
  unfold gX oJ;rw[qM,List.map_map];congr 2;conv=>rhs;rw[<-List.map_id ((l.map fZ).mergeSort fun x y=>decide (x<=y))]
  exact List.map_congr_left fun s _=>by simp[fZ,ofL]
 have h2:l.length=((l.map fZ).mergeSort fun x y=>decide (x<=y)).length:=by rw[List.length_mergeSort,qM]
 rw[h1,h2,Bool.eq_iff_iff,yP,Ux hs,hp.nodup_iff,WG,Bool.not_eq_true',Bool.eq_false_iff,Ne,wF]
section
variable {w w':World} {B:Nat}
abbrev aiX(bx:Nat):Value:=.func (.func 373) #[] #[.pointer (some ⟨bx,0,none⟩)]
theorem abt(ao:Option Addr)(n c:Nat)(w:World):Calls Tryz.prog 334 #[.slice ao n c] w fun e w'=>e= .returned (aiX w.heap.size)/\w'=w.alloc (.cells #[.slice ao n c] 81):=by go_enter Tryz.func334,Tryz.ntmps334;go_wp2_with fail;go_ret;exact⟨rfl,rfl⟩
structure WH (w:World) (B bx:Nat) (l:List Str):Prop where
 seq:∀n,1<=n->agN Fence.wide n Tryz.prog 373 #[.pointer (some ⟨bx,0,none⟩)] agO (fun k=>k=bx\/0<l.length/\k<B) (fun _=>False) l w
 box:bx<w.heap.size
 low:0<l.length->B<=w.heap.size
 len:l.length<=1000000
theorem WH.of{ao:Option Addr}{c:Nat}{l:List Str}(h:aS 1 bU B w (.slice ao l.length c) l)(hl:l.length<=1000000):WH (w.alloc (.cells #[.slice ao l.length c] 81)) B w.heap.size l:=by have o:O0 w (w.alloc (.cells #[.slice ao l.length c] 81)):=zr.alloc _;refine⟨fun n hn=>YX n hn (by rw[aj (qL w _)];rfl) (h.keep bU.keep (Kp.dV o)) hl,by simp,fun h0=>?_,hl⟩;obtain⟨_,_,_,_,hB,_⟩:=h.cells _ _ _ rfl h0;exact qR hB o.size
theorem Y0{bx:Nat}{l:List Str}(h:WH w B bx l):Calls Tryz.prog 372 #[aiX bx] w fun e w'=> ∃v,e= .returned v/\w'.ownsRow 0 9 1 v l.length (bZ l)/\(∀k,v.ownBlock=some k->w.heap.size<=k)/\O0 w w':=by have HC:=zh (Uw h.seq h.box h.low h.len);clear h;go_enter Tryz.func372,Tryz.ntmps372;go_wp2_with fail;refine HC.out.mono ?_;rintro e w1 ⟨v,rfl,r1,b1,o1⟩;have H:=zh (And.intro r1 (And.intro b1 o1));obtain⟨ao,c,rfl,-,-⟩:=bg r1;clear r1 b1 o1;go_wp2_with fail;go_ret;exact⟨_,rfl,H.out⟩
theorem abu{bx:Nat}{l:List Str}(h:WH w B bx l):Calls Tryz.prog 333 #[aiX bx] w fun e w'=> ∃v,e= .returned v/\w'.ownsRow 0 9 1 v l.length (bZ (oJ l))/\(∀k,v.ownBlock=some k->w.heap.size<=k)/\O0 w w':=by have HC:=zh (Y0 h);have hl:=h.len;obtain⟨n,hn⟩:=ze l.length;have HN:=zh hn;rw[hn]at HC hl⊢;clear h hn;go_enter Tryz.func333,Tryz.ntmps333;go_wp2_with fail;refine HC.out.mono ?_;rintro e w1 ⟨v,rfl,r1,b1,o1⟩;have HS:=zh (Uu HN.out r1 hl);have H:=zh (And.intro b1 o1);obtain⟨ao,c,rfl,-,-⟩:=bg r1;clear r1 b1 o1;go_wp2_with fail;refine HS.out.mono ?_;rintro e w2 ⟨rfl,r2,o2⟩;have H2:=zh (And.intro r2 o2);clear r2 o2;go_wp2_with fail;go_ret;obtain⟨b1,o1⟩:=H.out;exact⟨_,rfl,H2.out.1,b1,o1.trans H2.out.2 fun k hk=>.inr (b1 k hk)⟩
theorem WI{v:Value}{l:List Str}(h:aS 1 bU B w v l)(hl:l.length<=1000000):Calls Tryz.prog 265 #[v] w fun e w'=>e= .returned (.bool (!eu l))/\O0 w w':=by
 obtain⟨ao,c,rfl,-,-⟩:=h.shape;have HV:=zh (abt ao l.length c w);have HS:=zh (abu (WH.of h hl));rw[<-abr];obtain⟨W0,hW0⟩:=ze (w.alloc (.cells #[.slice ao l.length c] 81));have jW:Hid (O0 w W0):=by rw[<-hW0];exact zr.alloc _
 rw[hW0]at HV HS;obtain⟨m,hm⟩:=ze ((gX (oJ l)).length);obtain⟨n,hn⟩:=ze l.length;have HM:=zh (And.intro hm hn);rw[hn]at HV HS hl⊢;rw[hm];clear h hm hn hW0;go_enter Tryz.func265,Tryz.ntmps265;go_wp2_with fail;refine HV.out.mono ?_;rintro e w1 ⟨rfl,rfl⟩;go_wp2_with fail;refine HS.out.mono ?_;rintro e w2 ⟨v2,rfl,r2,b2,o2⟩;have HC:=zh (Hg (by rw[RS];exact HM.out.2) r2);have H2:=zh (And.intro b2 o2);obtain⟨Rl,c2,rfl,-,-⟩:=bg r2;clear r2 b2 o2;rw[HM.out.1]at HC;go_wp2_with fail;refine HC.out.mono ?_;rintro e w3 ⟨v3,rfl,r3,-,o3⟩;have H3:=zh o3;obtain⟨ao3,c3,rfl,-,-⟩:=bg r3;clear r3 o3;have hd:decide ((m:Int)<(n:Int))=decide (m<n):=decide_eq_decide.2 zAA;go_wp2_with fail;go_ret;refine⟨by first|rfl| (rw[hd]),jW.out.same (H2.out.2.trans H3.out fun k hk=>.inr (H2.out.1 k hk))⟩
end
end Go.Proofs.YtdmmebjjojimiaaGreatDoor
