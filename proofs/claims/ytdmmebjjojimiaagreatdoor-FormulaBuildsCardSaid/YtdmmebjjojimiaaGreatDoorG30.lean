/- maps.Keys at a map whose keys are two places: the iterator gives each key once.; Package edge: the order of edges (edges$1). Printed by gen_edz3.py. -/
import Derived.Test.YtdmmebjjojimiaaGreatDoorG29
set_option maxRecDepth 100000
set_option maxHeartbeats 8000000
set_option linter.all false
namespace Go.Proofs.YtdmmebjjojimiaaGreatDoor
open Go.RowKit Go.Maps Go.Sort Go.Shelf
attribute [local go_sem] Oper.semAt_some
theorem LP(w:World)(old cs:Array Value)(t:TypeId):(w.alloc (.cells old t)).setRow w.heap.size cs=w.alloc (.cells cs t):=by
 unfold World.alloc World.setRow;congr 1;apply Array.ext;·simp
 intro k h1 h2;simp only[Array.getElem_modify,Array.getElem_push];by_cases e:k<w.heap.size;·simp[e,Nat.ne_of_gt e]
 have e2:w.heap.size=k:=by simp at h1;omega
 simp[e2]
section
variable {F:Fence} {n:Nat} {P:Program} {w:World} {ops:Array Oper} {rest:List Oper} {o:Oper} {a:Act} {Q:Exit->Act->World->Prop}
theorem wO(hgd:o.guard=none)(ty:TypeId)(x y:Operand)(ho:o.op= .store ty x y)(g:Nat)(cells:Array Value)(hx:a.eval x= .pointer (some ⟨g,0,none⟩))(hy:a.eval y= .agg cells)(t:TypeId)(old:Array Value)(hg:w.heap[g]? =some (.cells old t (0,0)))(hi:(P.info? ty).map (·.size)=some cells.size)(hold:old.size=cells.size)(h1:cells.all (·.oneCell')=true)(h:wpListIn F n P ops Q rest (a.put o.dst undef) (w.setRow g cells)):wpListIn F n P ops Q (o::rest) a w:=by refine wpListIn_plain hgd fun K' hK'=>?_;unfold Oper.wpIn;refine⟨by simp[Oper.about,ho],?_⟩;rw[Oper.semAt_plain F _ _ (by rw[ho];intro c hc';cases hc')];unfold execOp;simp only[ho,hx,hy,Instr.storeAt,Instr.sureAddr,Sem.run_bind,Sem.run_pure,Result.andThen_ok,run_storeVar_row w g t ty old cells hg hi hold h1];exact hK' _ _ h
theorem xH(hgd:o.guard=none)(ty:TypeId)(x:Operand)(ho:o.op= .load ty x)(g:Nat)(hx:a.eval x= .pointer (some ⟨g,0,none⟩))(t:TypeId)(cs:Array Value)(fr:Nat×Nat)(d:TypeDesc)(hg:w.heap[g]? =some (.cells cs t fr))(hu:P.underlying ty=some d)(hd:(match d with| .struct _| .array _ _=>true|_=>false)=true)(hi:(P.info? ty).map (·.size)=some cs.size)(h:wpListIn F n P ops Q rest (a.put o.dst (.agg cs)) w):wpListIn F n P ops Q (o::rest) a w:=by refine wpListIn_plain hgd fun K' hK'=>?_;unfold Oper.wpIn;refine⟨by simp[Oper.about,ho],?_⟩;rw[Oper.semAt_plain F _ _ (by rw[ho];intro c hc';cases hc')];unfold execOp;simp only[ho,hx,Instr.loadAt,Instr.sureAddr,Sem.run_bind,Sem.run_pure,Result.andThen_ok,run_loadVar_row w g t ty cs fr d hg hu hd hi];exact hK' _ _ h
end
section
variable {κ:Type} [DecidableEq κ] {t k:TypeId} {K:CU κ t k} {m:List (κ×List Int)} {w:World} {B n:Nat} {D:DataW Value}
theorem adA(hown:w.ownsMap Tryz.prog k FW B n D)(hh:∀x,K.ok x->(Maps.has D (K.lit x)=true↔x∈keysOf m))(hs:Maps.size D=m.length)(nd:(keysOf m).Nodup)(ok:∀x∈keysOf m,K.ok x){kl:Lit}(hk:Maps.has D kl=true):∃x∈keysOf m,K.lit x=kl:=by
 obtain⟨es,rfl,hpw,-⟩:=hown.entries K.law;have hmem:∀{l:Lit},Maps.has (.map es) l=true->l∈es.map Prod.fst:=fun{l} h=>by rw[Maps.has_eq,yU]at h;obtain⟨p,hp,hs⟩:=h;exact yD.2 ⟨p,hp,WideAt.sameKey_eq hs⟩
 have hes:es.length=m.length:=hs;have h1:((keysOf m).map K.lit).Nodup:=by refine List.pairwise_map.2 (nd.imp_of_mem fun{a b} ha hb hab e=>?_);exact K.ne (ok a ha) (ok b hb) (Ne.symm hab) e.symm
 have hsub:∀z∈(keysOf m).map K.lit,z∈es.map Prod.fst:=fun z hz=>by obtain⟨x,hx,rfl⟩:=yD.1 hz;exact hmem ((hh x (ok x hx)).2 hx)
 by_cases hin:kl∈(keysOf m).map K.lit;·obtain⟨x,hx,e⟩:=yD.1 hin;exact⟨x,hx,e⟩
 exfalso;letI:DecidableEq Lit:=fun a b=>Classical.propDecidable (a=b);have h2:=zT (l:=kl::(keysOf m).map K.lit) (m:=es.map Prod.fst) (List.nodup_cons.2 ⟨hin,h1⟩) (fun z hz=>by
  rcases qY.1 hz with rfl|hz
  ·exact hmem hk
  ·exact hsub z hz)
 simp only[qN,qM]at h2;omega
def Q8(K:CU κ t k)(m:List (κ×List Int))(left:Lit->Bool)(ss:List κ):Prop:=ss.Nodup/\(∀x∈ss,x∈keysOf m)/\∀x∈keysOf m,(x∈ss↔left (K.lit x)=false)
theorem Q8.start(hh:∀x,K.ok x->(Maps.has D (K.lit x)=true↔x∈keysOf m))(ok:∀x∈keysOf m,K.ok x):Q8 K m (Maps.has D) []:=
 ⟨List.nodup_nil,fun x hx=>(List.not_mem_nil hx).elim,fun x hx=>by simp[(hh x (ok x hx)).2 hx]⟩
theorem Q8.step{left:Lit->Bool}{ss:List κ}(h:Q8 K m left ss){x:κ}(hx:x∈keysOf m)(ok:∀x∈keysOf m,K.ok x)(hl:left (K.lit x)=true):Q8 K m (fun z=>left z&& !z.sameKey (K.lit x)) (ss++[x]):=by
 have hnew:x∉ss:=fun hm=>by have:=(h.2.2 x hx).1 hm;rw[hl]at this;cases this
 refine⟨List.nodup_append.2 ⟨h.1,by simp,fun a ha b hb=>by simp at hb;subst hb;exact fun e=>hnew (e▸ha)⟩,fun y hy=>?_,fun y hy=>?_⟩
 ·rcases qW.1 hy with hy|hy;·exact h.2.1 y hy
  simp at hy;subst hy;exact hx
 by_cases e:y=x;·subst e;simp[WideAt.sameKey_self (K.isKey (ok y hy))]
 have h1:(K.lit y).sameKey (K.lit x)=false:=Maps.sameKey_ne (K.ne (ok x hx) (ok y hy) e);simp[h.2.2 y hy,e,h1]
theorem Q8.perm{left:Lit->Bool}{ss:List κ}(h:Q8 K m left ss)(nd:(keysOf m).Nodup)(hl:∀kl,left kl=false):ss.Perm (keysOf m):=(List.perm_ext_iff_of_nodup h.1 nd).2 fun x=>⟨h.2.1 x,fun hx=>(h.2.2 x hx).2 (hl _)⟩
end
section
variable {m:List ((Nat×Nat)×List Int)}
theorem aay(n:Nat)(hn:1<=n)(l Bm b nn:Nat)(D0:DataW Value)(J:List (Nat×Nat)->World->Prop)(hh:∀x,KE.ok x->(Maps.has D0 (KE.lit x)=true↔x∈keysOf m))(hsz:Maps.size D0=m.length)(nd:(keysOf m).Nodup)(ok:∀x∈keysOf m,KE.ok x)(hY:∀pre x W,J pre W->pre.length<m.length->YieldAt Fence.wide (n-1) Tryz.prog l #[CV x] W fun e W'=>e= .returned (.bool true)/\J (pre++[x]) W'/\KeepsWalks W W')(W:World)(hJ:AbidesFrom W.heap.size J)(hm:W.cell? ⟨Bm,0,none⟩=some (.map (some b)))(hown:W.ownsMap Tryz.prog 226 FW b nn D0)(h0:J [] W):CallsIn Fence.wide n Tryz.prog 314 #[.func (.yield l) #[] #[],.pointer (some ⟨Bm,0,none⟩)] W fun e W'=>(∃v,e= .returned v)/\∃ss:List (Nat×Nat),ss.Perm (keysOf m)/\J ss W':=by
 refine callsIn_of_wp Tryz.func314 rfl trivial ?_ rfl;simp only[Tryz.ntmps314,List.size_toArray,qN,List.length_nil,Nat.reduceAdd,Nat.reduceSub,Array.replicate_succ,Array.replicate_zero,List.push_toArray,List.append_toArray,List.nil_append,List.cons_append];gi_wp2_with (first
  | (gi_at_range;refine wpListIn_range_own _ rfl _ 150 rfl 226 78 FX Tryz.underlying150 FW b nn _ rfl hown ?_;intro w0 hrg0 hg0 hs0)
  |gi_in)
 go_frame;gi_loopw [3] (fun _ wr=> ∃(left:Lit->Bool) (cnt:Nat) (ss:List (Nat×Nat)),wr.ranges Tryz.prog 226 FW b W.heap.size nn D0 left cnt/\ss.length+cnt<=m.length/\Q8 KE m left ss/\J ss wr) (fun _ wr=>wr.rangeLeft b W.heap.size);case atStart=>exact⟨_,_,[],hrg0,by simp[hsz],Q8.start hh ok,hJ [] W w0 none h0 hg0 (fun r e=>by cases e)⟩
 case round=>
  obtain⟨left,cnt,ss,hrg,hcs,hC,hJs⟩:=hrel;gi_wp2_with (first
   | (gi_at_next;refine wpListIn_next_ranges _ rfl _ rfl 226 FX FW (id:Value->Value) (id:Value->Value) (fun key kl hk=>⟨key,rfl⟩) (fun v _ _=>⟨v,rfl⟩) b W.heap.size nn _ _ _ rfl hrg ?_ ?_)
   |gi_in)
  ·intro hc0 hl0;gi_wp2;go_end0;exact⟨⟨_,rfl⟩,ss,hC.perm nd hl0,hJs⟩
  intro x c kl yd yp w2 cnt2 hkey hlk hv hat hrg2 hlt hg2 hs2 hen;obtain⟨e,he,rfl⟩:=adA (K:=KE) hown hh hsz nd ok (Maps.has_true_of_atKey hat);obtain rfl:x=CV e:=FX.inj hkey (KE.key e (ok e he));have hJ2:J ss w2:=hJ ss wr w2 (some W.heap.size) hJs hg2 (fun r e=>by cases e;exact⟨qH _,hrg.iter_walk⟩);have hJ3:J ss (w2.alloc (.cells #[.int .i64 e.1,.int .i64 e.2] 226)):=hJ ss w2 _ none hJ2 (World.grownBy_alloc _ _ _) (fun r e=>by cases e);obtain⟨fn,tmps,assign,body,hy,hR⟩:=hY ss e _ hJ3 zAB;have HR:=zh hR;have HRG:=zh (hrg2.alloc (.cells #[.int .i64 e.1,.int .i64 e.2] 226));have HC:=zh (hC.step he ok hlk);have HLT:=zh hlt;have apv:=zh hrg;clear hs2 hR hrg2 hJ2 hJ3 hC hlt hrg hat hv;gi_wp2_with (first
   | (refine wO rfl 226 (.tmp 3) (.tmp 9) rfl w2.heap.size #[.int .i64 e.1,.int .i64 e.2] rfl rfl 226 #[.int .i64 0,.int .i64 0] zAl zk rfl (by rfl) ?_;rw[LP])
   | (refine xH rfl 226 (.tmp 3) rfl w2.heap.size rfl 226 #[.int .i64 e.1,.int .i64 e.2] (0,0) _ zAl Tryz.underlying226 rfl zk ?_)
   |gi_in)
  refine HR.out.mono ?_;rintro e3 W3 ⟨rfl,hJ3,hk3⟩;gi_wp2;have hrg3:=HRG.out.of_walks hk3;go_roundw;case rel=>exact⟨_,cnt2,ss++[e],hrg3,by have:=HLT.out;simp;omega,HC.out,hJ3⟩
  case measure=>rw[hrg3.left_eq,apv.out.left_eq];exact HLT.out
theorem cell_new1(w:World)(v:Value)(t:TypeId):(w.alloc (.cells #[v] t)).cell? ⟨w.heap.size,0,none⟩=some v:=by simp only[World.cell?,World.alloc_heap_new];simp
theorem aaz(w:World)(a b:Value)(t:TypeId):∀(j:Nat) u,[a,b][j]? =some u->(w.alloc (.cells #[a,b] t)).cell? ((⟨w.heap.size,0,none⟩:Addr).add j)=some u:=by
 intro j u h;have e:(⟨w.heap.size,0,none⟩:Addr).add j=⟨w.heap.size,j,none⟩:=by unfold Addr.add;simp[eq_comm]
 rw[e];simp only[World.cell?,World.alloc_heap_new];simpa using h
theorem UW{w:World}{g:Tag}{τ B:Nat}{val:Nat×Nat->Value}(H:rD KE w g τ B m val)(n:Nat)(hn:1<=n):
  SeqGives Fence.wide n Tryz.prog 314 #[.pointer (some ⟨w.heap.size,0,none⟩)] CV (fun ss=>ss.Perm (keysOf m)) m.length (w.alloc (.cells #[.map (some B)] 150)):=fun l J W hW hJ hY h0=>by
 obtain⟨D,h1,-,h3,h4⟩:=H.own
 have h1':W.ownsMap Tryz.prog 226 FW B m.length D:=by
  have hbl:=h1.lt
  obtain⟨es,clock,hb,Ft,hs,hD⟩:=h1.alloc (.cells #[.map (some B)] 150)
  exact⟨es,clock,(hW.block B zAU).trans hb,Ft,hs,hD⟩
 exact aay n hn l w.heap.size B m.length D J (fun x hx=>by rw[h3 x hx];simp) h4 H.nd H.ok hY W hJ ((hW.cell (p:=⟨w.heap.size,0,none⟩) zAF).trans (cell_new1 _ _ _)) h1' h0
theorem XL(ss:List (Nat×Nat))(x:Nat×Nat):kQ (ss++[x])=kQ ss++[.int .i64 (x.1:Int),.int .i64 (x.2:Int)]:=by simp[kQ]
theorem Pz(ss:List (Nat×Nat)):(kQ ss).length=ss.length*2:=by
 induction ss with
 |nil=>rfl
 |cons x r ih=>simp only[kQ,List.flatMap_cons,qK,qN,List.length_nil]at ih⊢;omega
def aiJ:Code:=(Code.region 2 #[{dst:=some 5,op:=Op.alloc 226,type:=0,pos:= "iter.go:51",after:= #[],guard:=none},{dst:=none,op:=Op.store 226 (Operand.tmp 5) (Operand.tmp 7),type:=0,pos:= "iter.go:51",after:= #[{on:=0,ground:=Ground.data},{on:=0,ground:=Ground.phase}],guard:=none}] false)
def aiK:Code:=(Code.block 1 (Code.region 3 #[{dst:=some 8,op:=Op.load 223 (Operand.tmp 2),type:=223,pos:= "iter.go:52",after:= #[],guard:=none},{dst:=some 9,op:=Op.load 226 (Operand.tmp 5),type:=226,pos:= "iter.go:52",after:= #[],guard:=none},{dst:=some 10,op:=Op.buildSlice 223 1 #[(0,Operand.tmp 9)],type:=223,pos:= "iter.go:52",after:= #[{on:=1,ground:=Ground.data}],guard:=none},{dst:=some 11,op:=Op.call {callee:=Callee.builtin Builtin.append,args:= #[Operand.tmp 8,Operand.tmp 10],argTypes:= #[223,223]},type:=223,pos:= "iter.go:52",after:= #[{on:=0,ground:=Ground.data},{on:=2,ground:=Ground.data}],guard:=none},{dst:=none,op:=Op.store 223 (Operand.tmp 2) (Operand.tmp 11),type:=0,pos:= "iter.go:52",after:= #[{on:=3,ground:=Ground.data},{on:=3,ground:=Ground.chain},{on:=0,ground:=Ground.phase},{on:=1,ground:=Ground.phase},{on:=2,ground:=Ground.phase},{on:=3,ground:=Ground.phase}],guard:=none}] false))
def LQ(fn:FuncId)(sv:Value)(Bs D:Nat)(st:LoopState)(pend:Option Code):Loop:=
 {state:=st,pending:=pend,fn,tmps:= #[.slice none 0 0,sv,.pointer (some ⟨Bs,0,none⟩),undef,.slice none 0 0,undef,sv,undef,undef,undef,undef,undef,undef],params:= #[7],assign:=aiJ,body:=aiK,defers:=D}
structure ApE (w0:World) (fn:FuncId) (sv:Value) (Bs l D:Nat) (ss:List (Nat×Nat)) (W:World):Prop where
 box:∃v,W.heap[Bs]? =some (.cells #[v] 223 (0,0))/\W.ownsRow w0.heap.size 226 2 v ss.length (kQ ss)
 L:W.heap[l]? =some (.loop (LQ fn sv Bs D .ready none))
 K:W.heap[D]? =some (.deferred (some []))
 below:Below w0.heap.size w0 W
theorem Ep{w:World}{base:Nat}{e:TypeId}{size:Nat}{v:Value}{n:Nat}{xs:List Value}(h:w.ownsRow base e size v (n+1) xs):∃g cap,v= .slice (some ⟨g,0,none⟩) (n+1) cap:=by
 rcases h.2 with⟨_,h0⟩| ⟨g,cap,_,h',_⟩;·omega
 exact⟨g,cap,h'⟩
theorem al0:223≠226:=by decide
theorem XM(w0:World)(fn:FuncId)(sv:Value)(Bs l D B:Nat)(hB:w0.heap.size<=B):AbidesFrom B (ApE w0 fn sv Bs l D):=fun s W W' row h hg hrow=>by
 have hrow':∀r,row=some r->∃o:Obj,W.heap[r]? =some o/\o.isWalk=true:=fun r e=>(hrow r e).2
 obtain⟨v,hv,hr⟩:=h.box
 exact⟨⟨v,(grownBy_keeps hg hrow' hv rfl).trans hv,ownsRow_abides_a hr hg hrow'⟩,(grownBy_keeps hg hrow' h.L rfl).trans h.L,(grownBy_keeps hg hrow' h.K rfl).trans h.K,
  h.below.grown hg h.below.size (fun k e=>qR hB (hrow k e).1)⟩
theorem adB:(Tryz.prog.info? 226).map (fun i=>(i.zero,i.size,i.bytes))=some (some (.agg #[.int .i64 0,.int .i64 0]),2,16):=by kernel_rfl
theorem aaA(mm:Nat)(w0:World)(fn:FuncId)(sv:Value)(Bs l D:Nat)(hBl:Bs≠l)(hDl:D≠l)(hDB:D≠Bs)(h0B:w0.heap.size<=Bs)(h0l:w0.heap.size<=l)(N:Nat)(hN:N<=1000000)(ss:List (Nat×Nat))(x:Nat×Nat)(W:World)(h:ApE w0 fn sv Bs l D ss W)(hlen:ss.length<N):YieldAt Fence.wide mm Tryz.prog l #[CV x] W fun e W'=>e= .returned (.bool true)/\ApE w0 fn sv Bs l D (ss++[x]) W'/\KeepsWalks W W':=by
 obtain⟨i0,hi,hz0,hz1,hz2⟩:=info_parts adB;obtain⟨v,hv,hrow⟩:=h.box;have hne:=al0;refine⟨fn,#[.slice none 0 0,sv,.pointer (some ⟨Bs,0,none⟩),undef,.slice none 0 0,undef,sv,CV x,undef,undef,undef,undef,undef],aiJ,aiK,by simpa[LQ]using run_yield (P:=Tryz.prog) (args:= #[CV x]) h.L rfl,roundIn_of_wpIn trivial ?_⟩;have al1:Bs<W.heap.size:=(yA.1 hv).1;have hl0:l<W.heap.size:=(yA.1 h.L).1;have al2:D<W.heap.size:=(yA.1 h.K).1; -- the struct's own block
 obtain⟨W1,hW1⟩:∃W1,W.alloc (.cells #[.int .i64 (x.1:Int),.int .i64 (x.2:Int)] 226)=W1:=⟨_,rfl⟩;have hs1:W1.heap.size=W.heap.size+1:=by rw[<-hW1];simp
 have adC:∀k,k<W.heap.size->W1.heap[k]? =W.heap[k]? :=fun k hk=>by rw[<-hW1];exact Below.heap_alloc _ _ k hk
 have hx1:W1.heap[W.heap.size]? =some (.cells #[.int .i64 (x.1:Int),.int .i64 (x.2:Int)] 226 (0,0)):=by rw[<-hW1];exact World.alloc_heap_new _ _
 have hk1:KeepsWalks W W1:=by rw[<-hW1];exact KeepsWalks.alloc _ _
 have hv1:=(adC Bs al1).trans hv;have hL1:=(adC l hl0).trans h.L;have hK1:=(adC D al2).trans h.K;have hrow1:W1.ownsRow w0.heap.size 226 2 v ss.length (kQ ss):=by rw[<-hW1];exact hrow.alloc _
 have hb1:Below w0.heap.size w0 W1:=by rw[<-hW1];exact h.below.alloc h.below.size _
 have hl1:l<W1.heap.size:=zAB;have hbr:=run_beginRound (P:=Tryz.prog) hL1 rfl;obtain⟨W2,hW2⟩:∃W2,W1.putObj l (.loop {LQ fn sv Bs D .ready none with state:=.busy})=W2:=⟨_,rfl⟩;rw[hW2]at hbr;have hg2:W1.grownBy W2 (some l):=by rw[<-hW2];exact grownBy_putObj_a _ _ _
 have hk2:KeepsWalks W W2:=hk1.trans (by rw[<-hW2];exact KeepsWalks.putObj _ hL1 rfl);have hs2:W2.heap.size=W1.heap.size:=by rw[<-hW2];simp[World.putObj]
 have hv2:W2.heap[Bs]? =some (.cells #[v] 223 (0,0)):=by rw[<-hW2];exact(World.putObj_heap_other hBl).trans hv1
 have hx2:W2.heap[W.heap.size]? =some (.cells #[.int .i64 (x.1:Int),.int .i64 (x.2:Int)] 226 (0,0)):=by rw[<-hW2];exact(World.putObj_heap_other zAB).trans hx1
 have hK2:W2.heap[D]? =some (.deferred (some [])):=by rw[<-hW2];exact(World.putObj_heap_other hDl).trans hK1
 have hL2:W2.heap[l]? =some (.loop {LQ fn sv Bs D .ready none with state:=.busy}):=by rw[<-hW2];exact World.putObj_heap_same hl1
 have hrow2:W2.ownsRow w0.heap.size 226 2 v ss.length (kQ ss):=hrow1.kept hg2 (ownsRow_ne_a hrow1 hL1 (fun cur e=>by first|cases e|exact hne (Obj.cells.inj e).2.1));have hb2:Below w0.heap.size w0 W2:=hb1.grown hg2 hb1.size (fun k e=>by cases e;exact h0l);obtain⟨hc2,hf2⟩:=cell_of_box_a hv2;have al3:Bs<W2.heap.size:=(yA.1 hv2).1;have hl2:l<W2.heap.size:=(yA.1 hL2).1;have al4:D<W2.heap.size:=(yA.1 hK2).1;have ne_of:∀{j:Nat} {o:Obj},W2.heap[j]? =some o->(∀cur,o≠ .cells cur 226 (0,0))->some j≠v.ownBlock:=fun hj hno=>by
  rcases ownsRow_ne_a hrow2 hj hno with e|e;·rw[e];simp
  exact fun e'=>e e'.symm
 clear hW2 hs1 hs2;unfold aiJ;gi_wp2_with (first
  | (refine wO rfl 226 (.tmp 5) (.tmp 7) rfl W.heap.size #[.int .i64 (x.1:Int),.int .i64 (x.2:Int)] rfl rfl 226 #[.int .i64 0,.int .i64 0] zAl zk rfl (by rfl) ?_;rw[LP,hW1])
  |gi_round_op_a)
 unfold aiK;gi_wp2_with (first
  | (refine xH rfl 226 (.tmp 5) rfl W.heap.size rfl 226 #[.int .i64 (x.1:Int),.int .i64 (x.2:Int)] (0,0) _ hx2 Tryz.underlying226 rfl zk ?_)
  | (gi_at_builtin;refine wpListIn_append_own _ rfl _ _ 223 rfl w0.heap.size 226 i0 (.agg #[.int .i64 0,.int .i64 0]) 2 16 Tryz.underlying223 hi hz0 hz1 hz2 rfl zBV _ _ _ rfl (hrow2.alloc _) ⟨W2.heap.size,0,none⟩ 1 1 [.int .i64 (x.1:Int),.int .i64 (x.2:Int)] rfl rfl (aaz _ _ _ _) (by intro u hu;simp at hu;rcases hu with rfl|rfl<;>rfl) zB0 zAB (by exact qR hb2.size zBo) ?_;intro v' w3 hown' hg3 hnil3;have hv3:w3.heap[Bs]? =some (.cells #[v] 223 (0,0)):=(hg3.block Bs (by simp;omega) (ne_of hv2 (fun cur e=>by first|cases e|exact hne (Obj.cells.inj e).2.1))).trans ((Below.heap_alloc _ _ Bs al3).trans hv2);obtain⟨hc3,hf3⟩:=cell_of_box_a hv3;obtain⟨g',cap',rfl⟩:=Ep hown';go_frame)
  |gi_round_op_a)
 have hg3':(W2.alloc (.cells #[.int .i64 (x.1:Int),.int .i64 (x.2:Int)] 226)).grownBy w3 v.ownBlock:=hg3;have hL3:w3.heap[l]? =some (.loop {LQ fn sv Bs D .ready none with state:=.busy}):=(hg3'.block l zAU (ne_of hL2 (fun cur e=>by first|cases e|exact hne (Obj.cells.inj e).2.1))).trans ((Below.heap_alloc _ _ l hl2).trans hL2);have hK3:w3.heap[D]? =some (.deferred (some [])):=(hg3'.block D zAU (ne_of hK2 (fun cur e=>by first|cases e|exact hne (Obj.cells.inj e).2.1))).trans ((Below.heap_alloc _ _ D al4).trans hK2);obtain⟨w4,hw4⟩:=ze (w3.setCell ⟨Bs,0,none⟩ (.slice (some ⟨g',0,none⟩) (ss.length+1) cap'));rw[hw4];have hg4:w3.grownBy w4 (some Bs):=by rw[<-hw4];exact grownBy_setCell0_a _ _ _
 have hv4:w4.heap[Bs]? =some (.cells #[.slice (some ⟨g',0,none⟩) (ss.length+1) cap'] 223 (0,0)):=by rw[<-hw4];exact heap_setCell_box_a _ hv3
 have hL4:w4.heap[l]? =some (.loop {LQ fn sv Bs D .ready none with state:=.busy}):=(hg4.block l (yA.1 hL3).1 (fun e=>hBl (by cases e;rfl))).trans hL3;have hK4:w4.heap[D]? =some (.deferred (some [])):=(hg4.block D (yA.1 hK3).1 (fun e=>hDB (by cases e;rfl))).trans hK3;have hrow4:=hown'.kept hg4 (ownsRow_ne_a hown' hv3 (fun cur e=>by first|cases e|exact hne (Obj.cells.inj e).2.1));have hl4:l<w4.heap.size:=(yA.1 hL4).1;have hb3:Below w0.heap.size w0 w3:=(hb2.alloc hb2.size _).grown hg3' (by have:=hb2.size;simp;omega) (fun k e=>(hrow2.lt k e).1);have hb4:Below w0.heap.size w0 w4:=hb3.grown hg4 hb3.size (fun k e=>by cases e;exact h0B);have hk4:KeepsWalks W w4:=((hk2.trans (KeepsWalks.alloc _ _)).trans (KeepsWalks.of_grownBy hg3' (ownsRow_not_walk_a (hrow2.alloc _)))).trans (by rw[<-hw4];exact KeepsWalks.setCell _ _ _);clear hw4;refine⟨_,_,run_endRound none hL4,rfl,⟨⟨_,(World.putObj_heap_other hBl).trans hv4,?_⟩,World.putObj_heap_same hl4,(World.putObj_heap_other hDl).trans hK4,hb4.grown (grownBy_putObj_a _ _ _) hb4.size (fun k e=>by cases e;exact h0l)⟩,hk4.trans (KeepsWalks.putObj _ hL4 rfl)⟩;have:=hrow4.kept (grownBy_putObj_a w4 l (.loop {{LQ fn sv Bs D .ready none with state:=.busy}with state:=if (none:Option Code).isNone then .ready else .done,pending:=none})) (ownsRow_ne_a hrow4 hL4 (fun cur e=>by first|cases e|exact hne (Obj.cells.inj e).2.1));rw[XL,qK];exact this
theorem NY(n:Nat)(hn:2<=n)(g:Nat)(lb:Array Value)(eg:∀args w,(callFunc g args).run Tryz.prog w= .ok (.enter g args) w)(S:List (Nat×Nat)->Prop)(N:Nat)(hN:N<=1000000)(w:World)(hseq:SeqGives Fence.wide (n-1) Tryz.prog g lb CV S N w):CallsIn Fence.wide n Tryz.prog 361 #[.slice none 0 0,.func (.func g) #[] lb] w fun e w'=> ∃(v:Value) (ss:List (Nat×Nat)),e= .returned v/\S ss/\w'.ownsRow w.heap.size 226 2 v ss.length (kQ ss)/\Below w.heap.size w w':=by
 have h1:1<=n:=zAB;have hne:=al0;refine callsIn_of_wp_marks Tryz.func361 rfl trivial ?_ rfl;simp only[Tryz.ntmps361,List.size_toArray,qN,List.length_nil,Nat.reduceAdd,Nat.reduceSub,Array.replicate_succ,Array.replicate_zero,List.push_toArray,List.append_toArray,List.nil_append,List.cons_append];gi_wp2;refine wpIn_rangeFunc ?_;intro fn hfn;rw[show(Fence.wide).round=none from rfl];obtain⟨W0,hW0⟩:=ze (w.alloc (.cells #[.slice none 0 0] 223));have hs0:W0.heap.size=w.heap.size+1:=by rw[<-hW0];simp
 have hv0:W0.heap[w.heap.size]? =some (.cells #[.slice none 0 0] 223 (0,0)):=by rw[<-hW0];exact World.alloc_heap_new w _
 have hb0:Below w.heap.size w W0:=by rw[<-hW0];exact(Below.refl _ w).alloc (qH _) _
 rw[hW0];obtain⟨W1,hW1⟩:=ze ((W0.alloc (.deferred (some []))).alloc (.loop (LQ fn (.func (.func g) #[] lb) w.heap.size W0.heap.size .ready none)));have hold:∀k,k<W0.heap.size->W1.heap[k]? =W0.heap[k]? :=fun k hk=>by rw[<-hW1];exact(Below.heap_alloc _ _ k zAU).trans (Below.heap_alloc _ _ k hk)
 have hb1:Below w.heap.size w W1:=by rw[<-hW1];exact(hb0.alloc hb0.size _).alloc (by have:=hb0.size;simp;omega) _
 have hs1:W1.heap.size=W0.heap.size+2:=by rw[<-hW1];simp
 have hM:ApE w fn (.func (.func g) #[] lb) w.heap.size (W0.heap.size+1) W0.heap.size [] W1:=
  ⟨⟨_,(hold w.heap.size zAB).trans hv0,⟨rfl,.inl ⟨rfl,rfl⟩⟩⟩,
  by rw[<-hW1];have:=World.alloc_heap_new (W0.alloc (.deferred (some []))) (.loop (LQ fn (.func (.func g) #[] lb) w.heap.size W0.heap.size .ready none));rwa[World.size_alloc]at this,
  by rw[<-hW1];exact(Below.heap_alloc _ _ _ zAF).trans (World.alloc_heap_new W0 _),hb1⟩
 refine⟨W0.heap.size+1,[{target:=.collected W0.heap.size,args:= #[]}],W1,{target:=.fn (.func g) lb,args:= #[.func (.yield (W0.heap.size+1)) #[] #[]]},W1,g,#[.func (.yield (W0.heap.size+1)) #[] #[]]++lb,W1,?_,?_,?_,?_,fun _=>h1,?_⟩;·rw[<-hW1];exact run_enterLoop_outer _ _ _ _ _
 ·simp[resolve,go_sem]
 ·intro f' hf';trivial
 ·simp[invoke,go_sem,eg]
 refine(hseq (W0.heap.size+1) (ApE w fn (.func (.func g) #[] lb) w.heap.size (W0.heap.size+1) W0.heap.size) W1 hb1 (XM _ _ _ _ _ _ _ hb1.size) (fun pre x W hJ hl=>aaA (n-1-1) w fn _ w.heap.size (W0.heap.size+1) W0.heap.size zBt zBl zBU (qH _) zAB N hN pre x W hJ hl) hM).mono ?_;rintro e W2 ⟨⟨v0,rfl⟩,ss,hS,h2⟩;obtain⟨v,hv,hrow⟩:=h2.box;have hend:=run_endLoop (P:=Tryz.prog) h2.L (by simp[LQ]);obtain⟨W3,hW3⟩:∃W3,W2.putObj (W0.heap.size+1) (.loop {LQ fn (.func (.func g) #[] lb) w.heap.size W0.heap.size .ready none with state:=.exhausted})=W3:=⟨_,rfl⟩;rw[hW3]at hend;have hg3:W2.grownBy W3 (some (W0.heap.size+1)):=by rw[<-hW3];exact grownBy_putObj_a _ _ _
 have hv3:W3.heap[w.heap.size]? =some (.cells #[v] 223 (0,0)):=by rw[<-hW3];exact(World.putObj_heap_other zAB).trans hv
 have hK3:W3.heap[W0.heap.size]? =some (.deferred (some [])):=by rw[<-hW3];exact(World.putObj_heap_other zAB).trans h2.K
 have hrow3:=hrow.kept hg3 (ownsRow_ne_a hrow h2.L (fun cur e=>by first|cases e|exact hne (Obj.cells.inj e).2.1));have hb3:Below w.heap.size w W3:=h2.below.grown hg3 h2.below.size (fun k e=>by cases e;omega);obtain⟨hc3,hf3⟩:=cell_of_box_a hv3;clear hW3;refine⟨none,W3,hend,?_⟩;gi_wp2;rw[<-hs0];refine⟨by simp,.inl ⟨_,_,rfl,run_takeDeferred hK3,?_⟩⟩;exact⟨_,results_tmp rfl _ _ _,v,ss,rfl,hS,hrow3.kept (grownBy_putObj_a _ _ _) (ownsRow_ne_a hrow3 hK3 (fun cur e=>by first|cases e|exact hne (Obj.cells.inj e).2.1)),hb3.grown (grownBy_putObj_a _ _ _) hb3.size (fun k e=>by cases e;omega)⟩
end
end Go.Proofs.YtdmmebjjojimiaaGreatDoor
namespace Go.Proofs.YtdmmebjjojimiaaGreatDoor
open Go.RowKit Go.Sort
def cfE(x y:Nat×Nat):Int:=if Lib.compareInt x.1 y.1=0 then Lib.compareInt x.2 y.2 else Lib.compareInt x.1 y.1
def Q9(x:Nat×Nat):List Value:=[.int .i64 (x.1:Int),.int .i64 (x.2:Int)]
theorem NZ(w:World)(a b c:Obj):(((w.alloc a).alloc b).drew).alloc c=grow (w.drewN 1) #[a,b,c]:=by show({w with heap:=_,drawn:=_}:World)={w with heap:=_,drawn:=_};congr 1
theorem afU(x y:Nat×Nat)(w:World):Calls Tryz.prog 233 #[.agg (Q9 x).toArray,.agg (Q9 y).toArray] w fun e w'=>e= .returned (.int .i64 (cfE x y))/\∃q os',w'=grow (w.drewN q) os':=by
 obtain⟨xp,xt⟩:=x;obtain⟨yp,yt⟩:=y;unfold cfE;dsimp only;obtain⟨c1,h1⟩:=ze (Lib.compareInt xp yp);obtain⟨c2,h2⟩:=ze (Lib.compareInt xt yt);have k1:∀W:World,Calls Tryz.prog 235 #[.int .i64 xp,.int .i64 yp] W fun e w'=>e= .returned (.int .i64 (Lib.compareInt xp yp))/\W=w':=fun W=>(Tryz.cmp_Compare_int xp yp W).mono fun _ _ h=>⟨h.1,h.2.symm⟩;have k2:∀W:World,Calls Tryz.prog 235 #[.int .i64 xt,.int .i64 yt] W fun e w'=>e= .returned (.int .i64 (Lib.compareInt xt yt))/\W=w':=fun W=>(Tryz.cmp_Compare_int xt yt W).mono fun _ _ h=>⟨h.1,h.2.symm⟩;rw[h1]at k1⊢;rw[h2]at k2⊢;have K1:=zh k1;have K2:=zh k2;clear h1 h2 k1 k2;obtain⟨r,hr⟩:∃r,(if c1=0 then c2 else c1)=r:=⟨_,rfl⟩;rw[hr];have HR:=zh hr;clear hr;obtain⟨w1,hw1⟩:=ze (w.alloc (.cells #[.int .i64 xp,.int .i64 xt] 226));obtain⟨w2,hw2⟩:=ze (w1.alloc (.cells #[.int .i64 yp,.int .i64 yt] 226));obtain⟨A,hA⟩:=ze w.heap.size;obtain⟨B,hB⟩:=ze w1.heap.size;have bA1:w1.heap[A]? =some (.cells #[.int .i64 xp,.int .i64 xt] 226 (0,0)):=by rw[<-hw1,<-hA];exact qL _ _
 have bA:w2.heap[A]? =some (.cells #[.int .i64 xp,.int .i64 xt] 226 (0,0)):=by rw[<-hw2];exact cZ bA1 _
 have bB:w2.heap[B]? =some (.cells #[.int .i64 yp,.int .i64 yt] 226 (0,0)):=by rw[<-hw2,<-hB];exact qL _ _
 have a0:w2.cell? ⟨A,0,none⟩=some (.int .i64 xp):=zBN;have a1:w2.cell? ⟨A,1,none⟩=some (.int .i64 xt):=zBN;have b0:w2.cell? ⟨B,0,none⟩=some (.int .i64 yp):=zBM;have b1:w2.cell? ⟨B,1,none⟩=some (.int .i64 yt):=zBM;have HW2:=zh (And.intro hw1 hw2);have hS0:(fun w':World=>w'.cell? ⟨A,0,none⟩=some (.int .i64 xp)/\w'.cell? ⟨A,1,none⟩=some (.int .i64 xt)/\w'.cell? ⟨B,0,none⟩=some (.int .i64 yp)/\w'.cell? ⟨B,1,none⟩=some (.int .i64 yt)) w2.drew:=⟨a0,a1,b0,b1⟩;have HS0:=zh hS0;have GK:Hid (∀w':World,O0 w2 w'->w'.cell? ⟨A,0,none⟩=some (.int .i64 xp)/\w'.cell? ⟨A,1,none⟩=some (.int .i64 xt)/\w'.cell? ⟨B,0,none⟩=some (.int .i64 yp)/\w'.cell? ⟨B,1,none⟩=some (.int .i64 yt)):=fun w' h=>
  ⟨aY a0 h (fun f=>f),aY a1 h (fun f=>f),aY b0 h (fun f=>f),aY b1 h (fun f=>f)⟩
 clear bA1 bA bB a0 a1 b0 b1 hS0;unfold Q9;dsimp only;go_enter Tryz.func233,Tryz.ntmps233;go_upto_region 1 with fail;refine bC (n:=13) (E:=fun _=>false) (S:=fun w':World=>w'.cell? ⟨A,0,none⟩=some (.int .i64 xp)/\w'.cell? ⟨A,1,none⟩=some (.int .i64 xt)/\w'.cell? ⟨B,0,none⟩=some (.int .i64 yp)/\w'.cell? ⟨B,1,none⟩=some (.int .i64 yt)) zk rfl HS0.out (fun hHeld=>?_);refine tW 0 ?_;refine tK 1 ?_;refine tW 2 ?_;refine tK 3 ?_;refine mP (i:=4) (v:=?_) (f:=235) (args:= #[.int .i64 xp,.int .i64 yp]) rfl zk zk zk rfl zk zk (fun _ _ _ h=>h) zAW (by rfl) ?_ ?_ ?_;rotate_left;·exact zB9
 ·(intro w hSw;exact K1.out w)
 try simp only[Act.put,eF,fA,eG,dW,dX,dY]
 refine tW 5 ?_;refine tK 6 ?_;refine tW 7 ?_;refine tK 8 ?_;refine mP (i:=9) (v:=?_) (f:=235) (args:= #[.int .i64 xt,.int .i64 yt]) rfl zk zk zk rfl zk zk (fun _ _ _ h=>h) zAW (by rfl) ?_ ?_ ?_;rotate_left;·exact zB9
 ·(intro w hSw;exact K2.out w)
 try simp only[Act.put,eF,fA,eG,dW,dX,dY]
 refine tO 10 fun K hK=>?_;go_simp;refine hK.out _ _ ?_ (fun hHeld=>?_);·exact zC6
 clear hK K;try simp only[Act.put,eF,fA,eG,dW,dX,dY]
 refine tO 11 fun K hK=>?_;(go_simp;refine(agG w2.drew.heap.size c1 c2 r zBZ zAF HR.out).mono ?_;rintro e w5 ⟨rfl,h5⟩;subst h5;try go_wp2_with fail);refine hK.out _ _ ?_ (fun hHeld=>?_);·exact zC6
 clear hK K;try simp only[Act.put,eF,fA,eG,dW,dX,dY]
 refine tO 12 fun K hK=>?_;go_simp;refine hK.out _ _ ?_ (fun hHeld=>?_);·exact zC6
 clear hK K;try simp only[Act.put,eF,fA,eG,dW,dX,dY]
 refine bf zk ?_ _;go_wp2_with fail;go_ret;obtain⟨e1,e2⟩:=HW2.out;refine⟨rfl,1,#[Obj.cells #[.int .i64 xp,.int .i64 xt] 226 (0,0),Obj.cells #[.int .i64 yp,.int .i64 yt] 226 (0,0),Obj.cells #[.int .i64 c1,.int .i64 c2] 3 (0,0)],?_⟩;rw[<-e2,<-e1];exact NZ _ _ _ _
end Go.Proofs.YtdmmebjjojimiaaGreatDoor
namespace Go.Proofs
theorem zC8{p:Prop}(h:p:=by
 have hj':j<xs.length:=zA1
 refine⟨?_,h.frozenAt _⟩
 rw[Nat.zero_add,h.cellAt j zAB]
 simp[hj']):p:=h
theorem zDJ{p:Prop}(h:p:=by
 rw[List.pairwise_iff_getElem]
 intro i j hi hj hij
 have:=hs i j (qE _) hij (by simp at hj;omega)
 simp at hi hj
 simpa[getElem!_pos d' j hj,getElem!_pos d' i hi]using this):p:=h
theorem zEM{p:Prop}(h:p:=by
 obtain⟨n,hn⟩:∃n,xs.length=n+1:=⟨xs.length-1,by omega⟩
 rw[hn]at h⊢
 exact Ep h):p:=h
theorem zEb{p:Prop}(h:p:=by
 have:=hp.2.2
 have h3:List.take d'.size xs=xs:=qI zAB
 simpa[<-hsz,h3]using this):p:=h
end Go.Proofs
namespace Go.Proofs.YtdmmebjjojimiaaGreatDoor
open Go.RowKit Go.Sort Go.Shelf
def Tryz.N7:Go.Shelf.Ren:=⟨fun |6=>313|15=>174|14=>362|28=>252|29=>253|20=>391|21=>392|22=>393|23=>394|24=>395|25=>396|26=>397|27=>398|46=>410|47=>318|48=>319|49=>411|50=>412|57=>418|n=>n,fun |22=>223|24=>226|25=>274|3=>3|39=>239|0=>0|53=>288|55=>290|4=>4|46=>281|45=>280|50=>285|5=>5|9=>9|66=>332|70=>336|76=>369|77=>264|n=>n,fun |n=>n⟩
theorem Tryz.PD:Go.Proofs.SlLaysF0.n6 Tryz.prog Tryz.N7:={
 mixed:=by kernel_rfl
 f6:=⟨Tryz.f313.name,by decide,Tryz.func313.trans (congrArg some zk)⟩
 f14:=⟨Tryz.f362.name,by decide,Tryz.func362.trans (congrArg some zk)⟩
 f15:=Tryz.func174.trans (congrArg some zk)
 f20:=⟨Tryz.f391.name,by decide,Tryz.func391.trans (congrArg some zk)⟩
 f21:=⟨Tryz.f392.name,by decide,Tryz.func392.trans (congrArg some zk)⟩
 f22:=⟨Tryz.f393.name,by decide,Tryz.func393.trans (congrArg some zk)⟩
 f23:=⟨Tryz.f394.name,by decide,Tryz.func394.trans (congrArg some zk)⟩
 f24:=⟨Tryz.f395.name,by decide,Tryz.func395.trans (congrArg some zk)⟩
 f25:=⟨Tryz.f396.name,by decide,Tryz.func396.trans (congrArg some zk)⟩
 f26:=⟨Tryz.f397.name,by decide,Tryz.func397.trans (congrArg some zk)⟩
 f27:=⟨Tryz.f398.name,by decide,Tryz.func398.trans (congrArg some zk)⟩
 f28:=Tryz.func252.trans (congrArg some zk)
 f29:=Tryz.func253.trans (congrArg some zk)
 f46:=⟨Tryz.f410.name,by decide,Tryz.func410.trans (congrArg some zk)⟩
 f47:=Tryz.func318.trans (congrArg some zk)
 f48:=Tryz.func319.trans (congrArg some zk)
 f49:=⟨Tryz.f411.name,by decide,Tryz.func411.trans (congrArg some zk)⟩
 f50:=⟨Tryz.f412.name,by decide,Tryz.func412.trans (congrArg some zk)⟩
 f57:=⟨Tryz.f418.name,by decide,Tryz.func418.trans (congrArg some zk)⟩
 t0:=Tryz.underlying0
 a0:=Tryz.isAgg0
 z0:=Tryz.sizeOf0
 v0:=Tryz.zeroValue0
 t3:=Tryz.underlying3
 a3:=Tryz.isAgg3
 z3:=Tryz.sizeOf3
 v3:=Tryz.zeroValue3
 t4:=Tryz.underlying4
 a4:=Tryz.isAgg4
 z4:=Tryz.sizeOf4
 v4:=Tryz.zeroValue4
 t5:=Tryz.underlying5
 a5:=Tryz.isAgg5
 z5:=Tryz.sizeOf5
 v5:=Tryz.zeroValue5
 t9:=Tryz.underlying9
 a9:=Tryz.isAgg9
 z9:=Tryz.sizeOf9
 v9:=Tryz.zeroValue9
 t22:=Tryz.underlying223
 a22:=Tryz.isAgg223
 z22:=Tryz.sizeOf223
 v22:=Tryz.zeroValue223
 t25:=Tryz.underlying274
 a25:=Tryz.isAgg274
 z25:=Tryz.sizeOf274
 v25:=Tryz.zeroValue274
 t39:=Tryz.underlying239
 a39:=Tryz.isAgg239
 z39:=Tryz.sizeOf239
 v39:=Tryz.zeroValue239
 t45:=Tryz.underlying280
 a45:=Tryz.isAgg280
 z45:=Tryz.sizeOf280
 v45:=Tryz.zeroValue280
 t46:=Tryz.underlying281
 a46:=Tryz.isAgg281
 z46:=Tryz.sizeOf281
 v46:=Tryz.zeroValue281
 t50:=Tryz.underlying285
 a50:=Tryz.isAgg285
 z50:=Tryz.sizeOf285
 v50:=Tryz.zeroValue285
 t53:=Tryz.underlying288
 a53:=Tryz.isAgg288
 z53:=Tryz.sizeOf288
 v53:=Tryz.zeroValue288
 t55:=Tryz.underlying290
 a55:=Tryz.isAgg290
 z55:=Tryz.sizeOf290
 v55:=Tryz.zeroValue290
 t66:=Tryz.underlying332
 a66:=Tryz.isAgg332
 z66:=Tryz.sizeOf332
 v66:=Tryz.zeroValue332
 t70:=Tryz.underlying336
 a70:=Tryz.isAgg336
 z70:=Tryz.sizeOf336
 v70:=Tryz.zeroValue336
 t76:=Tryz.underlying369
 a76:=Tryz.isAgg369
 z76:=Tryz.sizeOf369
 v76:=Tryz.zeroValue369
 t77:=Tryz.underlying264
 a77:=Tryz.isAgg264
 z77:=Tryz.sizeOf264
 v77:=Tryz.zeroValue264}
theorem Y9{a b:Int}(h:a<b):Lib.compareInt a b= -1:=by unfold Lib.compareInt;rw[if_pos h]
theorem Za{a b:Int}(h:b<a):Lib.compareInt a b=1:=by unfold Lib.compareInt;rw[if_neg zBU,if_pos zAB]
theorem Zb{a b:Int}(h:a=b):Lib.compareInt a b=0:=by unfold Lib.compareInt;rw[if_neg zBU,if_neg zAB]
theorem JK(x y:Nat×Nat):ltOf cfE x y=true↔x.1<y.1\/(x.1=y.1/\x.2<y.2):=by
 unfold ltOf cfE;rw[decide_eq_true_iff];rcases Nat.lt_trichotomy x.1 y.1 with h|h|h;·rw[Y9 zAB,if_neg zBV];exact⟨fun _=>.inl h,fun _=>by decide⟩
 ·rw[Zb zAB,if_pos rfl];rcases Nat.lt_trichotomy x.2 y.2 with h2|h2|h2;·rw[Y9 zAB];exact⟨fun _=>.inr ⟨h,h2⟩,fun _=>by decide⟩
  ·rw[Zb zAB];exact⟨fun h3=>absurd h3 zBV,fun h3=>by omega⟩
  rw[Za zAB];exact⟨fun h3=>absurd h3 zBV,fun h3=>by omega⟩
 rw[Za zAB,if_neg zBV];exact⟨fun h3=>absurd h3 zAD,fun h3=>by omega⟩
theorem iF(x y:Nat×Nat):ltOf cfE x y=false↔ ¬(x.1<y.1\/(x.1=y.1/\x.2<y.2)):=by rw[<-JK,Bool.not_eq_true]
theorem apw:SWO (ltOf cfE) where
 irrefl x:=by rw[iF];omega
 trans x y z:=by rw[JK,JK,JK];omega
 ntrans x y z:=by rw[iF,iF,iF];omega
theorem jC(x y:Nat×Nat):kP x y=true↔ltOf cfE y x=false:=by rw[iF];unfold kP;simp;omega
theorem UY{xs l:List (Nat×Nat)}(hp:l.Perm xs)(hs:l.Pairwise fun a b=>ltOf cfE b a=false):l=xs.mergeSort kP:=by
 have tr:∀a b c:Nat×Nat,kP a b=true->kP b c=true->kP a c=true:=fun a b c=>by rw[jC,jC,jC,iF,iF,iF];omega
 have tot:∀a b:Nat×Nat,(kP a b||kP b a)=true:=fun a b=>by rw[Bool.or_eq_true,jC,jC,iF,iF];omega
 refine List.Perm.eq_of_pairwise (le:=fun a b=>kP a b=true) (fun a b _ _ h1 h2=>?_) (hs.imp fun h=>(jC _ _).2 h) (List.pairwise_mergeSort tr tot xs) (hp.trans (List.mergeSort_perm xs kP).symm);rw[jC,iF]at h1 h2;exact Prod.ext zBU zAB
theorem UZ:∀(xs:List (Nat×Nat)) (i:Nat) (e:Nat×Nat),xs[i]? =some e->(kQ xs)[i*2]? =some (.int .i64 (e.1:Int))/\(kQ xs)[i*2+1]? =some (.int .i64 (e.2:Int))
 | [],i,e,h=>by simp at h
 |x::r,0,e,h=>by
  simp at h;subst h
  exact⟨rfl,rfl⟩
 |x::r,i+1,e,h=>by
  have ih:=UZ r i e zA0
  have hs:kQ (x::r)=[.int .i64 (x.1:Int),.int .i64 (x.2:Int)]++kQ r:=rfl
  rw[hs,yN (by simp;omega),yN zAU]
  simp only[qN,List.length_nil]
  rw[show(i+1)*2-(0+1+1)=i*2 by omega,show(i+1)*2+1-(0+1+1)=i*2+1 by omega]
  exact ih
theorem Ja(xs:List (Nat×Nat)):flatK Q9 2 xs.toArray=(kQ xs).toArray:=by
 refine ext_get! (by simp[Pz]) fun t ht=>?_;have ht2:t<xs.length*2:=by simpa using ht
 rw[get_flatK _ _ _ t (by simpa using ht2)];have hi:t/2<xs.length:=zAB;obtain⟨e,he⟩:=zG xs (t/2) hi;have h1:xs.toArray[t/2]! =e:=by simp[he]
 rw[h1];have h2:=UZ xs (t/2) e he;have hr:((kQ xs).toArray)[t]! =((kQ xs)[t]?).getD default:=zAF;rw[hr];rcases Nat.mod_two_eq_zero_or_one t with hm|hm
 ·have e1:t/2*2=t:=by omega
  rw[e1]at h2;rw[h2.1,hm];rfl
 have e1:t/2*2+1=t:=by omega
 rw[e1]at h2;rw[h2.2,hm];rfl
theorem U0{w:World}{e:TypeId}{g n cap:Nat}{xs:List Value}(h:w.ownsRow 0 e 2 (.slice (some ⟨g,0,none⟩) n cap) n xs)(d:Array Value)(hd:d.size=n*2):(putRow id w g 0 d).ownsRow 0 e 2 (.slice (some ⟨g,0,none⟩) n cap) n d.toList:=by
 rcases h.2 with⟨h',_⟩| ⟨g',cap',cur,h',hb,hg,h1,h2,h3,htake⟩;·simp at h'
 simp only[qU,qG,qO,and_true,true_and]at h';obtain⟨rfl,rfl⟩:=h';refine⟨by simp[hd],.inr ⟨g,cap,putCells id 0 d cur,rfl,qE _,?_,h1,h2,?_,?_⟩⟩;·exact zC0
 ·simpa[putCells]using h3
 apply List.ext_getElem?;intro j;simp only[putCells,List.getElem?_take];by_cases hj:j<n*2
 ·have hc:j<cur.size:=by omega
  simp[hj,hc,hd]
 rw[if_neg hj,List.getElem?_eq_none (by simp[hd];omega)]
theorem holds2{w:World}{e:TypeId}{g n cap:Nat}{xs:List Value}(h:w.ownsRow 0 e 2 (.slice (some ⟨g,0,none⟩) n cap) n xs):Holds id w g 0 xs.toArray:=by intro j hj;have hn:xs.length=n*2:=h.1;exact zC8
theorem LU{w:World}{base:Nat}{e:TypeId}{size:Nat}{v:Value}{n:Nat}{xs:List Value}(h:w.ownsRow base e size v n xs):∃ao cap,v= .slice ao n cap:=by
 rcases h.2 with⟨rfl,rfl⟩| ⟨g,cap,_,h',_⟩;·exact⟨none,0,rfl⟩
 exact⟨_,cap,h'⟩
theorem Gl(w:World)(g:Nat)(F:Array Value):Only (fun k=>k=g) w (putRow id w g 0 F):=
 ⟨rfl,rfl,rfl,by simp[putRow,mapBlock],fun k _ hk=>by
  show(w.heap.modify g _)[k]? =_
  rw[Array.getElem?_modify,if_neg (fun e=>hk e.symm)]⟩
theorem Rf:∀args w,(callFunc 233 args).run Tryz.prog w= .ok (.enter 233 args) w:=enters_of Tryz.func233 zk rfl
theorem afV{w:World}{v:Value}{xs:List (Nat×Nat)}(h:w.ownsRow 0 226 2 v xs.length (kQ xs))(hb:xs.length<=1000000):Calls Tryz.prog 313 #[v,.func (.func 233) #[] #[]] w fun e w'=>e= .returned (.tuple #[])/\w'.ownsRow 0 226 2 v xs.length (kQ (xs.mergeSort kP))/\Only (fun k=>v.ownBlock=some k) w w':=by
 by_cases h0:xs.length=0
 ·have hx:xs=[]:=yF h0;subst hx;obtain⟨ao,cap,rfl⟩:=LU h;refine(AnyF.slices_SortFunc_none Tryz.PD ao cap _ w).mono fun e w' ⟨he,hw⟩=>⟨he,?_,?_⟩;·rw[hw];simpa using h
  exact zD5
 obtain⟨gb,cap,e1⟩:∃gb cap,v= .slice (some ⟨gb,0,none⟩) xs.length cap:=by exact zEM
 subst e1;have hH:HoldsK Q9 2 w gb 0 xs.toArray:=by unfold HoldsK;rw[Ja];exact holds2 h
 have hlt:=dP h (k:=gb) rfl;have key:=AnyQ.slices_SortFunc Tryz.PD 2 Tryz.isAgg226 Tryz.sizeOf226 Q9 (fun _=>rfl) (fun x v hv=>by simp[Q9]at hv;rcases hv with rfl|rfl<;>rfl) cfE apw 233 #[] gb 0 cap xs.toArray w Rf (fun m os dk _ x y=>afU x y _) hH hlt zAU;simp only[List.size_toArray]at key;refine key.mono fun e w' ⟨he,d',n,os,hp,hs,hw⟩=>⟨he,?_,?_⟩
 ·have hsz:d'.size=xs.length:=by have:=hp.1;simpa using this
  have hpm:d'.toList.Perm xs:=by exact zEb
  have hso:d'.toList.Pairwise fun a b=>ltOf cfE b a=false:=by exact zDJ
  have e2:=UY hpm hso;subst hw;unfold sortWorldK putRowK;have e3:flatK Q9 2 d'=(kQ (xs.mergeSort kP)).toArray:=by rw[<-e2,<-Ja]
  rw[e3];have h1:=U0 (w:=Sort.ahead w n) (g:=gb) (n:=xs.length) (cap:=cap) (e:=226) h (kQ (xs.mergeSort kP)).toArray (by simp[Pz]);exact zDT
 subst hw;unfold sortWorldK putRowK;refine oQ ?_ os;have:=(su (Only.refl (fun k=>k=gb) w) n).same (Gl (Sort.ahead w n) gb (flatK Q9 2 d'));exact zDE
end Go.Proofs.YtdmmebjjojimiaaGreatDoor
