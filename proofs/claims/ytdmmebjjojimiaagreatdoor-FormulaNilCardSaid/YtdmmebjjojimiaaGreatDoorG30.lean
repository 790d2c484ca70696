/- maps.Keys at a map whose keys are two places: the iterator gives each key once.; Package edge: the order of edges (edges$1). Printed by gen_edz3.py. -/
import Derived.Test.YtdmmebjjojimiaaGreatDoorG29
set_option maxRecDepth 100000
set_option maxHeartbeats 8000000
set_option linter.all false
namespace Go.Proofs.YtdmmebjjojimiaaGreatDoor
open Go.RowKit Go.Maps Go.Sort Go.Shelf
attribute [local go_sem] Oper.semAt_some
theorem Gq(w:World)(old cs:Array Value)(t:TypeId):(w.alloc (.cells old t)).setRow w.heap.size cs=w.alloc (.cells cs t):=by
 unfold World.alloc World.setRow;congr 1;apply Array.ext;·simp
 intro k h1 h2;simp only[Array.getElem_modify,Array.getElem_push];by_cases e:k<w.heap.size;·simp[e,Nat.ne_of_gt e]
 have e2:w.heap.size=k:=by simp at h1;omega
 simp[e2]
section
variable {F:Fence} {n:Nat} {P:Program} {w:World} {ops:Array Oper} {rest:List Oper} {o:Oper} {a:Act} {Q:Exit->Act->World->Prop}
theorem qy(hgd:o.guard=none)(ty:TypeId)(x y:Operand)(ho:o.op= .store ty x y)(g:Nat)(cells:Array Value)(hx:a.eval x= .pointer (some ⟨g,0,none⟩))(hy:a.eval y= .agg cells)(t:TypeId)(old:Array Value)(hg:w.heap[g]? =some (.cells old t (0,0)))(hi:(P.info? ty).map (·.size)=some cells.size)(hold:old.size=cells.size)(h1:cells.all (·.oneCell')=true)(h:wpListIn F n P ops Q rest (a.put o.dst undef) (w.setRow g cells)):wpListIn F n P ops Q (o::rest) a w:=by refine wpListIn_plain hgd fun K' hK'=>?_;unfold Oper.wpIn;refine⟨by simp[Oper.about,ho],?_⟩;rw[Oper.semAt_plain F _ _ (by rw[ho];intro c hc';cases hc')];unfold execOp;simp only[ho,hx,hy,Instr.storeAt,Instr.sureAddr,Sem.run_bind,Sem.run_pure,Result.andThen_ok,run_storeVar_row w g t ty old cells hg hi hold h1];exact hK' _ _ h
theorem rX(hgd:o.guard=none)(ty:TypeId)(x:Operand)(ho:o.op= .load ty x)(g:Nat)(hx:a.eval x= .pointer (some ⟨g,0,none⟩))(t:TypeId)(cs:Array Value)(fr:Nat×Nat)(d:TypeDesc)(hg:w.heap[g]? =some (.cells cs t fr))(hu:P.underlying ty=some d)(hd:(match d with| .struct _| .array _ _=>true|_=>false)=true)(hi:(P.info? ty).map (·.size)=some cs.size)(h:wpListIn F n P ops Q rest (a.put o.dst (.agg cs)) w):wpListIn F n P ops Q (o::rest) a w:=by refine wpListIn_plain hgd fun K' hK'=>?_;unfold Oper.wpIn;refine⟨by simp[Oper.about,ho],?_⟩;rw[Oper.semAt_plain F _ _ (by rw[ho];intro c hc';cases hc')];unfold execOp;simp only[ho,hx,Instr.loadAt,Instr.sureAddr,Sem.run_bind,Sem.run_pure,Result.andThen_ok,run_loadVar_row w g t ty cs fr d hg hu hd hi];exact hK' _ _ h
end
section
variable {κ:Type} [DecidableEq κ] {t k:TypeId} {K:wS κ t k} {m:List (κ×List Int)} {w:World} {B n:Nat} {D:DataW Value}
theorem Y9(hown:w.ownsMap Tryz.prog k Ar B n D)(hh:∀x,K.ok x->(Maps.has D (K.lit x)=true↔x∈keysOf m))(hs:Maps.size D=m.length)(nd:(keysOf m).Nodup)(ok:∀x∈keysOf m,K.ok x){kl:Lit}(hk:Maps.has D kl=true):∃x∈keysOf m,K.lit x=kl:=by
 obtain⟨es,rfl,hpw,-⟩:=hown.entries K.law;have hmem:∀{l:Lit},Maps.has (.map es) l=true->l∈es.map Prod.fst:=fun{l} h=>by rw[Maps.has_eq,yU]at h;obtain⟨p,hp,hs⟩:=h;exact yD.2 ⟨p,hp,WideAt.sameKey_eq hs⟩
 have hes:es.length=m.length:=hs;have h1:((keysOf m).map K.lit).Nodup:=by refine List.pairwise_map.2 (nd.imp_of_mem fun{a b} ha hb hab e=>?_);exact K.ne (ok a ha) (ok b hb) (Ne.symm hab) e.symm
 have hsub:∀z∈(keysOf m).map K.lit,z∈es.map Prod.fst:=fun z hz=>by obtain⟨x,hx,rfl⟩:=yD.1 hz;exact hmem ((hh x (ok x hx)).2 hx)
 by_cases hin:kl∈(keysOf m).map K.lit;·obtain⟨x,hx,e⟩:=yD.1 hin;exact⟨x,hx,e⟩
 exfalso;letI:DecidableEq Lit:=fun a b=>Classical.propDecidable (a=b);have h2:=uq (l:=kl::(keysOf m).map K.lit) (m:=es.map Prod.fst) (List.nodup_cons.2 ⟨hin,h1⟩) (fun z hz=>by
  rcases qY.1 hz with rfl|hz
  ·exact hmem hk
  ·exact hsub z hz)
 simp only[qN,qM]at h2;omega
def Lu(K:wS κ t k)(m:List (κ×List Int))(left:Lit->Bool)(ss:List κ):Prop:=ss.Nodup/\(∀x∈ss,x∈keysOf m)/\∀x∈keysOf m,(x∈ss↔left (K.lit x)=false)
theorem Lu.start(hh:∀x,K.ok x->(Maps.has D (K.lit x)=true↔x∈keysOf m))(ok:∀x∈keysOf m,K.ok x):Lu K m (Maps.has D) []:=
 ⟨List.nodup_nil,fun x hx=>(List.not_mem_nil hx).elim,fun x hx=>by simp[(hh x (ok x hx)).2 hx]⟩
theorem Lu.step{left:Lit->Bool}{ss:List κ}(h:Lu K m left ss){x:κ}(hx:x∈keysOf m)(ok:∀x∈keysOf m,K.ok x)(hl:left (K.lit x)=true):Lu K m (fun z=>left z&& !z.sameKey (K.lit x)) (ss++[x]):=by
 have hnew:x∉ss:=fun hm=>by have:=(h.2.2 x hx).1 hm;rw[hl]at this;cases this
 refine⟨List.nodup_append.2 ⟨h.1,by simp,fun a ha b hb=>by simp at hb;subst hb;exact fun e=>hnew (e▸ha)⟩,fun y hy=>?_,fun y hy=>?_⟩
 ·rcases qW.1 hy with hy|hy;·exact h.2.1 y hy
  simp at hy;subst hy;exact hx
 by_cases e:y=x;·subst e;simp[WideAt.sameKey_self (K.isKey (ok y hy))]
 have h1:(K.lit y).sameKey (K.lit x)=false:=Maps.sameKey_ne (K.ne (ok x hx) (ok y hy) e);simp[h.2.2 y hy,e,h1]
theorem Lu.perm{left:Lit->Bool}{ss:List κ}(h:Lu K m left ss)(nd:(keysOf m).Nodup)(hl:∀kl,left kl=false):ss.Perm (keysOf m):=(List.perm_ext_iff_of_nodup h.1 nd).2 fun x=>⟨h.2.1 x,fun hx=>(h.2.2 x hx).2 (hl _)⟩
end
section
variable {m:List ((Nat×Nat)×List Int)}
theorem Wl(n:Nat)(hn:1<=n)(l Bm b nn:Nat)(D0:DataW Value)(J:List (Nat×Nat)->World->Prop)(hh:∀x,KE.ok x->(Maps.has D0 (KE.lit x)=true↔x∈keysOf m))(hsz:Maps.size D0=m.length)(nd:(keysOf m).Nodup)(ok:∀x∈keysOf m,KE.ok x)(hY:∀pre x W,J pre W->pre.length<m.length->YieldAt Fence.wide (n-1) Tryz.prog l #[wU x] W fun e W'=>e= .returned (.bool true)/\J (pre++[x]) W'/\KeepsWalks W W')(W:World)(hJ:AbidesFrom W.heap.size J)(hm:W.cell? ⟨Bm,0,none⟩=some (.map (some b)))(hown:W.ownsMap Tryz.prog 226 Ar b nn D0)(h0:J [] W):CallsIn Fence.wide n Tryz.prog 314 #[.func (.yield l) #[] #[],.pointer (some ⟨Bm,0,none⟩)] W fun e W'=>(∃v,e= .returned v)/\∃ss:List (Nat×Nat),ss.Perm (keysOf m)/\J ss W':=by
 refine callsIn_of_wp Tryz.func314 rfl trivial ?_ rfl;simp only[Tryz.ntmps314,List.size_toArray,qN,List.length_nil,Nat.reduceAdd,Nat.reduceSub,Array.replicate_succ,Array.replicate_zero,List.push_toArray,List.append_toArray,List.nil_append,List.cons_append];gi_wp2_with (first
  | (gi_at_range;refine wpListIn_range_own _ rfl _ 150 rfl 226 78 Au Tryz.underlying150 Ar b nn _ rfl hown ?_;intro w0 hrg0 hg0 hs0)
  |gi_in)
 go_frame;gi_loopw [3] (fun _ wr=> ∃(left:Lit->Bool) (cnt:Nat) (ss:List (Nat×Nat)),wr.ranges Tryz.prog 226 Ar b W.heap.size nn D0 left cnt/\ss.length+cnt<=m.length/\Lu KE m left ss/\J ss wr) (fun _ wr=>wr.rangeLeft b W.heap.size);case atStart=>exact⟨_,_,[],hrg0,by simp[hsz],Lu.start hh ok,hJ [] W w0 none h0 hg0 (fun r e=>by cases e)⟩
 case round=>
  obtain⟨left,cnt,ss,hrg,hcs,hC,hJs⟩:=hrel;gi_wp2_with (first
   | (gi_at_next;refine wpListIn_next_ranges _ rfl _ rfl 226 Au Ar (id:Value->Value) (id:Value->Value) (fun key kl hk=>⟨key,rfl⟩) (fun v _ _=>⟨v,rfl⟩) b W.heap.size nn _ _ _ rfl hrg ?_ ?_)
   |gi_in)
  ·intro hc0 hl0;gi_wp2;go_end0;exact⟨⟨_,rfl⟩,ss,hC.perm nd hl0,hJs⟩
  intro x c kl yd yp w2 cnt2 hkey hlk hv hat hrg2 hlt hg2 hs2 hen;obtain⟨e,he,rfl⟩:=Y9 (K:=KE) hown hh hsz nd ok (Maps.has_true_of_atKey hat);obtain rfl:x=wU e:=Au.inj hkey (KE.key e (ok e he));have hJ2:J ss w2:=hJ ss wr w2 (some W.heap.size) hJs hg2 (fun r e=>by cases e;exact⟨qH _,hrg.iter_walk⟩);have hJ3:J ss (w2.alloc (.cells #[.int .i64 e.1,.int .i64 e.2] 226)):=hJ ss w2 _ none hJ2 (World.grownBy_alloc _ _ _) (fun r e=>by cases e);obtain⟨fn,tmps,assign,body,hy,hR⟩:=hY ss e _ hJ3 zBB;have HR:=zh hR;have HRG:=zh (hrg2.alloc (.cells #[.int .i64 e.1,.int .i64 e.2] 226));have HC:=zh (hC.step he ok hlk);have HLT:=zh hlt;have akI:=zh hrg;clear hs2 hR hrg2 hJ2 hJ3 hC hlt hrg hat hv;gi_wp2_with (first
   | (refine qy rfl 226 (.tmp 3) (.tmp 9) rfl w2.heap.size #[.int .i64 e.1,.int .i64 e.2] rfl rfl 226 #[.int .i64 0,.int .i64 0] zAX zk rfl (by rfl) ?_;rw[Gq])
   | (refine rX rfl 226 (.tmp 3) rfl w2.heap.size rfl 226 #[.int .i64 e.1,.int .i64 e.2] (0,0) _ zAX Tryz.underlying226 rfl zk ?_)
   |gi_in)
  refine HR.out.mono ?_;rintro e3 W3 ⟨rfl,hJ3,hk3⟩;gi_wp2;have hrg3:=HRG.out.of_walks hk3;go_roundw;case rel=>exact⟨_,cnt2,ss++[e],hrg3,by have:=HLT.out;simp;omega,HC.out,hJ3⟩
  case measure=>rw[hrg3.left_eq,akI.out.left_eq];exact HLT.out
theorem cell_new1(w:World)(v:Value)(t:TypeId):(w.alloc (.cells #[v] t)).cell? ⟨w.heap.size,0,none⟩=some v:=by simp only[World.cell?,World.alloc_heap_new];simp
theorem Wn(w:World)(a b:Value)(t:TypeId):∀(j:Nat) u,[a,b][j]? =some u->(w.alloc (.cells #[a,b] t)).cell? ((⟨w.heap.size,0,none⟩:Addr).add j)=some u:=by
 intro j u h;have e:(⟨w.heap.size,0,none⟩:Addr).add j=⟨w.heap.size,j,none⟩:=by unfold Addr.add;simp[eq_comm]
 rw[e];simp only[World.cell?,World.alloc_heap_new];simpa using h
theorem Px{w:World}{g:Tag}{τ B:Nat}{val:Nat×Nat->Value}(H:lU KE w g τ B m val)(n:Nat)(hn:1<=n):
  SeqGives Fence.wide n Tryz.prog 314 #[.pointer (some ⟨w.heap.size,0,none⟩)] wU (fun ss=>ss.Perm (keysOf m)) m.length (w.alloc (.cells #[.map (some B)] 150)):=fun l J W hW hJ hY h0=>by
 obtain⟨D,h1,-,h3,h4⟩:=H.own
 have h1':W.ownsMap Tryz.prog 226 Ar B m.length D:=by
  have hbl:=h1.lt
  obtain⟨es,clock,hb,Ft,hs,hD⟩:=h1.alloc (.cells #[.map (some B)] 150)
  exact⟨es,clock,(hW.block B zAK).trans hb,Ft,hs,hD⟩
 exact Wl n hn l w.heap.size B m.length D J (fun x hx=>by rw[h3 x hx];simp) h4 H.nd H.ok hY W hJ ((hW.cell (p:=⟨w.heap.size,0,none⟩) zAE).trans (cell_new1 _ _ _)) h1' h0
theorem Sm(ss:List (Nat×Nat))(x:Nat×Nat):ji (ss++[x])=ji ss++[.int .i64 (x.1:Int),.int .i64 (x.2:Int)]:=by simp[ji]
theorem JD(ss:List (Nat×Nat)):(ji ss).length=ss.length*2:=by
 induction ss with
 |nil=>rfl
 |cons x r ih=>simp only[ji,List.flatMap_cons,qK,qN,List.length_nil]at ih⊢;omega
def aef:Code:=(Code.region 2 #[{dst:=some 5,op:=Op.alloc 226,type:=0,pos:= "iter.go:51",after:= #[],guard:=none},{dst:=none,op:=Op.store 226 (Operand.tmp 5) (Operand.tmp 7),type:=0,pos:= "iter.go:51",after:= #[{on:=0,ground:=Ground.data},{on:=0,ground:=Ground.phase}],guard:=none}] false)
def aeg:Code:=(Code.block 1 (Code.region 3 #[{dst:=some 8,op:=Op.load 223 (Operand.tmp 2),type:=223,pos:= "iter.go:52",after:= #[],guard:=none},{dst:=some 9,op:=Op.load 226 (Operand.tmp 5),type:=226,pos:= "iter.go:52",after:= #[],guard:=none},{dst:=some 10,op:=Op.buildSlice 223 1 #[(0,Operand.tmp 9)],type:=223,pos:= "iter.go:52",after:= #[{on:=1,ground:=Ground.data}],guard:=none},{dst:=some 11,op:=Op.call {callee:=Callee.builtin Builtin.append,args:= #[Operand.tmp 8,Operand.tmp 10],argTypes:= #[223,223]},type:=223,pos:= "iter.go:52",after:= #[{on:=0,ground:=Ground.data},{on:=2,ground:=Ground.data}],guard:=none},{dst:=none,op:=Op.store 223 (Operand.tmp 2) (Operand.tmp 11),type:=0,pos:= "iter.go:52",after:= #[{on:=3,ground:=Ground.data},{on:=3,ground:=Ground.chain},{on:=0,ground:=Ground.phase},{on:=1,ground:=Ground.phase},{on:=2,ground:=Ground.phase},{on:=3,ground:=Ground.phase}],guard:=none}] false))
def Gs(fn:FuncId)(sv:Value)(Bs D:Nat)(st:LoopState)(pend:Option Code):Loop:=
 {state:=st,pending:=pend,fn,tmps:= #[.slice none 0 0,sv,.pointer (some ⟨Bs,0,none⟩),undef,.slice none 0 0,undef,sv,undef,undef,undef,undef,undef,undef],params:= #[7],assign:=aef,body:=aeg,defers:=D}
structure ApE (w0:World) (fn:FuncId) (sv:Value) (Bs l D:Nat) (ss:List (Nat×Nat)) (W:World):Prop where
 box:∃v,W.heap[Bs]? =some (.cells #[v] 223 (0,0))/\W.ownsRow w0.heap.size 226 2 v ss.length (ji ss)
 L:W.heap[l]? =some (.loop (Gs fn sv Bs D .ready none))
 K:W.heap[D]? =some (.deferred (some []))
 below:Below w0.heap.size w0 W
theorem zu{w:World}{base:Nat}{e:TypeId}{size:Nat}{v:Value}{n:Nat}{xs:List Value}(h:w.ownsRow base e size v (n+1) xs):∃g cap,v= .slice (some ⟨g,0,none⟩) (n+1) cap:=by
 rcases h.2 with⟨_,h0⟩| ⟨g,cap,_,h',_⟩;·omega
 exact⟨g,cap,h'⟩
theorem ahA:223≠226:=by decide
theorem Sr(w0:World)(fn:FuncId)(sv:Value)(Bs l D B:Nat)(hB:w0.heap.size<=B):AbidesFrom B (ApE w0 fn sv Bs l D):=fun s W W' row h hg hrow=>by
 have hrow':∀r,row=some r->∃o:Obj,W.heap[r]? =some o/\o.isWalk=true:=fun r e=>(hrow r e).2
 obtain⟨v,hv,hr⟩:=h.box
 exact⟨⟨v,(grownBy_keeps hg hrow' hv rfl).trans hv,ownsRow_abides_a hr hg hrow'⟩,(grownBy_keeps hg hrow' h.L rfl).trans h.L,(grownBy_keeps hg hrow' h.K rfl).trans h.K,
  h.below.grown hg h.below.size (fun k e=>qR hB (hrow k e).1)⟩
theorem Za:(Tryz.prog.info? 226).map (fun i=>(i.zero,i.size,i.bytes))=some (some (.agg #[.int .i64 0,.int .i64 0]),2,16):=by kernel_rfl
theorem Wp(mm:Nat)(w0:World)(fn:FuncId)(sv:Value)(Bs l D:Nat)(hBl:Bs≠l)(hDl:D≠l)(hDB:D≠Bs)(h0B:w0.heap.size<=Bs)(h0l:w0.heap.size<=l)(N:Nat)(hN:N<=1000000)(ss:List (Nat×Nat))(x:Nat×Nat)(W:World)(h:ApE w0 fn sv Bs l D ss W)(hlen:ss.length<N):YieldAt Fence.wide mm Tryz.prog l #[wU x] W fun e W'=>e= .returned (.bool true)/\ApE w0 fn sv Bs l D (ss++[x]) W'/\KeepsWalks W W':=by
 obtain⟨i0,hi,hz0,hz1,hz2⟩:=info_parts Za;obtain⟨v,hv,hrow⟩:=h.box;have hne:=ahA;refine⟨fn,#[.slice none 0 0,sv,.pointer (some ⟨Bs,0,none⟩),undef,.slice none 0 0,undef,sv,wU x,undef,undef,undef,undef,undef],aef,aeg,by simpa[Gs]using run_yield (P:=Tryz.prog) (args:= #[wU x]) h.L rfl,roundIn_of_wpIn trivial ?_⟩;have ahB:Bs<W.heap.size:=(yA.1 hv).1;have hl0:l<W.heap.size:=(yA.1 h.L).1;have ahC:D<W.heap.size:=(yA.1 h.K).1; -- the struct's own block
 obtain⟨W1,hW1⟩:∃W1,W.alloc (.cells #[.int .i64 (x.1:Int),.int .i64 (x.2:Int)] 226)=W1:=⟨_,rfl⟩;have hs1:W1.heap.size=W.heap.size+1:=by rw[<-hW1];simp
 have Zb:∀k,k<W.heap.size->W1.heap[k]? =W.heap[k]? :=fun k hk=>by rw[<-hW1];exact Below.heap_alloc _ _ k hk
 have hx1:W1.heap[W.heap.size]? =some (.cells #[.int .i64 (x.1:Int),.int .i64 (x.2:Int)] 226 (0,0)):=by rw[<-hW1];exact World.alloc_heap_new _ _
 have hk1:KeepsWalks W W1:=by rw[<-hW1];exact KeepsWalks.alloc _ _
 have hv1:=(Zb Bs ahB).trans hv;have hL1:=(Zb l hl0).trans h.L;have hK1:=(Zb D ahC).trans h.K;have hrow1:W1.ownsRow w0.heap.size 226 2 v ss.length (ji ss):=by rw[<-hW1];exact hrow.alloc _
 have hb1:Below w0.heap.size w0 W1:=by rw[<-hW1];exact h.below.alloc h.below.size _
 have hl1:l<W1.heap.size:=zBB;have hbr:=run_beginRound (P:=Tryz.prog) hL1 rfl;obtain⟨W2,hW2⟩:∃W2,W1.putObj l (.loop {Gs fn sv Bs D .ready none with state:=.busy})=W2:=⟨_,rfl⟩;rw[hW2]at hbr;have hg2:W1.grownBy W2 (some l):=by rw[<-hW2];exact grownBy_putObj_a _ _ _
 have hk2:KeepsWalks W W2:=hk1.trans (by rw[<-hW2];exact KeepsWalks.putObj _ hL1 rfl);have hs2:W2.heap.size=W1.heap.size:=by rw[<-hW2];simp[World.putObj]
 have hv2:W2.heap[Bs]? =some (.cells #[v] 223 (0,0)):=by rw[<-hW2];exact(World.putObj_heap_other hBl).trans hv1
 have hx2:W2.heap[W.heap.size]? =some (.cells #[.int .i64 (x.1:Int),.int .i64 (x.2:Int)] 226 (0,0)):=by rw[<-hW2];exact(World.putObj_heap_other zBB).trans hx1
 have hK2:W2.heap[D]? =some (.deferred (some [])):=by rw[<-hW2];exact(World.putObj_heap_other hDl).trans hK1
 have hL2:W2.heap[l]? =some (.loop {Gs fn sv Bs D .ready none with state:=.busy}):=by rw[<-hW2];exact World.putObj_heap_same hl1
 have hrow2:W2.ownsRow w0.heap.size 226 2 v ss.length (ji ss):=hrow1.kept hg2 (ownsRow_ne_a hrow1 hL1 (fun cur e=>by first|cases e|exact hne (Obj.cells.inj e).2.1));have hb2:Below w0.heap.size w0 W2:=hb1.grown hg2 hb1.size (fun k e=>by cases e;exact h0l);obtain⟨hc2,hf2⟩:=cell_of_box_a hv2;have ahD:Bs<W2.heap.size:=(yA.1 hv2).1;have hl2:l<W2.heap.size:=(yA.1 hL2).1;have ahE:D<W2.heap.size:=(yA.1 hK2).1;have ne_of:∀{j:Nat} {o:Obj},W2.heap[j]? =some o->(∀cur,o≠ .cells cur 226 (0,0))->some j≠v.ownBlock:=fun hj hno=>by
  rcases ownsRow_ne_a hrow2 hj hno with e|e;·rw[e];simp
  exact fun e'=>e e'.symm
 clear hW2 hs1 hs2;unfold aef;gi_wp2_with (first
  | (refine qy rfl 226 (.tmp 5) (.tmp 7) rfl W.heap.size #[.int .i64 (x.1:Int),.int .i64 (x.2:Int)] rfl rfl 226 #[.int .i64 0,.int .i64 0] zAX zk rfl (by rfl) ?_;rw[Gq,hW1])
  |gi_round_op_a)
 unfold aeg;gi_wp2_with (first
  | (refine rX rfl 226 (.tmp 5) rfl W.heap.size rfl 226 #[.int .i64 (x.1:Int),.int .i64 (x.2:Int)] (0,0) _ hx2 Tryz.underlying226 rfl zk ?_)
  | (gi_at_builtin;refine wpListIn_append_own _ rfl _ _ 223 rfl w0.heap.size 226 i0 (.agg #[.int .i64 0,.int .i64 0]) 2 16 Tryz.underlying223 hi hz0 hz1 hz2 rfl zBC _ _ _ rfl (hrow2.alloc _) ⟨W2.heap.size,0,none⟩ 1 1 [.int .i64 (x.1:Int),.int .i64 (x.2:Int)] rfl rfl (Wn _ _ _ _) (by intro u hu;simp at hu;rcases hu with rfl|rfl<;>rfl) zBX zBB (by exact qR hb2.size zBN) ?_;intro v' w3 hown' hg3 hnil3;have hv3:w3.heap[Bs]? =some (.cells #[v] 223 (0,0)):=(hg3.block Bs (by simp;omega) (ne_of hv2 (fun cur e=>by first|cases e|exact hne (Obj.cells.inj e).2.1))).trans ((Below.heap_alloc _ _ Bs ahD).trans hv2);obtain⟨hc3,hf3⟩:=cell_of_box_a hv3;obtain⟨g',cap',rfl⟩:=zu hown';go_frame)
  |gi_round_op_a)
 have hg3':(W2.alloc (.cells #[.int .i64 (x.1:Int),.int .i64 (x.2:Int)] 226)).grownBy w3 v.ownBlock:=hg3;have hL3:w3.heap[l]? =some (.loop {Gs fn sv Bs D .ready none with state:=.busy}):=(hg3'.block l zAK (ne_of hL2 (fun cur e=>by first|cases e|exact hne (Obj.cells.inj e).2.1))).trans ((Below.heap_alloc _ _ l hl2).trans hL2);have hK3:w3.heap[D]? =some (.deferred (some [])):=(hg3'.block D zAK (ne_of hK2 (fun cur e=>by first|cases e|exact hne (Obj.cells.inj e).2.1))).trans ((Below.heap_alloc _ _ D ahE).trans hK2);obtain⟨w4,hw4⟩:=ze (w3.setCell ⟨Bs,0,none⟩ (.slice (some ⟨g',0,none⟩) (ss.length+1) cap'));rw[hw4];have hg4:w3.grownBy w4 (some Bs):=by rw[<-hw4];exact grownBy_setCell0_a _ _ _
 have hv4:w4.heap[Bs]? =some (.cells #[.slice (some ⟨g',0,none⟩) (ss.length+1) cap'] 223 (0,0)):=by rw[<-hw4];exact heap_setCell_box_a _ hv3
 have hL4:w4.heap[l]? =some (.loop {Gs fn sv Bs D .ready none with state:=.busy}):=(hg4.block l (yA.1 hL3).1 (fun e=>hBl (by cases e;rfl))).trans hL3;have hK4:w4.heap[D]? =some (.deferred (some [])):=(hg4.block D (yA.1 hK3).1 (fun e=>hDB (by cases e;rfl))).trans hK3;have hrow4:=hown'.kept hg4 (ownsRow_ne_a hown' hv3 (fun cur e=>by first|cases e|exact hne (Obj.cells.inj e).2.1));have hl4:l<w4.heap.size:=(yA.1 hL4).1;have hb3:Below w0.heap.size w0 w3:=(hb2.alloc hb2.size _).grown hg3' (by have:=hb2.size;simp;omega) (fun k e=>(hrow2.lt k e).1);have hb4:Below w0.heap.size w0 w4:=hb3.grown hg4 hb3.size (fun k e=>by cases e;exact h0B);have hk4:KeepsWalks W w4:=((hk2.trans (KeepsWalks.alloc _ _)).trans (KeepsWalks.of_grownBy hg3' (ownsRow_not_walk_a (hrow2.alloc _)))).trans (by rw[<-hw4];exact KeepsWalks.setCell _ _ _);clear hw4;refine⟨_,_,run_endRound none hL4,rfl,⟨⟨_,(World.putObj_heap_other hBl).trans hv4,?_⟩,World.putObj_heap_same hl4,(World.putObj_heap_other hDl).trans hK4,hb4.grown (grownBy_putObj_a _ _ _) hb4.size (fun k e=>by cases e;exact h0l)⟩,hk4.trans (KeepsWalks.putObj _ hL4 rfl)⟩;have:=hrow4.kept (grownBy_putObj_a w4 l (.loop {{Gs fn sv Bs D .ready none with state:=.busy}with state:=if (none:Option Code).isNone then .ready else .done,pending:=none})) (ownsRow_ne_a hrow4 hL4 (fun cur e=>by first|cases e|exact hne (Obj.cells.inj e).2.1));rw[Sm,qK];exact this
theorem IK(n:Nat)(hn:2<=n)(g:Nat)(lb:Array Value)(eg:∀args w,(callFunc g args).run Tryz.prog w= .ok (.enter g args) w)(S:List (Nat×Nat)->Prop)(N:Nat)(hN:N<=1000000)(w:World)(hseq:SeqGives Fence.wide (n-1) Tryz.prog g lb wU S N w):CallsIn Fence.wide n Tryz.prog 361 #[.slice none 0 0,.func (.func g) #[] lb] w fun e w'=> ∃(v:Value) (ss:List (Nat×Nat)),e= .returned v/\S ss/\w'.ownsRow w.heap.size 226 2 v ss.length (ji ss)/\Below w.heap.size w w':=by
 have h1:1<=n:=zBB;have hne:=ahA;refine callsIn_of_wp_marks Tryz.func361 rfl trivial ?_ rfl;simp only[Tryz.ntmps361,List.size_toArray,qN,List.length_nil,Nat.reduceAdd,Nat.reduceSub,Array.replicate_succ,Array.replicate_zero,List.push_toArray,List.append_toArray,List.nil_append,List.cons_append];gi_wp2;refine wpIn_rangeFunc ?_;intro fn hfn;rw[show(Fence.wide).round=none from rfl];obtain⟨W0,hW0⟩:=ze (w.alloc (.cells #[.slice none 0 0] 223));have hs0:W0.heap.size=w.heap.size+1:=by rw[<-hW0];simp
 have hv0:W0.heap[w.heap.size]? =some (.cells #[.slice none 0 0] 223 (0,0)):=by rw[<-hW0];exact World.alloc_heap_new w _
 have hb0:Below w.heap.size w W0:=by rw[<-hW0];exact(Below.refl _ w).alloc (qH _) _
 rw[hW0];obtain⟨W1,hW1⟩:=ze ((W0.alloc (.deferred (some []))).alloc (.loop (Gs fn (.func (.func g) #[] lb) w.heap.size W0.heap.size .ready none)));have hold:∀k,k<W0.heap.size->W1.heap[k]? =W0.heap[k]? :=fun k hk=>by rw[<-hW1];exact(Below.heap_alloc _ _ k zAK).trans (Below.heap_alloc _ _ k hk)
 have hb1:Below w.heap.size w W1:=by rw[<-hW1];exact(hb0.alloc hb0.size _).alloc (by have:=hb0.size;simp;omega) _
 have hs1:W1.heap.size=W0.heap.size+2:=by rw[<-hW1];simp
 have hM:ApE w fn (.func (.func g) #[] lb) w.heap.size (W0.heap.size+1) W0.heap.size [] W1:=
  ⟨⟨_,(hold w.heap.size zBB).trans hv0,⟨rfl,.inl ⟨rfl,rfl⟩⟩⟩,
  by rw[<-hW1];have:=World.alloc_heap_new (W0.alloc (.deferred (some []))) (.loop (Gs fn (.func (.func g) #[] lb) w.heap.size W0.heap.size .ready none));rwa[World.size_alloc]at this,
  by rw[<-hW1];exact(Below.heap_alloc _ _ _ zAE).trans (World.alloc_heap_new W0 _),hb1⟩
 refine⟨W0.heap.size+1,[{target:=.collected W0.heap.size,args:= #[]}],W1,{target:=.fn (.func g) lb,args:= #[.func (.yield (W0.heap.size+1)) #[] #[]]},W1,g,#[.func (.yield (W0.heap.size+1)) #[] #[]]++lb,W1,?_,?_,?_,?_,fun _=>h1,?_⟩;·rw[<-hW1];exact run_enterLoop_outer _ _ _ _ _
 ·simp[resolve,go_sem]
 ·intro f' hf';trivial
 ·simp[invoke,go_sem,eg]
 refine(hseq (W0.heap.size+1) (ApE w fn (.func (.func g) #[] lb) w.heap.size (W0.heap.size+1) W0.heap.size) W1 hb1 (Sr _ _ _ _ _ _ _ hb1.size) (fun pre x W hJ hl=>Wp (n-1-1) w fn _ w.heap.size (W0.heap.size+1) W0.heap.size zBR zBL zAB (qH _) zBB N hN pre x W hJ hl) hM).mono ?_;rintro e W2 ⟨⟨v0,rfl⟩,ss,hS,h2⟩;obtain⟨v,hv,hrow⟩:=h2.box;have hend:=run_endLoop (P:=Tryz.prog) h2.L (by simp[Gs]);obtain⟨W3,hW3⟩:∃W3,W2.putObj (W0.heap.size+1) (.loop {Gs fn (.func (.func g) #[] lb) w.heap.size W0.heap.size .ready none with state:=.exhausted})=W3:=⟨_,rfl⟩;rw[hW3]at hend;have hg3:W2.grownBy W3 (some (W0.heap.size+1)):=by rw[<-hW3];exact grownBy_putObj_a _ _ _
 have hv3:W3.heap[w.heap.size]? =some (.cells #[v] 223 (0,0)):=by rw[<-hW3];exact(World.putObj_heap_other zBB).trans hv
 have hK3:W3.heap[W0.heap.size]? =some (.deferred (some [])):=by rw[<-hW3];exact(World.putObj_heap_other zBB).trans h2.K
 have hrow3:=hrow.kept hg3 (ownsRow_ne_a hrow h2.L (fun cur e=>by first|cases e|exact hne (Obj.cells.inj e).2.1));have hb3:Below w.heap.size w W3:=h2.below.grown hg3 h2.below.size (fun k e=>by cases e;omega);obtain⟨hc3,hf3⟩:=cell_of_box_a hv3;clear hW3;refine⟨none,W3,hend,?_⟩;gi_wp2;rw[<-hs0];refine⟨by simp,.inl ⟨_,_,rfl,run_takeDeferred hK3,?_⟩⟩;exact⟨_,results_tmp rfl _ _ _,v,ss,rfl,hS,hrow3.kept (grownBy_putObj_a _ _ _) (ownsRow_ne_a hrow3 hK3 (fun cur e=>by first|cases e|exact hne (Obj.cells.inj e).2.1)),hb3.grown (grownBy_putObj_a _ _ _) hb3.size (fun k e=>by cases e;omega)⟩
end
end Go.Proofs.YtdmmebjjojimiaaGreatDoor
namespace Go.Proofs.YtdmmebjjojimiaaGreatDoor
open Go.RowKit Go.Sort
def cfE(x y:Nat×Nat):Int:=if Lib.compareInt x.1 y.1=0 then Lib.compareInt x.2 y.2 else Lib.compareInt x.1 y.1
def LC(x:Nat×Nat):List Value:=[.int .i64 (x.1:Int),.int .i64 (x.2:Int)]
theorem IL(w:World)(a b c:Obj):(((w.alloc a).alloc b).drew).alloc c=grow (w.drewN 1) #[a,b,c]:=by show({w with heap:=_,drawn:=_}:World)={w with heap:=_,drawn:=_};congr 1
theorem abo(x y:Nat×Nat)(w:World):Calls Tryz.prog 233 #[.agg (LC x).toArray,.agg (LC y).toArray] w fun e w'=>e= .returned (.int .i64 (cfE x y))/\∃q os',w'=grow (w.drewN q) os':=by
 obtain⟨xp,xt⟩:=x;obtain⟨yp,yt⟩:=y;unfold cfE;dsimp only;obtain⟨c1,h1⟩:=ze (Lib.compareInt xp yp);obtain⟨c2,h2⟩:=ze (Lib.compareInt xt yt);have k1:∀W:World,Calls Tryz.prog 235 #[.int .i64 xp,.int .i64 yp] W fun e w'=>e= .returned (.int .i64 (Lib.compareInt xp yp))/\W=w':=fun W=>(Tryz.cmp_Compare_int xp yp W).mono fun _ _ h=>⟨h.1,h.2.symm⟩;have k2:∀W:World,Calls Tryz.prog 235 #[.int .i64 xt,.int .i64 yt] W fun e w'=>e= .returned (.int .i64 (Lib.compareInt xt yt))/\W=w':=fun W=>(Tryz.cmp_Compare_int xt yt W).mono fun _ _ h=>⟨h.1,h.2.symm⟩;rw[h1]at k1⊢;rw[h2]at k2⊢;have K1:=zh k1;have K2:=zh k2;clear h1 h2 k1 k2;obtain⟨r,hr⟩:∃r,(if c1=0 then c2 else c1)=r:=⟨_,rfl⟩;rw[hr];have HR:=zh hr;clear hr;obtain⟨w1,hw1⟩:=ze (w.alloc (.cells #[.int .i64 xp,.int .i64 xt] 226));obtain⟨w2,hw2⟩:=ze (w1.alloc (.cells #[.int .i64 yp,.int .i64 yt] 226));obtain⟨A,hA⟩:=ze w.heap.size;obtain⟨B,hB⟩:=ze w1.heap.size;have bA1:w1.heap[A]? =some (.cells #[.int .i64 xp,.int .i64 xt] 226 (0,0)):=by rw[<-hw1,<-hA];exact qL _ _
 have bA:w2.heap[A]? =some (.cells #[.int .i64 xp,.int .i64 xt] 226 (0,0)):=by rw[<-hw2];exact bC bA1 _
 have bB:w2.heap[B]? =some (.cells #[.int .i64 yp,.int .i64 yt] 226 (0,0)):=by rw[<-hw2,<-hB];exact qL _ _
 have a0:w2.cell? ⟨A,0,none⟩=some (.int .i64 xp):=zA4;have a1:w2.cell? ⟨A,1,none⟩=some (.int .i64 xt):=zA4;have b0:w2.cell? ⟨B,0,none⟩=some (.int .i64 yp):=zA3;have b1:w2.cell? ⟨B,1,none⟩=some (.int .i64 yt):=zA3;have HW2:=zh (And.intro hw1 hw2);have hS0:(fun w':World=>w'.cell? ⟨A,0,none⟩=some (.int .i64 xp)/\w'.cell? ⟨A,1,none⟩=some (.int .i64 xt)/\w'.cell? ⟨B,0,none⟩=some (.int .i64 yp)/\w'.cell? ⟨B,1,none⟩=some (.int .i64 yt)) w2.drew:=⟨a0,a1,b0,b1⟩;have HS0:=zh hS0;have BI:Hid (∀w':World,O0 w2 w'->w'.cell? ⟨A,0,none⟩=some (.int .i64 xp)/\w'.cell? ⟨A,1,none⟩=some (.int .i64 xt)/\w'.cell? ⟨B,0,none⟩=some (.int .i64 yp)/\w'.cell? ⟨B,1,none⟩=some (.int .i64 yt)):=fun w' h=>
  ⟨aK a0 h (fun f=>f),aK a1 h (fun f=>f),aK b0 h (fun f=>f),aK b1 h (fun f=>f)⟩
 clear bA1 bA bB a0 a1 b0 b1 hS0;unfold LC;dsimp only;go_enter Tryz.func233,Tryz.ntmps233;go_upto_region 1 with fail;refine aT (n:=13) (E:=fun _=>false) (S:=fun w':World=>w'.cell? ⟨A,0,none⟩=some (.int .i64 xp)/\w'.cell? ⟨A,1,none⟩=some (.int .i64 xt)/\w'.cell? ⟨B,0,none⟩=some (.int .i64 yp)/\w'.cell? ⟨B,1,none⟩=some (.int .i64 yt)) zk rfl HS0.out (fun hHeld=>?_);refine tW 0 ?_;refine tK 1 ?_;refine tW 2 ?_;refine tK 3 ?_;refine jQ (i:=4) (v:=?_) (f:=235) (args:= #[.int .i64 xp,.int .i64 yp]) rfl zk zk zk rfl zk zk (fun _ _ _ h=>h) zAN (by rfl) ?_ ?_ ?_;rotate_left;·exact zBj
 ·(intro w hSw;exact K1.out w)
 try simp only[Act.put,dL,dQ,dM,dN,dO,dP]
 refine tW 5 ?_;refine tK 6 ?_;refine tW 7 ?_;refine tK 8 ?_;refine jQ (i:=9) (v:=?_) (f:=235) (args:= #[.int .i64 xt,.int .i64 yt]) rfl zk zk zk rfl zk zk (fun _ _ _ h=>h) zAN (by rfl) ?_ ?_ ?_;rotate_left;·exact zBj
 ·(intro w hSw;exact K2.out w)
 try simp only[Act.put,dL,dQ,dM,dN,dO,dP]
 refine tO 10 fun K hK=>?_;go_simp;refine hK.out _ _ ?_ (fun hHeld=>?_);·exact zDy
 clear hK K;try simp only[Act.put,dL,dQ,dM,dN,dO,dP]
 refine tO 11 fun K hK=>?_;(go_simp;refine(ab8 w2.drew.heap.size c1 c2 r zBF zAE HR.out).mono ?_;rintro e w5 ⟨rfl,h5⟩;subst h5;try go_wp2_with fail);refine hK.out _ _ ?_ (fun hHeld=>?_);·exact zDy
 clear hK K;try simp only[Act.put,dL,dQ,dM,dN,dO,dP]
 refine tO 12 fun K hK=>?_;go_simp;refine hK.out _ _ ?_ (fun hHeld=>?_);·exact zDy
 clear hK K;try simp only[Act.put,dL,dQ,dM,dN,dO,dP]
 refine aS zk ?_ _;go_wp2_with fail;go_ret;obtain⟨e1,e2⟩:=HW2.out;refine⟨rfl,1,#[Obj.cells #[.int .i64 xp,.int .i64 xt] 226 (0,0),Obj.cells #[.int .i64 yp,.int .i64 yt] 226 (0,0),Obj.cells #[.int .i64 c1,.int .i64 c2] 3 (0,0)],?_⟩;rw[<-e2,<-e1];exact IL _ _ _ _
end Go.Proofs.YtdmmebjjojimiaaGreatDoor
