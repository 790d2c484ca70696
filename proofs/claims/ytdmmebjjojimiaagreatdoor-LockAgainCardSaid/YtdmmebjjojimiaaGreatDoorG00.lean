/- Short names for lemmas of the library that stand in many places, and small lemmas for what; The closed facts of LockAgain's row, each by itself. -/
import Derived.ProofKit
import Derived.OpenShut
import Derived.BigQuiet
import Derived.Lib.Hide
import Derived.WalkSpells
import Derived.Test.YtdmmebjjojimiaaGreatDoorTie
import Derived.Test.YtdmmebjjojimiaaGreatDoorCards
import Derived.Deep.MidRow
set_option linter.all false
set_option maxRecDepth 100000
set_option maxHeartbeats 8000000
namespace Go.Proofs
open Go.RowKit
theorem zh{p:Prop}(h:p):Hid p:=Lib.hid h
theorem ze{α:Sort _}(a:α):∃b,a=b:=⟨a,rfl⟩
theorem zB{α:Sort _}(a:α):∃b,b=a:=⟨a,rfl⟩
theorem zG{α:Type _}(l:List α)(i:Nat)(h:i<l.length):∃y,l[i]? =some y:=⟨_,List.getElem?_eq_getElem h⟩
theorem zw(x:Int)(h: -9223372036854775808<=x:=by omega)(k:x<9223372036854775808:=by omega):IntKind.i64.wrap x=x:=by rw[IntKind.wrap_i64];omega
abbrev qA:= @List.getElem?_eq_getElem
abbrev qC:= @List.getD_eq_getElem?_getD
abbrev qD:= @IntKind.wrap_i64
abbrev qE:= @Nat.zero_le
abbrev qF:= @Nat.add_zero
abbrev qG:= @Option.some.injEq
abbrev qH:= @Nat.le_refl
abbrev qI:= @List.take_of_length_le
abbrev qJ:= @List.getElem?_eq_some_iff
abbrev qK:= @List.length_append
abbrev qL:= @heap_alloc_new
abbrev qM:= @List.length_map
abbrev qN:= @List.length_cons
abbrev qO:= @Addr.mk.injEq
abbrev qP:= @decide_eq_false
abbrev qQ:= @List.mem_cons_self
abbrev qR:= @Nat.le_trans
abbrev qT:= @List.mem_of_getElem?
abbrev qU:= @Value.slice.injEq
abbrev qW:= @List.mem_append
abbrev qX:= @decide_eq_true
abbrev qY:= @List.mem_cons
abbrev qZ:= @List.getElem_mem
abbrev yA:= @Array.getElem?_eq_some_iff
abbrev yC:= @beq_eq_false_iff_ne
abbrev yD:= @List.mem_map
abbrev yE:= @List.mem_cons_of_mem
abbrev yF:= @List.eq_nil_of_length_eq_zero
abbrev yG:= @Nat.le_of_eq
abbrev yH:= @Nat.mul_one
abbrev yI:= @List.mem_range
abbrev yJ:= @List.mem_singleton
abbrev yK:= @Nat.lt_or_ge
abbrev yL:= @List.take_succ_eq_append_getElem
abbrev yM:= @List.getElem?_append_left
abbrev yN:= @List.getElem?_append_right
abbrev yO:= @List.length_filter_le
abbrev yP:= @decide_eq_true_eq
abbrev yQ:= @Bool.false_and
abbrev yR:= @Bool.true_and
abbrev yT:= @Int.toNat_natCast
abbrev yU:= @List.any_eq_true
abbrev yW:= @List.append_assoc
theorem zk{p:Prop}(h:p:=by kernel_rfl):p:=h
end Go.Proofs
namespace Go.Proofs.YtdmmebjjojimiaaGreatDoor.lockAgain
open Go.RowKit
theorem amH{a b:Bool}(h:a=true)(k:b=true):(a&&b)=true:=by rw[h,k];rfl
theorem ahD{P:Program}(h:P.funcs.any Func.goes=false)(f:FuncId):P.goes f=false:=by
 unfold Program.goes;rw[h,Bool.and_false,Bool.or_false,List.any_eq_false];intro g _;cases hg:P.funcs[g]? with
 |none=>simp
 |some fn=>rw[Array.any_eq_false]at h;obtain⟨hi,e⟩:=yA.1 hg;have:=h g hi;rw[e]at this;simpa using this
theorem acM{P:Program}{c:OpenClaim}(hs:c.start= .entering)(h:P.funcs.any Func.goes=false):false=c.goesBy P:=by
 unfold OpenClaim.goesBy Program.goesAt Program.goesFrom;rw[hs];cases P.funcNamed c.func with
 |none=>rfl
 |some f=>simp[ahD h]
theorem ap1:Tryz.pinned.checked.prog.funcs.any Func.goes=false:=by kernel_rfl
theorem ahE:false=Rows.lockAgainRow.goesBy Tryz.pinned.checked.prog:=acM rfl ap1
theorem laidOut:laidOutB Tryz.prog=true:=by kernel_rfl
theorem afS:laidOutB Tryz.pinned.checked.prog=true:=laidOut
theorem ap2:(Rows.lockAgainRow.inPlace==Tryz.pinned.checked.prog.inPlace 3)=true:=by kernel_rfl
theorem unf:(Rows.lockAgainRow.unfollowed==Tryz.pinned.checked.prog.unfollowed 3)=true:=by kernel_rfl
theorem rcs:(Rows.lockAgainRow.recurses==Tryz.pinned.checked.prog.recurses 3)=true:=by kernel_rfl
theorem nmd:(Rows.lockAgainRow.named==Tryz.pinned.checked.prog.varsNamed 3)=true:=by kernel_rfl
theorem pnd:(Rows.lockAgainRow.pinned==Rows.lockAgainRow.pinnedBy)=true:=by kernel_rfl
theorem ahF:joinedFacts Tryz.pinned.checked.prog 3 Tryz.f3 (OpenSpec.ofChange Rows.lockAgainSpec).bare Rows.lockAgainRow=true:=by
 unfold joinedFacts;iterate 31 (refine amH ?_ (by first|with_reducible exact afS|with_reducible exact ap2|with_reducible exact unf|with_reducible exact rcs|with_reducible exact nmd|with_reducible exact pnd|as_aux_lemma=>kernel_rfl))
 kernel_rfl
end Go.Proofs.YtdmmebjjojimiaaGreatDoor.lockAgain
namespace Go.Proofs
theorem zAA{p:Prop}(h:p:=by omega):p:=h
theorem zAH{p:Prop}(h:p:=by decide):p:=h
theorem zAP{p:Prop}(h:p:=by simp):p:=h
theorem zCn{p:Prop}(h:p:=by unfold maxLen;omega):p:=h
theorem zGs{p:Prop}(h:p:=by
 obtain⟨g,cap,rfl,hc1,hc2⟩:=gQ r1 zAA
 exact⟨g,cap,rfl,hc1,hc2,r3 g rfl⟩):p:=h
end Go.Proofs
namespace Go.Proofs.YtdmmebjjojimiaaGreatDoor
open Go.RowKit
structure Only (F:Nat->Prop) (w w':World):Prop where
 os:w'.os=w.os
 tape:w'.tape=w.tape
 output:w'.output=w.output
 size:w.heap.size<=w'.heap.size
 block:∀k,k<w.heap.size->¬F k->w'.heap[k]? =w.heap[k]?
abbrev O0(w w':World):Prop:=Only (fun _=>False) w w'
theorem Only.refl(F:Nat->Prop)(w:World):Only F w w:=⟨rfl,rfl,rfl,qH _,fun _ _ _=>rfl⟩
theorem Only.trans{F G:Nat->Prop}{a b c:World}(h:Only F a b)(k:Only G b c)(hG:∀i,G i->F i\/a.heap.size<=i):Only F a c:=
 ⟨k.os.trans h.os,k.tape.trans h.tape,k.output.trans h.output,qR h.size k.size,fun i hi hF=>
  (k.block i (Nat.lt_of_lt_of_le hi h.size) (fun g=>by rcases hG i g with g|g;exact hF g;omega)).trans (h.block i hi hF)⟩
theorem Only.same{F:Nat->Prop}{a b c:World}(h:Only F a b)(k:Only F b c):Only F a c:=h.trans k fun _ g=>.inl g
theorem Only.mono{F G:Nat->Prop}{w w':World}(h:Only F w w')(hG:∀i,F i->G i):Only G w w':=⟨h.os,h.tape,h.output,h.size,fun k hk hn=>h.block k hk fun f=>hn (hG k f)⟩
theorem Only.drewN{F:Nat->Prop}{a w:World}(h:Only F a w)(n:Nat):Only F a (w.drewN n):=⟨h.os,h.tape,h.output,h.size,h.block⟩
theorem Only.drew{F:Nat->Prop}{a w:World}(h:Only F a w):Only F a w.drew:=⟨h.os,h.tape,h.output,h.size,h.block⟩
theorem Only.setCell{F:Nat->Prop}{a w:World}(h:Only F a w){p:Addr}(hp:F p.block\/a.heap.size<=p.block)(u:Value):Only F a (w.setCell p u):=
 h.trans (G:=fun k=>k=p.block) ⟨rfl,rfl,rfl,by simp[World.setCell],fun k _ hk=>Below.heap_setCell _ _ _ _ hk⟩ (by intro i hi;subst hi;exact hp)
theorem Only.alloc{F:Nat->Prop}{a w:World}(h:Only F a w)(o:Obj):Only F a (w.alloc o):=
 h.trans (G:=fun _=>False) ⟨rfl,rfl,rfl,by simp,fun k hk _=>Below.heap_alloc _ _ _ hk⟩ (by intro i hi;exact hi.elim)
theorem Only.grown{F:Nat->Prop}{a w w':World}{row:Option Nat}(h:Only F a w)(hg:w.grownBy w' row)(hr:∀k,row=some k->F k\/a.heap.size<=k):Only F a w':=h.trans (G:=fun k=>row=some k) ⟨hg.os,hg.tape,hg.output,hg.size,fun k hk hn=>hg.block k hk (fun e=>hn e.symm)⟩ hr
theorem Only.ais{w w':World}(h:O0 w w'):Below w.heap.size w w':=⟨h.os,h.tape,h.output,h.size,fun k hk=>h.block k hk (fun f=>f)⟩
theorem Only.trans'{F G:Nat->Prop}{w w':World}(h:Only F w w')(hG:∀i,F i->w.heap.size<=i):Only G w w':=
 ⟨h.os,h.tape,h.output,h.size,fun k hk _=>h.block k hk fun f=>by have:=hG k f;omega⟩
theorem Only.of_below{B:Nat}{w w':World}(h:Below B w w'):Only (fun k=>B<=k) w w':=⟨h.os,h.tape,h.output,h.size,fun k _ hk=>h.block k zAA⟩
theorem aW{w w':World}{base:Nat}{e:TypeId}{size:Nat}{v:Value}{n:Nat}{xs:List Value}{F:Nat->Prop}(h:w.ownsRow base e size v n xs)(ho:Only F w w')(hne:∀k,v.ownBlock=some k->¬F k):w'.ownsRow base e size v n xs:=by
 refine⟨h.1,?_⟩;rcases h.2 with h2| ⟨g,cap,cur,rfl,hb,hg,r⟩;·exact .inl h2
 exact .inr ⟨g,cap,cur,rfl,hb,by rw[ho.block g (yA.1 hg).1 (hne g rfl)];exact hg,r⟩
theorem pq{w:World}{base:Nat}{e:TypeId}{size:Nat}{v:Value}{n:Nat}{xs:List Value}(h:w.ownsRow base e size v n xs){k:Nat}(hk:v.ownBlock=some k):k<w.heap.size:=(h.lt k hk).2
theorem gQ{w:World}{base:Nat}{e:TypeId}{size:Nat}{v:Value}{n:Nat}{xs:List Value}(h:w.ownsRow base e size v n xs)(hn:0<n):∃g cap,v= .slice (some ⟨g,0,none⟩) n cap/\n<=cap/\cap<=maxLen:=by
 rcases h.2 with⟨_,h2⟩| ⟨g,cap,cur,rfl,hb,hg,h1,h2,_⟩;·omega
 exact⟨g,cap,rfl,h1,h2⟩
theorem bg{w:World}{base:Nat}{e:TypeId}{size:Nat}{v:Value}{n:Nat}{xs:List Value}(h:w.ownsRow base e size v n xs):∃ao cap,v= .slice ao n cap/\n<=cap/\cap<=maxLen:=by
 rcases h.2 with⟨rfl,rfl⟩| ⟨g,cap,cur,rfl,hb,hg,h1,h2,_⟩;·exact⟨none,0,rfl,qH _,by unfold maxLen;omega⟩
 exact⟨_,cap,rfl,h1,h2⟩
theorem agr{w:World}{e:TypeId}{g n cap:Nat}{xs:List Value}(h:w.ownsRow 0 e 1 (.slice (some ⟨g,0,none⟩) n cap) n xs)(m:Nat)(hm:m<=n):w.ownsRow 0 e 1 (.slice (some ⟨g,0,none⟩) m cap) m (xs.take m):=by
 rcases h.2 with⟨h',_⟩| ⟨g',cap',cur,h',hb,hg,h1,h2,h3,htake⟩;·simp at h'
 simp only[qU,qG,qO,and_true,true_and]at h';obtain⟨rfl,rfl⟩:=h';have hx:=h.1;simp only[yH]at hx htake;refine⟨by simp;omega,.inr ⟨g,cap,cur,rfl,qE _,hg,by omega,h2,h3,?_⟩⟩;rw[yH,<-htake,List.take_take,Nat.min_eq_left hm]
theorem aj{w:World}{b:Nat}{c:Array Value}{t:TypeId}{f:Nat×Nat}(h:w.heap[b]? =some (.cells c t f))(i:Nat):w.cell? ⟨b,i,none⟩=c[i]? :=by simp[World.cell?,h]
theorem Ye{w:World}{b:Nat}{c:Array Value}{t:TypeId}(h:w.heap[b]? =some (.cells c t (0,0)))(i:Nat):w.frozen? ⟨b,i,none⟩=false:=by simp[World.frozen?,h]
theorem rW{w:World}{b:Nat}{o:Obj}(h:w.heap[b]? =some o):b<w.heap.size:=(yA.1 h).1
theorem aaU{w:World}{b:Nat}{c:Array Value}{t:TypeId}(h:w.heap[b]? =some (.cells c t (0,0)))(i:Nat)(u:Value):(w.setCell ⟨b,i,none⟩ u).heap[b]? =some (.cells (c.setIfInBounds i u) t (0,0)):=heap_setCell_same w b i c t u h
theorem dF{w:World}{b:Nat}{o:Obj}(h:w.heap[b]? =some o)(o':Obj):(w.alloc o').heap[b]? =some o:=by rw[Below.heap_alloc _ _ _ (rW h)];exact h
theorem aA{w w':World}{b:Nat}{o:Obj}{F:Nat->Prop}(h:w.heap[b]? =some o)(ho:Only F w w')(hb:¬F b):w'.heap[b]? =some o:=by rw[ho.block b (rW h) hb];exact h
structure Gu (P:Program) (t e:TypeId) (size bytes:Nat):Prop where
 und:P.underlying t=some (.slice e)
 info:∃i z,P.info? e=some i/\i.zero=some z/\i.size=size/\i.bytes=bytes/\z.cells.size=size
 pos:0<size
theorem Gu.mk'{P:Program}{t e:TypeId}{size bytes:Nat}{z:Value}(h:P.underlying t=some (.slice e))(hi:(P.info? e).map (fun i=>(i.zero,i.size,i.bytes))=some (some z,size,bytes))(hz:z.cells.size=size)(hp:0<size):Gu P t e size bytes:=by obtain⟨i,h1,h2,h3,h4⟩:=info_parts hi;exact⟨h,⟨i,z,h1,h2,h3,h4,hz⟩,hp⟩
theorem uK{P:Program}(w:World){t e ty:TypeId}{size bytes:Nat}(T:Gu P t e size bytes)(v:Value)(n:Nat)(xs:List Value)(hown:w.ownsRow 0 e size v n xs)(a:Addr)(m c:Nat)(news:List Value)(hl:news.length=m*size)(hnews:∀j u,news[j]? =some u->w.cell? (a.add j)=some u)(h1:∀u∈news,u.oneCell'=true)(h63:n+m<=maxLen)(hbytes:(n+m)*bytes<=140737488355328):∃v' w',(Builtin.append_ #[t,t] ty #[v,.slice (some a) m c]).run P w= .ok v' w'/\w'.ownsRow 0 e size v' (n+m) (xs++news)/\w.grownBy w' v.ownBlock/\(∀k,v'.ownBlock=some k->v.ownBlock=some k\/w.heap.size<=k)/\(∃k,v'.ownBlock=some k)=(v.ownBlock≠none\/0<m):=by
 obtain⟨i,z,h2,h3,h4,h5,h6⟩:=T.info;obtain⟨v',w',hr,ho,hg,hnil⟩:=run_append_own (P:=P) w 0 t ty e i z size bytes T.und h2 h3 h4 h5 h6 T.pos v n xs hown a m c news hl hnews h1 h63 hbytes (qE _);have hsome:(∃k,v'.ownBlock=some k)=(v.ownBlock≠none\/0<m):=by
  apply propext;have hv':(∃k,v'.ownBlock=some k)↔ ¬v'= .slice none 0 0:=by rcases ho.2 with⟨rfl,_⟩| ⟨g,cap,cur,rfl,_⟩<;>simp[Value.ownBlock]
  have hv:v.ownBlock≠none↔ ¬v= .slice none 0 0:=by rcases hown.2 with⟨rfl,_⟩| ⟨g,cap,cur,rfl,_⟩<;>simp[Value.ownBlock]
  rw[hv',hv,hnil];by_cases hv0:v= .slice none 0 0;·simp[hv0];omega
  simp[hv0]
 refine⟨v',w',hr,ho,hg,?_,hsome⟩;intro k hk;rcases hown.2 with⟨rfl,rfl⟩| ⟨g,cap,cur,rfl,hbg,hgg,hnc,hcm,hcs,htake⟩;·have hxs:xs=[]:=yF (by simpa using hown.1);subst hxs;obtain⟨v2,w2,hr2,ho2,_⟩:=run_append_own (P:=P) w w.heap.size t ty e i z size bytes T.und h2 h3 h4 h5 h6 T.pos _ 0 [] (World.ownsRow_nil w w.heap.size e size) a m c news hl hnews h1 h63 hbytes (qH _);rw[hr]at hr2;injection hr2 with e1 e2;subst e1;exact .inr (ho2.lt k hk).1
 by_cases hroom:n+m<=cap;·obtain⟨w2,hr2,_⟩:=run_append_fits (P:=P) w 0 t ty e i size T.und h2 h4 g n cap xs hown a m c news hl hnews h1 hroom;rw[hr]at hr2;injection hr2 with e1 e2;subst e1;exact .inl hk
 obtain⟨v2,w2,hr2,ho2,_⟩:=run_append_arg_grows (P:=P) w t ty e i z size bytes T.und h2 h3 h4 h5 h6 T.pos ⟨g,0,none⟩ n cap xs hown.1 (hown.cells (g:=g) rfl) a m c news hl hnews zAA h63 hbytes;rw[hr]at hr2;injection hr2 with e1 e2;subst e1;exact .inr (ho2.lt k hk).1
theorem wpA{P:Program}{w:World}{ops:Array Oper}{rest:List Oper}{o:Oper}{a:Act}{Q:Exit->Act->World->Prop}{t e:TypeId}{size bytes:Nat}(T:Gu P t e size bytes)
  (hgd:o.guard=none) (s x:Operand)
  (ho:o.op= .call {callee:=.builtin .append,args:= #[s,x],argTypes:= #[t,t]})
  {v:Value} {n:Nat} {xs:List Value} (hs:a.eval s=v) (hown:w.ownsRow 0 e size v n xs)
  {ad:Addr} {m c:Nat} {news:List Value} (hx:a.eval x= .slice (some ad) m c) (hl:news.length=m*size) (hnews:∀j u,news[j]? =some u->w.cell? (ad.add j)=some u) (h1:∀u∈news,u.oneCell'=true)
  (h63:n+m<=maxLen) (hbytes:(n+m)*bytes<=140737488355328)
  (h:∀v' w',w'.ownsRow 0 e size v' (n+m) (xs++news)->w.grownBy w' v.ownBlock->(∀k,v'.ownBlock=some k->v.ownBlock=some k\/w.heap.size<=k)->(∃k,v'.ownBlock=some k)=(v.ownBlock≠none\/0<m)->wpList P ops Q rest (a.put o.dst v') w'):wpList P ops Q (o::rest) a w:=by
 refine wpList_plain hgd fun K hK=>?_
 obtain⟨v',w',hr,h2,h3,h4,h5⟩:=uK (P:=P) (ty:=o.type) w T v n xs hown ad m c news hl hnews h1 h63 hbytes
 unfold Oper.wp execOp
 simp only[ho,resolve,invoke,builtin,Sem.run_bind,Sem.run_pure,Result.andThen_ok,List.map_toArray,List.map_cons,List.map_nil,hs,hx,hr]
 exact hK _ _ (h v' w' h2 h3 h4 h5)
def Rk(w:World)(v v':Value)(m:Nat):Prop:= ∃g cap,v'= .slice (some ⟨g,0,none⟩) m cap/\m<=cap/\cap<=maxLen/\(v.ownBlock=some g\/w.heap.size<=g)
theorem Ai{P:Program}{w:World}{u:Value}{ops:Array Oper}{rest:List Oper}{o:Oper}{a:Act}{Q:Exit->Act->World->Prop}{t e:TypeId}{bytes:Nat}(T:Gu P t e 1 bytes)
  (hgd:o.guard=none) (s x:Operand)
  (ho:o.op= .call {callee:=.builtin .append,args:= #[s,x],argTypes:= #[t,t]})
  {v:Value} {n:Nat} {xs:List Value} {g:Nat} (hs:a.eval s=v) (hx:a.eval x= .slice (some ⟨g,0,none⟩) 1 1) (hc:w.cell? ⟨g,0,none⟩=some u) (hu:u.oneCell'=true) (hown:w.ownsRow 0 e 1 v n xs)
  (h63:n+1<=1099511627776) (hbytes:bytes<=64)
  (h:∀v' w',w'.ownsRow 0 e 1 v' (n+1) (xs++[u])->Only (fun k=>v.ownBlock=some k) w w'->Rk w v v' (n+1)->wpList P ops Q rest (a.put o.dst v') w'):
  wpList P ops Q (o::rest) a w:=by
 refine wpA T hgd s x ho (news:=[u]) hs hown hx rfl ?_ ?_ ?_ ?_ ?_
 ·intro j x hj
  match j,hj with
  |0,hj=>
   simp at hj;subst hj
   simpa[Addr.add]using hc
 ·intro x hxm;simp at hxm;subst hxm;exact hu
 ·unfold maxLen;omega
 ·have:(n+1)*bytes<=1099511627776*64:=Nat.mul_le_mul h63 hbytes
  omega
 ·intro v' w' r1 r2 r3 r4
  refine h v' w' r1 ?_ ?_
  ·exact(Only.refl _ w).grown r2 fun k hk=>.inl hk
  ·exact zGs
theorem wpM{P:Program}{w:World}{ops:Array Oper}{rest:List Oper}{o:Oper}{a:Act}{Q:Exit->Act->World->Prop}{t e:TypeId}{bytes:Nat}{z:Value}(hu:P.underlying t=some (.slice e))(hi:(P.info? e).map (fun i=>(i.zero,i.size,i.bytes))=some (some z,1,bytes))(hz:z.cells= #[z])(hg:o.guard=none)(l c:Operand)(hop:o.op=Op.makeSlice t l c)(n:Nat){kl kc:IntKind}{L C:Int}(hl:a.eval l= .int kl L)(hc:a.eval c= .int kc C)(hL:L=(n:Int))(hC:C=(n:Int))(hn:n<=1099511627776)(hb:bytes<=64)(h:∀w',w'.ownsRow 0 e 1 (.slice (some ⟨w.heap.size,0,none⟩) n n) n (List.replicate n z)->O0 w w'->w.heap.size<w'.heap.size->wpList P ops Q rest (a.put o.dst (.slice (some ⟨w.heap.size,0,none⟩) n n)) w'):wpList P ops Q (o::rest) a w:=by
 obtain⟨i,h1,h2,h3,h4⟩:=info_parts hi;refine wpList_make_full w hg l c t hop 0 e i z 1 hu h1 h2 h3 kl kc L C n hl hc hL hC ?_ ?_ (qE _) ?_;·rw[h4];have:bytes*n<=64*1099511627776:=Nat.mul_le_mul hb hn;omega
 ·unfold maxLen;omega
 intro w' r1 r2;rw[hz,toList_madeCells_one,yH]at r1;refine h w' r1 ((Only.refl _ w).grown r2 fun k hk=>by cases hk) ?_;exact pq r1 rfl
abbrev cI(x:Int):Value:=.int .i64 x
def jF(x:Int):Prop:= -9223372036854775808<=x/\x<=9223372036854775807
structure Ints (w:World) (v:Value) (xs:List Int):Prop where
 shape:∃ao cap,v= .slice ao xs.length cap/\xs.length<=cap/\cap<=9223372036854775807
 cells:∀ao len cap,v= .slice ao len cap->0<xs.length->∃b off,ao=some ⟨b,off,none⟩/\b<w.heap.size/\∀i,i<xs.length->w.cell? ⟨b,off+i,none⟩=some (.int .i64 (xs.getD i 0))
 range:∀x∈xs,jF x
 nil:∀len cap,v= .slice none len cap->len=0/\cap=0
def Value.blk:Value->Option Nat
 | .slice (some a) _ _=>some a.block
 |_=>none
theorem Ints.only{w w':World}{v:Value}{xs:List Int}{F:Nat->Prop}(h:Ints w v xs)(ho:Only F w w')(hF:∀b,Value.blk v=some b->¬F b):Ints w' v xs:=by refine⟨h.shape,fun ao len cap hv hp=>?_,h.range,h.nil⟩;obtain⟨b,off,rfl,hb,hc⟩:=h.cells ao len cap hv hp;refine⟨b,off,rfl,Nat.lt_of_lt_of_le hb ho.size,fun i hi=>?_⟩;rw[World.cell?_of_block (w:=w) (ho.block b hb (hF b (by rw[hv];rfl)))];exact hc i hi
theorem Ints.dK{w w':World}{v:Value}{xs:List Int}(h:Ints w v xs)(ho:O0 w w'):Ints w' v xs:=h.only ho (fun _ _ f=>f)
theorem ZV{w:World}{e:TypeId}{size len cap n:Nat}{xs:List Value}(h:w.ownsRow 0 e size (.slice none len cap) n xs):len=0/\cap=0:=by
 rcases h.2 with⟨h2,_⟩| ⟨g,c,cur,h2,_⟩;·simp only[qU,true_and]at h2;exact h2
 simp at h2
theorem Ints.xC{w:World}{v:Value}{xs:List Int}(h:w.ownsRow 0 3 1 v xs.length (xs.map (Value.int .i64)))(hr:∀x∈xs,jF x):Ints w v xs:=by obtain⟨ao,cap,rfl,h1,h2⟩:=bg h;unfold maxLen at h2;refine⟨⟨ao,cap,rfl,h1,by omega⟩,fun ao' len' cap' hv hp=>?_,hr,fun len' cap' hv=>by rw[hv]at h;exact ZV h⟩;simp only[qU]at hv;obtain⟨rfl,rfl,rfl⟩:=hv;obtain⟨g,cap',he,_,_⟩:=gQ h hp;simp only[qU]at he;obtain⟨rfl,-,rfl⟩:=he;refine⟨g,0,rfl,pq h rfl,fun i hi=>?_⟩;rw[Nat.zero_add,h.cellAt i zAA];simp[List.getD,qA hi]
def TL(w:World)(v v':Value):Prop:= ∀k,v'.ownBlock=some k->v.ownBlock=some k\/w.heap.size<=k
theorem ags{P:Program}{w:World}{ops:Array Oper}{rest:List Oper}{o:Oper}{a:Act}{Q:Exit->Act->World->Prop}{t e:TypeId}{bytes:Nat}(T:Gu P t e 1 bytes)
  (hgd:o.guard=none) (s x:Operand)
  (ho:o.op= .call {callee:=.builtin .append,args:= #[s,x],argTypes:= #[t,t]})
  {v:Value} {n:Nat} {xs:List Value} (hs:a.eval s=v) (hown:w.ownsRow 0 e 1 v n xs)
  {ao:Option Addr} {m c:Nat} {news:List Value} (hx:a.eval x= .slice ao m c) (hl:news.length=m) (hnone:ao=none->m=0/\c=0) (hnews:∀ad,ao=some ad->∀j u,news[j]? =some u->w.cell? (ad.add j)=some u) (h1:∀u∈news,u.oneCell'=true)
  (h63:n+m<=1099511627776) (hbytes:bytes<=64)
  (h:∀v' w',w'.ownsRow 0 e 1 v' (n+m) (xs++news)->Only (fun k=>v.ownBlock=some k) w w'->TL w v v'->wpList P ops Q rest (a.put o.dst v') w'):wpList P ops Q (o::rest) a w:=by
 cases ao with
 |none=>
  obtain⟨rfl,rfl⟩:=hnone rfl
  have hn:news=[]:=yF hl
  subst hn
  obtain⟨i,z,h2,h3,h4,h5,h6⟩:=T.info
  refine wpList_plain hgd fun K hK=>?_
  have hr:=run_append_owned_none (P:=P) w 0 t o.type e i 1 T.und h2 v n xs hown
  unfold Oper.wp execOp
  simp only[ho,resolve,invoke,builtin,Sem.run_bind,Sem.run_pure,Result.andThen_ok,List.map_toArray,List.map_cons,List.map_nil,hs,hx,hr]
  exact hK _ _ (h v w (by simpa using hown) (Only.refl _ _) (fun k hk=>.inl hk))
 |some ad=>
  refine wpA T hgd s x ho (news:=news) hs hown hx zAA (hnews ad rfl) h1 zCn ?_ ?_
  ·have:(n+m)*bytes<=1099511627776*64:=Nat.mul_le_mul h63 hbytes
   omega
  ·intro v' w' r1 r2 r3 r4
   exact h v' w' r1 ((Only.refl _ w).grown r2 fun k hk=>.inl hk) r3
theorem ac7:Gu Tryz.prog 78 3 1 8:=Gu.mk' (z:=.int .i64 0) Tryz.underlying78 zk rfl zAH
theorem VH(w:World):(w.alloc (.cells #[] 3)).ownsRow 0 3 1 (.slice (some ⟨w.heap.size,0,none⟩) 0 0) 0 []:=World.ownsRow_lit (base:=0) (e:=3) (size:=1) w #[] 0 (qE _) zCn zAP
theorem cell_new0(w:World)(u:Value)(t:TypeId):(w.alloc (.cells #[u] t)).cell? ⟨w.heap.size,0,none⟩=some u:=by simp
abbrev Qn:Value:=.slice none 0 0
theorem eH{w w':World}{F:Nat->Prop}{b i:Nat}{u:Value}(h:w.cell? ⟨b,i,none⟩=some u)(ho:Only F w w')(hb:¬F b):w'.cell? ⟨b,i,none⟩=some u:=by rw[World.cell?_of_block (w:=w) (ho.block b (World.block_lt_of_cell? w _ h) hb)];exact h
theorem Ints.lt{w:World}{v:Value}{xs:List Int}(h:Ints w v xs)(hp:0<xs.length){k:Nat}(hk:Value.blk v=some k):k<w.heap.size:=by obtain⟨ao,cap,rfl,_,_⟩:=h.shape;obtain⟨b,off,rfl,hb,_⟩:=h.cells _ _ _ rfl hp;simp[Value.blk]at hk;omega
abbrev fA:= @List.getElem_toArray
abbrev fD:= @List.getElem_cons_succ
abbrev fB:= @List.getElem_cons_zero
abbrev dW:= @List.setIfInBounds_toArray
abbrev dX:= @List.set_cons_zero
abbrev dY:= @List.set_cons_succ
theorem zr{F:Nat->Prop}{w:World}:Only F w w:=Only.refl F w
abbrev Str:=ByteArray
structure rE where
 lo:Str
 hi:Str
structure dM where
 name:Str
 value:Str
structure iW where
 name:Str
 spans:List rE
 sets:List dM
structure wu where
 version:Str
 old:Bool
structure jm where
 name:Str
 values:List Str
structure Aj where
 on:iW
 cond:iW
 line:Int
structure Iq where
 cond:iW
 with':iW
 line:Int
structure iI where
 name:Str
 line:Int
 jc:List wu
 vars:List jm
 provides:List Str
 deps:List Aj
 cons:List Iq
 files:List Str
structure xQ where
 virtual:Str
 names:List Str
 line:Int
structure aQ where
 packs:List iI
 fV:List xQ
structure tN where
 spec:iW
 line:Int
structure dD where
 roots:List tN
instance:Inhabited rE:=⟨⟨.empty,.empty⟩⟩
instance:Inhabited dM:=⟨⟨.empty,.empty⟩⟩
instance:Inhabited iW:=⟨⟨.empty,[],[]⟩⟩
instance:Inhabited wu:=⟨⟨.empty,false⟩⟩
instance:Inhabited jm:=⟨⟨.empty,[]⟩⟩
instance:Inhabited Aj:=⟨⟨default,default,0⟩⟩
instance:Inhabited Iq:=⟨⟨default,default,0⟩⟩
instance:Inhabited iI:=⟨⟨.empty,0,[],[],[],[],[],[]⟩⟩
instance:Inhabited xQ:=⟨⟨.empty,[],0⟩⟩
instance:Inhabited aQ:=⟨⟨[],[]⟩⟩
instance:Inhabited tN:=⟨⟨default,0⟩⟩
instance:Inhabited dD:=⟨⟨[]⟩⟩
abbrev Kp(B:Nat)(w w':World):Prop:=Only (fun k=>B<=k) w w'
theorem Kp.dV{B:Nat}{w w':World}(h:O0 w w'):Kp B w w':=h.mono fun _ f=>f.elim
structure aS {α:Type} (n:Nat) (C:Nat->World->List Value->α->Prop) (B:Nat) (w:World) (v:Value) (xs:List α):Prop where
 shape:∃ao cap,v= .slice ao xs.length cap/\xs.length<=cap/\cap<=9223372036854775807
 cells:∀ao len cap,v= .slice ao len cap->0<xs.length->∃b off,ao=some ⟨b,off,none⟩/\b<B/\B<=w.heap.size/\∀i (h:i<xs.length),∃cs,cs.length=n/\w.rangeAt b (off+i*n) cs/\C B w cs xs[i]
 nil:∀len cap,v= .slice none len cap->len=0/\cap=0
def Keeps{α:Type}(C:Nat->World->List Value->α->Prop):Prop:= ∀ ⦃B:Nat⦄ ⦃w w':World⦄ ⦃cs:List Value⦄ ⦃x:α⦄,C B w cs x->Kp B w w'->C B w' cs x
theorem gq{B b o:Nat}{w w':World}{cs:List Value}(h:w.rangeAt b o cs)(hb:b<B)(hB:B<=w.heap.size)(k:Kp B w w'):w'.rangeAt b o cs:=by intro j u hu;rw[World.cell?_of_block (w:=w) (k.block b (by omega) zAA)];exact h j u hu
theorem aS.keep{α:Type}{n:Nat}{C:Nat->World->List Value->α->Prop}(hC:Keeps C){B:Nat}{w w':World}{v:Value}{xs:List α}(h:aS n C B w v xs)(k:Kp B w w'):aS n C B w' v xs:=by refine⟨h.shape,fun ao len cap hv hp=>?_,h.nil⟩;obtain⟨b,off,rfl,hb,hB,hc⟩:=h.cells ao len cap hv hp;refine⟨b,off,rfl,hb,qR hB k.size,fun i hi=>?_⟩;obtain⟨cs,hl,hr,hx⟩:=hc i hi;exact⟨cs,hl,gq hr hb hB k,hC hx k⟩
theorem aS.nilRow{α:Type}{n:Nat}{C:Nat->World->List Value->α->Prop}{B:Nat}{w:World}:aS n C B w Qn ([]:List α):=
 ⟨⟨none,0,rfl,qH _,by decide⟩,fun _ _ _ _ hp=>by simp at hp,fun len cap hv=>by simp at hv;omega⟩
abbrev okS(s:Str):Prop:=s.size<=maxLen
def bU(_:Nat)(_:World)(cs:List Value)(x:Str):Prop:=cs=[.string x]/\okS x
def fE(_:Nat)(_:World)(cs:List Value)(x:rE):Prop:=cs=[.string x.lo,.string x.hi]/\okS x.lo/\okS x.hi
def dO(_:Nat)(_:World)(cs:List Value)(x:dM):Prop:=cs=[.string x.name,.string x.value]/\okS x.name/\okS x.value
def pR(_:Nat)(_:World)(cs:List Value)(x:wu):Prop:=cs=[.string x.version,.bool x.old]/\okS x.version
def dJ(B:Nat)(w:World)(cs:List Value)(x:iW):Prop:= ∃v1 v2,cs=[.string x.name,v1,v2]/\okS x.name/\aS 2 fE B w v1 x.spans/\aS 2 dO B w v2 x.sets
def l9(B:Nat)(w:World)(cs:List Value)(x:jm):Prop:= ∃v1,cs=[.string x.name,v1]/\okS x.name/\aS 1 bU B w v1 x.values
def wz(B:Nat)(w:World)(cs:List Value)(x:Aj):Prop:= ∃c1 c2,cs=c1++c2++[.int .i64 x.line]/\dJ B w c1 x.on/\dJ B w c2 x.cond/\jF x.line
def vO(B:Nat)(w:World)(cs:List Value)(x:Iq):Prop:= ∃c1 c2,cs=c1++c2++[.int .i64 x.line]/\dJ B w c1 x.cond/\dJ B w c2 x.with'/\jF x.line
def gY(B:Nat)(w:World)(cs:List Value)(x:iI):Prop:= ∃v1 v2 v3 v4 v5 v6,cs=[.string x.name,.int .i64 x.line,v1,v2,v3,v4,v5,v6]/\okS x.name/\jF x.line/\
 aS 2 pR B w v1 x.jc/\aS 2 l9 B w v2 x.vars/\aS 1 bU B w v3 x.provides/\aS 7 wz B w v4 x.deps/\aS 7 vO B w v5 x.cons/\aS 1 bU B w v6 x.files
def tV(B:Nat)(w:World)(cs:List Value)(x:xQ):Prop:= ∃v1,cs=[.string x.virtual,v1,.int .i64 x.line]/\okS x.virtual/\jF x.line/\aS 1 bU B w v1 x.names
def fO(B:Nat)(w:World)(cs:List Value)(x:aQ):Prop:= ∃v1 v2,cs=[v1,v2]/\aS 8 gY B w v1 x.packs/\aS 3 tV B w v2 x.fV
def mM(B:Nat)(w:World)(cs:List Value)(x:tN):Prop:= ∃c1,cs=c1++[.int .i64 x.line]/\dJ B w c1 x.spec/\jF x.line
def mg(B:Nat)(w:World)(cs:List Value)(x:dD):Prop:= ∃v1,cs=[v1]/\aS 4 mM B w v1 x.roots
theorem bU.keep:Keeps bU:=fun _ _ _ _ _ h _=>h
theorem fE.keep:Keeps fE:=fun _ _ _ _ _ h _=>h
theorem dO.keep:Keeps dO:=fun _ _ _ _ _ h _=>h
theorem pR.keep:Keeps pR:=fun _ _ _ _ _ h _=>h
theorem dJ.keep:Keeps dJ:=fun _ _ _ _ _ ⟨v1,v2,h,a,b,c⟩ k=>⟨v1,v2,h,a,b.keep fE.keep k,c.keep dO.keep k⟩
theorem l9.keep:Keeps l9:=fun _ _ _ _ _ ⟨v1,h,a,b⟩ k=>⟨v1,h,a,b.keep bU.keep k⟩
theorem wz.keep:Keeps wz:=fun _ _ _ _ _ ⟨c1,c2,h,a,b,c⟩ k=>⟨c1,c2,h,dJ.keep a k,dJ.keep b k,c⟩
theorem vO.keep:Keeps vO:=fun _ _ _ _ _ ⟨c1,c2,h,a,b,c⟩ k=>⟨c1,c2,h,dJ.keep a k,dJ.keep b k,c⟩
theorem gY.keep:Keeps gY:=fun _ _ _ _ _ ⟨v1,v2,v3,v4,v5,v6,h,a,b,c1,c2,c3,c4,c5,c6⟩ k=>⟨v1,v2,v3,v4,v5,v6,h,a,b,c1.keep pR.keep k,c2.keep l9.keep k,c3.keep bU.keep k,c4.keep wz.keep k,c5.keep vO.keep k,c6.keep bU.keep k⟩
theorem tV.keep:Keeps tV:=fun _ _ _ _ _ ⟨v1,h,a,b,c⟩ k=>⟨v1,h,a,b,c.keep bU.keep k⟩
theorem fO.keep:Keeps fO:=fun _ _ _ _ _ ⟨v1,v2,h,a,b⟩ k=>⟨v1,v2,h,a.keep gY.keep k,b.keep tV.keep k⟩
theorem mM.keep:Keeps mM:=fun _ _ _ _ _ ⟨c1,h,a,b⟩ k=>⟨c1,h,dJ.keep a k,b⟩
theorem mg.keep:Keeps mg:=fun _ _ _ _ _ ⟨v1,h,a⟩ k=>⟨v1,h,a.keep mM.keep k⟩
def Lifts{α:Type}(C:Nat->World->List Value->α->Prop):Prop:= ∀ ⦃B B':Nat⦄ ⦃w:World⦄ ⦃cs:List Value⦄ ⦃x:α⦄,C B w cs x->B<=B'->B'<=w.heap.size->C B' w cs x
theorem aS.lift{α:Type}{n:Nat}{C:Nat->World->List Value->α->Prop}(hC:Lifts C){B B':Nat}{w:World}{v:Value}{xs:List α}(h:aS n C B w v xs)(h1:B<=B')(h2:B'<=w.heap.size):aS n C B' w v xs:=by refine⟨h.shape,fun ao len cap hv hp=>?_,h.nil⟩;obtain⟨b,off,rfl,hb,hB,hc⟩:=h.cells ao len cap hv hp;refine⟨b,off,rfl,by omega,h2,fun i hi=>?_⟩;obtain⟨cs,hl,hr,hx⟩:=hc i hi;exact⟨cs,hl,hr,hC hx h1 h2⟩
theorem bU.lift:Lifts bU:=fun _ _ _ _ _ h _ _=>h
theorem fE.lift:Lifts fE:=fun _ _ _ _ _ h _ _=>h
theorem dO.lift:Lifts dO:=fun _ _ _ _ _ h _ _=>h
theorem pR.lift:Lifts pR:=fun _ _ _ _ _ h _ _=>h
theorem dJ.lift:Lifts dJ:=fun _ _ _ _ _ ⟨v1,v2,h,a,b,c⟩ k l=>⟨v1,v2,h,a,b.lift fE.lift k l,c.lift dO.lift k l⟩
theorem l9.lift:Lifts l9:=fun _ _ _ _ _ ⟨v1,h,a,b⟩ k l=>⟨v1,h,a,b.lift bU.lift k l⟩
theorem wz.lift:Lifts wz:=fun _ _ _ _ _ ⟨c1,c2,h,a,b,c⟩ k l=>⟨c1,c2,h,dJ.lift a k l,dJ.lift b k l,c⟩
theorem vO.lift:Lifts vO:=fun _ _ _ _ _ ⟨c1,c2,h,a,b,c⟩ k l=>⟨c1,c2,h,dJ.lift a k l,dJ.lift b k l,c⟩
theorem gY.lift:Lifts gY:=fun _ _ _ _ _ ⟨v1,v2,v3,v4,v5,v6,h,a,b,c1,c2,c3,c4,c5,c6⟩ k l=>⟨v1,v2,v3,v4,v5,v6,h,a,b,c1.lift pR.lift k l,c2.lift l9.lift k l,c3.lift bU.lift k l,c4.lift wz.lift k l,c5.lift vO.lift k l,c6.lift bU.lift k l⟩
theorem tV.lift:Lifts tV:=fun _ _ _ _ _ ⟨v1,h,a,b,c⟩ k l=>⟨v1,h,a,b,c.lift bU.lift k l⟩
theorem fO.lift:Lifts fO:=fun _ _ _ _ _ ⟨v1,v2,h,a,b⟩ k l=>⟨v1,v2,h,a.lift gY.lift k l,b.lift tV.lift k l⟩
theorem mM.lift:Lifts mM:=fun _ _ _ _ _ ⟨c1,h,a,b⟩ k l=>⟨c1,h,dJ.lift a k l,b⟩
theorem mg.lift:Lifts mg:=fun _ _ _ _ _ ⟨v1,h,a⟩ k l=>⟨v1,h,a.lift mM.lift k l⟩
section
variable {α:Type} {n:Nat} {C:Nat->World->List Value->α->Prop} {B:Nat} {w:World} {v:Value} {xs:List α}
theorem aS.sh(h:aS n C B w v xs):∃ao cap,v= .slice ao xs.length cap/\xs.length<=cap/\cap<=9223372036854775807:=h.shape
theorem aS.at{ao:Option Addr}{len cap:Nat}(h:aS n C B w (.slice ao len cap) xs)(hp:0<xs.length):∃b off,ao=some ⟨b,off,none⟩/\b<B/\B<=w.heap.size:=
 let ⟨b,off,e,h1,h2,_⟩:=h.cells ao len cap rfl hp
 ⟨b,off,e,h1,h2⟩
theorem aS.get{b off len cap:Nat}(h:aS n C B w (.slice (some ⟨b,off,none⟩) len cap) xs){i:Nat}{x:α}(hi:xs[i]? =some x):∃cs,cs.length=n/\w.rangeAt b (off+i*n) cs/\C B w cs x:=by obtain⟨hlt,rfl⟩:=qJ.1 hi;obtain⟨b',off',e,_,_,hc⟩:=h.cells _ _ _ rfl zAA;simp only[qG,qO,and_true]at e;obtain⟨rfl,rfl⟩:=e;exact hc i hlt
end
theorem gY.cells{B:Nat}{w:World}{cs:List Value}{x:iI}(h:gY B w cs x):∃o1 o2 o3 o4 o5 o6 c1 c2 c3 c4 c5 c6,cs=[.string x.name,.int .i64 x.line,.slice o1 x.jc.length c1,.slice o2 x.vars.length c2,.slice o3 x.provides.length c3,.slice o4 x.deps.length c4,.slice o5 x.cons.length c5,.slice o6 x.files.length c6]/\okS x.name/\jF x.line/\aS 2 pR B w (.slice o1 x.jc.length c1) x.jc/\aS 2 l9 B w (.slice o2 x.vars.length c2) x.vars/\aS 1 bU B w (.slice o3 x.provides.length c3) x.provides/\aS 7 wz B w (.slice o4 x.deps.length c4) x.deps/\aS 7 vO B w (.slice o5 x.cons.length c5) x.cons/\aS 1 bU B w (.slice o6 x.files.length c6) x.files:=by obtain⟨v1,v2,v3,v4,v5,v6,rfl,a,b,h1,h2,h3,h4,h5,h6⟩:=h;obtain⟨o1,c1,rfl,-,-⟩:=h1.shape;obtain⟨o2,c2,rfl,-,-⟩:=h2.shape;obtain⟨o3,c3,rfl,-,-⟩:=h3.shape;obtain⟨o4,c4,rfl,-,-⟩:=h4.shape;obtain⟨o5,c5,rfl,-,-⟩:=h5.shape;obtain⟨o6,c6,rfl,-,-⟩:=h6.shape;exact⟨o1,o2,o3,o4,o5,o6,c1,c2,c3,c4,c5,c6,rfl,a,b,h1,h2,h3,h4,h5,h6⟩
theorem dJ.cells{B:Nat}{w:World}{cs:List Value}{x:iW}(h:dJ B w cs x):∃o1 o2 c1 c2,cs=[.string x.name,.slice o1 x.spans.length c1,.slice o2 x.sets.length c2]/\okS x.name/\aS 2 fE B w (.slice o1 x.spans.length c1) x.spans/\aS 2 dO B w (.slice o2 x.sets.length c2) x.sets:=by obtain⟨v1,v2,rfl,a,h1,h2⟩:=h;obtain⟨o1,c1,rfl,-,-⟩:=h1.shape;obtain⟨o2,c2,rfl,-,-⟩:=h2.shape;exact⟨o1,o2,c1,c2,rfl,a,h1,h2⟩
end Go.Proofs.YtdmmebjjojimiaaGreatDoor
