/- Mem Ints Mem2 Cells Tags, in one text. -/
import Derived.Test.YtdmmebjjojimiaaGreatDoorG00
set_option maxRecDepth 100000
set_option maxHeartbeats 8000000
set_option linter.all false
namespace Go.Proofs
theorem zAB{p:Prop}(h:p:=by omega):p:=h
theorem zAD{p:Prop}(h:p:=by decide):p:=h
theorem zAF{p:Prop}(h:p:=by simp):p:=h
theorem zAS{p:Prop}(h:p:=by unfold maxLen;omega):p:=h
theorem zBA{p:Prop}(h:p:=by simp[Region.wanted,hgd]):p:=h
theorem zBU{p:Prop}(h:p:=by omega):p:=h
theorem zBY{p:Prop}(h:p:=by unfold maxLen;omega):p:=h
theorem zCJ{p:Prop}(h:p:=by
 simp only[qU]at hv
 obtain⟨rfl,rfl,rfl⟩:=hv
 obtain⟨g,cap',he,_,_⟩:=dU h hp
 simp only[qU]at he
 obtain⟨rfl,-,rfl⟩:=he
 refine⟨g,0,rfl,dP h rfl,fun i hi=>?_⟩
 rw[Nat.zero_add,h.cellAt i zAB]
 simp[List.getD,qA hi]):p:=h
theorem zCy{p:Prop}(h:p:=by
 obtain⟨b,off,rfl,hb,hc⟩:=h.cells ao len cap hv hp
 refine⟨b,off,rfl,Nat.lt_of_lt_of_le hb ho.size,fun i hi=>?_⟩
 rw[World.cell?_of_block (w:=w) (ho.block b hb (hF b (by rw[hv];rfl)))]
 exact hc i hi):p:=h
theorem zDO{p:Prop}(h:p:=by
 obtain⟨b,off,he,_,hc⟩:=h.cells _ _ _ rfl zAB
 rw[had]at he
 obtain rfl:=Option.some.inj he
 rw[Go.WideShapes.add_plain,hc j hj]
 rw[<-hu]
 simp[List.getD,hj]):p:=h
theorem zDg{p:Prop}(h:p:=by
 simp[Value.ownBlock]at hk
 subst hk
 rcases r3 bb rfl with hh|hh
 ·rw[Tag.wX _ _ (dP h.own hh)];exact h.tg _ hh
 ·exact Tag.zJ _ _ hh (dP r1 rfl)):p:=h
theorem zEP{p:Prop}(h:p:=by exact⟨none,0,rfl,qH _,by unfold maxLen;omega⟩):p:=h
theorem zEZ{p:Prop}(h:p:=by
 obtain⟨g,cap,rfl,hc1,hc2⟩:=dU r1 zAB
 exact⟨g,cap,rfl,hc1,hc2,r3 g rfl⟩):p:=h
end Go.Proofs
namespace Go.Proofs.YtdmmebjjojimiaaGreatDoor
open Go.RowKit
structure Only (F:Nat->Prop) (w w':World):Prop where
 os:w'.os=w.os
 tape:w'.tape=w.tape
 output:w'.output=w.output
 size:w.heap.size<=w'.heap.size
 block:∀k,k<w.heap.size->¬F k->w'.heap[k]? =w.heap[k]?
abbrev O0(w w':World):Prop:=Only (fun _=>False) w w'
theorem Only.refl(F:Nat->Prop)(w:World):Only F w w:=⟨rfl,rfl,rfl,qH _,fun _ _ _=>rfl⟩
theorem Only.trans{F G:Nat->Prop}{a b c:World}(h:Only F a b)(k:Only G b c)(hG:∀i,G i->F i\/a.heap.size<=i):Only F a c:=
 ⟨k.os.trans h.os,k.tape.trans h.tape,k.output.trans h.output,qR h.size k.size,fun i hi hF=>
  (k.block i (Nat.lt_of_lt_of_le hi h.size) (fun g=>by rcases hG i g with g|g;exact hF g;omega)).trans (h.block i hi hF)⟩
theorem Only.same{F:Nat->Prop}{a b c:World}(h:Only F a b)(k:Only F b c):Only F a c:=h.trans k fun _ g=>.inl g
theorem Only.mono{F G:Nat->Prop}{w w':World}(h:Only F w w')(hG:∀i,F i->G i):Only G w w':=⟨h.os,h.tape,h.output,h.size,fun k hk hn=>h.block k hk fun f=>hn (hG k f)⟩
theorem Only.drewN{F:Nat->Prop}{a w:World}(h:Only F a w)(n:Nat):Only F a (w.drewN n):=⟨h.os,h.tape,h.output,h.size,h.block⟩
theorem Only.drew{F:Nat->Prop}{a w:World}(h:Only F a w):Only F a w.drew:=⟨h.os,h.tape,h.output,h.size,h.block⟩
theorem Only.setCell{F:Nat->Prop}{a w:World}(h:Only F a w){p:Addr}(hp:F p.block\/a.heap.size<=p.block)(u:Value):Only F a (w.setCell p u):=
 h.trans (G:=fun k=>k=p.block) ⟨rfl,rfl,rfl,by simp[World.setCell],fun k _ hk=>Below.heap_setCell _ _ _ _ hk⟩ (by intro i hi;subst hi;exact hp)
theorem Only.alloc{F:Nat->Prop}{a w:World}(h:Only F a w)(o:Obj):Only F a (w.alloc o):=
 h.trans (G:=fun _=>False) ⟨rfl,rfl,rfl,by simp,fun k hk _=>Below.heap_alloc _ _ _ hk⟩ (by intro i hi;exact hi.elim)
theorem Only.grown{F:Nat->Prop}{a w w':World}{row:Option Nat}(h:Only F a w)(hg:w.grownBy w' row)(hr:∀k,row=some k->F k\/a.heap.size<=k):Only F a w':=h.trans (G:=fun k=>row=some k) ⟨hg.os,hg.tape,hg.output,hg.size,fun k hk hn=>hg.block k hk (fun e=>hn e.symm)⟩ hr
theorem Only.below{B:Nat}{w w':World}(h:Only (fun k=>B<=k) w w'):B<=w.heap.size->Below B w w':=fun hB=>⟨h.os,h.tape,h.output,h.size,fun k hk=>h.block k zBU zAB⟩
theorem Only.aht{w w':World}(h:O0 w w'):Below w.heap.size w w':=⟨h.os,h.tape,h.output,h.size,fun k hk=>h.block k hk (fun f=>f)⟩
theorem Only.trans'{F G:Nat->Prop}{w w':World}(h:Only F w w')(hG:∀i,F i->w.heap.size<=i):Only G w w':=
 ⟨h.os,h.tape,h.output,h.size,fun k hk _=>h.block k hk fun f=>by have:=hG k f;omega⟩
theorem Only.of_below{B:Nat}{w w':World}(h:Below B w w'):Only (fun k=>B<=k) w w':=⟨h.os,h.tape,h.output,h.size,fun k _ hk=>h.block k zAB⟩
theorem aG{w w':World}{base:Nat}{e:TypeId}{size:Nat}{v:Value}{n:Nat}{xs:List Value}{F:Nat->Prop}(h:w.ownsRow base e size v n xs)(ho:Only F w w')(hne:∀k,v.ownBlock=some k->¬F k):w'.ownsRow base e size v n xs:=by
 refine⟨h.1,?_⟩;rcases h.2 with h2| ⟨g,cap,cur,rfl,hb,hg,r⟩;·exact .inl h2
 exact .inr ⟨g,cap,cur,rfl,hb,by rw[ho.block g (yA.1 hg).1 (hne g rfl)];exact hg,r⟩
theorem dP{w:World}{base:Nat}{e:TypeId}{size:Nat}{v:Value}{n:Nat}{xs:List Value}(h:w.ownsRow base e size v n xs){k:Nat}(hk:v.ownBlock=some k):k<w.heap.size:=(h.lt k hk).2
theorem dU{w:World}{base:Nat}{e:TypeId}{size:Nat}{v:Value}{n:Nat}{xs:List Value}(h:w.ownsRow base e size v n xs)(hn:0<n):∃g cap,v= .slice (some ⟨g,0,none⟩) n cap/\n<=cap/\cap<=maxLen:=by
 rcases h.2 with⟨_,h2⟩| ⟨g,cap,cur,rfl,hb,hg,h1,h2,_⟩;·omega
 exact⟨g,cap,rfl,h1,h2⟩
theorem aJ{w:World}{base:Nat}{e:TypeId}{size:Nat}{v:Value}{n:Nat}{xs:List Value}(h:w.ownsRow base e size v n xs):∃ao cap,v= .slice ao n cap/\n<=cap/\cap<=maxLen:=by
 rcases h.2 with⟨rfl,rfl⟩| ⟨g,cap,cur,rfl,hb,hg,h1,h2,_⟩;·exact zEP
 exact⟨_,cap,rfl,h1,h2⟩
theorem Yr{w:World}{e:TypeId}{g n cap:Nat}{xs:List Value}(h:w.ownsRow 0 e 1 (.slice (some ⟨g,0,none⟩) n cap) n xs)(m:Nat)(hm:m<=n):w.ownsRow 0 e 1 (.slice (some ⟨g,0,none⟩) m cap) m (xs.take m):=by
 rcases h.2 with⟨h',_⟩| ⟨g',cap',cur,h',hb,hg,h1,h2,h3,htake⟩;·simp at h'
 simp only[qU,qG,qO,and_true,true_and]at h';obtain⟨rfl,rfl⟩:=h';have hx:=h.1;simp only[yH]at hx htake;refine⟨by simp;omega,.inr ⟨g,cap,cur,rfl,qE _,hg,by omega,h2,h3,?_⟩⟩;rw[yH,<-htake,List.take_take,Nat.min_eq_left hm]
theorem aj{w:World}{b:Nat}{c:Array Value}{t:TypeId}{f:Nat×Nat}(h:w.heap[b]? =some (.cells c t f))(i:Nat):w.cell? ⟨b,i,none⟩=c[i]? :=by simp[World.cell?,h]
theorem jW{w:World}{b:Nat}{c:Array Value}{t:TypeId}(h:w.heap[b]? =some (.cells c t (0,0)))(i:Nat):w.frozen? ⟨b,i,none⟩=false:=by simp[World.frozen?,h]
theorem bU{w:World}{b:Nat}{o:Obj}(h:w.heap[b]? =some o):b<w.heap.size:=(yA.1 h).1
theorem mQ{w:World}{b:Nat}{c:Array Value}{t:TypeId}(h:w.heap[b]? =some (.cells c t (0,0)))(i:Nat)(u:Value):(w.setCell ⟨b,i,none⟩ u).heap[b]? =some (.cells (c.setIfInBounds i u) t (0,0)):=heap_setCell_same w b i c t u h
theorem Ag{w:World}{b:Nat}{o:Obj}(h:w.heap[b]? =some o){p:Addr}(hp:b≠p.block)(u:Value):
  (w.setCell p u).heap[b]? =some o:=by rw[Below.heap_setCell _ _ _ _ hp];exact h
theorem cZ{w:World}{b:Nat}{o:Obj}(h:w.heap[b]? =some o)(o':Obj):(w.alloc o').heap[b]? =some o:=by rw[Below.heap_alloc _ _ _ (bU h)];exact h
theorem aC{w w':World}{b:Nat}{o:Obj}{F:Nat->Prop}(h:w.heap[b]? =some o)(ho:Only F w w')(hb:¬F b):w'.heap[b]? =some o:=by rw[ho.block b (bU h) hb];exact h
structure Az (P:Program) (t e:TypeId) (size bytes:Nat):Prop where
 und:P.underlying t=some (.slice e)
 info:∃i z,P.info? e=some i/\i.zero=some z/\i.size=size/\i.bytes=bytes/\z.cells.size=size
 pos:0<size
theorem Az.mk'{P:Program}{t e:TypeId}{size bytes:Nat}{z:Value}(h:P.underlying t=some (.slice e))(hi:(P.info? e).map (fun i=>(i.zero,i.size,i.bytes))=some (some z,size,bytes))(hz:z.cells.size=size)(hp:0<size):Az P t e size bytes:=by obtain⟨i,h1,h2,h3,h4⟩:=info_parts hi;exact⟨h,⟨i,z,h1,h2,h3,h4,hz⟩,hp⟩
theorem mV{P:Program}(w:World){t e ty:TypeId}{size bytes:Nat}(T:Az P t e size bytes)(v:Value)(n:Nat)(xs:List Value)(hown:w.ownsRow 0 e size v n xs)(a:Addr)(m c:Nat)(news:List Value)(hl:news.length=m*size)(hnews:∀j u,news[j]? =some u->w.cell? (a.add j)=some u)(h1:∀u∈news,u.oneCell'=true)(h63:n+m<=maxLen)(hbytes:(n+m)*bytes<=140737488355328):∃v' w',(Builtin.append_ #[t,t] ty #[v,.slice (some a) m c]).run P w= .ok v' w'/\w'.ownsRow 0 e size v' (n+m) (xs++news)/\w.grownBy w' v.ownBlock/\(∀k,v'.ownBlock=some k->v.ownBlock=some k\/w.heap.size<=k)/\(∃k,v'.ownBlock=some k)=(v.ownBlock≠none\/0<m):=by
 obtain⟨i,z,h2,h3,h4,h5,h6⟩:=T.info;obtain⟨v',w',hr,ho,hg,hnil⟩:=run_append_own (P:=P) w 0 t ty e i z size bytes T.und h2 h3 h4 h5 h6 T.pos v n xs hown a m c news hl hnews h1 h63 hbytes (qE _);have hsome:(∃k,v'.ownBlock=some k)=(v.ownBlock≠none\/0<m):=by
  apply propext;have hv':(∃k,v'.ownBlock=some k)↔ ¬v'= .slice none 0 0:=by rcases ho.2 with⟨rfl,_⟩| ⟨g,cap,cur,rfl,_⟩<;>simp[Value.ownBlock]
  have hv:v.ownBlock≠none↔ ¬v= .slice none 0 0:=by rcases hown.2 with⟨rfl,_⟩| ⟨g,cap,cur,rfl,_⟩<;>simp[Value.ownBlock]
  rw[hv',hv,hnil];by_cases hv0:v= .slice none 0 0;·simp[hv0];omega
  simp[hv0]
 refine⟨v',w',hr,ho,hg,?_,hsome⟩;intro k hk;rcases hown.2 with⟨rfl,rfl⟩| ⟨g,cap,cur,rfl,hbg,hgg,hnc,hcm,hcs,htake⟩;·have hxs:xs=[]:=yF (by simpa using hown.1);subst hxs;obtain⟨v2,w2,hr2,ho2,_⟩:=run_append_own (P:=P) w w.heap.size t ty e i z size bytes T.und h2 h3 h4 h5 h6 T.pos _ 0 [] (World.ownsRow_nil w w.heap.size e size) a m c news hl hnews h1 h63 hbytes (qH _);rw[hr]at hr2;injection hr2 with e1 e2;subst e1;exact .inr (ho2.lt k hk).1
 by_cases hroom:n+m<=cap;·obtain⟨w2,hr2,_⟩:=run_append_fits (P:=P) w 0 t ty e i size T.und h2 h4 g n cap xs hown a m c news hl hnews h1 hroom;rw[hr]at hr2;injection hr2 with e1 e2;subst e1;exact .inl hk
 obtain⟨v2,w2,hr2,ho2,_⟩:=run_append_arg_grows (P:=P) w t ty e i z size bytes T.und h2 h3 h4 h5 h6 T.pos ⟨g,0,none⟩ n cap xs hown.1 (hown.cells (g:=g) rfl) a m c news hl hnews zAB h63 hbytes;rw[hr]at hr2;injection hr2 with e1 e2;subst e1;exact .inr (ho2.lt k hk).1
theorem wpA{P:Program}{w:World}{ops:Array Oper}{rest:List Oper}{o:Oper}{a:Act}{Q:Exit->Act->World->Prop}{t e:TypeId}{size bytes:Nat}(T:Az P t e size bytes)
  (hgd:o.guard=none) (s x:Operand)
  (ho:o.op= .call {callee:=.builtin .append,args:= #[s,x],argTypes:= #[t,t]})
  {v:Value} {n:Nat} {xs:List Value} (hs:a.eval s=v) (hown:w.ownsRow 0 e size v n xs)
  {ad:Addr} {m c:Nat} {news:List Value} (hx:a.eval x= .slice (some ad) m c) (hl:news.length=m*size) (hnews:∀j u,news[j]? =some u->w.cell? (ad.add j)=some u) (h1:∀u∈news,u.oneCell'=true)
  (h63:n+m<=maxLen) (hbytes:(n+m)*bytes<=140737488355328)
  (h:∀v' w',w'.ownsRow 0 e size v' (n+m) (xs++news)->w.grownBy w' v.ownBlock->(∀k,v'.ownBlock=some k->v.ownBlock=some k\/w.heap.size<=k)->(∃k,v'.ownBlock=some k)=(v.ownBlock≠none\/0<m)->wpList P ops Q rest (a.put o.dst v') w'):wpList P ops Q (o::rest) a w:=by
 refine wpList_plain hgd fun K hK=>?_
 obtain⟨v',w',hr,h2,h3,h4,h5⟩:=mV (P:=P) (ty:=o.type) w T v n xs hown ad m c news hl hnews h1 h63 hbytes
 unfold Oper.wp execOp
 simp only[ho,resolve,invoke,builtin,Sem.run_bind,Sem.run_pure,Result.andThen_ok,List.map_toArray,List.map_cons,List.map_nil,hs,hx,hr]
 exact hK _ _ (h v' w' h2 h3 h4 h5)
def AB(w:World)(v v':Value)(m:Nat):Prop:= ∃g cap,v'= .slice (some ⟨g,0,none⟩) m cap/\m<=cap/\cap<=maxLen/\(v.ownBlock=some g\/w.heap.size<=g)
theorem AL{P:Program}{w:World}{u:Value}{ops:Array Oper}{rest:List Oper}{o:Oper}{a:Act}{Q:Exit->Act->World->Prop}{t e:TypeId}{bytes:Nat}(T:Az P t e 1 bytes)
  (hgd:o.guard=none) (s x:Operand)
  (ho:o.op= .call {callee:=.builtin .append,args:= #[s,x],argTypes:= #[t,t]})
  {v:Value} {n:Nat} {xs:List Value} {g:Nat} (hs:a.eval s=v) (hx:a.eval x= .slice (some ⟨g,0,none⟩) 1 1) (hc:w.cell? ⟨g,0,none⟩=some u) (hu:u.oneCell'=true) (hown:w.ownsRow 0 e 1 v n xs)
  (h63:n+1<=1099511627776) (hbytes:bytes<=64)
  (h:∀v' w',w'.ownsRow 0 e 1 v' (n+1) (xs++[u])->Only (fun k=>v.ownBlock=some k) w w'->AB w v v' (n+1)->wpList P ops Q rest (a.put o.dst v') w'):
  wpList P ops Q (o::rest) a w:=by
 refine wpA T hgd s x ho (news:=[u]) hs hown hx rfl ?_ ?_ ?_ ?_ ?_
 ·intro j x hj
  match j,hj with
  |0,hj=>
   simp at hj;subst hj
   simpa[Addr.add]using hc
 ·intro x hxm;simp at hxm;subst hxm;exact hu
 ·unfold maxLen;omega
 ·have:(n+1)*bytes<=1099511627776*64:=Nat.mul_le_mul h63 hbytes
  omega
 ·intro v' w' r1 r2 r3 r4
  refine h v' w' r1 ?_ ?_
  ·exact(Only.refl _ w).grown r2 fun k hk=>.inl hk
  ·exact zEZ
theorem wpM{P:Program}{w:World}{ops:Array Oper}{rest:List Oper}{o:Oper}{a:Act}{Q:Exit->Act->World->Prop}{t e:TypeId}{bytes:Nat}{z:Value}(hu:P.underlying t=some (.slice e))(hi:(P.info? e).map (fun i=>(i.zero,i.size,i.bytes))=some (some z,1,bytes))(hz:z.cells= #[z])(hg:o.guard=none)(l c:Operand)(hop:o.op=Op.makeSlice t l c)(n:Nat){kl kc:IntKind}{L C:Int}(hl:a.eval l= .int kl L)(hc:a.eval c= .int kc C)(hL:L=(n:Int))(hC:C=(n:Int))(hn:n<=1099511627776)(hb:bytes<=64)(h:∀w',w'.ownsRow 0 e 1 (.slice (some ⟨w.heap.size,0,none⟩) n n) n (List.replicate n z)->O0 w w'->w.heap.size<w'.heap.size->wpList P ops Q rest (a.put o.dst (.slice (some ⟨w.heap.size,0,none⟩) n n)) w'):wpList P ops Q (o::rest) a w:=by
 obtain⟨i,h1,h2,h3,h4⟩:=info_parts hi;refine wpList_make_full w hg l c t hop 0 e i z 1 hu h1 h2 h3 kl kc L C n hl hc hL hC ?_ ?_ (qE _) ?_;·rw[h4];have:bytes*n<=64*1099511627776:=Nat.mul_le_mul hb hn;omega
 ·unfold maxLen;omega
 intro w' r1 r2;rw[hz,toList_madeCells_one,yH]at r1;refine h w' r1 ((Only.refl _ w).grown r2 fun k hk=>by cases hk) ?_;exact dP r1 rfl
abbrev cI(x:Int):Value:=.int .i64 x
def bg(x:Int):Prop:= -9223372036854775808<=x/\x<=9223372036854775807
structure Ints (w:World) (v:Value) (xs:List Int):Prop where
 shape:∃ao cap,v= .slice ao xs.length cap/\xs.length<=cap/\cap<=9223372036854775807
 cells:∀ao len cap,v= .slice ao len cap->0<xs.length->∃b off,ao=some ⟨b,off,none⟩/\b<w.heap.size/\∀i,i<xs.length->w.cell? ⟨b,off+i,none⟩=some (.int .i64 (xs.getD i 0))
 range:∀x∈xs,bg x
 nil:∀len cap,v= .slice none len cap->len=0/\cap=0
theorem Ints.range'{w:World}{v:Value}{xs:List Int}(h:Ints w v xs)(i:Nat):bg (xs.getD i 0):=by
 rw[qC];cases hx:xs[i]? with
 |none=>simp[bg]
 |some x=>exact h.range x (qT hx)
def Value.blk:Value->Option Nat
 | .slice (some a) _ _=>some a.block
 |_=>none
theorem Ints.only{w w':World}{v:Value}{xs:List Int}{F:Nat->Prop}(h:Ints w v xs)(ho:Only F w w')(hF:∀b,Value.blk v=some b->¬F b):Ints w' v xs:=by refine⟨h.shape,fun ao len cap hv hp=>?_,h.range,h.nil⟩;exact zCy
theorem Ints.aH{w w':World}{v:Value}{xs:List Int}(h:Ints w v xs)(ho:O0 w w'):Ints w' v xs:=h.only ho (fun _ _ f=>f)
theorem P6{w:World}{e:TypeId}{size len cap n:Nat}{xs:List Value}(h:w.ownsRow 0 e size (.slice none len cap) n xs):len=0/\cap=0:=by
 rcases h.2 with⟨h2,_⟩| ⟨g,c,cur,h2,_⟩;·simp only[qU,true_and]at h2;exact h2
 simp at h2
theorem Ints.dV{w:World}{v:Value}{xs:List Int}(h:w.ownsRow 0 3 1 v xs.length (xs.map (Value.int .i64)))(hr:∀x∈xs,bg x):Ints w v xs:=by obtain⟨ao,cap,rfl,h1,h2⟩:=aJ h;unfold maxLen at h2;refine⟨⟨ao,cap,rfl,h1,by omega⟩,fun ao' len' cap' hv hp=>?_,hr,fun len' cap' hv=>by rw[hv]at h;exact P6 h⟩;exact zCJ
def abA(w:World)(g:Nat)(cb:Array Value)(p:Int->Bool)(xs:List Int):Prop:=
 ∀x∈xs,∀W,O0 w W->Calls Tryz.prog g (#[.int .i64 x]++cb) W fun e W'=>e= .returned (.bool (p x))/\O0 W W'
def SK(p:Int->Bool)(xs:List Int):Int:=if xs.any p then (xs.findIdx p:Int)else -1
def NoneTo(p:Int->Bool)(xs:List Int)(k:Nat):Prop:= ∀j,j<k->p (xs.getD j 0)=false
theorem abB{p:Int->Bool}{xs:List Int}{k:Nat}(h:NoneTo p xs k)(hk:k<xs.length)(hp:p (xs.getD k 0)=true):SK p xs=k:=by
 have hg:xs.getD k 0=xs[k]:=by simp[qC,hk]
 rw[hg]at hp;unfold SK;rw[if_pos (yU.2 ⟨xs[k],qZ hk,hp⟩)];congr 1;rw[List.findIdx_eq hk];refine⟨hp,fun j hj=>?_⟩;have:=h j hj;simpa[qC,show j<xs.length by omega]using this
theorem Zy{p:Int->Bool}{xs:List Int}(h:NoneTo p xs xs.length):SK p xs= -1:=by unfold SK;rw[if_neg];rw[yU];rintro⟨x,hx,hp⟩;obtain⟨j,hj,rfl⟩:=List.getElem_of_mem hx;have:=h j hj;simp[qC,hj]at this;rw[this]at hp;cases hp
theorem Nh{w:World}{v:Value}{xs:List Int}(hI:Ints w v xs)(g:Nat)(cb:Array Value)(p:Int->Bool)(eg:∀args w,(callFunc g args).run Tryz.prog w= .ok (.enter g args) w)(hp:abA w g cb p xs):Calls Tryz.prog 300 #[v,.func (.func g) #[] cb] w fun e w'=>e= .returned (.int .i64 (SK p xs))/\O0 w w':=by
 have HP:=zh hp;clear hp;obtain⟨ao,cap,rfl,hl,hm⟩:=hI.shape;go_enter Tryz.func300,Tryz.ntmps300;go_wp2_with fail;go_loopw [8] (fun v wr=> ∃k:Nat,v= .int .i64 k/\k<=xs.length/\NoneTo p xs k/\O0 w wr) (fun v _=>xs.length-(intOf v).toNat);case atStart=>exact⟨0,rfl,qE _,fun j hj=>by omega,Only.refl _ _⟩
 case round=>
  obtain⟨k,rfl,hk,hN,hO⟩:=hrel;by_cases c:k<xs.length
  ·obtain⟨b,off,rfl,hb,hc⟩:=(hI.aH hO).cells _ _ _ rfl zAB;have hcell:=hc k c;have hmem:xs.getD k 0∈xs:=by rw[qC,qA c];exact qZ c
   have hcall:=HP.out _ hmem wr hO;have HC:=zh hcall;have HN:=zh hN;clear hc hcall hmem hN;generalize hx:xs.getD k 0=x at*;have HX:=zh hx;clear hx;cases hpx:p x
   ·have HPX:=zh hpx;clear hpx;go_wp2_with fail;refine HC.out.mono ?_;rintro e w2 ⟨rfl,O2⟩;rw[HPX.out];go_wp2_with fail;go_roundw;case rel=>
     refine⟨k+1,by go_num,by omega,fun j hj=>?_,hO.same O2⟩;rcases yK j k with h1|h1;·exact HN.out j h1
     rw[show j=k by omega,HX.out];exact HPX.out
    case measure=>simp[intOf];omega
   have HPX:=zh hpx;clear hpx;go_wp2_with fail;refine HC.out.mono ?_;rintro e w2 ⟨rfl,O2⟩;rw[HPX.out];go_wp2_with fail;go_ret;refine⟨?_,hO.same O2⟩;rw[abB HN.out c (by rw[HX.out];exact HPX.out)];rfl
  have hk':k=xs.length:=by omega
  subst hk';have HN:=zh hN;clear hN;go_wp2_with fail;go_ret;refine⟨?_,hO⟩;rw[Zy HN.out];rfl
theorem afc(p:Int->Bool)(xs:List Int):decide (0<=SK p xs)=xs.any p:=by
 unfold SK;cases h:xs.any p;·simp
 simp
theorem rV{w:World}{v:Value}{xs:List Int}(hI:Ints w v xs)(g:Nat)(cb:Array Value)(p:Int->Bool)(eg:∀args w,(callFunc g args).run Tryz.prog w= .ok (.enter g args) w)(hp:abA w g cb p xs)(r:Bool)(hr:xs.any p=r):Calls Tryz.prog 221 #[v,.func (.func g) #[] cb] w fun e w'=>e= .returned (.bool r)/\O0 w w':=by subst hr;rw[<-afc];have hcon:=Nh hI g cb p eg hp;have HC:=zh hcon;clear hcon hp;generalize SK p xs=z at*;go_enter Tryz.func221,Tryz.ntmps221;go_wp2_with fail;refine HC.out.mono ?_;rintro e w2 ⟨rfl,O2⟩;go_wp2_with fail;go_ret;exact⟨rfl,O2⟩
def V8(w:World)(v v':Value):Prop:= ∀k,v'.ownBlock=some k->v.ownBlock=some k\/w.heap.size<=k
theorem akt{P:Program}{w:World}{ops:Array Oper}{rest:List Oper}{o:Oper}{a:Act}{Q:Exit->Act->World->Prop}{t e:TypeId}{bytes:Nat}(T:Az P t e 1 bytes)
  (hgd:o.guard=none) (s x:Operand)
  (ho:o.op= .call {callee:=.builtin .append,args:= #[s,x],argTypes:= #[t,t]})
  {v:Value} {n:Nat} {xs:List Value} (hs:a.eval s=v) (hown:w.ownsRow 0 e 1 v n xs)
  {ao:Option Addr} {m c:Nat} {news:List Value} (hx:a.eval x= .slice ao m c) (hl:news.length=m) (hnone:ao=none->m=0/\c=0) (hnews:∀ad,ao=some ad->∀j u,news[j]? =some u->w.cell? (ad.add j)=some u) (h1:∀u∈news,u.oneCell'=true)
  (h63:n+m<=1099511627776) (hbytes:bytes<=64)
  (h:∀v' w',w'.ownsRow 0 e 1 v' (n+m) (xs++news)->Only (fun k=>v.ownBlock=some k) w w'->V8 w v v'->wpList P ops Q rest (a.put o.dst v') w'):wpList P ops Q (o::rest) a w:=by
 cases ao with
 |none=>
  obtain⟨rfl,rfl⟩:=hnone rfl
  have hn:news=[]:=yF hl
  subst hn
  obtain⟨i,z,h2,h3,h4,h5,h6⟩:=T.info
  refine wpList_plain hgd fun K hK=>?_
  have hr:=run_append_owned_none (P:=P) w 0 t o.type e i 1 T.und h2 v n xs hown
  unfold Oper.wp execOp
  simp only[ho,resolve,invoke,builtin,Sem.run_bind,Sem.run_pure,Result.andThen_ok,List.map_toArray,List.map_cons,List.map_nil,hs,hx,hr]
  exact hK _ _ (h v w (by simpa using hown) (Only.refl _ _) (fun k hk=>.inl hk))
 |some ad=>
  refine wpA T hgd s x ho (news:=news) hs hown hx zAB (hnews ad rfl) h1 zBY ?_ ?_
  ·have:(n+m)*bytes<=1099511627776*64:=Nat.mul_le_mul h63 hbytes
   omega
  ·intro v' w' r1 r2 r3 r4
   exact h v' w' r1 ((Only.refl _ w).grown r2 fun k hk=>.inl hk) r3
theorem Ints.news{w:World}{ao:Option Addr}{len cap:Nat}{xs:List Int}(h:Ints w (.slice ao len cap) xs):∀ad,ao=some ad->∀j u,(xs.map (Value.int .i64))[j]? =some u->w.cell? (ad.add j)=some u:=by
 intro ad had j u hu;have hj:j<xs.length:=by have:=(qJ.1 hu).1;simpa using this
 exact zDO
theorem SL(xs:List Int):∀u∈xs.map (Value.int .i64),u.oneCell'=true:=ints_oneCell .i64 xs
theorem lY:Az Tryz.prog 78 3 1 8:=Az.mk' (z:=.int .i64 0) Tryz.underlying78 zk rfl zAD
theorem SQ(w:World):(w.alloc (.cells #[] 3)).ownsRow 0 3 1 (.slice (some ⟨w.heap.size,0,none⟩) 0 0) 0 []:=World.ownsRow_lit (base:=0) (e:=3) (size:=1) w #[] 0 (qE _) zBY zAF
theorem cell_new0(w:World)(u:Value)(t:TypeId):(w.alloc (.cells #[u] t)).cell? ⟨w.heap.size,0,none⟩=some u:=by simp
abbrev dF:Value:=.slice none 0 0
structure Cells (w:World) (v:Value) (us:List Value):Prop where
 shape:∃ao cap,v= .slice ao us.length cap/\us.length<=cap/\cap<=9223372036854775807
 cells:∀ao len cap,v= .slice ao len cap->0<us.length->∃b off,ao=some ⟨b,off,none⟩/\b<w.heap.size/\∀i,i<us.length->w.cell? ⟨b,off+i,none⟩=some (us.getD i dF)
 nil:∀len cap,v= .slice none len cap->len=0/\cap=0
theorem Cells.only{w w':World}{v:Value}{us:List Value}{F:Nat->Prop}(h:Cells w v us)(ho:Only F w w')(hF:∀b,Value.blk v=some b->¬F b):Cells w' v us:=by refine⟨h.shape,fun ao len cap hv hp=>?_,h.nil⟩;exact zCy
theorem Cells.aH{w w':World}{v:Value}{us:List Value}(h:Cells w v us)(ho:O0 w w'):Cells w' v us:=h.only ho (fun _ _ f=>f)
theorem Cells.dV{w:World}{v:Value}{us:List Value}{t:TypeId}(h:w.ownsRow 0 t 1 v us.length us):Cells w v us:=by obtain⟨ao,cap,rfl,h1,h2⟩:=aJ h;unfold maxLen at h2;refine⟨⟨ao,cap,rfl,h1,by omega⟩,fun ao' len' cap' hv hp=>?_,fun len' cap' hv=>by rw[hv]at h;exact P6 h⟩;exact zCJ
theorem Cells.news{w:World}{ao:Option Addr}{len cap:Nat}{us:List Value}(h:Cells w (.slice ao len cap) us):∀ad,ao=some ad->∀j u,us[j]? =some u->w.cell? (ad.add j)=some u:=by intro ad had j u hu;have hj:j<us.length:=(qJ.1 hu).1;exact zDO
def jR(w:World)(us:List Value)(css:List (List Int)):Prop:=us.length=css.length/\∀i,i<css.length->Ints w (us.getD i dF) (css.getD i [])
theorem jR.aH{w w':World}{us:List Value}{css:List (List Int)}(h:jR w us css)(ho:O0 w w'):jR w' us css:=⟨h.1,fun i hi=>(h.2 i hi).aH ho⟩
theorem rW{α:Type}(xs ys:List α)(d:α){i:Nat}(h:i<xs.length):(xs++ys).getD i d=xs.getD i d:=by simp only[qC];rw[yM h]
theorem rX{α:Type}(xs ys:List α)(d:α){i:Nat}(h:xs.length<=i):(xs++ys).getD i d=ys.getD (i-xs.length) d:=by simp only[qC];rw[yN h]
theorem jR.snoc{w:World}{us:List Value}{css:List (List Int)}(h:jR w us css){u:Value}{c:List Int}(hu:Ints w u c):jR w (us++[u]) (css++[c]):=by
 refine⟨by simp[h.1],fun i hi=>?_⟩;have hl:=h.1;by_cases hi':i<css.length;·rw[rW _ _ _ zAB,rW _ _ _ hi'];exact h.2 i hi'
 have:i=css.length:=by simp at hi;omega
 subst this;rw[rX _ _ _ zBU,rX _ _ _ zAB,hl];simpa using hu
theorem jR.one{w:World}{us:List Value}{css:List (List Int)}(h:jR w us css):∀u∈us,u.oneCell'=true:=by intro u hu;obtain⟨i,hi,rfl⟩:=List.getElem_of_mem hu;have:=h.2 i (by rw[<-h.1];exact hi);rw[qC,qA hi]at this;obtain⟨ao,cap,e,-⟩:=this.shape;simp only[Option.getD_some]at e;rw[e];rfl
def tH(w:World)(v:Value)(css:List (List Int)):Prop:= ∃us,Cells w v us/\jR w us css
theorem tH.aH{w w':World}{v:Value}{css:List (List Int)}(h:tH w v css)(ho:O0 w w'):tH w' v css:=by obtain⟨us,h1,h2⟩:=h;exact⟨us,h1.aH ho,h2.aH ho⟩
theorem tH.shape{w:World}{v:Value}{css:List (List Int)}(h:tH w v css):∃ao cap,v= .slice ao css.length cap/\css.length<=cap/\cap<=9223372036854775807:=by obtain⟨us,h1,h2⟩:=h;rw[<-h2.1];exact h1.shape
theorem tH.at{w:World}{ao:Option Addr}{len cap:Nat}{css:List (List Int)}(h:tH w (.slice ao len cap) css){k:Nat}(hk:k<css.length):∃b off u,ao=some ⟨b,off,none⟩/\b<w.heap.size/\w.cell? ⟨b,off+k,none⟩=some u/\Ints w u (css.getD k []):=by obtain⟨us,h1,h2⟩:=h;obtain⟨b,off,rfl,hb,hc⟩:=h1.cells _ _ _ rfl (by rw[h2.1];omega);exact⟨b,off,_,rfl,hb,hc k (by rw[h2.1];exact hk),h2.2 k hk⟩
theorem Wh:Az Tryz.prog 66 78 1 24:=Az.mk' (z:=dF) Tryz.underlying66 zk rfl zAD
theorem mW{α:Type}{xs:List α}{k:Nat}(d:α)(h:k<xs.length):xs.getD k d∈xs:=by rw[qC,qA h];exact qZ h
abbrev Tag:=Nat->Nat×Nat
def Agree(w:World)(g g':Tag):Prop:= ∀k,k<w.heap.size->g' k=g k
theorem Agree.refl(w:World)(g:Tag):Agree w g g:=fun _ _=>rfl
theorem Agree.trans{w w1:World}{g g1 g2:Tag}(h:Agree w g g1)(h1:Agree w1 g1 g2)(hs:w.heap.size<=w1.heap.size):Agree w g g2:=fun k hk=>(h1 k zAB).trans (h k hk)
def rM(w:World)(g:Tag):Prop:= ∀k,w.heap.size<=k->(g k).1=0
theorem rM.more{w w':World}{g:Tag}(h:rM w g)(hs:w.heap.size<=w'.heap.size):rM w' g:=fun k hk=>h k zAB
def Tag.put(g:Tag)(lo hi:Nat)(t:Nat×Nat):Tag:=fun k=>if lo<=k/\k<hi then t else g k
theorem Tag.wX(g:Tag){lo hi k:Nat}(t:Nat×Nat)(h:k<lo):Tag.put g lo hi t k=g k:=by unfold Tag.put;rw[if_neg zAB]
theorem Tag.zJ(g:Tag){lo hi k:Nat}(t:Nat×Nat)(h:lo<=k)(h2:k<hi):Tag.put g lo hi t k=t:=by unfold Tag.put;rw[if_pos ⟨h,h2⟩]
theorem Tag.Jw(g:Tag){lo hi k:Nat}(t:Nat×Nat)(h:hi<=k):Tag.put g lo hi t k=g k:=by unfold Tag.put;rw[if_neg zAB]
theorem Agree.put{w:World}(g:Tag){lo hi:Nat}(t:Nat×Nat)(h:w.heap.size<=lo):Agree w g (Tag.put g lo hi t):=fun k hk=>Tag.wX g t zAB
theorem rM.put{w w':World}{g:Tag}{lo:Nat}(t:Nat×Nat)(h:rM w g)(hs:w.heap.size<=w'.heap.size):rM w' (Tag.put g lo w'.heap.size t):=
 fun k hk=>by rw[Tag.Jw _ _ hk];exact h k zAB
structure Row (w:World) (g:Tag) (t:Nat×Nat) (e:TypeId) (v:Value) (xs:List Value):Prop where
 own:w.ownsRow 0 e 1 v xs.length xs
 tg:∀k,v.ownBlock=some k->g k=t
section
variable {w w':World} {g g':Tag} {t t':Nat×Nat} {e:TypeId} {v:Value} {xs:List Value}
theorem Row.keep(h:Row w g t e v xs){F:Nat->Prop}(ho:Only F w w')(hF:∀k,g k=t->¬F k)(hg:Agree w g g'):Row w' g' t e v xs:=⟨aG h.own ho fun k hk=>hF k (h.tg k hk),fun k hk=>(hg k (dP h.own hk)).trans (h.tg k hk)⟩
theorem Row.only(h:Row w g t e v xs){F:Nat->Prop}(ho:Only F w w')(hF:∀k,g k=t->¬F k):Row w' g t e v xs:=h.keep ho hF (Agree.refl _ _)
theorem Row.alloc(h:Row w g t e v xs)(o:Obj):Row (w.alloc o) g t e v xs:=h.only ((Only.refl (fun _=>False) _).alloc o) (fun _ _ f=>f)
theorem Row.drewN(h:Row w g t e v xs)(n:Nat):Row (w.drewN n) g t e v xs:=h.only ((Only.refl (fun _=>False) _).drewN n) (fun _ _ f=>f)
theorem Row.drew(h:Row w g t e v xs):Row w.drew g t e v xs:=h.only ((Only.refl (fun _=>False) _).drew) (fun _ _ f=>f)
theorem Row.far(h:Row w g t e v xs){p:Addr}(hp:g p.block≠t)(u:Value):Row (w.setCell p u) g t e v xs:=
 h.only (F:=fun k=>k=p.block) (Only.setCell (Only.refl (fun k=>k=p.block) w) (p:=p) (.inl rfl) u) (fun k hk hF=>hp (by rw[<-hF];exact hk))
theorem Row.shape(h:Row w g t e v xs):∃ao cap,v= .slice ao xs.length cap/\xs.length<=cap/\cap<=maxLen:=aJ h.own
theorem Row.pos(h:Row w g t e v xs)(hn:0<xs.length):∃b cap,v= .slice (some ⟨b,0,none⟩) xs.length cap/\xs.length<=cap/\cap<=maxLen/\g b=t/\b<w.heap.size:=by obtain⟨b,cap,rfl,h1,h2⟩:=dU h.own hn;exact⟨b,cap,rfl,h1,h2,h.tg b rfl,dP h.own rfl⟩
theorem Row.len{ao:Option Addr}{n cap:Nat}(h:Row w g t e (.slice ao n cap) xs):n=xs.length:=by obtain⟨_,_,he,_⟩:=h.shape;simp only[qU]at he;exact he.2.1
theorem Row.cell{b n cap:Nat}(h:Row w g t e (.slice (some ⟨b,0,none⟩) n cap) xs)(d:Value){i:Nat}(hi:i<xs.length):w.cell? ⟨b,i,none⟩=some (xs.getD i d):=by have hn:=h.len;subst hn;rw[h.own.cellAt i zAB];simp[List.getD,qA hi]
theorem Row.free{b n cap:Nat}(h:Row w g t e (.slice (some ⟨b,0,none⟩) n cap) xs)(i:Nat):w.frozen? ⟨b,i,none⟩=false:=by have hn:=h.len;subst hn;exact h.own.frozenAt i
theorem Row.store{b n cap:Nat}(h:Row w g t e (.slice (some ⟨b,0,none⟩) n cap) xs)(i:Nat)(u:Value):Row (w.setCell ⟨b,i,none⟩ u) g t e (.slice (some ⟨b,0,none⟩) n cap) (xs.set i u):=by have hn:=h.len;subst hn;refine⟨?_,h.tg⟩;have:=(h.own.stored i u).1;simpa using this
theorem Row.nil(w:World)(g:Tag)(t:Nat×Nat)(e:TypeId):Row w g t e dF []:=⟨World.ownsRow_nil _ _ _ _,fun k hk=>by simp[Value.ownBlock]at hk⟩
theorem Row.ints{ys:List Int}(h:Row w g t 3 v (ys.map cI))(hr:∀x∈ys,bg x):Ints w v ys:=Ints.dV (by simpa using h.own) hr
theorem Row.blk(h:Row w g t e v xs):∀k,Value.blk v=some k->g k=t:=by
 intro k hk;obtain⟨ao,cap,rfl,h1,h2⟩:=h.shape;rcases h.own.2 with⟨h',_⟩| ⟨g',cap',cur,h',hb,hg,h1,h2,h3,htake⟩;·rw[h']at hk;simp[Value.blk]at hk
 rw[h']at hk;simp[Value.blk]at hk;subst hk;exact h.tg _ (by rw[h'];rfl)
theorem Row.app{P:Program}{u:Value}{ops:Array Oper}{rest:List Oper}{o:Oper}{a:Act}{Q:Exit->Act->World->Prop}{tt:TypeId}{bytes:Nat}(T:Az P tt e 1 bytes)
  (hgd:o.guard=none) (s x:Operand)
  (ho:o.op= .call {callee:=.builtin .append,args:= #[s,x],argTypes:= #[tt,tt]})
  {gb:Nat} (hs:a.eval s=v) (hx:a.eval x= .slice (some ⟨gb,0,none⟩) 1 1) (hc:w.cell? ⟨gb,0,none⟩=some u) (hu:u.oneCell'=true) (h:Row w g t e v xs)
  (h63:xs.length+1<=1099511627776) (hbytes:bytes<=64)
  (hK:∀v' w',Row w' (Tag.put g w.heap.size w'.heap.size t) t e v' (xs++[u])->Only (fun k=>g k=t) w w'->wpList P ops Q rest (a.put o.dst v') w'):
  wpList P ops Q (o::rest) a w:=by
 refine AL T hgd s x ho hs hx hc hu h.own h63 hbytes ?_
 intro v' w' r1 r2 r3
 refine hK v' w' ⟨by simpa using r1,fun k hk=>?_⟩ (r2.mono fun k hk=>h.tg k hk)
 obtain⟨b,cap,rfl,_,_,hh⟩:=r3
 simp[Value.ownBlock]at hk
 subst hk
 rcases hh with hh|hh
 ·rw[Tag.wX _ _ (dP h.own hh)];exact h.tg _ hh
 ·exact Tag.zJ _ _ hh (dP r1 rfl)
theorem Row.step{P:Program}{u:Value}{ops:Array Oper}{o:Oper}{a:Act}{K:Act->World->Prop}{Q:Exit->Act->World->Prop}{E:Prop}{tt:TypeId}{bytes:Nat}(T:Az P tt e 1 bytes)
  (hgd:o.guard=none) (s x:Operand)
  (ho:o.op= .call {callee:=.builtin .append,args:= #[s,x],argTypes:= #[tt,tt]})
  {gb:Nat} (hs:a.eval s=v) (hx:a.eval x= .slice (some ⟨gb,0,none⟩) 1 1) (hc:w.cell? ⟨gb,0,none⟩=some u) (hu:u.oneCell'=true) (h:Row w g t e v xs)
  (h63:xs.length+1<=1099511627776) (hbytes:bytes<=64)
  (hK:∀bb cap w',Row w' (Tag.put g w.heap.size w'.heap.size t) t e (.slice (some ⟨bb,0,none⟩) (xs.length+1) cap) (xs++[u])->Only (fun k=>g k=t) w w'->K (a.put o.dst (.slice (some ⟨bb,0,none⟩) (xs.length+1) cap)) w'):
  if Region.wanted o (yielded ops a.tmps)=true then Oper.wp P o a w K Q else E:=by
 rw[if_pos zBA]
 obtain⟨v',w',hr,r1,r2,r3,r4⟩:=mV (P:=P) (ty:=o.type) w T v xs.length xs h.own ⟨gb,0,none⟩ 1 1 [u] rfl (by
  intro j x hj
  match j,hj with
  |0,hj=>
   simp at hj;subst hj
   simpa[Addr.add]using hc) (by intro x hxm;simp at hxm;subst hxm;exact hu) zAS (by
  have:(xs.length+1)*bytes<=1099511627776*64:=Nat.mul_le_mul h63 hbytes
  omega)
 unfold Oper.wp execOp
 simp only[ho,resolve,invoke,builtin,Sem.run_bind,Sem.run_pure,Result.andThen_ok,List.map_toArray,List.map_cons,List.map_nil,hs,hx,hr]
 obtain⟨bb,cap,rfl,hc1,hc2⟩:=dU r1 zAB
 refine hK bb cap w' ⟨by simpa using r1,fun k hk=>?_⟩ (((Only.refl _ w).grown r2 fun k hk=>.inl hk).mono fun k hk=>h.tg k hk)
 exact zDg
end
theorem aY{w w':World}{F:Nat->Prop}{b i:Nat}{u:Value}(h:w.cell? ⟨b,i,none⟩=some u)(ho:Only F w w')(hb:¬F b):w'.cell? ⟨b,i,none⟩=some u:=by rw[World.cell?_of_block (w:=w) (ho.block b (World.block_lt_of_cell? w _ h) hb)];exact h
theorem rY{w w':World}{F:Nat->Prop}{b i:Nat}{u:Value}(h:w.cell? ⟨b,i,none⟩=some u)(hf:w.frozen? ⟨b,i,none⟩=false)(ho:Only F w w')(hb:¬F b):w'.frozen? ⟨b,i,none⟩=false:=by have:=ho.block b (World.block_lt_of_cell? w _ h) hb;unfold World.frozen? at*;rw[this];exact hf
theorem GU(w:World)(u:Value)(t:TypeId)(n:Nat)(h:n=w.heap.size):(w.alloc (.cells #[u] t)).cell? ⟨n,0,none⟩=some u:=by subst h;simp
abbrev Mine(g:Tag):Nat->Prop:=fun k=>(g k).1≠0
theorem Only.mine{g:Tag}{w w1 w2:World}{g1:Tag}(h:Only (Mine g) w w1)(hg:Agree w g g1)(h1:Only (Mine g1) w1 w2):Only (Mine g) w w2:=
 h.trans h1 fun i hi=>by
  by_cases c:i<w.heap.size
  ·left;unfold Mine at*;rw[hg i c]at hi;exact hi
  ·right;omega
def Tagged(g:Tag)(t:Nat×Nat)(v:Value)(xs:List Int):Prop:=0<xs.length->∀k,Value.blk v=some k->g k=t
def wY(g:Tag)(v:Value)(xs:List Int):Prop:=0<xs.length->∀k,Value.blk v=some k->(g k).1=0
theorem Ints.only'{w w':World}{v:Value}{xs:List Int}{F:Nat->Prop}(h:Ints w v xs)(ho:Only F w w')(hF:0<xs.length->∀b,Value.blk v=some b->¬F b):Ints w' v xs:=by refine⟨h.shape,fun ao len cap hv hp=>?_,h.range,h.nil⟩;obtain⟨b,off,rfl,hb,hc⟩:=h.cells ao len cap hv hp;refine⟨b,off,rfl,Nat.lt_of_lt_of_le hb ho.size,fun i hi=>?_⟩;rw[World.cell?_of_block (w:=w) (ho.block b hb (hF hp b (by rw[hv];rfl)))];exact hc i hi
theorem Ints.mine{w w':World}{g:Tag}{v:Value}{xs:List Int}(h:Ints w v xs)(hn:wY g v xs)(ho:Only (Mine g) w w'):Ints w' v xs:=h.only' ho fun hp b hb hF=>hF (hn hp b hb)
theorem Ints.EL{w w':World}{g:Tag}{t:Nat×Nat}{v:Value}{xs:List Int}{F:Nat->Prop}(h:Ints w v xs)(ht:Tagged g t v xs)(ho:Only F w w')(hF:∀k,g k=t->¬F k):Ints w' v xs:=h.only' ho fun hp b hb=>hF b (ht hp b hb)
theorem Ints.lt{w:World}{v:Value}{xs:List Int}(h:Ints w v xs)(hp:0<xs.length){k:Nat}(hk:Value.blk v=some k):k<w.heap.size:=by obtain⟨ao,cap,rfl,_,_⟩:=h.shape;obtain⟨b,off,rfl,hb,_⟩:=h.cells _ _ _ rfl hp;simp[Value.blk]at hk;omega
theorem Tagged.agree{w:World}{g g':Tag}{t:Nat×Nat}{v:Value}{xs:List Int}(ht:Tagged g t v xs)(h:Ints w v xs)(hg:Agree w g g'):Tagged g' t v xs:=fun hp k hk=>(hg k (h.lt hp hk)).trans (ht hp k hk)
theorem wY.agree{w:World}{g g':Tag}{v:Value}{xs:List Int}(ht:wY g v xs)(h:Ints w v xs)(hg:Agree w g g'):wY g' v xs:=
 fun hp k hk=>by rw[hg k (h.lt hp hk)];exact ht hp k hk
theorem jR.EL{w w':World}{us:List Value}{css:List (List Int)}(h:jR w us css){g:Tag}{t:Nat×Nat}{F:Nat->Prop}(ht:∀i,i<css.length->Tagged g t (us.getD i dF) (css.getD i []))(ho:Only F w w')(hF:∀k,g k=t->¬F k):jR w' us css:=⟨h.1,fun i hi=>(h.2 i hi).EL (ht i hi) ho hF⟩
abbrev eF:= @List.getElem_toArray
abbrev fA:= @List.getElem_cons_succ
abbrev eG:= @List.getElem_cons_zero
abbrev dW:= @List.setIfInBounds_toArray
abbrev dX:= @List.set_cons_zero
abbrev dY:= @List.set_cons_succ
theorem zr{F:Nat->Prop}{w:World}:Only F w w:=Only.refl F w
end Go.Proofs.YtdmmebjjojimiaaGreatDoor
