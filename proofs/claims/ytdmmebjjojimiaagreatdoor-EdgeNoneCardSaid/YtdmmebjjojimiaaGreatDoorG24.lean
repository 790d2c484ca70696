/- Package edge: a ground with what it is of, and the second part under way, in memory.; slices.Sort and slices.Compact at strings, laid. Printed by gen_ednl.py. -/
import Derived.Test.YtdmmebjjojimiaaGreatDoorG23
set_option maxRecDepth 100000
set_option maxHeartbeats 8000000
set_option linter.all false
namespace Go.Proofs
theorem zBB{p:Prop}(h:p:=by unfold Mine;omega):p:=h
theorem zC2{p:Prop}(h:p:=by
 obtain⟨V,hV⟩:=H.gx.gr.tab
 obtain⟨U,hU⟩:=H.gx.gr.Jy
 rcases yK k w.heap.size with hlt|hge
 ·exact hlt
 ·rcases hk with hk|hk
  ·exact absurd (hV.fresh k hge) hk
  ·exact absurd (hU.fresh k hge) hk):p:=h
theorem zDR{p:Prop}(h:p:=by
 obtain⟨ZH,ZI,gp2,H2,A2,V6,aif,O2⟩:=h2
 exact⟨ZH,ZI,gp2,H2,ht.trans A2 ho.size,hb.trans V6 ho.size,hp.trans aif ho.size,ho.zZ ht hb hp O2⟩):p:=h
theorem zDu{p:Prop}(h:p:=by
 obtain⟨gt',gb',nM,H2,A1,A2,A3,O⟩:=h
 exact⟨gt',gb',nM,H2.aN o,A1,A2,A3,O.same (o.mono fun _ f=>f.elim)⟩):p:=h
theorem zEJ{p:Prop}(h:p:=by
 rcases yK k w.heap.size with hlt|hge
 ·exact H.low k ((hM k hlt).1 hk)
 ·exact qR H.gx.le hge):p:=h
end Go.Proofs
namespace Go.Proofs.YtdmmebjjojimiaaGreatDoor
open Go.RowKit
structure Dn where
 x:aH
 q:fV
 l:List Nat
 rs:List dH
 names:List Str
def zY(B:Nat)(w:World):Prop:= ∀w',Kp B w w'->Laid w'
theorem zY.now{B:Nat}{w:World}(h:zY B w):Laid w:=h w zr
theorem zY.keep{B:Nat}{w w1:World}(h:zY B w)(k:Kp B w w1):zY B w1:=fun w' k'=>h w' (k.same k')
theorem zY.of{B:Nat}{w:World}(h:Laid w)(hB:w.heap.size<=B):zY B w:=fun w' k=>h.only (k.trans' fun i hi=>qR hB hi)
theorem zY.more{B B':Nat}{w:World}(h:zY B w)(hB:B<=B'):zY B' w:=fun w' k=>h w' (k.mono fun i hi=>qR hB hi)
def iQ(T:Tab):Prop:= ∀j,j<T.helps->hA j∈T.l
theorem iQ.num{T:Tab}(h:iQ T)(x:At):iQ (T.num x).1:=by
 unfold Tab.num;split;·exact h
 split;·exact h
 exact fun j hj=>List.mem_append_left _ (h j hj)
structure DV (w:World) (gt gb:Tag) (c bt bb:Nat) (G:NU) (Bs:Nat) (D:Dn) (S:TB):Prop where
 gr:nD w gt gb c bt bb G S.1 S.2
 BI:jl Bs w [G.x1,G.x2] D.x
 LQ:mV Bs w [G.q] D.q
 l:Ints w G.l (intsOf D.l)
 lb:∀k,Value.blk G.l=some k->k<Bs
 rl:aQ 4 uP Bs w G.r D.rs
 low:∀k,Mine gt k\/Mine gb k->Bs<=k
 le:Bs<=w.heap.size
 laid:zY Bs w
 hinv:iQ S.1
section
variable {w w':World} {gt gb gp:Tag} {c bt bb:Nat} {G:NU} {Bs:Nat} {D:Dn} {S:TB}
theorem Kp.yS{F:Nat->Prop}(ho:Only F w w')(h:∀k,F k->Bs<=k):Kp Bs w w':=ho.mono h
theorem DV.keep(H:DV w gt gb c bt bb G Bs D S){F:Nat->Prop}(ho:Only F w w')(hF:∀k,F k->Bs<=k)(h1:∀k,Mine gt k\/Mine gb k->¬F k)(h2:¬F c):DV w' gt gb c bt bb G Bs D S:=
 ⟨H.gr.only ho h1 h2,jl.keep H.BI (Kp.yS ho hF),mV.keep H.LQ (Kp.yS ho hF),H.l.only' ho (fun _ k hk hf=>by have:=H.lb k hk;have:=hF k hf;omega),H.lb,H.rl.keep uP.keep (Kp.yS ho hF),H.low,qR H.le ho.size,H.laid.keep (Kp.yS ho hF),H.hinv⟩
theorem DV.aN(H:DV w gt gb c bt bb G Bs D S)(ho:O0 w w'):DV w' gt gb c bt bb G Bs D S:=H.keep ho (fun _ f=>f.elim) (fun _ _ f=>f) (fun f=>f)
def fE(w:World)(gt gb:Tag)(c bt bb:Nat)(G:NU)(Bs:Nat)(D:Dn)(S:TB)(w':World):Prop:=
 ∃gt' gb',DV w' gt' gb' c bt bb G Bs D S/\Agree w gt gt'/\Agree w gb gb'/\Only (fun k=>Mine gt k\/Mine gb k) w w'
theorem DV.step(H:DV w gt gb c bt bb G Bs D S){S2:TB}(h:jT w gt gb c bt bb G S2.1 S2.2 w')(hi:iQ S2.1):fE w gt gb c bt bb G Bs D S2 w':=by
 obtain⟨gt',gb',H2,A1,A2,O⟩:=h;refine⟨gt',gb',⟨H2,jl.keep H.BI (Kp.yS O H.low),mV.keep H.LQ (Kp.yS O H.low),H.l.only' O (fun _ k hk hf=>by have:=H.lb k hk;have:=H.low k hf;omega),H.lb,H.rl.keep uP.keep (Kp.yS O H.low),fun k hk=>?_,qR H.le O.size,H.laid.keep (Kp.yS O H.low),hi⟩,A1,A2,O⟩;rcases yK k w.heap.size with hlt|hge;·refine H.low k ?_;unfold Mine at hk⊢;rwa[A1 k hlt,A2 k hlt]at hk
 exact qR H.le hge
theorem fE.gr(h:fE w gt gb c bt bb G Bs D S w'):jT w gt gb c bt bb G S.1 S.2 w':=by obtain⟨gt',gb',H2,A1,A2,O⟩:=h;exact⟨gt',gb',H2.gr,A1,A2,O⟩
theorem fE.refl(H:DV w gt gb c bt bb G Bs D S):fE w gt gb c bt bb G Bs D S w:=⟨gt,gb,H,Agree.refl _ _,Agree.refl _ _,Only.refl _ _⟩
theorem fE.trans{w1 w2:World}{kF lV:Tag}(ht:Agree w gt kF)(hb:Agree w gb lV)(ho:Only (fun k=>Mine gt k\/Mine gb k) w w1){S2:TB}(h2:fE w1 kF lV c bt bb G Bs D S2 w2):fE w gt gb c bt bb G Bs D S2 w2:=by exact zD2
theorem fE.after{w1 w2:World}(o1:O0 w w1){S2:TB}(h:fE w1 gt gb c bt bb G Bs D S2 w2):fE w gt gb c bt bb G Bs D S2 w2:=fE.trans (Agree.refl _ _) (Agree.refl _ _) (o1.mono fun _ f=>f.elim) h
theorem fE.Qn{w1 w2:World}(h:fE w gt gb c bt bb G Bs D S w1)(o:O0 w1 w2):fE w gt gb c bt bb G Bs D S w2:=by obtain⟨gt',gb',H2,A1,A2,O⟩:=h;exact⟨gt',gb',H2.aN o,A1,A2,O.same (o.mono fun _ f=>f.elim)⟩
theorem fE.cell(h:fE w gt gb c bt bb G Bs D S w'){b i:Nat}{u:Value}(hc:w.cell? ⟨b,i,none⟩=some u)(h1:¬Mine gt b)(h2:¬Mine gb b):w'.cell? ⟨b,i,none⟩=some u:=by obtain⟨gt',gb',H2,A1,A2,O⟩:=h;exact dh hc O (fun hh=>hh.elim h1 h2)
end
section
variable {w2 wr:World} {kF lV:Tag} {c bt bb:Nat} {G:NU} {Bs:Nat} {D:Dn} {S:TB}
def kH(w2:World)(kF lV:Tag)(c bt bb:Nat)(G:NU)(Bs:Nat)(D:Dn)(S:TB)(wr:World)(v:Value)(xs:List Int):Prop:=
 ∃gt' gb',DV wr gt' gb' c bt bb G Bs D S/\Agree w2 kF gt'/\Agree w2 lV gb'/\Only (fun k=>Mine kF k\/Mine lV k) w2 wr/\wr.ownsRow 0 3 1 v xs.length (xs.map cI)/\Beside wr gt' gb' c v/\(∀k,v.ownBlock=some k->w2.heap.size<=k)/\Bs<=w2.heap.size
theorem kH.start(hB:Bs<=w2.heap.size)(h:fE w2 kF lV c bt bb G Bs D S wr):kH w2 kF lV c bt bb G Bs D S wr bP []:=by obtain⟨a,b,H,A,A',O⟩:=h;exact⟨a,b,H,A,A',O,World.ownsRow_nil _ _ _ _,(fun k hk=>by cases hk),(fun k hk=>by cases hk),hB⟩
theorem kH.gr{v:Value}{xs:List Int}(h:kH w2 kF lV c bt bb G Bs D S wr v xs):fE w2 kF lV c bt bb G Bs D S wr:=by obtain⟨a,b,H,A,A',O,-,-,-,-⟩:=h;exact⟨a,b,H,A,A',O⟩
theorem kH.own{v:Value}{xs:List Int}(h:kH w2 kF lV c bt bb G Bs D S wr v xs):wr.ownsRow 0 3 1 v xs.length (xs.map cI):=by obtain⟨_,_,_,_,_,_,R,_⟩:=h;exact R
theorem kH.only{v:Value}{xs:List Int}(h:kH w2 kF lV c bt bb G Bs D S wr v xs):Only (fun k=>Mine kF k\/Mine lV k) w2 wr:=by obtain⟨_,_,_,_,_,O,_⟩:=h;exact O
theorem kH.aN{v:Value}{xs:List Int}(h:kH w2 kF lV c bt bb G Bs D S wr v xs){w3:World}(o:O0 wr w3):kH w2 kF lV c bt bb G Bs D S w3 v xs:=by obtain⟨a,b,H,A,A',O,R,S',N,hB⟩:=h;exact⟨a,b,H.aN o,A,A',O.same (o.mono fun _ f=>f.elim),aI R o (fun _ _ f=>f),S'.more o.size (Agree.refl _ _) (Agree.refl _ _),N,hB⟩
theorem kH.lit(hB:Bs<=w2.heap.size)(h:fE w2 kF lV c bt bb G Bs D S wr)(z:Int):kH w2 kF lV c bt bb G Bs D S (wr.alloc (.cells #[.int .i64 z] 3)) (.slice (some ⟨wr.heap.size,0,none⟩) 1 1) [z]:=by
 obtain⟨a,b,H,A,A',O⟩:=h;have o:=(Only.refl (fun _=>False) wr).alloc (.cells #[.int .i64 z] 3);refine⟨a,b,H.aN o,A,A',O.same (o.mono fun _ f=>f.elim),uO zCE,Beside.new H.gr o.size (fun k hk=>?_),fun k hk=>?_,hB⟩;·simp[Value.blk]at hk;subst hk;exact⟨qH _,by simp⟩
 simp[Value.ownBlock]at hk;subst hk;exact O.size
theorem kH.step{v:Value}{xs:List Int}{gt' gb':Tag}(A:Agree w2 kF gt')(A':Agree w2 lV gb')(O:Only (fun k=>Mine kF k\/Mine lV k) w2 wr)(R:wr.ownsRow 0 3 1 v xs.length (xs.map cI))(S':Beside wr gt' gb' c v)(N:∀k,v.ownBlock=some k->w2.heap.size<=k)(hB:Bs<=w2.heap.size){S2:TB}{w':World}(h2:fE wr gt' gb' c bt bb G Bs D S2 w'):kH w2 kF lV c bt bb G Bs D S2 w' v xs:=by
 obtain⟨a2,b2,H2,A2,V6,O2⟩:=h2;refine⟨a2,b2,H2,A.trans A2 O.size,A'.trans V6 O.size,O.GX A A' O2,aI R O2 fun k hk hm=>?_,S'.more O2.size A2 V6,N,hB⟩;have hk':Value.blk v=some k:=by exact zCp
 rcases hm with hm|hm;·exact(S' k hk').2.1 hm
 exact(S' k hk').2.2.1 hm
theorem kH.call{v:Value}{xs:List Int}(h:kH w2 kF lV c bt bb G Bs D S wr v xs){S2:TB}{f:FuncId}{args:Array Value}{u:Value}(hc:∀gt' gb',DV wr gt' gb' c bt bb G Bs D S->Calls Tryz.prog f args wr fun e w'=>e= .returned u/\fE wr gt' gb' c bt bb G Bs D S2 w'):Calls Tryz.prog f args wr fun e w'=>e= .returned u/\kH w2 kF lV c bt bb G Bs D S2 w' v xs:=by obtain⟨a,b,H,A,A',O,R,S',N,hB⟩:=h;exact(hc a b H).mono fun e w' ⟨he,h2⟩=>⟨he,kH.step A A' O R S' N hB h2⟩
theorem kH.app{v v':Value}{xs:List Int}(h:kH w2 kF lV c bt bb G Bs D S wr v xs){w3 w4:World}(o3:O0 wr w3){z:Int}(r:w4.ownsRow 0 3 1 v' (xs.length+1) (xs.map cI++[cI z]))(o:Only (fun k=>v.ownBlock=some k) w3 w4)(a:BN w3 v v' (xs.length+1)):kH w2 kF lV c bt bb G Bs D S w4 v' (xs++[z]):=by
 obtain⟨gt',gb',H,A,A',O,R,S',N,hB⟩:=h;have hbl:∀k,v.ownBlock=some k->Value.blk v=some k:=fun k hk=>by exact zCp
 have o4:Only (fun k=>v.ownBlock=some k) wr w4:=(o3.mono fun _ f=>f.elim).same o;have hlow:∀k,v.ownBlock=some k->Bs<=k:=fun k hk=>qR hB (N k hk);have H4:=H.keep o4 hlow (fun k hk hv=>by
  obtain⟨-,s1,s2,-⟩:=S' k (hbl k hv)
  rcases hk with hk|hk
  ·exact s1 hk
  ·exact s2 hk) (fun hv=>(S' c (hbl c hv)).2.2.2 rfl)
 refine⟨gt',gb',H4,A,A',O.trans o4 fun k hk=>.inr (N k hk),by simpa using r,fun k hk=>?_,fun k hk=>?_,hB⟩
 ·obtain⟨g,cap,rfl,-,-,hg⟩:=a;simp[Value.blk]at hk;subst hk;rcases hg with hg|hg;·obtain⟨s0,s1,s2,s3⟩:=S' g (hbl g hg);exact⟨by have:=o4.size;omega,s1,s2,s3⟩
  have hlt:g<w4.heap.size:=dX r rfl;have:=o3.size;obtain⟨V,hV⟩:=H.gr.tab;obtain⟨U,hU⟩:=H.gr.Jy;have hc:=dR H.gr.blk;exact zFN
 exact zDT
theorem kH.ints{v:Value}{xs:List Int}(h:kH w2 kF lV c bt bb G Bs D S wr v xs)(hx:∀z∈xs,0<=z/\z<=65536):∃gt' gb',DV wr gt' gb' c bt bb G Bs D S/\Agree w2 kF gt'/\Agree w2 lV gb'/\Only (fun k=>Mine kF k\/Mine lV k) w2 wr/\Ints wr v xs/\D6 gt' gb' v xs:=by obtain⟨a,b,H,A,A',O,R,S',-,-⟩:=h;exact⟨a,b,H,A,A',O,Ints.fH R fun z hz=>⟨by have:=hx z hz;omega,by have:=hx z hz;omega⟩,fun _ k hk=>⟨(S' k hk).2.1,(S' k hk).2.2.1⟩⟩
end
structure vV (w:World) (g:Tag) (τ:Nat) (sv:Value) (us:List Value) (ns:List (List Int)):Prop where
 len:us.length=ns.length
 row:Row w g (τ,0) 78 sv us
 rows:∀i,i<ns.length->Row w g (τ,i+1) 3 (us.getD i bP) ((ns.getD i []).map cI)
 rng:∀l∈ns,∀z∈l,bU z
theorem vV.keep{w w':World}{g g':Tag}{τ:Nat}{sv:Value}{us:List Value}{ns:List (List Int)}(h:vV w g τ sv us ns){F:Nat->Prop}(ho:Only F w w')(hF:∀k,(g k).1=τ->¬F k)(hg:Agree w g g'):vV w' g' τ sv us ns:=
 ⟨h.len,h.row.keep ho (fun k hk=>hF k (by rw[hk])) hg,fun i hi=>(h.rows i hi).keep ho (fun k hk=>hF k (by rw[hk])) hg,h.rng⟩
theorem vV.push{w w1:World}{g g1:Tag}{τ b m cap:Nat}{us:List Value}{ns:List (List Int)}(h:vV w g τ (.slice (some ⟨b,0,none⟩) m cap) us ns){n:Nat}(hn:n<ns.length)(hA:Agree w g g1)(ho:Only (fun k=>g k=(τ,n+1)) w w1){v':Value}{z:Int}(hz:bU z)(hr:Row w1 g1 (τ,n+1) 3 v' ((ns.getD n []).map cI++[cI z])):vV (w1.setCell ⟨b,n,none⟩ v') g1 τ (.slice (some ⟨b,0,none⟩) m cap) (us.set n v') (nU ns n z)/\Only (fun k=>(g1 k).1=τ) w1 (w1.setCell ⟨b,n,none⟩ v'):=by
 have hrow1:=h.row.keep ho (fun k hk hk2=>by rw[hk]at hk2;simp at hk2) hA;have hgb:g1 b=(τ,0):=hrow1.tg b rfl;have O:Only (fun k=>k=b) w1 (w1.setCell ⟨b,n,none⟩ v'):=Only.setCell (Only.refl (fun k=>k=b) w1) (p:=⟨b,n,none⟩) (.inl rfl) v';have hne:∀i k,g1 k=(τ,i+1)->¬k=b:=fun i k hk e=>by rw[e,hgb]at hk;simp at hk
 refine⟨⟨by unfold nU;simp[h.len],hrow1.store n v',fun i hi=>?_,fun l hl u hu=>?_⟩,O.mono fun k hk=>by rw[hk,hgb]⟩
 ·have hi':i<ns.length:=by unfold nU at hi;simpa using hi
  by_cases e:i=n
  ·subst e;have e1:(us.set i v').getD i bP=v':=by rw[qC,List.getElem?_set_self (by rw[h.len];exact hi')];rfl
   have e2:(nU ns i z).getD i []=ns.getD i []++[z]:=by unfold nU;rw[qC,List.getElem?_set_self hi'];rfl
   rw[e1,e2,List.map_append];exact hr.only O (hne i)
  have e1:(us.set n v').getD i bP=us.getD i bP:=by rw[qC,List.getElem?_set_ne (Ne.symm e),<-qC]
  have e2:(nU ns n z).getD i []=ns.getD i []:=by unfold nU;rw[qC,List.getElem?_set_ne (Ne.symm e),<-qC]
  rw[e1,e2];exact((h.rows i hi').keep ho (fun k hk hk2=>e (by rw[hk]at hk2;simpa using hk2)) hA).only O (hne i)
 unfold nU at hl;rcases List.mem_or_eq_of_mem_set hl with hl|rfl;·exact h.rng l hl u hu
 rcases qW.1 hu with hu|hu
 ·have:ns.getD n []∈ns:=by rw[qC,qA hn];exact qZ hn
  exact h.rng _ this u hu
 simp at hu;subst hu;exact hz
structure NV where
 c:Nat
 bt:Nat
 bb:Nat
 px:Nat
 m1:Nat
 m2:Nat
 G:NU
 nv:Value
 sv:Value
abbrev dF(gt gb gp:Tag):Nat->Prop:=fun k=>(Mine gt k\/Mine gb k)\/Mine gp k
structure jW (w:World) (gt gb gp:Tag) (X:NV) (Bs:Nat) (D:Dn) (E:ES):Prop where
 gx:DV w gt gb X.c X.bt X.bb X.G Bs D E.1
 of:∃val,sO KE w gp 1 X.m1 E.2.of val
 needs:∃us,vV w gp 2 X.sv us E.2.needs
 Kq:E.2.needs.length=D.names.length
 roots:∃val,sO KI w gp 3 X.m2 E.2.roots val
 blk:w.heap[X.px]? =some (.cells #[.pointer (some ⟨X.c,0,none⟩),X.nv,.map (some X.m1),X.sv,.map (some X.m2)] 153 (0,0))
 tp:¬dF gt gb gp X.px
 tc:(gp X.c).1=0
 names:w.ownsRow 0 9 1 X.nv D.names.length (fD D.names)
 nb:∀k,X.nv.ownBlock=some k->¬dF gt gb gp k
 nok:∀s∈D.names,okS s
 low:∀k,Mine gp k->Bs<=k
 Kw:∀k,Mine gt k\/Mine gb k->¬Mine gp k
 fresh:sV w gp
def bV(w:World)(gt gb gp:Tag)(X:NV)(Bs:Nat)(D:Dn)(E:ES)(w':World):Prop:=
 ∃gt' gb' nM,jW w' gt' gb' nM X Bs D E/\Agree w gt gt'/\Agree w gb gb'/\Agree w gp nM/\Only (dF gt gb gp) w w'
section
variable {w w':World} {gt gb gp:Tag} {X:NV} {Bs:Nat} {D:Dn} {E:ES}
theorem dF.agree{gt' gb' nM:Tag}(h1:Agree w gt gt')(h2:Agree w gb gb')(h3:Agree w gp nM){k:Nat}(hk:k<w.heap.size):dF gt' gb' nM k↔dF gt gb gp k:=by unfold dF Mine;rw[h1 k hk,h2 k hk,h3 k hk]
theorem jW.aN(H:jW w gt gb gp X Bs D E)(ho:O0 w w'):jW w' gt gb gp X Bs D E:=by obtain⟨v1,h1⟩:=H.of;obtain⟨us,h2⟩:=H.needs;obtain⟨v3,h3⟩:=H.roots;exact⟨H.gx.aN ho,⟨v1,h1.keep ho (fun _ _ f=>f) (Agree.refl _ _)⟩,⟨us,h2.keep ho (fun _ _ f=>f) (Agree.refl _ _)⟩,H.Kq,⟨v3,h3.keep ho (fun _ _ f=>f) (Agree.refl _ _)⟩,aF H.blk ho (fun f=>f),H.tp,H.tc,aI H.names ho (fun _ _ f=>f),H.nb,H.nok,H.low,H.Kw,H.fresh.more ho.size⟩
theorem bV.refl(H:jW w gt gb gp X Bs D E):bV w gt gb gp X Bs D E w:=⟨gt,gb,gp,H,Agree.refl _ _,Agree.refl _ _,Agree.refl _ _,Only.refl _ _⟩
theorem Only.zZ{w1 w2:World}{kF lV Tv:Tag}(h:Only (dF gt gb gp) w w1)(ht:Agree w gt kF)(hb:Agree w gb lV)(hp:Agree w gp Tv)(h1:Only (dF kF lV Tv) w1 w2):Only (dF gt gb gp) w w2:=by
 refine h.trans h1 (fun k hk=>?_);rcases yK k w.heap.size with hlt|hge;·exact .inl ((dF.agree ht hb hp hlt).1 hk)
 exact .inr hge
theorem bV.trans{w1 w2:World}{kF lV Tv:Tag}(ht:Agree w gt kF)(hb:Agree w gb lV)(hp:Agree w gp Tv)(ho:Only (dF gt gb gp) w w1){E2:ES}(h2:bV w1 kF lV Tv X Bs D E2 w2):bV w gt gb gp X Bs D E2 w2:=by exact zDR
theorem bV.after{w1 w2:World}(o1:O0 w w1){E2:ES}(h:bV w1 gt gb gp X Bs D E2 w2):bV w gt gb gp X Bs D E2 w2:=bV.trans (Agree.refl _ _) (Agree.refl _ _) (Agree.refl _ _) (o1.mono fun _ f=>f.elim) h
theorem bV.Qn{w1 w2:World}(h:bV w gt gb gp X Bs D E w1)(o:O0 w1 w2):bV w gt gb gp X Bs D E w2:=by exact zDu
theorem jW.step(H:jW w gt gb gp X Bs D E){S2:TB}(h:fE w gt gb X.c X.bt X.bb X.G Bs D S2 w'):bV w gt gb gp X Bs D (S2,E.2) w':=by
 obtain⟨gt',gb',H2,A1,A2,O⟩:=h;obtain⟨v1,h1⟩:=H.of;obtain⟨us,h2⟩:=H.needs;obtain⟨v3,h3⟩:=H.roots;have hF:∀{τ:Nat},0<τ->∀k,(gp k).1=τ->¬(Mine gt k\/Mine gb k):=fun{τ} ht k hk hm=>H.Kw k hm zBB;have hpx:=dR H.blk;refine⟨gt',gb',gp,⟨H2,⟨v1,h1.keep O (hF zBy) (Agree.refl _ _)⟩,⟨us,h2.keep O (hF zAC) (Agree.refl _ _)⟩,H.Kq,⟨v3,h3.keep O (hF zBk) (Agree.refl _ _)⟩,aF H.blk O (fun hm=>H.tp (.inl hm)),?_,H.tc,aI H.names O (fun k hk hm=>H.nb k hk (.inl hm)),?_,H.nok,H.low,?_,H.fresh.more O.size⟩,A1,A2,Agree.refl _ _,O.mono fun k hk=>.inl hk⟩;·rw[dF.agree A1 A2 (Agree.refl w gp) hpx];exact H.tp
 ·intro k hk;rw[dF.agree A1 A2 (Agree.refl w gp) (dX H.names hk)];exact H.nb k hk
 intro k hk;rcases yK k w.heap.size with hlt|hge;·refine H.Kw k ?_;unfold Mine at hk⊢;rwa[A1 k hlt,A2 k hlt]at hk
 unfold Mine;rw[H.fresh k hge];simp
theorem jW.adk(H:jW w gt gb gp X Bs D E){nM:Tag}(A:Agree w gp nM)(O:Only (Mine gp) w w')(hf:sV w' nM){P:iM}(h1:∃val,sO KE w' nM 1 X.m1 P.of val)(h2:∃us,vV w' nM 2 X.sv us P.needs)(hn:P.needs.length=E.2.needs.length)(h3:∃val,sO KI w' nM 3 X.m2 P.roots val)(hnew:∀k,w.heap.size<=k->Mine nM k->k<w'.heap.size):bV w gt gb gp X Bs D (E.1,P) w':=by
 have hpx:=dR H.blk;have hc:=dR H.gx.gr.blk;have hd:∀k,Mine gt k\/Mine gb k->k<w.heap.size:=fun k hk=>by exact zC2
 have hM:∀k,k<w.heap.size->(Mine nM k↔Mine gp k):=fun k hk=>by unfold Mine;rw[A k hk]
 refine⟨gt,gb,nM,⟨H.gx.keep O (fun k hk=>H.low k hk) (fun k hk hm=>H.Kw k hk hm) (by unfold Mine;rw[H.tc];simp),h1,h2,hn.trans H.Kq,h3,aF H.blk O (fun hm=>H.tp (.inr hm)),?_,by rw[A X.c hc];exact H.tc,aI H.names O (fun k hk hm=>H.nb k hk (.inr hm)),?_,H.nok,fun k hk=>?_,fun k hk hm=>H.Kw k hk ((hM k (hd k hk)).1 hm),hf⟩,Agree.refl _ _,Agree.refl _ _,A,O.mono fun k hk=>.inr hk⟩;·rw[dF.agree (Agree.refl w gt) (Agree.refl w gb) A hpx];exact H.tp
 ·intro k hk;rw[dF.agree (Agree.refl w gt) (Agree.refl w gb) A (dX H.names hk)];exact H.nb k hk
 exact zEJ
theorem bV.cell(h:bV w gt gb gp X Bs D E w'){b i:Nat}{u:Value}(hc:w.cell? ⟨b,i,none⟩=some u)(h1:¬dF gt gb gp b):w'.cell? ⟨b,i,none⟩=some u:=by obtain⟨gt',gb',nM,H2,A1,A2,A3,O⟩:=h;exact dh hc O h1
theorem jW.cells(H:jW w gt gb gp X Bs D E):w.cell? ⟨X.px,0,none⟩=some (.pointer (some ⟨X.c,0,none⟩))/\w.cell? ⟨X.px,1,none⟩=some X.nv/\w.cell? ⟨X.px,2,none⟩=some (.map (some X.m1))/\w.cell? ⟨X.px,3,none⟩=some X.sv/\w.cell? ⟨X.px,4,none⟩=some (.map (some X.m2)):=
 ⟨by rw[ah H.blk];rfl,by rw[ah H.blk];rfl,by rw[ah H.blk];rfl,by rw[ah H.blk];rfl,by rw[ah H.blk];rfl⟩
end
end Go.Proofs.YtdmmebjjojimiaaGreatDoor
namespace Go.Proofs.YtdmmebjjojimiaaGreatDoor
open Go.RowKit Go.Sort Go.Shelf
def Tryz.aaL:Go.Shelf.Ren:=⟨fun |6=>157|8=>174|9=>223|19=>252|20=>253|21=>301|22=>302|23=>303|24=>304|25=>305|26=>306|27=>307|28=>308|29=>309|31=>318|32=>319|36=>356|37=>357|38=>358|39=>175|41=>390|n=>n,fun |0=>0|3=>3|4=>4|5=>5|9=>9|26=>81|27=>81|29=>9|32=>239|35=>280|36=>281|41=>285|44=>288|46=>290|53=>332|57=>336|63=>369|64=>264|n=>n,fun n=>n⟩
theorem Tryz.EN:Go.Proofs.SlLaysM.n6 Tryz.prog Tryz.aaL:={
 mixed:=by kernel_rfl
 f6:=⟨Tryz.f157.name,by decide,Tryz.func157.trans (congrArg some zk)⟩
 f8:=Tryz.func174.trans (congrArg some zk)
 f9:=⟨Tryz.f223.name,by decide,Tryz.func223.trans (congrArg some zk)⟩
 f19:=Tryz.func252.trans (congrArg some zk)
 f20:=Tryz.func253.trans (congrArg some zk)
 f21:=⟨Tryz.f301.name,by decide,Tryz.func301.trans (congrArg some zk)⟩
 f22:=⟨Tryz.f302.name,by decide,Tryz.func302.trans (congrArg some zk)⟩
 f23:=⟨Tryz.f303.name,by decide,Tryz.func303.trans (congrArg some zk)⟩
 f24:=⟨Tryz.f304.name,by decide,Tryz.func304.trans (congrArg some zk)⟩
 f25:=⟨Tryz.f305.name,by decide,Tryz.func305.trans (congrArg some zk)⟩
 f26:=⟨Tryz.f306.name,by decide,Tryz.func306.trans (congrArg some zk)⟩
 f27:=⟨Tryz.f307.name,by decide,Tryz.func307.trans (congrArg some zk)⟩
 f28:=⟨Tryz.f308.name,by decide,Tryz.func308.trans (congrArg some zk)⟩
 f29:=⟨Tryz.f309.name,by decide,Tryz.func309.trans (congrArg some zk)⟩
 f31:=Tryz.func318.trans (congrArg some zk)
 f32:=Tryz.func319.trans (congrArg some zk)
 f36:=⟨Tryz.f356.name,by decide,Tryz.func356.trans (congrArg some zk)⟩
 f37:=⟨Tryz.f357.name,by decide,Tryz.func357.trans (congrArg some zk)⟩
 f38:=⟨Tryz.f358.name,by decide,Tryz.func358.trans (congrArg some zk)⟩
 f39:=⟨Tryz.f175.name,by decide,Tryz.func175.trans (congrArg some zk)⟩
 f41:=⟨Tryz.f390.name,by decide,Tryz.func390.trans (congrArg some zk)⟩
 t0:=Tryz.underlying0
 a0:=Tryz.isAgg0
 z0:=Tryz.sizeOf0
 v0:=Tryz.zeroValue0
 t3:=Tryz.underlying3
 a3:=Tryz.isAgg3
 z3:=Tryz.sizeOf3
 v3:=Tryz.zeroValue3
 t4:=Tryz.underlying4
 a4:=Tryz.isAgg4
 z4:=Tryz.sizeOf4
 v4:=Tryz.zeroValue4
 t5:=Tryz.underlying5
 a5:=Tryz.isAgg5
 z5:=Tryz.sizeOf5
 v5:=Tryz.zeroValue5
 t9:=Tryz.underlying9
 a9:=Tryz.isAgg9
 z9:=Tryz.sizeOf9
 v9:=Tryz.zeroValue9
 t26:=Tryz.underlying81
 a26:=Tryz.isAgg81
 z26:=Tryz.sizeOf81
 v26:=Tryz.zeroValue81
 t27:=Tryz.underlying81
 a27:=Tryz.isAgg81
 z27:=Tryz.sizeOf81
 v27:=Tryz.zeroValue81
 t29:=Tryz.underlying9
 a29:=Tryz.isAgg9
 z29:=Tryz.sizeOf9
 v29:=Tryz.zeroValue9
 t32:=Tryz.underlying239
 a32:=Tryz.isAgg239
 z32:=Tryz.sizeOf239
 v32:=Tryz.zeroValue239
 t35:=Tryz.underlying280
 a35:=Tryz.isAgg280
 z35:=Tryz.sizeOf280
 v35:=Tryz.zeroValue280
 t36:=Tryz.underlying281
 a36:=Tryz.isAgg281
 z36:=Tryz.sizeOf281
 v36:=Tryz.zeroValue281
 t41:=Tryz.underlying285
 a41:=Tryz.isAgg285
 z41:=Tryz.sizeOf285
 v41:=Tryz.zeroValue285
 t44:=Tryz.underlying288
 a44:=Tryz.isAgg288
 z44:=Tryz.sizeOf288
 v44:=Tryz.zeroValue288
 t46:=Tryz.underlying290
 a46:=Tryz.isAgg290
 z46:=Tryz.sizeOf290
 v46:=Tryz.zeroValue290
 t53:=Tryz.underlying332
 a53:=Tryz.isAgg332
 z53:=Tryz.sizeOf332
 v53:=Tryz.zeroValue332
 t57:=Tryz.underlying336
 a57:=Tryz.isAgg336
 z57:=Tryz.sizeOf336
 v57:=Tryz.zeroValue336
 t63:=Tryz.underlying369
 a63:=Tryz.isAgg369
 z63:=Tryz.sizeOf369
 v63:=Tryz.zeroValue369
 t64:=Tryz.underlying264
 a64:=Tryz.isAgg264
 z64:=Tryz.sizeOf264
 v64:=Tryz.zeroValue264}
def Tryz.SL:Go.Shelf.Ren:=⟨fun |194=>158|n=>n,fun |0=>0|3=>3|4=>4|9=>9|31=>81|n=>n,fun n=>n⟩
theorem Tryz.lT:Go.Proofs.Lays.n194 Tryz.prog Tryz.SL:={
 mixed:=by kernel_rfl
 f194:=Tryz.func158.trans (congrArg some zk)
 t0:=Tryz.underlying0
 a0:=Tryz.isAgg0
 z0:=Tryz.sizeOf0
 v0:=Tryz.zeroValue0
 t3:=Tryz.underlying3
 a3:=Tryz.isAgg3
 z3:=Tryz.sizeOf3
 v3:=Tryz.zeroValue3
 t4:=Tryz.underlying4
 a4:=Tryz.isAgg4
 z4:=Tryz.sizeOf4
 v4:=Tryz.zeroValue4
 t9:=Tryz.underlying9
 a9:=Tryz.isAgg9
 z9:=Tryz.sizeOf9
 v9:=Tryz.zeroValue9
 t31:=Tryz.underlying81
 a31:=Tryz.isAgg81
 z31:=Tryz.sizeOf81
 v31:=Tryz.zeroValue81}
abbrev kX(s:Str):List UInt8:=s.data.toList
abbrev ofL(l:List UInt8):Str:=⟨l.toArray⟩
theorem Qx(s:Str):ofL (kX s)=s:=by cases s with|mk d=>simp[ofL,kX]
theorem Zj(l:List Str):(l.map kX).map ofL=l:=by
 rw[List.map_map];conv=>rhs;rw[<-List.map_id l]
 exact List.map_congr_left fun s _=>Qx s
theorem NC(l:List (List UInt8)):l.map encStr=fD (l.map ofL):=by unfold fD;rw[List.map_map];rfl
theorem Qy(l:List Str):fD l=(l.map kX).map encStr:=by rw[NC,Zj]
def EN(l:List Str):List Str:=((l.map kX).mergeSort fun x y=>decide (x<=y)).map ofL
def lT(l:List Str):List Str:=(Lib.compact (l.map kX)).map ofL
theorem ND(l:List Str):(EN l).Perm l:=by have h:=(List.mergeSort_perm (l.map kX) fun x y=>decide (x<=y)).map ofL;rw[Zj]at h;exact h
theorem Qz(l:List Str):(EN l).length=l.length:=(ND l).length_eq
theorem Bf{α:Type}[DecidableEq α][Inhabited α](xs:List α):(∀x∈Lib.compact xs,x∈xs)/\(Lib.compact xs).length<=xs.length:=by
 unfold Lib.compact Lib.compactUpTo;refine⟨fun x hx=>?_,?_⟩
 ·obtain⟨i,hi,rfl⟩:=yD.1 hx;have h2:=yI.1 (List.mem_filter.1 hi).1;have h3:i<xs.length:=by simpa using h2
  simp[h3]
 exact zEi
theorem SQ(l:List Str):(lT l).length<=l.length:=by unfold lT;rw[qM];have:=(Bf (l.map kX)).2;rwa[qM]at this
theorem SV{l:List Str}{s:Str}(h:s∈lT l):s∈l:=by unfold lT at h;obtain⟨b,hb,rfl⟩:=yD.1 h;obtain⟨s,hs,rfl⟩:=yD.1 ((Bf (l.map kX)).1 b hb);rw[Qx];exact hs
section
variable {w:World}
theorem JR{α:Type}[Inhabited α](enc:α->Value){e:TypeId}{g n cap:Nat}{xs:List Value}(h:w.ownsRow 0 e 1 (.slice (some ⟨g,0,none⟩) n cap) n xs)(d:Array α)(hd:d.size=n):(putRow enc w g 0 d).ownsRow 0 e 1 (.slice (some ⟨g,0,none⟩) n cap) n (d.toList.map enc):=by
 rcases h.2 with⟨h',_⟩| ⟨g',cap',cur,h',hb,hg,h1,h2,h3,htake⟩;·simp at h'
 simp only[qU,qG,qO,and_true,true_and]at h';obtain⟨rfl,rfl⟩:=h';refine⟨by simp[hd],.inr ⟨g,cap,putCells enc 0 d cur,rfl,qE _,?_,h1,h2,?_,?_⟩⟩;·exact zDb
 ·simpa[putCells]using h3
 apply List.ext_getElem?;intro j;simp only[yH,putCells,List.getElem?_take,List.getElem?_map];by_cases hj:j<n
 ·have hc:j<cur.size:=by omega
  simp[hj,hc,hd]
 rw[if_neg hj,List.getElem?_eq_none (by simp[hd];omega)];rfl
theorem Ic{α:Type}[Inhabited α](enc:α->Value)(w:World)(g:Nat)(d:Array α):Only (fun k=>k=g) w (putRow enc w g 0 d):=
 ⟨rfl,rfl,rfl,by simp[putRow,mapBlock],fun k _ hk=>by
  show(w.heap.modify g _)[k]? =_
  rw[Array.getElem?_modify,if_neg (fun e=>hk e.symm)]⟩
theorem NG{e:TypeId}{g n cap:Nat}{xs:List (List UInt8)}(h:w.ownsRow 0 e 1 (.slice (some ⟨g,0,none⟩) n cap) n (xs.map encStr)):Holds encStr w g 0 xs.toArray:=by
 intro j hj;have hn:xs.length=n:=by simpa using h.1
 have hj':j<xs.length:=zBb;refine⟨?_,h.frozenAt _⟩;rw[Nat.zero_add,h.cellAt j zBk];simp[hj']
theorem afT{v:Value}{l:List Str}{n:Nat}(hn:l.length=n)(h:w.ownsRow 0 9 1 v n (fD l))(hb:n<=1000000):Calls Tryz.prog 157 #[v] w fun e w'=>e= .returned (.tuple #[])/\w'.ownsRow 0 9 1 v n (fD (EN l))/\Only (fun k=>v.ownBlock=some k) w w':=by
 subst hn;by_cases h0:l.length=0
 ·have hx:l=[]:=yF h0;subst hx;obtain⟨ao,cap,rfl,_,_⟩:=aC h;refine(AnyM.slices_Sort_string_none Tryz.EN ao cap w).mono fun e w' ⟨he,hw⟩=>⟨he,?_,?_⟩;·rw[hw];simpa[EN]using h
  exact zEE
 obtain⟨gb,cap,rfl,_,_⟩:=fJ h zBk;rw[Qy]at h;have hH:=NG h;have hlt:=dX h (k:=gb) rfl;have key:=AnyM.slices_Sort_string Tryz.EN gb 0 cap (l.map kX) w hH hlt zAd;rw[qM]at key;refine key.mono fun e w' ⟨he,q,os,hw⟩=>⟨he,?_,?_⟩;·subst hw;have h1:=JR encStr (w:=Sort.ahead w q) (g:=gb) (n:=l.length) (cap:=cap) (e:=9) h ((l.map kX).mergeSort fun x y=>decide (x<=y)).toArray zAM;have h2:=aI h1 (wC (Only.refl (fun _=>False) _) os) (fun _ _ f=>f);rw[NC]at h2;exact h2
 subst hw;refine wC ?_ os;have:=(wS (Only.refl (fun k=>k=gb) w) q).same (Ic encStr (Sort.ahead w q) gb ((l.map kX).mergeSort fun x y=>decide (x<=y)).toArray);exact zDZ
theorem Ya{v:Value}{l:List Str}{n:Nat}(hn:l.length=n)(h:w.ownsRow 0 9 1 v n (fD l)):Calls Tryz.prog 158 #[v] w fun e w'=> ∃v',e= .returned v'/\w'.ownsRow 0 9 1 v' (lT l).length (fD (lT l))/\v'.ownBlock=v.ownBlock/\Only (fun k=>v.ownBlock=some k) w w':=by
 subst hn;by_cases h0:l.length=0
 ·have hx:l=[]:=yF h0;subst hx;obtain⟨ao,cap,rfl,_,_⟩:=aC h;refine(Any.slices_Compact_string_empty Tryz.lT ao cap w).mono fun e w' ⟨he,hw⟩=>⟨_,he,?_,rfl,?_⟩;·rw[hw];exact h
  exact zEE
 obtain⟨gb,cap,rfl,hc1,hc2⟩:=fJ h zBk;rw[Qy]at h;have hH:=NG h;unfold maxLen at hc2;have key:=Any.slices_Compact_string Tryz.lT gb 0 cap (l.map kX) w hH zAd (by simpa using hc1);rw[qM]at key;have hlen:(lT l).length=(Lib.compact (l.map kX)).length:=by unfold lT;rw[qM]
 refine key.mono fun e w' ⟨he,q,hw⟩=>⟨_,he,?_,rfl,?_⟩
 ·subst hw;have hle:=(Bf (l.map kX)).2;rw[qM]at hle;have h1:=JR encStr (w:=Sort.ahead w q) (g:=gb) (n:=l.length) (cap:=cap) (e:=9) h (Lib.compact (l.map kX)++List.replicate (l.length-(Lib.compact (l.map kX)).length) []).toArray zAd;have h2:=Yp h1 (Lib.compact (l.map kX)).length hle;rw[hlen];have e:((Lib.compact (l.map kX)++List.replicate (l.length-(Lib.compact (l.map kX)).length) []).toArray.toList.map encStr).take (Lib.compact (l.map kX)).length=fD (lT l):=by unfold lT;rw[<-NC];simp
  rw[e]at h2;exact h2
 subst hw;have:=(wS (Only.refl (fun k=>k=gb) w) q).same (Ic encStr (Sort.ahead w q) gb (Lib.compact (l.map kX)++List.replicate (l.length-(Lib.compact (l.map kX)).length) []).toArray);exact zDZ
end
end Go.Proofs.YtdmmebjjojimiaaGreatDoor
namespace Go.Proofs.YtdmmebjjojimiaaGreatDoor
open Go.RowKit
noncomputable def aH.sees (x:aH) (q:fV):List Str:=(q.names++(x.closure q.names).flatMap fun p=>(x.pack p).deps.map fun d=>d.on.name).filter x.rO
noncomputable def aH.names (x:aH) (q:fV):List Str:=lT (EN (x.sees q))
theorem aH.QA(x:aH)(q:fV):(x.names q).length<=(x.sees q).length:=by unfold aH.names;have:=SQ (EN (x.sees q));rwa[Qz]at this
theorem aH.aaM{x:aH}{q:fV}{s:Str}(h:s∈x.names q):s∈x.sees q:=(ND _).mem_iff.1 (SV h)
section
variable {w w':World} {B:Nat}
theorem aaN{cs:List Value}{x:aH}(h:jl B w cs x)(hlen:x.packs.length<=1000000)(s:Str):Calls Tryz.prog 156 #[.agg cs.toArray,.string s] w fun e w'=>e= .returned (.bool (x.rO s))/\O0 w w':=by
 have HH:=zh h;obtain⟨v1,v2,rfl,h1,h2⟩:=h;obtain⟨ao,cap,rfl,-,-⟩:=h1.shape;obtain⟨oJ,cap2,rfl,-,-⟩:=h2.shape;unfold aH.rO;obtain⟨f,hf⟩:=ze (x.find s);have HF:=zh (BO (jl.keep HH.out (Kp.iI ((Only.refl (fun _=>False) w).alloc (.cells #[.slice ao x.packs.length cap,.slice oJ x.iH.length cap2] 25)))) s);have Yt:=fun W hO=>zh (uz (w:=W) (jl.keep HH.out (Kp.iI hO)) hlen s);rw[hf]at HF;rw[hf];clear hf h1 h2;obtain⟨np,hnp⟩:=ze ((x.eG s).length);rw[hnp]at Yt⊢;clear hnp;by_cases hf0:f<0
 ·obtain⟨bz,hbz⟩:∃z,decide (0<np)=z:=⟨_,rfl⟩;have e1:(decide (f<0)&&decide (0<np))=bz:=by rw[qX hf0,hbz];rfl
  rw[e1];have HZ:Hid (decide ((np:Int)>0)=bz):=by rw[Hid,<-hbz];exact decide_eq_decide.2 zBk
  clear e1 hbz;go_enter Tryz.func156,Tryz.ntmps156;go_wp2_with fail;refine HF.out.mono ?_;rintro e w1 ⟨rfl,O1⟩;have bM:=zh (((Only.refl (fun _=>False) w).alloc _).same O1);have hw1:=O1.size;simp only[World.size_alloc]at hw1;have hcell:w1.cell? ⟨w.heap.size,0,none⟩=some (.slice ao x.packs.length cap)/\w1.cell? ⟨w.heap.size,1,none⟩=some (.slice oJ x.iH.length cap2):=by
   constructor;·exact zCU
   exact zCU
  obtain⟨hc1,hc2⟩:=hcell;have abv:=Yt w1 bM.out;clear O1 Yt HF;go_wp2_with fail;refine abv.out.mono ?_;rintro e w2 ⟨v,rfl,r1,r2,r3⟩;have fK:=zh (bM.out.same r3);obtain⟨av,cv,rfl,-,-⟩:=aC r1;have hz:=HZ.out;clear r1 r2 r3 abv bM;go_wp2_with fail;go_ret;refine⟨?_,fK.out⟩;first|rfl| (rw[<-HZ.out];first|rfl|simp)
 have e1:(decide (f<0)&&decide (0<np))=false:=by rw[qP hf0];rfl
 rw[e1];clear e1;go_enter Tryz.func156,Tryz.ntmps156;go_wp2_with fail;refine HF.out.mono ?_;rintro e w1 ⟨rfl,O1⟩;have bM:=zh (((Only.refl (fun _=>False) w).alloc _).same O1);clear O1 HF;go_wp2_with fail;go_ret;exact⟨rfl,bM.out⟩
def NmV(W0:World)(bo:Nat)(v:Value)(l:List Str)(W:World):Prop:=
 W.heap[bo]? =some (.cells #[v] 81 (0,0))/\W.ownsRow 0 9 1 v l.length (fD l)/\(∀k,v.ownBlock=some k->W0.heap.size<=k)/\bo<W0.heap.size/\Only (fun k=>k=bo) W0 W
theorem VK{W0:World}{bx bo:Nat}{l:List Str}{ao oJ:Option Addr}{n1 cap n2 cap2:Nat}{x:aH}(h:jl B w [.slice ao n1 cap,.slice oJ n2 cap2] x)(hlen:x.packs.length<=1000000)(hbx:w.cell? ⟨bx,0,none⟩=some (.slice ao n1 cap)/\w.cell? ⟨bx,1,none⟩=some (.slice oJ n2 cap2)){v:Value}(H:NmV W0 bo v l w)(hl:l.length<=100000)(s:Str):Calls Tryz.prog 155 #[.string s,.pointer (some ⟨bx,0,none⟩),.pointer (some ⟨bo,0,none⟩)] w fun e w'=>e= .returned (.tuple #[])/\∃v',NmV W0 bo v' (l++if x.rO s=true then [s]else []) w'/\Only (fun k=>k=bo\/v.ownBlock=some k) w w'/\∀k,v'.ownBlock=some k->v.ownBlock=some k\/w.heap.size<=k:=by
 have HV:=zh (aaN h hlen s);obtain⟨hv,hr,hb,FP,ho⟩:=H;obtain⟨h0,h1⟩:=hbx;have HC:=zh (And.intro hv (And.intro hr (And.intro hb (And.intro FP ho))));clear h hv hr hb FP ho;generalize hz:x.rO s=z at*;clear hz;cases z with
 |false=>
  go_enter Tryz.func155,Tryz.ntmps155;go_wp2_with fail;refine HV.out.mono ?_;rintro e w1 ⟨rfl,O1⟩;have bM:=zh O1;clear O1 HV;go_wp2_with fail;go_end0;obtain⟨hv,hr,hb,FP,ho⟩:=HC.out;have h2:l++(if false=true then [s]else [])=l:=zAM;try rw[h2]
  exact⟨rfl,v,⟨aF hv bM.out (fun f=>f),aI hr bM.out (fun _ _ f=>f),hb,FP,ho.same (bM.out.mono fun _ f=>f.elim)⟩,bM.out.mono fun _ f=>f.elim,fun k hk=>.inl hk⟩
 |true=>
  go_enter Tryz.func155,Tryz.ntmps155;go_wp2_with fail;refine HV.out.mono ?_;rintro e w1 ⟨rfl,O1⟩;obtain⟨hv,hr,hb,FP,ho⟩:=HC.out;have hv1:=aF hv O1 (fun f=>f);have hr1:=aI hr O1 (fun _ _ f=>f);have ho1:=ho.same (O1.mono fun _ f=>f.elim);have hc1:w1.cell? ⟨bo,0,none⟩=some v:=by rw[ah hv1];rfl
  have bM:=zh O1;have HW1:=zh (And.intro hv1 (And.intro hr1 (And.intro hb (And.intro FP ho1))));obtain⟨nl,hnl⟩:=ze l.length;have HNl:=zh hnl;rw[hnl]at hl;have HR1:Hid (w1.ownsRow 0 9 1 v nl (fD l)):=by rw[<-hnl];exact zh hr1
  have awC:bo<w1.heap.size:=(yA.1 hv1).1;clear O1 HV hv hr hb FP ho hv1 hr1 ho1 HC hnl h0 h1;go_wp2_with (at_builtin;go_must (refine tC (u:=.string s) nH rfl (.tmp 7) (.tmp 9) rfl rfl rfl (cell_new0 _ _ _) rfl (aI HR1.out ((Only.refl (fun _=>False) _).alloc _) (fun _ _ f=>f)) zBk zBl ?_));intro v' w2 r2 o2 a2;obtain⟨hv1,hr1,hb,FP,ho1⟩:=HW1.out;have amE:v.ownBlock≠some bo:=fun e=>by have:=hb bo e;omega
  have hv2:w2.heap[bo]? =some (.cells #[v] 81 (0,0)):=by rw[o2.block bo zAd amE];exact dw hv1 _
  obtain⟨g,cap',rfl,hg1,hg2,hg3⟩:=a2;have hc2:w2.cell? ⟨bo,0,none⟩=some v:=by rw[ah hv2];rfl
  have hf2:w2.frozen? ⟨bo,0,none⟩=false:=by simp[World.frozen?,hv2]
  have hg:W0.heap.size<=g:=by
   rcases hg3 with e|e;·exact hb g e
   have:=ho1.size;simp at e;omega
  have hgb:g≠bo:=zBk;have oo:Only (fun k=>k=bo\/v.ownBlock=some k) w1 w2:=((Only.refl (fun k=>k=bo\/v.ownBlock=some k) w1).alloc _).same (o2.mono fun k hk=>.inr hk);have hgn:v.ownBlock=some g\/w1.heap.size<=g:=by
   rcases hg3 with e|e;·exact .inl e
   right;simp at e;omega
  have HW2:=zh (And.intro hv2 (And.intro r2 (And.intro oo (And.intro ho1 (And.intro FP (And.intro hg (And.intro hb hgn)))))));clear hv1 hr1 hb FP ho1 amE hv2 r2 o2 hg1 hg2 hg3 oo hg hgn HW1 hc1 HR1;go_wp2_with fail;go_end0;obtain⟨hv2,r2,oo,ho1,FP,hg,hb,hgn⟩:=HW2.out;have o3:Only (fun k=>k=bo\/v.ownBlock=some k) w1 (w2.setCell ⟨bo,0,none⟩ (.slice (some ⟨g,0,none⟩) (nl+1) cap')):=oo.setCell (p:=⟨bo,0,none⟩) (.inl (.inl rfl)) _;refine⟨rfl,.slice (some ⟨g,0,none⟩) (nl+1) cap',⟨heap_setCell_box_a _ hv2,?_,fun k hk=>?_,FP,?_⟩,(bM.out.mono fun _ f=>f.elim).same o3,fun k hk=>?_⟩
  ·have h2:l++(if true=true then [s]else [])=l++[s]:=by simp
   try rw[h2]
   rw[qK,HNl.out];have e3:fD (l++[s])=fD l++[.string s]:=by simp[fD]
   rw[e3];exact aI r2 ((Only.refl (fun k=>k=bo) w2).setCell (p:=⟨bo,0,none⟩) (.inl rfl) _) (fun k hk e=>by cases hk;exact hgb e)
  ·cases hk;exact hg
  ·exact ho1.trans o3 fun k hk=>hk.imp id (hb k)
  cases hk;exact hgn.imp id (fun h=>qR bM.out.size h)
theorem NmV.aN{W0 W W':World}{bo:Nat}{v:Value}{l:List Str}(H:NmV W0 bo v l W)(o:O0 W W'):NmV W0 bo v l W':=by obtain⟨hv,hr,hb,FP,ho⟩:=H;exact⟨aF hv o (fun f=>f),aI hr o (fun _ _ f=>f),hb,FP,ho.same (o.mono fun _ f=>f.elim)⟩
theorem Jq{α β:Type}{M:Nat}{f:α->List β}:∀{l:List α},(∀y∈l,(f y).length<=M)->(l.flatMap f).length<=M*l.length
 | [],_=>by simp
 |a::r,h=>by
  have h1:=Jq (l:=r) fun y hy=>h y (yE _ hy)
  have h2:=h a qQ
  rw[List.flatMap_cons,qK,qN,Nat.mul_add]
  omega
theorem Ie(x:aH)(l:List Str)(s:Str):l.filter x.rO++(if x.rO s=true then [s]else [])=(l++[s]).filter x.rO:=by rw[List.filter_append];congr 1;cases h:x.rO s<;>simp[h]
theorem afU{cs cq:List Value}{x:aH}{q:fV}(h:jl B w cs x)(hq:mV B w cq q)(hs:rM x)(hl:q.roots.length<=1000):Calls Tryz.prog 77 #[.agg cs.toArray,.agg cq.toArray] w fun e w'=> ∃v,e= .returned v/\w'.ownsRow 0 9 1 v (x.names q).length (fD (x.names q))/\(∀k,v.ownBlock=some k->w.heap.size<=k)/\O0 w w':=by
 have HH:=zh h;have HQ:=zh hq;have HS:=zh hs;obtain⟨v1,v2,rfl,h1,h2⟩:=h;obtain⟨ao,cap,rfl,-,-⟩:=h1.shape;obtain⟨oJ,cap2,rfl,-,-⟩:=h2.shape;obtain⟨v3,rfl,h3⟩:=hq;obtain⟨P5,cap3,rfl,g3,g3'⟩:=h3.shape;obtain⟨n1,hn1⟩:=ze x.packs.length;obtain⟨n2,hn2⟩:=ze x.iH.length;obtain⟨n3,hn3⟩:=ze q.roots.length;rw[hn1,hn2]at HH;rw[hn1]at h1;rw[hn3]at h3 HQ g3 hl;rw[hn1,hn2,hn3];have R1:=zh h1;have R3:=zh h3;have N1:=zh hn1;have N3:=zh hn3;obtain⟨bo,FP⟩:=ze (w.heap.size+2);obtain⟨W0,hW0⟩:=zB (((w.alloc (.cells #[.slice ao n1 cap,.slice oJ n2 cap2] 25)).alloc (.cells #[.slice P5 n3 cap3] 28)).alloc (.cells #[bP] 81));have bW:Hid (O0 w W0):=by rw[hW0];exact((zr.alloc _).alloc _).alloc _
 have nR:Hid (W0.heap.size=w.heap.size+3):=by rw[hW0];simp[Hid]
 have XG:Hid (∀W,Only (fun k=>k=bo) W0 W->O0 w W):=fun W o=>bW.out.trans o fun k hk=>.inr zBk;have aG:Hid (∀W,Only (fun k=>k=bo) W0 W->W.cell? ⟨w.heap.size,0,none⟩=some (.slice ao n1 cap)/\W.cell? ⟨w.heap.size,1,none⟩=some (.slice oJ n2 cap2)/\W.cell? ⟨w.heap.size+1,0,none⟩=some (.slice P5 n3 cap3)):=fun W ho=>by
  have b0:W0.heap[w.heap.size]? =some (.cells #[.slice ao n1 cap,.slice oJ n2 cap2] 25):=by rw[hW0];exact dw (dw (alloc_at rfl) _) _
  have d0:=aF b0 ho zBk;have b1:W0.heap[w.heap.size+1]? =some (.cells #[.slice P5 n3 cap3] 28):=by rw[hW0];exact dw (alloc_at zAM) _
  have d1:=aF b1 ho zBk;exact⟨by rw[ah d0];rfl,by rw[ah d0];rfl,by rw[ah d1];rfl⟩
 have amF:Hid (NmV W0 bo bP [] W0):=⟨by rw[hW0,<-FP];exact alloc_at zAM,World.ownsRow_nil _ _ _ _,fun k hk=>(by cases hk),by have:=nR.out;omega,Only.refl _ _⟩;obtain⟨k0,k1,k2⟩:=aG.out W0 zr;rw[hW0]at k0 k1 k2;clear h1 h2 h3 hn1 hn2 hn3 hs;go_enter Tryz.func77,Tryz.ntmps77;go_wp2_with fail;rw[<-hW0]at k0 k1 k2⊢;clear hW0 k0 k1 k2 FP;go_loopw [17] (fun vi wr=> ∃(i:Nat) (v:Value),vi= .int .i64 i/\i<=n3/\Hid (NmV W0 bo v ((q.names.take i).filter x.rO) wr)) (fun v _=>n3-(RowKit.intOf v).toNat);case atStart=>exact⟨0,bP,rfl,qE _,amF⟩
 case round=>
  clear amF;obtain⟨i,v,rfl,hi,HV⟩:=hrel;have hO:=HV.out.2.2.2.2;obtain⟨k0,k1,k2⟩:=aG.out wr hO;have HR1:=zh (jl.keep HH.out (Kp.iI (XG.out wr hO)));by_cases ci:i<n3
  ·have h2:=R3.out;rw[<-N3.out]at h2;obtain⟨b,off,he,-,-⟩:=h2.at zBT;subst he;obtain⟨y,hx⟩:=zG q.roots i (by rw[N3.out];exact ci);obtain⟨cs,hl2,hr,hC⟩:=(h2.keep lY.keep (Kp.iI (XG.out wr hO))).get hx;have jh:=zw (i+1);obtain⟨c1,rfl,hS,-⟩:=hC;obtain⟨p1,p2,d1,d2,rfl,-,-,-⟩:=hS.cells;have HR:=zh hr;have DN:Hid (q.names.take (i+1)=q.names.take i++[y.spec.name]):=xu (fun r:F8=>r.spec.name) hx;have HLe:Hid (((q.names.take i).filter x.rO).length<=100000):=by have h1:=yO x.rO (q.names.take i);have h2:(q.names.take i).length<=i:=zAx;show _<=_;omega
   have uh:Hid (∀o,Calls Tryz.prog 155 #[.string y.spec.name,.pointer (some ⟨w.heap.size,0,none⟩),.pointer (some ⟨bo,0,none⟩)] (wr.alloc o) fun e w'=>e= .returned (.tuple #[])/\∃v',NmV W0 bo v' ((q.names.take (i+1)).filter x.rO) w'):=fun o=>by have oo:=(Only.refl (fun _=>False) wr).alloc o;rw[DN.out,<-Ie];exact(VK (jl.keep HR1.out (Kp.iI oo)) zBg ⟨dh k0 oo (fun f=>f),dh k1 oo (fun f=>f)⟩ (HV.out.aN oo) HLe.out y.spec.name).mono fun e w' ⟨he,v',h,_⟩=>⟨he,v',h⟩
   clear hr hx h2 hl2 hS hO HV HR1;go_wp2_with (first| (refine wpList_load_mid rfl 110 (.tmp 19) rfl b (off+i*4) rfl _ _ HR.out Tryz.underlying110 rfl zk ?_)|fail);refine(uh.out _).mono ?_;rintro e w2 ⟨rfl,v',hv'⟩;have Ae:=zh hv';clear hv' uh;go_wp2_with fail;go_roundw;case rel=>exact⟨i+1,v',by first|rfl|go_num,by omega,Ae⟩
   case measure=>simp[RowKit.intOf]<;>omega
  obtain rfl:n3=i:=by omega
  have hnl:q.names.length=n3:=by unfold fV.names;rw[qM,N3.out]
  rw[qI (yG hnl)]at HV;have Qi:=zh (JB HR1.out (mV.keep HQ.out (Kp.iI (XG.out wr hO))) HS.out zBT);clear hO HR1 ci hi hnl;go_wp2_with fail;refine Qi.out.mono ?_;rintro e w1 ⟨vc,rfl,rc,bc,oc⟩;obtain⟨nc,hnc⟩:=ze ((x.closure q.names).length);rw[hnc]at rc;have YF:=zh hnc;have aud:nc<=1000:=by rw[<-hnc];have:=x.qm q.names;have:=HS.out.packs;omega
  obtain⟨ac,cc,rfl,-,-⟩:=aC rc;have FV:=zh rc;have BJ:=zh (HV.out.aN oc);have HB1:Hid (∀k,v.ownBlock=some k->(Value.slice ac nc cc).ownBlock≠some k):=fun k hk h=>by have h1:=bc k h;have h2:=dX HV.out.2.1 hk;omega
  have HBc:Hid (∀k,(Value.slice ac nc cc).ownBlock=some k->k≠bo):=fun k hk e=>by have h1:=bc k hk;have h2:=(yA.1 HV.out.1).1;omega
  clear Qi rc bc oc hnc k0 k1 k2 HV;go_wp2_with fail;go_loopw [31] (fun vj wr=> ∃(j:Nat) (v:Value),vj= .int .i64 j/\j<=nc/\Hid (NmV W0 bo v ((q.names++((x.closure q.names).take j).flatMap fun p=>(x.pack p).deps.map fun d=>d.on.name).filter x.rO) wr)/\Hid (wr.ownsRow 0 3 1 (.slice ac nc cc) nc (ji (x.closure q.names)))/\Hid (∀k,v.ownBlock=some k->(Value.slice ac nc cc).ownBlock≠some k)) (fun v _=>nc-(RowKit.intOf v).toNat);case atStart=>exact⟨0,v,rfl,qE _,by simpa using BJ,FV,HB1⟩
  case round=>
   clear BJ FV HB1;obtain⟨j,v,rfl,hj,HV,HR,HB⟩:=hrel;have hO:=HV.out.2.2.2.2;obtain⟨k0,k1,k2⟩:=aG.out wr hO;by_cases cj:j<nc
   ·obtain⟨kT,ape,he,-,-⟩:=fJ HR.out zBk;simp only[qU]at he;obtain⟨rfl,-,rfl⟩:=he;obtain⟨t,htt⟩:=zG (x.closure q.names) j (by rw[YF.out];exact cj);have hcell:wr.cell? ⟨kT,j,none⟩=some (.int .i64 (t:Int)):=by rw[HR.out.cellAt j zBk];simp[ji,htt]
    have ewj:=zw (j+1);have htn:t<n1:=by have:=(aH.lH.1 (qT htt)).lt;rw[N1.out]at this;exact this
    have apf:n1<=30:=by rw[<-N1.out];exact HS.out.packs
    have hpx:x.packs[t]? =some (x.pack t):=by unfold aH.pack;rw[qC,qA (by rw[N1.out];exact htn)];rfl
    have hsn:((x.closure q.names).take (j+1)).flatMap (fun p=>(x.pack p).deps.map fun d=>d.on.name)=(((x.closure q.names).take j).flatMap fun p=>(x.pack p).deps.map fun d=>d.on.name)++(x.pack t).deps.map fun d=>d.on.name:=by rw[List.take_add_one,htt];simp
    have h2:=R1.out;rw[<-N1.out]at h2;obtain⟨b,off,he,-,-⟩:=h2.at zA2;subst he;obtain⟨csp,-,Oz,PY⟩:=h2.get hpx;obtain⟨p,hp⟩:=ze (x.pack t);have Ut:p∈x.packs:=by rw[<-hp];exact qT hpx
    rw[hp]at PY hsn;obtain⟨q1,q2,q3,q4,q5,q6,z1,z2,z3,z4,z5,z6,rfl,-,-,-,-,-,b4,-,-⟩:=PY.cells;have hcd:=uD Oz (XG.out wr hO) 5 _ rfl;have hdl:=(HS.out.all p Ut).deps;obtain⟨nd,hnd⟩:=ze p.deps.length;rw[hnd]at hcd b4 hdl;have FB:=zh hnd;obtain⟨_,_,e4,g4,g4'⟩:=b4.shape;simp only[qU]at e4;obtain⟨-,-,rfl⟩:=e4;rw[hnd]at g4;have HD:Hid (∀W,Only (fun k=>k=bo) W0 W->aQ 7 nC B W (.slice q4 nd z4) p.deps):=fun W hW=>b4.keep nC.keep (Kp.iI (XG.out W hW));obtain⟨A,hA⟩:∃A,q.names++(((x.closure q.names).take j).flatMap fun p=>(x.pack p).deps.map fun d=>d.on.name)=A:=⟨_,rfl⟩;have DN:Hid (q.names++((x.closure q.names).take (j+1)).flatMap (fun p=>(x.pack p).deps.map fun d=>d.on.name)=A++p.deps.map fun d=>d.on.name):=by rw[Hid,hsn,<-hA,yW]
    have hAl:A.length<=10000:=by
     rw[<-hA,qK];have h1:q.names.length<=1000:=by unfold fV.names;rw[qM,N3.out];exact hl
     have h3:=Jq (M:=40) (f:=fun p=>(x.pack p).deps.map fun d=>d.on.name) (l:=(x.closure q.names).take j) (fun y hy=>by
      rw[qM]
      have hy2:=(aH.lH.1 (List.mem_of_mem_take hy)).lt
      exact(HS.out.all _ (aH.iW hy2)).deps)
     have h4:((x.closure q.names).take j).length<=30:=by have h5:=x.qm q.names;have h6:=HS.out.packs;rw[List.length_take];omega
     have h5:40*((x.closure q.names).take j).length<=40*30:=Nat.mul_le_mul_left _ h4;omega
    have HV0:Hid (NmV W0 bo v ((A++(p.deps.map fun d=>d.on.name).take 0).filter x.rO) wr):=by rw[List.take_zero,List.append_nil,<-hA];exact HV
    clear htt hpx hsn hp PY Oz b4 Ut h2 HV hO hnd hA;go_wp2_with fail;generalize wr=wm at*;go_loopw [42] (fun vl wr=> ∃(l:Nat) (v:Value),vl= .int .i64 l/\l<=nd/\Hid (NmV W0 bo v ((A++(p.deps.map fun d=>d.on.name).take l).filter x.rO) wr)/\Hid (wr.ownsRow 0 3 1 (.slice (some ⟨kT,0,none⟩) nc cc) nc (ji (x.closure q.names)))/\Hid (∀k,v.ownBlock=some k->(Value.slice (some ⟨kT,0,none⟩) nc cc).ownBlock≠some k)) (fun v _=>nd-(RowKit.intOf v).toNat);case atStart=>exact⟨0,v,rfl,qE _,HV0,HR,HB⟩
    case round=>
     clear HV0 HR HB k0 k1 k2 hcell hcd;obtain⟨l,v,rfl,hl2,HV,HR,HB⟩:=hrel;have hO:=HV.out.2.2.2.2;obtain⟨k0,k1,k2⟩:=aG.out wr hO;by_cases cl:l<nd
     ·have hd2:=HD.out wr hO;rw[<-FB.out]at hd2;obtain⟨b',off',he',-,-⟩:=hd2.at (by have:=FB.out;omega);subst he';obtain⟨d,hdd⟩:=zG p.deps l (by rw[FB.out];exact cl);obtain⟨cs7,-,ZM,hC7⟩:=hd2.get hdd;obtain⟨c1,c2,rfl,hS1,hS2,-⟩:=hC7;obtain⟨p1,p2,d1,d2,rfl,-,-,-⟩:=hS1.cells;obtain⟨p3,p4,d3,d4,rfl,-,-,-⟩:=hS2.cells;have HR7:=zh (show wr.rangeAt b' (off'+l*7) [.string d.on.name,.slice p1 d.on.spans.length d1,.slice p2 d.on.sets.length d2,.string d.cond.name,.slice p3 d.cond.spans.length d3,.slice p4 d.cond.sets.length d4,.int .i64 d.line] from ZM);have ewl:=zw (l+1);have amG:(p.deps.map fun d=>d.on.name).take (l+1)=(p.deps.map fun d=>d.on.name).take l++[d.on.name]:=xu (fun d:uY=>d.on.name) hdd;have hle:((A++(p.deps.map fun d=>d.on.name).take l).filter x.rO).length<=100000:=by have h1:=yO x.rO (A++(p.deps.map fun d=>d.on.name).take l);have h2:((p.deps.map fun d=>d.on.name).take l).length<=l:=zAx;rw[qK]at h1;omega
      have HRx:=zh (jl.keep HH.out (Kp.iI (XG.out wr hO)));have uh:Hid (∀o,Calls Tryz.prog 155 #[.string d.on.name,.pointer (some ⟨w.heap.size,0,none⟩),.pointer (some ⟨bo,0,none⟩)] (wr.alloc o) fun e w'=>e= .returned (.tuple #[])/\∃v',NmV W0 bo v' ((A++(p.deps.map fun d=>d.on.name).take (l+1)).filter x.rO) w'/\w'.ownsRow 0 3 1 (.slice (some ⟨kT,0,none⟩) nc cc) nc (ji (x.closure q.names))/\∀k,v'.ownBlock=some k->(Value.slice (some ⟨kT,0,none⟩) nc cc).ownBlock≠some k):=fun o=>by
       have oo:=(Only.refl (fun _=>False) wr).alloc o;rw[amG,<-yW,<-Ie];refine(VK (jl.keep HRx.out (Kp.iI oo)) zBg ⟨dh k0 oo (fun f=>f),dh k1 oo (fun f=>f)⟩ (HV.out.aN oo) hle d.on.name).mono fun e w' ⟨he,v',h,o2,h3⟩=>⟨he,v',h,aI (aI HR.out oo (fun _ _ f=>f)) o2 (fun k hk e=>?_),fun k hk e=>?_⟩
       ·rcases e with e|e;·exact HBc.out k hk e
        exact HB.out k e hk
       rcases h3 k hk with h4|h4;·exact HB.out k h4 e
       have h5:=dX HR.out e;have h6:=oo.size;omega
      clear hd2 hdd ZM hS1 hS2 amG hle HRx HV HR HB hO;go_wp2_with (first| (refine wpList_load_mid rfl 132 (.tmp 44) rfl b' (off'+l*7) rfl _ _ HR7.out Tryz.underlying132 rfl zk ?_)|fail);refine(uh.out _).mono ?_;rintro e w3 ⟨rfl,v',hv',hr',hb'⟩;have Tq:=zh hv';have HR3:=zh hr';have HB3:=zh hb';clear hv' hr' hb' uh;go_wp2_with fail;go_roundw;case rel=>exact⟨l+1,v',by first|rfl|go_num,by omega,Tq,HR3,HB3⟩
      case measure=>simp[RowKit.intOf]<;>omega
     obtain rfl:nd=l:=by omega
     have Tq:=HV;rw[qI (by rw[qM,FB.out];exact qH _),<-DN.out]at Tq;clear HV hO;go_wp2_with fail;go_roundw;case rel=>exact⟨j+1,v,by first|rfl|go_num,by omega,Tq,HR,HB⟩
     case measure=>simp[RowKit.intOf]<;>omega
   obtain rfl:nc=j:=by omega
   rw[qI (yG YF.out)]at HV;obtain⟨l,hl0⟩:∃l,(q.names++(x.closure q.names).flatMap fun p=>(x.pack p).deps.map fun d=>d.on.name).filter x.rO=l:=⟨_,rfl⟩;rw[hl0]at HV;have HL:Hid (x.sees q=l):=hl0;obtain⟨hv,hr,hb,FP,ho⟩:=HV.out;obtain⟨av,cv,rfl,-,-⟩:=aC hr;obtain⟨nl,hnl⟩:=ze l.length;rw[hnl]at hr hv hb;have hc0:wr.cell? ⟨bo,0,none⟩=some (.slice av nl cv):=by rw[ah hv];rfl
   have aiD:nl<=1000000:=by
    rw[<-hnl,<-hl0];refine qR (yO _ _) ?_;rw[qK];have h1:q.names.length<=1000:=by unfold fV.names;rw[qM,N3.out];exact hl
    have h3:=Jq (M:=40) (f:=fun p=>(x.pack p).deps.map fun d=>d.on.name) (l:=x.closure q.names) (fun y hy=>by
     rw[qM]
     exact(HS.out.all _ (aH.iW (aH.lH.1 hy).lt)).deps)
    rw[YF.out]at h3;omega
   have NT:=zh (afT hnl hr aiD);have HB2:=zh hb;have HOo:=zh ho;have hvb:(Value.slice av nl cv).ownBlock≠some bo:=fun e=>by have:=hb bo e;omega
   have HVB:=zh hvb;have HV5:=zh hv;have HNl:=zh hnl;clear hv hr hb FP ho hl0 hnl HV hvb hO;go_wp2_with fail;refine NT.out.mono ?_;rintro e w5 ⟨rfl,r5,o5⟩;have hv5:=aF HV5.out o5 HVB.out;have hc5:w5.cell? ⟨bo,0,none⟩=some (.slice av nl cv):=by rw[ah hv5];rfl
   have HCp:=zh (Ya (l:=EN l) (by rw[Qz];exact HNl.out) r5);have FI:=zh o5;clear r5 o5 hv5 NT hc0 k0 k1 k2;go_wp2_with fail;refine HCp.out.mono ?_;rintro e w6 ⟨v6,rfl,r6,b6,o6⟩;have HF6:=zh (And.intro r6 (And.intro b6 o6));clear r6 b6 o6 HCp hc5;go_wp2_with fail;go_ret;obtain⟨r6,b6,o6⟩:=HF6.out;unfold aH.names;rw[HL.out];have o56:Only (fun k=>(Value.slice av nl cv).ownBlock=some k) wr w6:=FI.out.same o6;refine⟨_,rfl,r6,fun k hk=>?_,?_⟩;·have hk2:v6.ownBlock=some k:=hk;rw[b6]at hk2;have h1:=HB2.out k hk2;have h2:=nR.out;omega
   exact(XG.out wr HOo.out).trans o56 fun k hk=>.inr (by
    have h1:=HB2.out k hk
    have h2:=nR.out
    omega)
end
section
variable {w w':World} {B:Nat}
theorem Vg{vl:Value}{l:List Str}(hl:aQ 1 fM B w vl l)(s:Str):Calls Tryz.prog 272 #[vl,.string s] w fun e w'=>e= .returned (.int .i64 (wL (fun t=>decide (t=s)) l))/\O0 w w':=by
 obtain⟨a_l,IG,rfl,g_l,aby⟩:=hl.shape;obtain⟨wu,e1⟩:=ze l.length;have DX:=zh e1;rw[e1]at hl g_l⊢;have alD:=zh hl;clear e1 hl;obtain⟨W0,hW0⟩:=zB w;have bW:Hid (O0 w W0):=by rw[hW0];exact Only.refl _ _
 have wM:Hid (∀W,O0 W0 W->aQ 1 fM B W (.slice a_l wu IG) l):=fun W ho=>alD.out.keep fM.keep (Kp.iI (bW.out.same ho));clear alD;obtain⟨r,hr⟩:∃r,wL (fun t=>decide (t=s)) l=r:=⟨_,rfl⟩;rw[hr];have jd:=zh hr;clear hr;subst hW0;go_enter Tryz.func272,Tryz.ntmps272;go_wp2_with fail;go_loopw [5,8] (fun _ vi wr=>Hid (O0 W0 wr)/\∃i:Nat,vi= .int .i64 i/\i<=wu/\Hid (∀t∈l.take i,decide (t=s)=false)) (fun _ v _=>wu-(RowKit.intOf v).toNat);case atStart=>exact⟨show Hid _ from Only.refl _ _,0,rfl,qE _,show Hid _ from by simp[Hid]⟩
 case round=>
  obtain⟨HO,i,rfl,hi,HZ⟩:=hrel;by_cases ci:i<wu
  ·have hrow:=wM.out wr HO.out;have hrow0:=hrow;rw[<-DX.out]at hrow0;obtain⟨b,off,he,-,-⟩:=hrow0.at (by have:=DX.out;omega);subst he;obtain⟨y,hx⟩:=zG l i (by rw[DX.out];omega);obtain⟨cs,hl,hr,hC⟩:=hrow.get hx;clear hrow hrow0;obtain⟨rfl,-⟩:=hC;have hcell:=hr 0 _ rfl;simp only[yH,qF]at hcell;have jh:=zw (i+1);have HX:=zh hx;clear hx hr hl;by_cases hy:y=s
   ·have hbd:(s.toList==y.toList)=true:=by rw[hy];exact beq_self_eq_true _
    have hri:r=i:=by rw[<-jd.out];exact Gg HX.out (qX hy) HZ.out
    subst hri;clear hy;go_wp2_with fail;go_ret;exact⟨rfl,bW.out.same HO.out⟩
   have hbd:(s.toList==y.toList)=false:=by rw[yC];exact fun h=>hy (toList_inj h.symm)
   have HD:=zh (qP hy);have HZ2:Hid (∀t∈l.take (i+1),decide (t=s)=false):=fun z hz=>by
    rcases dI HX.out hz with h|rfl;·exact HZ.out z h
    exact HD.out
   clear hy;go_wp2_with fail;go_roundw;case rel=>exact⟨HO,i+1,by first|rfl|go_num,by omega,HZ2⟩
   case measure=>simp[RowKit.intOf]<;>omega
  obtain rfl:wu=i:=by omega
  have hri:r= -1:=by rw[<-jd.out];have:=HZ.out;rw[qI (yG DX.out)]at this;exact Dx this
  subst hri;go_wp2_with fail;go_ret;exact⟨rfl,bW.out.same HO.out⟩
end
end Go.Proofs.YtdmmebjjojimiaaGreatDoor
namespace Go.Proofs
theorem zDp{p:Prop}(h:p:=by
 go_wp2_with fail
 refine HN.out.mono ?_
 rintro e w1 ⟨rfl,h1⟩
 have H1:=zh h1
 clear h1
 go_wp2_with fail
 go_ret
 exact⟨rfl,H1.out⟩):p:=h
end Go.Proofs
namespace Go.Proofs.YtdmmebjjojimiaaGreatDoor
open Go.RowKit
section
variable {w w':World} {gt gb gp:Tag} {c bt bb:Nat} {G:NU} {Bs:Nat} {D:Dn} {S:TB} {X:NV} {E:ES}
theorem KC{v:Value}{xs:List Int}(hI:Ints w v xs)(r:Bool)(hr:(!xs.contains 0)=r):Calls Tryz.prog 227 #[v] w fun e w'=>e= .returned (.bool r)/\w'=w:=by obtain⟨z,hz⟩:=ze (xs.contains 0);have HC:=zh (Aw hI 0 z hz);rw[hz]at hr;subst hr;obtain⟨ao,cap,rfl,-,-⟩:=hI.shape;obtain⟨n,hn⟩:=ze xs.length;rw[hn]at HC⊢;clear hI hz hn;go_enter Tryz.func227,Tryz.ntmps227;go_wp2_with fail;refine HC.out.mono ?_;rintro e w1 ⟨rfl,rfl⟩;go_wp2_with fail;exact zCd
theorem Y5(H:DV w gt gb c bt bb G Bs D S){v:Value}{xs:List Int}(hI:Ints w v xs)(hb:xs.length<=1000000):Calls Tryz.prog 163 #[.pointer (some ⟨c,0,none⟩),v] w fun e w'=>e= .returned (.tuple #[])/\fE w gt gb c bt bb G Bs D (S.dD xs) w':=by
 obtain⟨r,hr⟩:=ze (!xs.contains 0);have HR:=zh (KC hI r hr);have HB:=zh (pW H.gr);have HA:Hid (Calls Tryz.prog 153 #[.pointer (some ⟨bb,0,none⟩),v] w fun e w'=>e= .returned (.tuple #[])/\fE w gt gb c bt bb G Bs D (S.1,S.2.add xs) w'):=
  (Xa H.gr hI zBk).mono fun e w' ⟨he,h⟩=>⟨he,H.step (S2:=(S.1,S.2.add xs)) h H.hinv⟩
 have H0:=zh H;have hS:S.dD xs=if r=true then (S.1,S.2.add xs)else S:=by unfold TB.dD;rw[<-hr];cases xs.contains 0<;>simp
 rw[hS];obtain⟨ao,cap,rfl,-,-⟩:=hI.shape;obtain⟨n,hn⟩:=ze xs.length;rw[hn]at HR HA⊢;clear hI hr hn H hb hS;go_enter Tryz.func163,Tryz.ntmps163;go_wp2_with fail;refine HR.out.mono ?_;rintro e w1 ⟨rfl,rfl⟩;cases r with
 |false=>go_wp2_with fail;go_end0;exact⟨rfl,fE.refl H0.out⟩
 |true=>go_wp2_with fail;refine HB.out.mono ?_;rintro e w2 ⟨rfl,rfl⟩;go_wp2_with fail;refine HA.out.mono ?_;rintro e w3 ⟨rfl,h3⟩;have H3:=zh h3;clear h3;go_wp2_with fail;go_end0;exact⟨rfl,H3.out⟩
theorem Hr(H:DV w gt gb c bt bb G Bs D S){x:At}(hx:sD x)(z:Int)(hz:(S.num x).2=z):Calls Tryz.prog 75 #[.pointer (some ⟨c,0,none⟩),jS x] w fun e w'=>e= .returned (.int .i64 z)/\fE w gt gb c bt bb G Bs D (S.num x).1 w':=(PX H.gr hx z hz).mono fun e w' ⟨he,h⟩=>⟨he,H.step (S2:=(S.num x).1) h (H.hinv.num x)⟩
theorem zI':bU 0:=⟨by decide,by decide⟩
theorem aii{p:Nat}(hp:bU (p:Int)):sD (aJ p):=⟨by simp[aJ],hp,zI',zI'⟩
theorem alE{p:Nat}(hp:bU (p:Int)):sD (iK p):=⟨by simp[iK],hp,zI',zI'⟩
theorem adl{p:Nat}(hp:bU (p:Int)):sD (iJ p):=⟨by simp[iJ],hp,zI',zI'⟩
theorem alF{p k:Nat}(hp:bU (p:Int))(hk:bU (k:Int)):sD (lW p k):=⟨by simp[lW],hp,hk,zI'⟩
theorem agC{p k:Nat}(hp:bU (p:Int))(hk:bU (k:Int)):sD (lC p k):=⟨by simp[lC],hp,hk,zI'⟩
theorem aij{p k c:Nat}(hp:bU (p:Int))(hk:bU (k:Int))(hc:bU (c:Int)):sD (dU p k c):=⟨by simp[dU],hp,hk,hc⟩
theorem RV(H:DV w gt gb c bt bb G Bs D S){p:Nat}(hp:bU (p:Int))(z:Int)(hz:(S.num (aJ p)).2=z):Calls Tryz.prog 164 #[.pointer (some ⟨c,0,none⟩),.int .i64 p] w fun e w'=>e= .returned (.int .i64 z)/\fE w gt gb c bt bb G Bs D (S.num (aJ p)).1 w':=by have HN:=zh (Hr H (aii hp) z hz);clear H hz;go_enter Tryz.func164,Tryz.ntmps164;exact zDp
theorem XJ(H:jW w gt gb gp X Bs D E){r:Nat}(hr:bU (r:Int))(z:Int)(hz:(E.1.num (iK r)).2=z):Calls Tryz.prog 224 #[.pointer (some ⟨X.px,0,none⟩),.int .i64 r] w fun e w'=>e= .returned (.int .i64 z)/\bV w gt gb gp X Bs D ((E.1.num (iK r)).1,E.2) w':=by
 have HN:Hid (Calls Tryz.prog 75 #[.pointer (some ⟨X.c,0,none⟩),jS (iK r)] w fun e w'=>e= .returned (.int .i64 z)/\bV w gt gb gp X Bs D ((E.1.num (iK r)).1,E.2) w'):=
  (Hr H.gx (alE hr) z hz).mono fun e w' ⟨he,h⟩=>⟨he,H.step h⟩
 obtain⟨q0,-,-,-,-⟩:=H.cells;clear H hz;go_enter Tryz.func224,Tryz.ntmps224;exact zDp
def ES.Na(E:ES)(names:List Str)(s:Str):TB:=if eH names s<0 then E.1 else (E.1.num (iJ (eH names s).toNat)).1
def ES.Qo(E:ES)(names:List Str)(s:Str):Int:=if eH names s<0 then 0 else (E.1.num (iJ (eH names s).toNat)).2
theorem FU(names:List Str)(s:Str):eH names s= -1\/ ∃k:Nat,eH names s=k/\k<names.length:=by
 rcases pU (fun t=>decide (t=s)) names with h| ⟨k,h,hk,-⟩;·exact .inl h
 exact .inr ⟨k,h,hk⟩
theorem adn(H:jW w gt gb gp X Bs D E)(hnl:D.names.length<=1000000)(s:Str)(i z:Int)(hi:eH D.names s=i)(hz:E.Qo D.names s=z):Calls Tryz.prog 226 #[.pointer (some ⟨X.px,0,none⟩),.string s] w fun e w'=>e= .returned (.tuple #[.int .i64 z,.int .i64 i])/\bV w gt gb gp X Bs D (E.Na D.names s,E.2) w':=by
 obtain⟨q0,q1,-,-,-⟩:=H.cells;have HI:=zh (Vg (vZ rfl H.names H.nok) s);obtain⟨an,cn,en,-,-⟩:=aC H.names;have HX:Hid (∀W,O0 w W->jW W gt gb gp X Bs D E):=fun W ho=>H.aN ho;have hii:i= -1\/ ∃k:Nat,i=k/\k<D.names.length:=by rw[<-hi];exact FU _ _
 have hi2:wL (fun t=>decide (t=s)) D.names=i:=hi;rw[hi2]at HI;rw[en]at q1 HI;obtain⟨S2,hS2⟩:=ze (E.Na D.names s);rw[hS2];unfold ES.Na at hS2;unfold ES.Qo at hz;rw[hi]at hz hS2;have HS2:=zh hS2;have HZ:=zh hz;clear H hi hi2 en hS2 hz;go_enter Tryz.func226,Tryz.ntmps226;go_wp2_with fail;refine HI.out.mono ?_;rintro e w1 ⟨rfl,O1⟩;have H1:=HX.out w1 O1;have bM:=zh O1;obtain⟨q0,-,-,-,-⟩:=H1.cells;rcases hii with rfl| ⟨k,rfl,hk⟩;·have hz:=HZ.out;have hS2:=HS2.out;rw[if_pos zBk]at hz hS2;subst hz hS2;have HE:Hid (bV w gt gb gp X Bs D (E.1,E.2) w1):=bV.after bM.out (bV.refl H1);clear H1 O1 q0;go_wp2_with fail;go_ret2;exact⟨rfl,HE.out⟩
 have hz:=HZ.out;have hS2:=HS2.out;rw[if_neg zBk,yT]at hz hS2;have HN:Hid (Calls Tryz.prog 75 #[.pointer (some ⟨X.c,0,none⟩),jS (iJ k)] w1 fun e w'=>e= .returned (.int .i64 z)/\bV w gt gb gp X Bs D (S2,E.2) w'):=by rw[<-hS2];exact(Hr H1.gx (adl ⟨by omega,by omega⟩) z hz).mono fun e w' ⟨he,h⟩=>⟨he,bV.after bM.out (H1.step h)⟩
 clear H1 O1 hz hS2;go_wp2_with fail;refine HN.out.mono ?_;rintro e w2 ⟨rfl,h2⟩;have H2:=zh h2;clear h2;go_wp2_with fail;go_ret2;exact⟨rfl,H2.out⟩
end
end Go.Proofs.YtdmmebjjojimiaaGreatDoor
namespace Go.Proofs
theorem zDG{p:Prop}(h:p:=by
 rcases h with h|h
 ·rw[h]at hk;exact ht hk.symm
 ·rw[h,hm1]at hk;exact ht hk.symm):p:=h
theorem zDI{p:Prop}(h:p:=by
 rcases yK k w9.heap.size with h|h
 ·exact h
 ·exact absurd ((hf5.more h3.size) k h) hm):p:=h
theorem zDh{p:Prop}(h:p:=by
 unfold Mine
 rcases hk with hk|hk
 ·rw[hk];simp
 ·rw[hk,hm1];simp):p:=h
end Go.Proofs
namespace Go.Proofs.YtdmmebjjojimiaaGreatDoor
open Go.RowKit
theorem adx{P:Program}{w:World}{ops:Array Oper}{o:Oper}{a:Act}{K:Act->World->Prop}{Q:Exit->Act->World->Prop}{E:Prop}{t:TypeId}(hg:o.guard=none)(m x v:Operand)(hop:o.op=Op.mapUpdate t m x v){mv kv vv:Value}(hm:a.eval m=mv)(hx:a.eval x=kv)(hv:a.eval v=vv){w':World}(hr:(Instr.mapUpdate t mv kv vv).run P w= .ok () w')(hK:K (a.put o.dst undef) w'):if Region.wanted o (yielded ops a.tmps)=true then Oper.wp P o a w K Q else E:=by rw[if_pos (by simp[Region.wanted,hg])];unfold Oper.wp;simp[execOp,hop,hm,hx,hv,hr,Result.andThen];exact hK
section
variable {κ:Type} [DecidableEq κ] {t k:TypeId} {K:FT κ t k} {w w':World} {g:Tag} {τ B:Nat} {m:List (κ×List Int)} {val:κ->Value}
theorem sO.look'(h:sO K w g τ B m val){x:κ}(hx:K.ok x){F:Nat->Prop}(ho:Only F w w')(hF:¬F B):(Instr.lookup t (.map (some B)) (K.enc x) false).run Tryz.prog w'= .ok (val x) w':=by obtain⟨D,h1,h2,h3,h4⟩:=h.own;obtain⟨v,ps,hrun,hat⟩:=(Ba h1 ho hF).lookup K.law K.und (Y4 w') (zd:=.held bP) (zp:=[]) rfl (K.key x hx);exact zEB
end
section
variable {w w':World} {gt gb gp:Tag} {X:NV} {Bs:Nat} {D:Dn} {E:ES}
theorem jW.Si(H:jW w gt gb gp X Bs D E){e:Nat×Nat}(he:KE.ok e){z:Int}(hz:bU z)(hl:E.2.of.length<maxLen):∃(ix:Nat) (v:Value),Row w gp (1,ix+1) 3 v ((fA E.2.of e).map cI)/\(∀W,Only (fun k=>gp k=(1,ix+1)) w W->W.cell? ⟨X.px,2,none⟩=some (.map (some X.m1))/\(Instr.lookup 150 (.map (some X.m1)) (RU e) false).run Tryz.prog W= .ok v W)/\(∀wA w5 v',O0 w wA->Only (fun k=>gp k=(1,ix+1)) wA w5->Row w5 (Tag.put gp wA.heap.size w5.heap.size (1,ix+1)) (1,ix+1) 3 v' ((fA E.2.of e).map cI++[cI z])->∃w9,(Instr.mapUpdate 150 (.map (some X.m1)) (RU e) v').run Tryz.prog w5= .ok () w9/\bV w gt gb gp X Bs D (E.1,{E.2 with of:=gQ E.2.of e z}) w9):=by
 obtain⟨val,hR⟩:=H.of;obtain⟨us,hN⟩:=H.needs;obtain⟨v3,TA⟩:=H.roots;refine⟨qh E.2.of e,val e,hR.rowAt e,fun W hW=>⟨?_,?_⟩,fun wA w5 v' oA o5 hr=>?_⟩;·exact dh H.cells.2.2.1 hW (fun h=>H.tp (.inr (by unfold Mine;rw[h];simp)))
 ·exact hR.look' he hW (by rw[hR.tb];simp)
 have HA:=H.aN oA;have hRA:=hR.keep oA (fun _ _ f=>f) (Agree.refl _ _);have hA:Agree wA gp (Tag.put gp wA.heap.size w5.heap.size (1,qh E.2.of e+1)):=Agree.put _ _ (qH _);obtain⟨w9,h1,h2,h3⟩:=hRA.push he hA o5 hz hr hl;refine⟨w9,h1,bV.after oA ?_⟩;have hm1:=hRA.tb;have Wl:Only (fun k=>gp k=(1,qh E.2.of e+1)\/k=X.m1) wA w9:=(o5.mono fun k hk=>.inl hk).same (h3.mono fun k hk=>.inr hk);have hT:∀{τ:Nat},τ≠1->∀k,(gp k).1=τ->¬(gp k=(1,qh E.2.of e+1)\/k=X.m1):=fun{τ} ht k hk h=>by exact zDG
 have hf5:sV w5 (Tag.put gp wA.heap.size w5.heap.size (1,qh E.2.of e+1)):=sV.put _ HA.fresh o5.size;refine HA.adk hA (Wl.mono fun k hk=>?_) (hf5.more h3.size) ⟨_,h2⟩ ⟨us,(hN.keep oA (fun _ _ f=>f) (Agree.refl _ _)).keep Wl (hT zBl) hA⟩ rfl ⟨v3,(TA.keep oA (fun _ _ f=>f) (Agree.refl _ _)).keep Wl (hT zAG) hA⟩ (fun k hk hm=>?_);·exact zDh
 exact zDI
theorem jW.Jl(H:jW w gt gb gp X Bs D E){e:Nat}(he:KI.ok e){z:Int}(hz:bU z)(hl:E.2.roots.length<maxLen):∃(ix:Nat) (v:Value),Row w gp (3,ix+1) 3 v ((fA E.2.roots e).map cI)/\(∀W,Only (fun k=>gp k=(3,ix+1)) w W->W.cell? ⟨X.px,4,none⟩=some (.map (some X.m2))/\(Instr.lookup 151 (.map (some X.m2)) (.int .i64 (e:Int)) false).run Tryz.prog W= .ok v W)/\(∀wA w5 v',O0 w wA->Only (fun k=>gp k=(3,ix+1)) wA w5->Row w5 (Tag.put gp wA.heap.size w5.heap.size (3,ix+1)) (3,ix+1) 3 v' ((fA E.2.roots e).map cI++[cI z])->∃w9,(Instr.mapUpdate 151 (.map (some X.m2)) (.int .i64 (e:Int)) v').run Tryz.prog w5= .ok () w9/\bV w gt gb gp X Bs D (E.1,{E.2 with roots:=gQ E.2.roots e z}) w9):=by
 obtain⟨val,hR⟩:=H.of;obtain⟨us,hN⟩:=H.needs;obtain⟨v3,TA⟩:=H.roots;refine⟨qh E.2.roots e,v3 e,TA.rowAt e,fun W hW=>⟨?_,?_⟩,fun wA w5 v' oA o5 hr=>?_⟩;·exact dh H.cells.2.2.2.2 hW (fun h=>H.tp (.inr (by unfold Mine;rw[h];simp)))
 ·exact TA.look' he hW (by rw[TA.tb];simp)
 have HA:=H.aN oA;have hRA:=TA.keep oA (fun _ _ f=>f) (Agree.refl _ _);have hA:Agree wA gp (Tag.put gp wA.heap.size w5.heap.size (3,qh E.2.roots e+1)):=Agree.put _ _ (qH _);obtain⟨w9,h1,h2,h3⟩:=hRA.push he hA o5 hz hr hl;refine⟨w9,h1,bV.after oA ?_⟩;have hm1:=hRA.tb;have Wl:Only (fun k=>gp k=(3,qh E.2.roots e+1)\/k=X.m2) wA w9:=(o5.mono fun k hk=>.inl hk).same (h3.mono fun k hk=>.inr hk);have hT:∀{τ:Nat},τ≠3->∀k,(gp k).1=τ->¬(gp k=(3,qh E.2.roots e+1)\/k=X.m2):=fun{τ} ht k hk h=>by exact zDG
 have hf5:sV w5 (Tag.put gp wA.heap.size w5.heap.size (3,qh E.2.roots e+1)):=sV.put _ HA.fresh o5.size;refine HA.adk hA (Wl.mono fun k hk=>?_) (hf5.more h3.size) ⟨val,(hR.keep oA (fun _ _ f=>f) (Agree.refl _ _)).keep Wl (hT zBl) hA⟩ ⟨us,(hN.keep oA (fun _ _ f=>f) (Agree.refl _ _)).keep Wl (hT zAG) hA⟩ rfl ⟨_,h2⟩ (fun k hk hm=>?_);·exact zDh
 exact zDI
theorem jW.wF(H:jW w gt gb gp X Bs D E){n:Nat}(hn:n<D.names.length){z:Int}(hz:bU z):∃(b cap:Nat) (v:Value),X.sv= .slice (some ⟨b,0,none⟩) D.names.length cap/\Row w gp (2,n+1) 3 v ((E.2.needs.getD n []).map cI)/\(∀W,Only (fun k=>gp k=(2,n+1)) w W->W.cell? ⟨X.px,3,none⟩=some X.sv/\W.cell? ⟨b,n,none⟩=some v/\W.frozen? ⟨b,n,none⟩=false)/\(∀wA w5 v',O0 w wA->Only (fun k=>gp k=(2,n+1)) wA w5->Row w5 (Tag.put gp wA.heap.size w5.heap.size (2,n+1)) (2,n+1) 3 v' ((E.2.needs.getD n []).map cI++[cI z])->bV w gt gb gp X Bs D (E.1,{E.2 with needs:=nU E.2.needs n z}) (w5.setCell ⟨b,n,none⟩ v')):=by
 obtain⟨val,hR⟩:=H.of;obtain⟨us,hN⟩:=H.needs;obtain⟨v3,TA⟩:=H.roots;have hnl:=H.Kq;have hul:us.length=D.names.length:=hN.len.trans hnl;obtain⟨b,cap,hsv,-,-,htb,-⟩:=hN.row.pos zBk;rw[hul]at hsv;have hrow:=hN.row;rw[hsv]at hrow;have hn2:n<E.2.needs.length:=zBk;refine⟨b,cap,us.getD n bP,hsv,hN.rows n hn2,fun W hW=>⟨?_,?_,?_⟩,fun wA w5 v' oA o5 hr=>?_⟩;·exact dh H.cells.2.2.2.1 hW (fun h=>H.tp (.inr (by unfold Mine;rw[h];simp)))
 ·exact dh (hrow.cell bP zBk) hW (by rw[htb];simp)
 ·exact tV (hrow.cell bP (by omega:n<us.length)) (hrow.free n) hW (by rw[htb];simp)
 have HA:=H.aN oA;have hA:Agree wA gp (Tag.put gp wA.heap.size w5.heap.size (2,n+1)):=Agree.put _ _ (qH _);have hNA:=hN.keep oA (fun _ _ f=>f) (Agree.refl _ _);rw[hsv]at hNA;obtain⟨h2,h3⟩:=hNA.push hn2 hA o5 hz hr;refine bV.after oA ?_;obtain⟨w9,vH⟩:=ze (w5.setCell ⟨b,n,none⟩ v');have h4:Only (fun k=>k=b) w5 w9:=by rw[<-vH];exact Only.setCell (Only.refl (fun k=>k=b) w5) (p:=⟨b,n,none⟩) (.inl rfl) v'
 rw[vH]at h2 h3⊢;have Wl:Only (fun k=>gp k=(2,n+1)\/k=b) wA w9:=(o5.mono fun k hk=>.inl hk).same (h4.mono fun k hk=>.inr hk);have hT:∀{τ:Nat},τ≠2->∀k,(gp k).1=τ->¬(gp k=(2,n+1)\/k=b):=fun{τ} ht k hk h=>by
  rcases h with h|h;·rw[h]at hk;exact ht hk.symm
  rw[h,htb]at hk;exact ht hk.symm
 have hf5:sV w5 (Tag.put gp wA.heap.size w5.heap.size (2,n+1)):=sV.put _ HA.fresh o5.size;refine HA.adk hA (Wl.mono fun k hk=>?_) (hf5.more h3.size) ⟨val,(hR.keep oA (fun _ _ f=>f) (Agree.refl _ _)).keep Wl (hT zBl) hA⟩ ⟨_,by rw[hsv];exact h2⟩ (by unfold nU;simp) ⟨v3,(TA.keep oA (fun _ _ f=>f) (Agree.refl _ _)).keep Wl (hT zAG) hA⟩ (fun k hk hm=>?_)
 ·unfold Mine;rcases hk with hk|hk;·rw[hk];simp
  rw[hk,htb];simp
 exact zDI
end
end Go.Proofs.YtdmmebjjojimiaaGreatDoor
namespace Go.Proofs
theorem zBo{p:Prop}(h:p:=by repeat (first|exact vW.out|apply Row.drew|apply Row.alloc|apply Row.drewN)):p:=h
theorem zB9{p:Prop}(h:p:=by first| (simp only[qM,HN.out];rfl)|rfl):p:=h
theorem zCD{p:Prop}(h:p:=by simp only[qM];have:=HN.out;omega):p:=h
theorem zFG{p:Prop}(h:p:=by(try dsimp only)<;>(exact Iw.out _ zBj)):p:=h
theorem zFK{p:Prop}(h:p:=by(try dsimp only)<;>(exact Iw.out _ (Only.same zBj Kv))):p:=h
end Go.Proofs
namespace Go.Proofs.YtdmmebjjojimiaaGreatDoor
open Go.RowKit
structure vK (P:iM) (N:Nat):Prop where
 ofl:P.of.length<=N
 ofr:∀k,(fA P.of k).length<=N
 nr:∀i,(P.needs.getD i []).length<=N
 rol:P.roots.length<=N
 ror:∀k,(fA P.roots k).length<=N
theorem vK.mono{P:iM}{N N':Nat}(h:vK P N)(hN:N<=N'):vK P N':=⟨qR h.ofl hN,fun k=>qR (h.ofr k) hN,fun k=>qR (h.nr k) hN,qR h.rol hN,fun k=>qR (h.ror k) hN⟩
theorem Dp{κ:Type}[DecidableEq κ]{m:List (κ×List Int)}{N:Nat}(h:∀k,(fA m k).length<=N)(x:κ)(z:Int)(k:κ):(fA (gQ m x z) k).length<=N+1:=by
 by_cases e:k=x;·subst e;rw[Bz,qK];have:=h k;simp;omega
 rw[zX e];have:=h k;omega
theorem Dq{κ:Type}[DecidableEq κ]{m:List (κ×List Int)}{N:Nat}(h:m.length<=N)(x:κ)(z:Int):(gQ m x z).length<=N+1:=by rw[Ve];split<;>omega
theorem vK.Si{P:iM}{N:Nat}(h:vK P N)(e:Nat×Nat)(z:Int):vK {P with of:=gQ P.of e z} (N+1):=⟨Dq h.ofl e z,Dp h.ofr e z,fun k=>Nat.le_succ_of_le (h.nr k),Nat.le_succ_of_le h.rol,fun k=>Nat.le_succ_of_le (h.ror k)⟩
theorem vK.Jl{P:iM}{N:Nat}(h:vK P N)(e:Nat)(z:Int):vK {P with roots:=gQ P.roots e z} (N+1):=⟨Nat.le_succ_of_le h.ofl,fun k=>Nat.le_succ_of_le (h.ofr k),fun k=>Nat.le_succ_of_le (h.nr k),Dq h.rol e z,Dp h.ror e z⟩
theorem vK.wF{P:iM}{N:Nat}(h:vK P N)(n:Nat)(z:Int):vK {P with needs:=nU P.needs n z} (N+1):=
 ⟨Nat.le_succ_of_le h.ofl,fun k=>Nat.le_succ_of_le (h.ofr k),fun k=>by
  show((nU P.needs n z).getD k []).length<=N+1
  unfold nU
  by_cases e:k=n
  ·subst e
   by_cases hk:k<P.needs.length
   ·rw[qC,List.getElem?_set_self hk]
    show(P.needs.getD k []++[z]).length<=N+1
    rw[qK]
    exact Nat.succ_le_succ (h.nr k)
   ·rw[qC,List.getElem?_eq_none zAd];simp
  ·have:=h.nr k
   rw[qC]at this⊢
   rw[List.getElem?_set_ne (Ne.symm e)]
   omega,Nat.le_succ_of_le h.rol,fun k=>Nat.le_succ_of_le (h.ror k)⟩
section
variable {w w':World} {gt gb gp:Tag} {X:NV} {Bs:Nat} {D:Dn} {E:ES}
theorem adz(H:jW w gt gb gp X Bs D E){p t:Nat}(hp:p<=1000000)(ht:t<=1000000){act:Int}(ha:bU act){N:Nat}(hP:vK E.2 N)(hN:N<=1000000)(z:Int)(hz:(E.goes p t act).2=z):Calls Tryz.prog 229 #[.pointer (some ⟨X.px,0,none⟩),.int .i64 p,.int .i64 t,.int .i64 act] w fun e w'=>e= .returned (.int .i64 z)/\bV w gt gb gp X Bs D (E.goes p t act).1 w':=by
 have hpI:bU (p:Int):=⟨by omega,by omega⟩;have htI:bU (t:Int):=⟨by omega,by omega⟩;obtain⟨ix,v,hrow,hS,hpu⟩:=H.Si (e:=(p,t)) ⟨hpI,htI⟩ ha (by have:=hP.ofl;unfold maxLen;omega);have hrl:=hP.ofr (p,t);obtain⟨xs,hxs⟩:=ze (fA E.2.of (p,t));rw[hxs]at hrow hrl hpu;obtain⟨ao,cap,rfl,-,-⟩:=hrow.shape;obtain⟨n,hn⟩:=ze xs.length;simp only[qM]at hrow hS;rw[hn]at hrow hrl hS;have Iw:Hid (∀W,Only (fun k=>gp k=(1,ix+1)) w W->W.cell? ⟨X.px,2,none⟩=some (.map (some X.m1))/\(Instr.lookup 150 (.map (some X.m1)) (.agg #[.int .i64 (p:Int),.int .i64 (t:Int)]) false).run Tryz.prog W= .ok (.slice ao n cap) W):=hS;have vW:=zh hrow;have HPu:=zh hpu;have HN:=zh hn;have HAt:Hid (sD (lC p t)):=agC hpI htI;have hS0:=Iw.out w.drew (zr.drew);have HE:Hid (E.goes p t act=(((E.1.num (lC p t)).1,{E.2 with of:=gQ E.2.of (p,t) act}),(E.1.num (lC p t)).2)):=rfl;rw[HE.out]at hz⊢;have HZ:Hid ((E.1.num (lC p t)).2=z):=hz;clear hrow hS hpu hxs hn H hP hpI htI hz HE;go_enter Tryz.func229,Tryz.ntmps229;go_wp2_with fail;refine bH (n:=19) (E:=fun j=>j==18) (S:=fun W=>W.cell? ⟨X.px,2,none⟩=some (.map (some X.m1))/\(Instr.lookup 150 (.map (some X.m1)) (.agg #[.int .i64 (p:Int),.int .i64 (t:Int)]) false).run Tryz.prog W= .ok (.slice ao n cap) W) zk rfl hS0 (fun hHeld=>?_);refine tW 0 ?_;refine tW 1 ?_;refine tW 2 ?_;refine tK 3 ?_;refine tW 4 ?_;refine tW 5 ?_;refine tW 6 ?_;refine tW 7 ?_;refine tW 8 ?_;refine tW 9 ?_;refine tK 10 ?_;refine tW 11 ?_;refine tW 12 ?_;refine tW 13 ?_;refine tK 14 ?_;refine tW 15 ?_;refine tO 16 fun K hK=>?_;go_simp;refine hK.out _ _ ?_ (fun hHeld=>?_);·exact zFG
 clear hK K;try simp only[Act.put,gJ,gU,gK,gu,gy,gG]
 refine tO 17 fun K hK=>?_;(refine Row.step (u:=.int .i64 act) kJ (by rfl) (.tmp 23) (.tmp 25) (by rfl) zB9 (by rfl) zBz rfl zBo zCD zAG ?_;intro bb5 cap5 w5 Un Kv);refine hK.out _ _ ?_ (fun hHeld=>?_);·exact zFK
 clear hK K;try simp only[Act.put,gJ,gU,gK,gu,gy,gG]
 refine fP (rs:=[18]) zk zAM ?_;refine dA.late (i:=18) rfl zk (fun K hK=>?_) ?_
 ·(obtain⟨w9,JM,Ht⟩:=HPu.out _ w5 _ zBj Kv Un;refine adx (by rfl) (.tmp 12) (.tmp 15) (.tmp 26) (by rfl) (by rfl) (by rfl) (by rfl) JM ?_);refine hK.out _ _ ?_;clear hK K;try simp only[Act.put,gJ,gU,gK,gu,gy,gG]
  refine aZ zk ?_ _;have HE9:=zh Ht;clear Ht JM Un Kv;obtain⟨gt9,gb9,gp9,H9,A1,A2,A3,O9⟩:=HE9.out;obtain⟨q0,-,-,-,-⟩:=H9.cells;have vT:Hid (Calls Tryz.prog 75 #[.pointer (some ⟨X.c,0,none⟩),jS (lC p t)] w9 fun e w'=>e= .returned (.int .i64 z)/\bV w gt gb gp X Bs D ((E.1.num (lC p t)).1,{E.2 with of:=gQ E.2.of (p,t) act}) w'):=
   (Hr H9.gx HAt.out z HZ.out).mono fun e w' ⟨he,h⟩=>⟨he,bV.trans A1 A2 A3 O9 (H9.step h)⟩
  clear H9 A1 A2 A3 O9 HE9;go_wp2_with fail;refine vT.out.mono ?_;rintro e w10 ⟨rfl,h10⟩;have H10:=zh h10;clear h10 vT;go_wp2_with fail;go_ret;exact⟨rfl,H10.out⟩
 exact dA.nil
end
end Go.Proofs.YtdmmebjjojimiaaGreatDoor
namespace Go.Proofs
theorem zA0{p:Prop}(h:p:=by exact qL _ _):p:=h
theorem zCl{p:Prop}(h:p:=by
 go_wp2_with fail
 go_roundw
 case rel=>exact⟨i+1,by first|rfl|go_num,by omega,HF⟩
 case measure=>simp[RowKit.intOf]<;>omega):p:=h
end Go.Proofs
namespace Go.Proofs.YtdmmebjjojimiaaGreatDoor
open Go.RowKit
section
variable {w wr:World} {g:Tag} {b:Nat} {V:WU} {B:lu}
def Jk(w:World)(g:Tag)(b:Nat)(B:lu)(wr:World)(v:Value)(xs:List Int):Prop:=
 ∃g' V',lJ wr g' b V' B/\Agree w g g'/\Only (Mine g) w wr/\wr.ownsRow 0 3 1 v xs.length (xs.map cI)/\∀k,v.ownBlock=some k->¬Mine g' k/\w.heap.size<=k
theorem Jk.Jy{v:Value}{xs:List Int}(h:Jk w g b B wr v xs):iV w g b B wr:=by obtain⟨g',V',H,A,O,-,-⟩:=h;exact⟨g',V',H,A,O⟩
theorem Jk.add{v:Value}{xs:List Int}{g':Tag}{V':WU}(H:lJ wr g' b V' B)(A:Agree w g g')(O:Only (Mine g) w wr)(R:wr.ownsRow 0 3 1 v xs.length (xs.map cI))(N:∀k,v.ownBlock=some k->¬Mine g' k/\w.heap.size<=k){B2:lu}{w2 w3:World}(o:O0 wr w2)(h2:iV w2 g' b B2 w3):Jk w g b B2 w3 v xs:=by obtain⟨g2,V2,H2,A2,O2⟩:=iV.after o h2;refine⟨g2,V2,H2,A.trans A2 O.size,O.mine A O2,aI R O2 (fun k hk=>(N k hk).1),fun k hk=>⟨?_,(N k hk).2⟩⟩;have hlt:=dX R hk;have:=(N k hk).1;unfold Mine at this⊢;rwa[A2 k hlt]
theorem Jk.app{v v':Value}{xs:List Int}(h:Jk w g b B wr v xs){w3 w4:World}(o3:O0 wr w3){z:Int}(r:w4.ownsRow 0 3 1 v' (xs.length+1) (xs.map cI++[cI z]))(o:Only (fun k=>v.ownBlock=some k) w3 w4)(a:BN w3 v v' (xs.length+1)):Jk w g b B w4 v' (xs++[z]):=by
 obtain⟨g',V',H,A,O,R,N⟩:=h;have o4:Only (fun k=>v.ownBlock=some k) wr w4:=(o3.mono fun _ f=>f.elim).same o;refine⟨g',V',H.only o4 (fun k hk hv=>(N k hv).1 hk),A,O.trans o4 fun k hk=>.inr (N k hk).2,by simpa using r,fun k hk=>?_⟩;obtain⟨gg,cap,rfl,-,-,hg⟩:=a;simp[Value.ownBlock]at hk;subst hk;rcases hg with hg|hg;·exact N gg hg
 have h3:=o3.size;have h4:=O.size;exact⟨by unfold Mine;rw[H.fresh gg zBk];simp,by omega⟩
theorem afs(H:lJ w g b V B){v:Value}{xs:List Int}(hI:Ints w v xs)(hN:xX g v xs)(x:Int)(hx: -1000000<=x/\x<=1000000)(hs:∀z∈xs,-1000000<=z/\z<=1000000)(hl:xs.length<=1000000):Calls Tryz.prog 360 #[.pointer (some ⟨b,0,none⟩),.int .i64 x,v] w fun e w'=>e= .returned (.tuple #[])/\iV w g b (B.adds (J8 x xs)) w':=by
 obtain⟨ao,cap,rfl,hc1,hc2⟩:=hI.shape;obtain⟨n,hn⟩:=ze xs.length;have HN:=zh hn;rw[hn]at hc1 hl hI hN⊢;have HI:=zh hI;have J3:=zh hN;have HS:=zh hs;have H0:=zh H;have ewx:=zw (-x);have x9:Hid (∀W,O0 w W->∀ad,ao=some ad->∀j u,(xs.map cI)[j]? =some u->W.cell? (ad.add j)=some u):=fun W hW=>(HI.out.aN hW).news;have GY:Hid (ao=none->n=0/\cap=0):=fun e=>HI.out.nil n cap zB6;have HLen:Hid ((xs.map cI).length=n):=by rw[qM,HN.out];exact rfl
 have xg:Hid (∀W v2,O0 w W->W.ownsRow 0 3 1 v2 (1+n) ([cI (-x)]++xs.map cI)->Calls Tryz.prog 153 #[.pointer (some ⟨b,0,none⟩),v2] W fun e w'=>e= .returned (.tuple #[])/\iV w g b (B.add (-x::xs)) w'):=fun W v2 hW hown=>by
  have hI2:Ints W v2 (-x::xs):=by
   refine Ints.fH ?_ fun z hz=>?_
   ·have e1:1+n=(-x::xs).length:=by rw[qN,HN.out];omega
    rw[e1]at hown;simpa using hown
   exact zE3
  exact(DK (H0.out.aN hW) hI2 (by rw[qN,HN.out];omega)).mono fun e w' ⟨he,h⟩=>⟨he,iV.after hW h⟩
 clear hI hN hs hn H;go_enter Tryz.func360,Tryz.ntmps360;go_wp2_with (at_builtin;go_must (refine KO kJ (v:=.slice (some ⟨w.heap.size,0,none⟩) 1 1) (n:=1) (xs:=[cI (-x)]) (ao:=ao) (m:=n) (c:=cap) (news:=xs.map cI) rfl (.tmp 11) (.tmp 12) rfl rfl (uO zCE) rfl HLen.out GY.out (x9.out _ (zr.alloc _)) (zy _) zBk zBl ?_));intro v2 w2 r2 o2 n2;have O2:O0 w w2:=Only.trans (zr.alloc _) o2 (fun k hk=>.inr (by simp[Value.ownBlock]at hk;omega));have HA2:=zh (xg.out w2 v2 O2 r2);obtain⟨a2,c2,rfl,-,-⟩:=aC r2;clear r2 o2 n2 O2 ewx;go_wp2_with fail;refine HA2.out.mono ?_;rintro e w3 ⟨rfl,h3⟩;have H3:Hid (iV w g b ((B.add (-x::xs)).adds ((xs.map fun y=>[-y,x]).take 0)) w3):=h3;clear h3 HA2 x9 GY HLen xg;go_wp2_with fail;go_loopw [17] (fun vi wr=> ∃i:Nat,vi= .int .i64 i/\i<=n/\Hid (iV w g b ((B.add (-x::xs)).adds ((xs.map fun y=>[-y,x]).take i)) wr)) (fun v _=>n-(RowKit.intOf v).toNat);case atStart=>exact⟨0,rfl,qE _,H3⟩
 case round=>
  clear H3;obtain⟨i,rfl,hi,HR⟩:=hrel;by_cases ci:i<n
  ·obtain⟨g1,V1,H1,A1,O1⟩:=HR.out;have hI1:=HI.out.mine J3.out O1;have hi2:i<xs.length:=zAl;obtain⟨bb,off,rfl,hcell⟩:=hI1.Jz hi2;obtain⟨y,hy⟩:=ze (xs.getD i 0);have hyb:=HS.out y (by rw[<-hy];exact ql 0 hi2);rw[hy]at hcell;have jh:=zw (i+1);have ewy:=zw (-y);have hpk:(xs.map fun y=>[-y,x]).take (i+1)=(xs.map fun y=>[-y,x]).take i++[[-y,x]]:=by
    rw[yL (by simpa using hi2),List.getElem_map];have hk2:xs[i]'hi2=y:=by rw[<-hy,qC,qA hi2];rfl
    rw[hk2]
   have HAdd:=zh (DK (H1.aN ((Only.refl (fun _=>False) wr).alloc (.cells #[.int .i64 (-y),.int .i64 x] 3))) (BH wr (-y) x ⟨by omega,by omega⟩ ⟨by omega,by omega⟩) zAM);have HFin:Hid (∀w',iV (wr.alloc (.cells #[.int .i64 (-y),.int .i64 x] 3)) g1 b (((B.add (-x::xs)).adds ((xs.map fun y=>[-y,x]).take i)).add [-y,x]) w'->iV w g b ((B.add (-x::xs)).adds ((xs.map fun y=>[-y,x]).take (i+1))) w'):=fun w' h=>by exact zEe
   have KD:=zh jh;clear hpk hy H1 A1 O1 jh hI1;go_wp2_with fail;refine HAdd.out.mono ?_;rintro e w4 ⟨rfl,h4⟩;have HF:=zh (HFin.out w4 h4);have jh:=KD.out;clear h4 ewy;exact zCl
  obtain rfl:n=i:=by omega
  go_wp2_with fail;go_end0;refine⟨rfl,?_⟩;have:=HR.out;rw[qI zBf]at this;exact this
theorem aft(H:lJ w g b V B){v:Value}{xs:List Int}(hI:Ints w v xs)(hN:xX g v xs)(x:Int)(hx: -1000000<=x/\x<=1000000)(hs:∀z∈xs,-1000000<=z/\z<=1000000)(hl:xs.length<=1000000):Calls Tryz.prog 228 #[.pointer (some ⟨b,0,none⟩),.int .i64 x,v] w fun e w'=>e= .returned (.tuple #[])/\iV w g b (B.adds (pz x xs)) w':=by
 obtain⟨ao,cap,rfl,hc1,hc2⟩:=hI.shape;obtain⟨n,hn⟩:=ze xs.length;have HN:=zh hn;rw[hn]at hc1 hl hI hN⊢;have HI:=zh hI;have J3:=zh hN;have HS:=zh hs;have ewx:=zw (-x);have HW0:Hid (Jk w g b (B.adds ((xs.map fun y=>[-x,y]).take 0)) (w.alloc (.cells #[.int .i64 x] 3)) (.slice (some ⟨w.heap.size,0,none⟩) 1 1) (x::(xs.take 0).map fun y=> -y)):=
  ⟨g,V,H.aN (zr.alloc _),Agree.refl _ _,zr.alloc _,uO zA0,fun k hk=>by
   simp[Value.ownBlock]at hk
   subst hk
   exact⟨by unfold Mine;rw[H.fresh _ (qH _)];simp,qH _⟩⟩
 clear hI hN hs hn H;go_enter Tryz.func228,Tryz.ntmps228;go_wp2_with fail;go_loopw [6,13] (fun v6 vi wr=> ∃i:Nat,vi= .int .i64 i/\i<=n/\Hid (Jk w g b (B.adds ((xs.map fun y=>[-x,y]).take i)) wr v6 (x::(xs.take i).map fun y=> -y))) (fun _ v _=>n-(RowKit.intOf v).toNat);case atStart=>exact⟨0,rfl,qE _,HW0⟩
 case round=>
  clear HW0;obtain⟨i,rfl,hi,HR⟩:=hrel;by_cases ci:i<n
  ·obtain⟨g1,V1,H1,A1,O1,R1,N1⟩:=HR.out;have hI1:=HI.out.mine J3.out O1;have hi2:i<xs.length:=zAl;obtain⟨bb,off,rfl,hcell⟩:=hI1.Jz hi2;obtain⟨y,hy⟩:=ze (xs.getD i 0);have hyb:=HS.out y (by rw[<-hy];exact ql 0 hi2);rw[hy]at hcell;have hk2:xs[i]'hi2=y:=by rw[<-hy,qC,qA hi2];rfl
   have jh:=zw (i+1);have ewy:=zw (-y);have hpk:(xs.map fun y=>[-x,y]).take (i+1)=(xs.map fun y=>[-x,y]).take i++[[-x,y]]:=by rw[yL (by simpa using hi2),List.getElem_map,hk2]
   obtain⟨m,hm⟩:∃m,(x::(xs.take i).map fun y=> -y).length=m:=⟨_,rfl⟩;have hmi:m=i+1:=by rw[<-hm];simp;omega
   have alG:Hid (x::(xs.take (i+1)).map (fun y=> -y)=(x::(xs.take i).map fun y=> -y)++[-y]):=by show _=_;rw[yL hi2,hk2,List.map_append];rfl
   obtain⟨L,hL⟩:∃L,(x::(xs.take i).map fun y=> -y)=L:=⟨_,rfl⟩;rw[hL]at R1 alG HR hm;have HAdd:=zh (DK (H1.aN ((Only.refl (fun _=>False) wr).alloc (.cells #[.int .i64 (-x),.int .i64 y] 3))) (BH wr (-x) y ⟨by omega,by omega⟩ ⟨by omega,by omega⟩) zAM);have HFin:Hid (∀w',iV (wr.alloc (.cells #[.int .i64 (-x),.int .i64 y] 3)) g1 b ((B.adds ((xs.map fun y=>[-x,y]).take i)).add [-x,y]) w'->Jk w g b (B.adds ((xs.map fun y=>[-x,y]).take (i+1))) w' u6 L):=fun w' h=>by rw[hpk,lu.wZ,lu.CU];exact Jk.add H1 A1 O1 R1 N1 ((Only.refl _ wr).alloc _) h
   have KD:=zh jh;have je:=zh ewy;obtain⟨au,cu,hu,-,-⟩:=aC R1;subst hu;have HM:=zh hm;clear hpk hy H1 A1 O1 jh ewy hI1 R1 N1 hL hk2 hm;go_wp2_with fail;refine HAdd.out.mono ?_;rintro e w4 ⟨rfl,h4⟩;have HF:=zh (HFin.out w4 h4);have ewy:=je.out;have hown:w4.ownsRow 0 3 1 (.slice au L.length cu) L.length (L.map cI):=by obtain⟨_,_,_,_,_,R,_⟩:=HF.out;exact R
   have zO:=zh hown;clear h4 HAdd HFin hown HR;go_wp2_with (at_builtin;go_must (refine tC (u:=.int .i64 (-y)) kJ rfl (.tmp 23) (.tmp 26) rfl rfl rfl (cell_new0 _ _ _) rfl (aI zO.out ((Only.refl (fun _=>False) _).alloc _) (fun _ _ f=>f)) (by have:=HM.out;omega) zAG ?_));intro v' w6 s1 s2 s3;have Ey:Hid (Jk w g b (B.adds ((xs.map fun y=>[-x,y]).take (i+1))) w6 v' (x::(xs.take (i+1)).map fun y=> -y)):=by rw[alG.out];exact Jk.app HF.out ((Only.refl (fun _=>False) w4).alloc _) s1 s2 s3
   obtain⟨g6,c6',rfl,-,-,-⟩:=s3;have jh:=KD.out;clear s1 s2 zO HF ewy;go_wp2_with fail;go_roundw;case rel=>exact⟨i+1,by first|rfl|go_num,by omega,Ey⟩
   case measure=>simp[RowKit.intOf]<;>omega
  obtain rfl:n=i:=by omega
  obtain⟨g1,V1,H1,A1,O1,R1,N1⟩:=HR.out;have hI6:Ints wr u6 (x::(xs.take n).map fun y=> -y):=Ints.fH R1 fun z hz=>by
   rcases qY.1 hz with rfl|hz;·exact zCw
   obtain⟨y,hy,rfl⟩:=yD.1 hz;have:=HS.out y (List.mem_of_mem_take hy);exact zCw
  have HAdd:=zh (DK H1 hI6 zAd);have HFin:Hid (∀w',iV wr g1 b ((B.adds ((xs.map fun y=>[-x,y]).take n)).add (x::(xs.take n).map fun y=> -y)) w'->iV w g b (B.adds (pz x xs)) w'):=fun w' h=>by
   have e1:B.adds (pz x xs)=(B.adds ((xs.map fun y=>[-x,y]).take n)).add (x::(xs.take n).map fun y=> -y):=by rw[qI zBf,qI (by rw[HN.out];exact qH _)];unfold pz;rw[lu.wZ,lu.CU]
   rw[e1];exact iV.trans A1 O1 h
  obtain⟨au,cu,hu,-,-⟩:=aC R1;subst hu;obtain⟨m,hm⟩:∃m,(x::(xs.take n).map fun y=> -y).length=m:=⟨_,rfl⟩;rw[hm]at HAdd⊢;clear R1 N1 H1 A1 O1 hI6 HR hm;go_wp2_with fail;refine HAdd.out.mono ?_;rintro e w4 ⟨rfl,h4⟩;have HF:=zh (HFin.out w4 h4);clear h4;go_wp2_with fail;go_end0;exact⟨rfl,HF.out⟩
end
end Go.Proofs.YtdmmebjjojimiaaGreatDoor
