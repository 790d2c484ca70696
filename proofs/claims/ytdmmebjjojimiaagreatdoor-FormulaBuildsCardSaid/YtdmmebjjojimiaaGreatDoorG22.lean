/- Package edge: a ground with what it is of, and the second part under way, in memory.; Package edge: right, add, node, rule, need. -/
import Derived.Test.YtdmmebjjojimiaaGreatDoorG21
set_option maxRecDepth 100000
set_option maxHeartbeats 8000000
set_option linter.all false
namespace Go.Proofs
theorem zA4{p:Prop}(h:p:=by unfold Mine;omega):p:=h
theorem zCz{p:Prop}(h:p:=by
 obtain⟨V,hV⟩:=H.gx.gr.tab
 obtain⟨U,hU⟩:=H.gx.gr.Fb
 rcases yK k w.heap.size with hlt|hge
 ·exact hlt
 ·rcases hk with hk|hk
  ·exact absurd (hV.fresh k hge) hk
  ·exact absurd (hU.fresh k hge) hk):p:=h
theorem zDY{p:Prop}(h:p:=by
 obtain⟨ZH,ZI,gp2,H2,A2,VN,aic,O2⟩:=h2
 exact⟨ZH,ZI,gp2,H2,ht.trans A2 ho.size,hb.trans VN ho.size,hp.trans aic ho.size,ho.y9 ht hb hp O2⟩):p:=h
theorem zD1{p:Prop}(h:p:=by
 obtain⟨gt',gb',lS,H2,A1,A2,A3,O⟩:=h
 exact⟨gt',gb',lS,H2.aH o,A1,A2,A3,O.same (o.mono fun _ f=>f.elim)⟩):p:=h
theorem zEU{p:Prop}(h:p:=by
 rcases yK k w.heap.size with hlt|hge
 ·exact H.low k ((hM k hlt).1 hk)
 ·exact qR H.gx.le hge):p:=h
end Go.Proofs
namespace Go.Proofs.YtdmmebjjojimiaaGreatDoor
open Go.RowKit
structure xC where
 x:aF
 q:dH
 l:List Nat
 rs:List bW
 names:List Str
def Aj(B:Nat)(w:World):Prop:= ∀w',Kp B w w'->Laid w'
theorem Aj.now{B:Nat}{w:World}(h:Aj B w):Laid w:=h w zr
theorem Aj.keep{B:Nat}{w w1:World}(h:Aj B w)(k:Kp B w w1):Aj B w1:=fun w' k'=>h w' (k.same k')
theorem Aj.of{B:Nat}{w:World}(h:Laid w)(hB:w.heap.size<=B):Aj B w:=fun w' k=>h.only (k.trans' fun i hi=>qR hB hi)
theorem Aj.more{B B':Nat}{w:World}(h:Aj B w)(hB:B<=B'):Aj B' w:=fun w' k=>h w' (k.mono fun i hi=>qR hB hi)
def gu(T:Tab):Prop:= ∀j,j<T.helps->hA j∈T.l
theorem gu.num{T:Tab}(h:gu T)(x:At):gu (T.num x).1:=by
 unfold Tab.num;split;·exact h
 split;·exact h
 exact fun j hj=>List.mem_append_left _ (h j hj)
structure xP (w:World) (gt gb:Tag) (c bt bb:Nat) (G:GL) (Bs:Nat) (D:xC) (S:TB):Prop where
 gr:nP w gt gb c bt bb G S.1 S.2
 Ef:gy Bs w [G.x1,G.x2] D.x
 ZY:lW Bs w [G.q] D.q
 l:Ints w G.l (intsOf D.l)
 lb:∀k,Value.blk G.l=some k->k<Bs
 rl:aQ 4 xw Bs w G.r D.rs
 low:∀k,Mine gt k\/Mine gb k->Bs<=k
 le:Bs<=w.heap.size
 laid:Aj Bs w
 hinv:gu S.1
section
variable {w w':World} {gt gb gp:Tag} {c bt bb:Nat} {G:GL} {Bs:Nat} {D:xC} {S:TB}
theorem Kp.xE{F:Nat->Prop}(ho:Only F w w')(h:∀k,F k->Bs<=k):Kp Bs w w':=ho.mono h
theorem xP.keep(H:xP w gt gb c bt bb G Bs D S){F:Nat->Prop}(ho:Only F w w')(hF:∀k,F k->Bs<=k)(h1:∀k,Mine gt k\/Mine gb k->¬F k)(h2:¬F c):xP w' gt gb c bt bb G Bs D S:=
 ⟨H.gr.only ho h1 h2,gy.keep H.Ef (Kp.xE ho hF),lW.keep H.ZY (Kp.xE ho hF),H.l.only' ho (fun _ k hk hf=>by have:=H.lb k hk;have:=hF k hf;omega),H.lb,H.rl.keep xw.keep (Kp.xE ho hF),H.low,qR H.le ho.size,H.laid.keep (Kp.xE ho hF),H.hinv⟩
theorem xP.aH(H:xP w gt gb c bt bb G Bs D S)(ho:O0 w w'):xP w' gt gb c bt bb G Bs D S:=H.keep ho (fun _ f=>f.elim) (fun _ _ f=>f) (fun f=>f)
def aZ(w:World)(gt gb:Tag)(c bt bb:Nat)(G:GL)(Bs:Nat)(D:xC)(S:TB)(w':World):Prop:=
 ∃gt' gb',xP w' gt' gb' c bt bb G Bs D S/\Agree w gt gt'/\Agree w gb gb'/\Only (fun k=>Mine gt k\/Mine gb k) w w'
theorem xP.step(H:xP w gt gb c bt bb G Bs D S){S2:TB}(h:jd w gt gb c bt bb G S2.1 S2.2 w')(hi:gu S2.1):aZ w gt gb c bt bb G Bs D S2 w':=by
 obtain⟨gt',gb',H2,A1,A2,O⟩:=h;refine⟨gt',gb',⟨H2,gy.keep H.Ef (Kp.xE O H.low),lW.keep H.ZY (Kp.xE O H.low),H.l.only' O (fun _ k hk hf=>by have:=H.lb k hk;have:=H.low k hf;omega),H.lb,H.rl.keep xw.keep (Kp.xE O H.low),fun k hk=>?_,qR H.le O.size,H.laid.keep (Kp.xE O H.low),hi⟩,A1,A2,O⟩;rcases yK k w.heap.size with hlt|hge;·refine H.low k ?_;unfold Mine at hk⊢;rwa[A1 k hlt,A2 k hlt]at hk
 exact qR H.le hge
theorem aZ.gr(h:aZ w gt gb c bt bb G Bs D S w'):jd w gt gb c bt bb G S.1 S.2 w':=by obtain⟨gt',gb',H2,A1,A2,O⟩:=h;exact⟨gt',gb',H2.gr,A1,A2,O⟩
theorem aZ.refl(H:xP w gt gb c bt bb G Bs D S):aZ w gt gb c bt bb G Bs D S w:=⟨gt,gb,H,Agree.refl _ _,Agree.refl _ _,Only.refl _ _⟩
theorem aZ.trans{w1 w2:World}{jO jP:Tag}(ht:Agree w gt jO)(hb:Agree w gb jP)(ho:Only (fun k=>Mine gt k\/Mine gb k) w w1){S2:TB}(h2:aZ w1 jO jP c bt bb G Bs D S2 w2):aZ w gt gb c bt bb G Bs D S2 w2:=by exact zEA
theorem aZ.after{w1 w2:World}(o1:O0 w w1){S2:TB}(h:aZ w1 gt gb c bt bb G Bs D S2 w2):aZ w gt gb c bt bb G Bs D S2 w2:=aZ.trans (Agree.refl _ _) (Agree.refl _ _) (o1.mono fun _ f=>f.elim) h
theorem aZ.Lm{w1 w2:World}(h:aZ w gt gb c bt bb G Bs D S w1)(o:O0 w1 w2):aZ w gt gb c bt bb G Bs D S w2:=by obtain⟨gt',gb',H2,A1,A2,O⟩:=h;exact⟨gt',gb',H2.aH o,A1,A2,O.same (o.mono fun _ f=>f.elim)⟩
theorem aZ.cell(h:aZ w gt gb c bt bb G Bs D S w'){b i:Nat}{u:Value}(hc:w.cell? ⟨b,i,none⟩=some u)(h1:¬Mine gt b)(h2:¬Mine gb b):w'.cell? ⟨b,i,none⟩=some u:=by obtain⟨gt',gb',H2,A1,A2,O⟩:=h;exact aY hc O (fun hh=>hh.elim h1 h2)
end
section
variable {w2 wr:World} {jO jP:Tag} {c bt bb:Nat} {G:GL} {Bs:Nat} {D:xC} {S:TB}
def jy(w2:World)(jO jP:Tag)(c bt bb:Nat)(G:GL)(Bs:Nat)(D:xC)(S:TB)(wr:World)(v:Value)(xs:List Int):Prop:=
 ∃gt' gb',xP wr gt' gb' c bt bb G Bs D S/\Agree w2 jO gt'/\Agree w2 jP gb'/\Only (fun k=>Mine jO k\/Mine jP k) w2 wr/\wr.ownsRow 0 3 1 v xs.length (xs.map cI)/\Beside wr gt' gb' c v/\(∀k,v.ownBlock=some k->w2.heap.size<=k)/\Bs<=w2.heap.size
theorem jy.start(hB:Bs<=w2.heap.size)(h:aZ w2 jO jP c bt bb G Bs D S wr):jy w2 jO jP c bt bb G Bs D S wr dF []:=by obtain⟨a,b,H,A,A',O⟩:=h;exact⟨a,b,H,A,A',O,World.ownsRow_nil _ _ _ _,(fun k hk=>by cases hk),(fun k hk=>by cases hk),hB⟩
theorem jy.gr{v:Value}{xs:List Int}(h:jy w2 jO jP c bt bb G Bs D S wr v xs):aZ w2 jO jP c bt bb G Bs D S wr:=by obtain⟨a,b,H,A,A',O,-,-,-,-⟩:=h;exact⟨a,b,H,A,A',O⟩
theorem jy.own{v:Value}{xs:List Int}(h:jy w2 jO jP c bt bb G Bs D S wr v xs):wr.ownsRow 0 3 1 v xs.length (xs.map cI):=by obtain⟨_,_,_,_,_,_,R,_⟩:=h;exact R
theorem jy.only{v:Value}{xs:List Int}(h:jy w2 jO jP c bt bb G Bs D S wr v xs):Only (fun k=>Mine jO k\/Mine jP k) w2 wr:=by obtain⟨_,_,_,_,_,O,_⟩:=h;exact O
theorem jy.aH{v:Value}{xs:List Int}(h:jy w2 jO jP c bt bb G Bs D S wr v xs){w3:World}(o:O0 wr w3):jy w2 jO jP c bt bb G Bs D S w3 v xs:=by obtain⟨a,b,H,A,A',O,R,S',N,hB⟩:=h;exact⟨a,b,H.aH o,A,A',O.same (o.mono fun _ f=>f.elim),aG R o (fun _ _ f=>f),S'.more o.size (Agree.refl _ _) (Agree.refl _ _),N,hB⟩
theorem jy.lit(hB:Bs<=w2.heap.size)(h:aZ w2 jO jP c bt bb G Bs D S wr)(z:Int):jy w2 jO jP c bt bb G Bs D S (wr.alloc (.cells #[.int .i64 z] 3)) (.slice (some ⟨wr.heap.size,0,none⟩) 1 1) [z]:=by
 obtain⟨a,b,H,A,A',O⟩:=h;have o:=(Only.refl (fun _=>False) wr).alloc (.cells #[.int .i64 z] 3);refine⟨a,b,H.aH o,A,A',O.same (o.mono fun _ f=>f.elim),ug zB1,Beside.new H.gr o.size (fun k hk=>?_),fun k hk=>?_,hB⟩;·simp[Value.blk]at hk;subst hk;exact⟨qH _,by simp⟩
 simp[Value.ownBlock]at hk;subst hk;exact O.size
theorem jy.step{v:Value}{xs:List Int}{gt' gb':Tag}(A:Agree w2 jO gt')(A':Agree w2 jP gb')(O:Only (fun k=>Mine jO k\/Mine jP k) w2 wr)(R:wr.ownsRow 0 3 1 v xs.length (xs.map cI))(S':Beside wr gt' gb' c v)(N:∀k,v.ownBlock=some k->w2.heap.size<=k)(hB:Bs<=w2.heap.size){S2:TB}{w':World}(h2:aZ wr gt' gb' c bt bb G Bs D S2 w'):jy w2 jO jP c bt bb G Bs D S2 w' v xs:=by
 obtain⟨a2,b2,H2,A2,VN,O2⟩:=h2;refine⟨a2,b2,H2,A.trans A2 O.size,A'.trans VN O.size,O.Fe A A' O2,aG R O2 fun k hk hm=>?_,S'.more O2.size A2 VN,N,hB⟩;have hk':Value.blk v=some k:=by exact zCn
 rcases hm with hm|hm;·exact(S' k hk').2.1 hm
 exact(S' k hk').2.2.1 hm
theorem jy.call{v:Value}{xs:List Int}(h:jy w2 jO jP c bt bb G Bs D S wr v xs){S2:TB}{f:FuncId}{args:Array Value}{u:Value}(hc:∀gt' gb',xP wr gt' gb' c bt bb G Bs D S->Calls Tryz.prog f args wr fun e w'=>e= .returned u/\aZ wr gt' gb' c bt bb G Bs D S2 w'):Calls Tryz.prog f args wr fun e w'=>e= .returned u/\jy w2 jO jP c bt bb G Bs D S2 w' v xs:=by obtain⟨a,b,H,A,A',O,R,S',N,hB⟩:=h;exact(hc a b H).mono fun e w' ⟨he,h2⟩=>⟨he,jy.step A A' O R S' N hB h2⟩
theorem jy.app{v v':Value}{xs:List Int}(h:jy w2 jO jP c bt bb G Bs D S wr v xs){w3 w4:World}(o3:O0 wr w3){z:Int}(r:w4.ownsRow 0 3 1 v' (xs.length+1) (xs.map cI++[cI z]))(o:Only (fun k=>v.ownBlock=some k) w3 w4)(a:AB w3 v v' (xs.length+1)):jy w2 jO jP c bt bb G Bs D S w4 v' (xs++[z]):=by
 obtain⟨gt',gb',H,A,A',O,R,S',N,hB⟩:=h;have hbl:∀k,v.ownBlock=some k->Value.blk v=some k:=fun k hk=>by exact zCn
 have o4:Only (fun k=>v.ownBlock=some k) wr w4:=(o3.mono fun _ f=>f.elim).same o;have hlow:∀k,v.ownBlock=some k->Bs<=k:=fun k hk=>qR hB (N k hk);have H4:=H.keep o4 hlow (fun k hk hv=>by
  obtain⟨-,s1,s2,-⟩:=S' k (hbl k hv)
  rcases hk with hk|hk
  ·exact s1 hk
  ·exact s2 hk) (fun hv=>(S' c (hbl c hv)).2.2.2 rfl)
 refine⟨gt',gb',H4,A,A',O.trans o4 fun k hk=>.inr (N k hk),by simpa using r,fun k hk=>?_,fun k hk=>?_,hB⟩
 ·obtain⟨g,cap,rfl,-,-,hg⟩:=a;simp[Value.blk]at hk;subst hk;rcases hg with hg|hg;·obtain⟨s0,s1,s2,s3⟩:=S' g (hbl g hg);exact⟨by have:=o4.size;omega,s1,s2,s3⟩
  have hlt:g<w4.heap.size:=dP r rfl;have:=o3.size;obtain⟨V,hV⟩:=H.gr.tab;obtain⟨U,hU⟩:=H.gr.Fb;have hc:=bU H.gr.blk;exact zEB
 exact zDa
theorem jy.ints{v:Value}{xs:List Int}(h:jy w2 jO jP c bt bb G Bs D S wr v xs)(hx:∀z∈xs,0<=z/\z<=65536):∃gt' gb',xP wr gt' gb' c bt bb G Bs D S/\Agree w2 jO gt'/\Agree w2 jP gb'/\Only (fun k=>Mine jO k\/Mine jP k) w2 wr/\Ints wr v xs/\CO gt' gb' v xs:=by obtain⟨a,b,H,A,A',O,R,S',-,-⟩:=h;exact⟨a,b,H,A,A',O,Ints.dV R fun z hz=>⟨by have:=hx z hz;omega,by have:=hx z hz;omega⟩,fun _ k hk=>⟨(S' k hk).2.1,(S' k hk).2.2.1⟩⟩
end
structure uY (w:World) (g:Tag) (τ:Nat) (sv:Value) (us:List Value) (ns:List (List Int)):Prop where
 len:us.length=ns.length
 row:Row w g (τ,0) 78 sv us
 rows:∀i,i<ns.length->Row w g (τ,i+1) 3 (us.getD i dF) ((ns.getD i []).map cI)
 rng:∀l∈ns,∀z∈l,bg z
theorem uY.keep{w w':World}{g g':Tag}{τ:Nat}{sv:Value}{us:List Value}{ns:List (List Int)}(h:uY w g τ sv us ns){F:Nat->Prop}(ho:Only F w w')(hF:∀k,(g k).1=τ->¬F k)(hg:Agree w g g'):uY w' g' τ sv us ns:=
 ⟨h.len,h.row.keep ho (fun k hk=>hF k (by rw[hk])) hg,fun i hi=>(h.rows i hi).keep ho (fun k hk=>hF k (by rw[hk])) hg,h.rng⟩
theorem uY.push{w w1:World}{g g1:Tag}{τ b m cap:Nat}{us:List Value}{ns:List (List Int)}(h:uY w g τ (.slice (some ⟨b,0,none⟩) m cap) us ns){n:Nat}(hn:n<ns.length)(hA:Agree w g g1)(ho:Only (fun k=>g k=(τ,n+1)) w w1){v':Value}{z:Int}(hz:bg z)(hr:Row w1 g1 (τ,n+1) 3 v' ((ns.getD n []).map cI++[cI z])):uY (w1.setCell ⟨b,n,none⟩ v') g1 τ (.slice (some ⟨b,0,none⟩) m cap) (us.set n v') (kZ ns n z)/\Only (fun k=>(g1 k).1=τ) w1 (w1.setCell ⟨b,n,none⟩ v'):=by
 have hrow1:=h.row.keep ho (fun k hk hk2=>by rw[hk]at hk2;simp at hk2) hA;have hgb:g1 b=(τ,0):=hrow1.tg b rfl;have O:Only (fun k=>k=b) w1 (w1.setCell ⟨b,n,none⟩ v'):=Only.setCell (Only.refl (fun k=>k=b) w1) (p:=⟨b,n,none⟩) (.inl rfl) v';have hne:∀i k,g1 k=(τ,i+1)->¬k=b:=fun i k hk e=>by rw[e,hgb]at hk;simp at hk
 refine⟨⟨by unfold kZ;simp[h.len],hrow1.store n v',fun i hi=>?_,fun l hl u hu=>?_⟩,O.mono fun k hk=>by rw[hk,hgb]⟩
 ·have hi':i<ns.length:=by unfold kZ at hi;simpa using hi
  by_cases e:i=n
  ·subst e;have e1:(us.set i v').getD i dF=v':=by rw[qC,List.getElem?_set_self (by rw[h.len];exact hi')];rfl
   have e2:(kZ ns i z).getD i []=ns.getD i []++[z]:=by unfold kZ;rw[qC,List.getElem?_set_self hi'];rfl
   rw[e1,e2,List.map_append];exact hr.only O (hne i)
  have e1:(us.set n v').getD i dF=us.getD i dF:=by rw[qC,List.getElem?_set_ne (Ne.symm e),<-qC]
  have e2:(kZ ns n z).getD i []=ns.getD i []:=by unfold kZ;rw[qC,List.getElem?_set_ne (Ne.symm e),<-qC]
  rw[e1,e2];exact((h.rows i hi').keep ho (fun k hk hk2=>e (by rw[hk]at hk2;simpa using hk2)) hA).only O (hne i)
 unfold kZ at hl;rcases List.mem_or_eq_of_mem_set hl with hl|rfl;·exact h.rng l hl u hu
 rcases qW.1 hu with hu|hu
 ·have:ns.getD n []∈ns:=by rw[qC,qA hn];exact qZ hn
  exact h.rng _ this u hu
 simp at hu;subst hu;exact hz
structure MW where
 c:Nat
 bt:Nat
 bb:Nat
 px:Nat
 m1:Nat
 m2:Nat
 G:GL
 nv:Value
 sv:Value
abbrev bP(gt gb gp:Tag):Nat->Prop:=fun k=>(Mine gt k\/Mine gb k)\/Mine gp k
structure jl (w:World) (gt gb gp:Tag) (X:MW) (Bs:Nat) (D:xC) (E:ES):Prop where
 gx:xP w gt gb X.c X.bt X.bb X.G Bs D E.1
 of:∃val,rD KE w gp 1 X.m1 E.2.of val
 needs:∃us,uY w gp 2 X.sv us E.2.needs
 Jp:E.2.needs.length=D.names.length
 roots:∃val,rD KI w gp 3 X.m2 E.2.roots val
 blk:w.heap[X.px]? =some (.cells #[.pointer (some ⟨X.c,0,none⟩),X.nv,.map (some X.m1),X.sv,.map (some X.m2)] 153 (0,0))
 tp:¬bP gt gb gp X.px
 tc:(gp X.c).1=0
 names:w.ownsRow 0 9 1 X.nv D.names.length (fH D.names)
 nb:∀k,X.nv.ownBlock=some k->¬bP gt gb gp k
 nok:∀s∈D.names,okS s
 low:∀k,Mine gp k->Bs<=k
 Jz:∀k,Mine gt k\/Mine gb k->¬Mine gp k
 fresh:rM w gp
def bF(w:World)(gt gb gp:Tag)(X:MW)(Bs:Nat)(D:xC)(E:ES)(w':World):Prop:=
 ∃gt' gb' lS,jl w' gt' gb' lS X Bs D E/\Agree w gt gt'/\Agree w gb gb'/\Agree w gp lS/\Only (bP gt gb gp) w w'
section
variable {w w':World} {gt gb gp:Tag} {X:MW} {Bs:Nat} {D:xC} {E:ES}
theorem bP.agree{gt' gb' lS:Tag}(h1:Agree w gt gt')(h2:Agree w gb gb')(h3:Agree w gp lS){k:Nat}(hk:k<w.heap.size):bP gt' gb' lS k↔bP gt gb gp k:=by unfold bP Mine;rw[h1 k hk,h2 k hk,h3 k hk]
theorem jl.aH(H:jl w gt gb gp X Bs D E)(ho:O0 w w'):jl w' gt gb gp X Bs D E:=by obtain⟨v1,h1⟩:=H.of;obtain⟨us,h2⟩:=H.needs;obtain⟨v3,h3⟩:=H.roots;exact⟨H.gx.aH ho,⟨v1,h1.keep ho (fun _ _ f=>f) (Agree.refl _ _)⟩,⟨us,h2.keep ho (fun _ _ f=>f) (Agree.refl _ _)⟩,H.Jp,⟨v3,h3.keep ho (fun _ _ f=>f) (Agree.refl _ _)⟩,aC H.blk ho (fun f=>f),H.tp,H.tc,aG H.names ho (fun _ _ f=>f),H.nb,H.nok,H.low,H.Jz,H.fresh.more ho.size⟩
theorem bF.refl(H:jl w gt gb gp X Bs D E):bF w gt gb gp X Bs D E w:=⟨gt,gb,gp,H,Agree.refl _ _,Agree.refl _ _,Agree.refl _ _,Only.refl _ _⟩
theorem Only.y9{w1 w2:World}{jO jP Sr:Tag}(h:Only (bP gt gb gp) w w1)(ht:Agree w gt jO)(hb:Agree w gb jP)(hp:Agree w gp Sr)(h1:Only (bP jO jP Sr) w1 w2):Only (bP gt gb gp) w w2:=by
 refine h.trans h1 (fun k hk=>?_);rcases yK k w.heap.size with hlt|hge;·exact .inl ((bP.agree ht hb hp hlt).1 hk)
 exact .inr hge
theorem bF.trans{w1 w2:World}{jO jP Sr:Tag}(ht:Agree w gt jO)(hb:Agree w gb jP)(hp:Agree w gp Sr)(ho:Only (bP gt gb gp) w w1){E2:ES}(h2:bF w1 jO jP Sr X Bs D E2 w2):bF w gt gb gp X Bs D E2 w2:=by exact zDY
theorem bF.after{w1 w2:World}(o1:O0 w w1){E2:ES}(h:bF w1 gt gb gp X Bs D E2 w2):bF w gt gb gp X Bs D E2 w2:=bF.trans (Agree.refl _ _) (Agree.refl _ _) (Agree.refl _ _) (o1.mono fun _ f=>f.elim) h
theorem bF.Lm{w1 w2:World}(h:bF w gt gb gp X Bs D E w1)(o:O0 w1 w2):bF w gt gb gp X Bs D E w2:=by exact zD1
theorem jl.step(H:jl w gt gb gp X Bs D E){S2:TB}(h:aZ w gt gb X.c X.bt X.bb X.G Bs D S2 w'):bF w gt gb gp X Bs D (S2,E.2) w':=by
 obtain⟨gt',gb',H2,A1,A2,O⟩:=h;obtain⟨v1,h1⟩:=H.of;obtain⟨us,h2⟩:=H.needs;obtain⟨v3,h3⟩:=H.roots;have hF:∀{τ:Nat},0<τ->∀k,(gp k).1=τ->¬(Mine gt k\/Mine gb k):=fun{τ} ht k hk hm=>H.Jz k hm zA4;have hpx:=bU H.blk;refine⟨gt',gb',gp,⟨H2,⟨v1,h1.keep O (hF zBl) (Agree.refl _ _)⟩,⟨us,h2.keep O (hF zBU) (Agree.refl _ _)⟩,H.Jp,⟨v3,h3.keep O (hF zAB) (Agree.refl _ _)⟩,aC H.blk O (fun hm=>H.tp (.inl hm)),?_,H.tc,aG H.names O (fun k hk hm=>H.nb k hk (.inl hm)),?_,H.nok,H.low,?_,H.fresh.more O.size⟩,A1,A2,Agree.refl _ _,O.mono fun k hk=>.inl hk⟩;·rw[bP.agree A1 A2 (Agree.refl w gp) hpx];exact H.tp
 ·intro k hk;rw[bP.agree A1 A2 (Agree.refl w gp) (dP H.names hk)];exact H.nb k hk
 intro k hk;rcases yK k w.heap.size with hlt|hge;·refine H.Jz k ?_;unfold Mine at hk⊢;rwa[A1 k hlt,A2 k hlt]at hk
 unfold Mine;rw[H.fresh k hge];simp
theorem jl.ac3(H:jl w gt gb gp X Bs D E){lS:Tag}(A:Agree w gp lS)(O:Only (Mine gp) w w')(hf:rM w' lS){P:dO}(h1:∃val,rD KE w' lS 1 X.m1 P.of val)(h2:∃us,uY w' lS 2 X.sv us P.needs)(hn:P.needs.length=E.2.needs.length)(h3:∃val,rD KI w' lS 3 X.m2 P.roots val)(hnew:∀k,w.heap.size<=k->Mine lS k->k<w'.heap.size):bF w gt gb gp X Bs D (E.1,P) w':=by
 have hpx:=bU H.blk;have hc:=bU H.gx.gr.blk;have hd:∀k,Mine gt k\/Mine gb k->k<w.heap.size:=fun k hk=>by exact zCz
 have hM:∀k,k<w.heap.size->(Mine lS k↔Mine gp k):=fun k hk=>by unfold Mine;rw[A k hk]
 refine⟨gt,gb,lS,⟨H.gx.keep O (fun k hk=>H.low k hk) (fun k hk hm=>H.Jz k hk hm) (by unfold Mine;rw[H.tc];simp),h1,h2,hn.trans H.Jp,h3,aC H.blk O (fun hm=>H.tp (.inr hm)),?_,by rw[A X.c hc];exact H.tc,aG H.names O (fun k hk hm=>H.nb k hk (.inr hm)),?_,H.nok,fun k hk=>?_,fun k hk hm=>H.Jz k hk ((hM k (hd k hk)).1 hm),hf⟩,Agree.refl _ _,Agree.refl _ _,A,O.mono fun k hk=>.inr hk⟩;·rw[bP.agree (Agree.refl w gt) (Agree.refl w gb) A hpx];exact H.tp
 ·intro k hk;rw[bP.agree (Agree.refl w gt) (Agree.refl w gb) A (dP H.names hk)];exact H.nb k hk
 exact zEU
theorem bF.cell(h:bF w gt gb gp X Bs D E w'){b i:Nat}{u:Value}(hc:w.cell? ⟨b,i,none⟩=some u)(h1:¬bP gt gb gp b):w'.cell? ⟨b,i,none⟩=some u:=by obtain⟨gt',gb',lS,H2,A1,A2,A3,O⟩:=h;exact aY hc O h1
theorem jl.cells(H:jl w gt gb gp X Bs D E):w.cell? ⟨X.px,0,none⟩=some (.pointer (some ⟨X.c,0,none⟩))/\w.cell? ⟨X.px,1,none⟩=some X.nv/\w.cell? ⟨X.px,2,none⟩=some (.map (some X.m1))/\w.cell? ⟨X.px,3,none⟩=some X.sv/\w.cell? ⟨X.px,4,none⟩=some (.map (some X.m2)):=
 ⟨by rw[aj H.blk];rfl,by rw[aj H.blk];rfl,by rw[aj H.blk];rfl,by rw[aj H.blk];rfl,by rw[aj H.blk];rfl⟩
end
end Go.Proofs.YtdmmebjjojimiaaGreatDoor
namespace Go.Proofs
theorem zC7{p:Prop}(h:p:=by
 go_wp2_with fail
 refine HB.out.mono ?_
 rintro e w2 ⟨rfl,rfl⟩
 go_wp2_with fail
 refine HA.out.mono ?_
 rintro e w3 ⟨rfl,h3⟩
 have H3:=zh h3
 clear h3
 go_wp2_with fail
 go_end0
 exact⟨rfl,H3.out⟩):p:=h
theorem zDv{p:Prop}(h:p:=by
 go_wp2_with fail
 refine HN.out.mono ?_
 rintro e w1 ⟨rfl,h1⟩
 have H1:=zh h1
 clear h1
 go_wp2_with fail
 go_ret
 exact⟨rfl,H1.out⟩):p:=h
end Go.Proofs
namespace Go.Proofs.YtdmmebjjojimiaaGreatDoor
open Go.RowKit
section
variable {w w':World} {gt gb gp:Tag} {c bt bb:Nat} {G:GL} {Bs:Nat} {D:xC} {S:TB} {X:MW} {E:ES}
theorem JG{v:Value}{xs:List Int}(hI:Ints w v xs)(r:Bool)(hr:(!xs.contains 0)=r):Calls Tryz.prog 227 #[v] w fun e w'=>e= .returned (.bool r)/\w'=w:=by obtain⟨z,hz⟩:=ze (xs.contains 0);have HC:=zh (uU hI 0 z hz);rw[hz]at hr;subst hr;obtain⟨ao,cap,rfl,-,-⟩:=hI.shape;obtain⟨n,hn⟩:=ze xs.length;rw[hn]at HC⊢;clear hI hz hn;go_enter Tryz.func227,Tryz.ntmps227;go_wp2_with fail;refine HC.out.mono ?_;rintro e w1 ⟨rfl,rfl⟩;exact zCG
theorem YW(H:xP w gt gb c bt bb G Bs D S){v:Value}{xs:List Int}(hI:Ints w v xs)(hb:xs.length<=1000000):Calls Tryz.prog 163 #[.pointer (some ⟨c,0,none⟩),v] w fun e w'=>e= .returned (.tuple #[])/\aZ w gt gb c bt bb G Bs D (S.bG xs) w':=by
 obtain⟨r,hr⟩:=ze (!xs.contains 0);have HR:=zh (JG hI r hr);have HB:=zh (sD H.gr);have HA:Hid (Calls Tryz.prog 153 #[.pointer (some ⟨bb,0,none⟩),v] w fun e w'=>e= .returned (.tuple #[])/\aZ w gt gb c bt bb G Bs D (S.1,S.2.add xs) w'):=
  (Qe H.gr hI zAB).mono fun e w' ⟨he,h⟩=>⟨he,H.step (S2:=(S.1,S.2.add xs)) h H.hinv⟩
 have H0:=zh H;have hS:S.bG xs=if r=true then (S.1,S.2.add xs)else S:=by unfold TB.bG;rw[<-hr];cases xs.contains 0<;>simp
 rw[hS];obtain⟨ao,cap,rfl,-,-⟩:=hI.shape;obtain⟨n,hn⟩:=ze xs.length;rw[hn]at HR HA⊢;clear hI hr hn H hb hS;go_enter Tryz.func163,Tryz.ntmps163;go_wp2_with fail;refine HR.out.mono ?_;rintro e w1 ⟨rfl,rfl⟩;cases r with
 |false=>go_wp2_with fail;go_end0;exact⟨rfl,aZ.refl H0.out⟩
 |true=>exact zC7
theorem DN(H:xP w gt gb c bt bb G Bs D S){x:At}(hx:nK x)(z:Int)(hz:(S.num x).2=z):Calls Tryz.prog 75 #[.pointer (some ⟨c,0,none⟩),iY x] w fun e w'=>e= .returned (.int .i64 z)/\aZ w gt gb c bt bb G Bs D (S.num x).1 w':=(OG H.gr hx z hz).mono fun e w' ⟨he,h⟩=>⟨he,H.step (S2:=(S.num x).1) h (H.hinv.num x)⟩
theorem zI':bg 0:=⟨by decide,by decide⟩
theorem Xy{p:Nat}(hp:bg (p:Int)):nK (aI p):=⟨by simp[aI],hp,zI',zI'⟩
theorem alk{p:Nat}(hp:bg (p:Int)):nK (fG p):=⟨by simp[fG],hp,zI',zI'⟩
theorem ac4{p:Nat}(hp:bg (p:Int)):nK (fU p):=⟨by simp[fU],hp,zI',zI'⟩
theorem alm{p k:Nat}(hp:bg (p:Int))(hk:bg (k:Int)):nK (lX p k):=⟨by simp[lX],hp,hk,zI'⟩
theorem YX{p k:Nat}(hp:bg (p:Int))(hk:bg (k:Int)):nK (iV p k):=⟨by simp[iV],hp,hk,zI'⟩
theorem aie{p k c:Nat}(hp:bg (p:Int))(hk:bg (k:Int))(hc:bg (c:Int)):nK (dw p k c):=⟨by simp[dw],hp,hk,hc⟩
theorem QH(H:xP w gt gb c bt bb G Bs D S){p:Nat}(hp:bg (p:Int))(z:Int)(hz:(S.num (aI p)).2=z):Calls Tryz.prog 164 #[.pointer (some ⟨c,0,none⟩),.int .i64 p] w fun e w'=>e= .returned (.int .i64 z)/\aZ w gt gb c bt bb G Bs D (S.num (aI p)).1 w':=by have HN:=zh (DN H (Xy hp) z hz);clear H hz;go_enter Tryz.func164,Tryz.ntmps164;exact zDv
theorem Xz(H:jl w gt gb gp X Bs D E){r:Nat}(hr:bg (r:Int))(z:Int)(hz:(E.1.num (fG r)).2=z):Calls Tryz.prog 224 #[.pointer (some ⟨X.px,0,none⟩),.int .i64 r] w fun e w'=>e= .returned (.int .i64 z)/\bF w gt gb gp X Bs D ((E.1.num (fG r)).1,E.2) w':=by
 have HN:Hid (Calls Tryz.prog 75 #[.pointer (some ⟨X.c,0,none⟩),iY (fG r)] w fun e w'=>e= .returned (.int .i64 z)/\bF w gt gb gp X Bs D ((E.1.num (fG r)).1,E.2) w'):=
  (DN H.gx (alk hr) z hz).mono fun e w' ⟨he,h⟩=>⟨he,H.step h⟩
 obtain⟨q0,-,-,-,-⟩:=H.cells;clear H hz;go_enter Tryz.func224,Tryz.ntmps224;exact zDv
def ES.Lp(E:ES)(names:List Str)(s:Str):TB:=if bY names s<0 then E.1 else (E.1.num (fU (bY names s).toNat)).1
def ES.Pj(E:ES)(names:List Str)(s:Str):Int:=if bY names s<0 then 0 else (E.1.num (fU (bY names s).toNat)).2
theorem Em(names:List Str)(s:Str):bY names s= -1\/ ∃k:Nat,bY names s=k/\k<names.length:=by
 rcases oq (fun t=>decide (t=s)) names with h| ⟨k,h,hk,-⟩;·exact .inl h
 exact .inr ⟨k,h,hk⟩
theorem ac5(H:jl w gt gb gp X Bs D E)(hnl:D.names.length<=1000000)(s:Str)(i z:Int)(hi:bY D.names s=i)(hz:E.Pj D.names s=z):Calls Tryz.prog 226 #[.pointer (some ⟨X.px,0,none⟩),.string s] w fun e w'=>e= .returned (.tuple #[.int .i64 z,.int .i64 i])/\bF w gt gb gp X Bs D (E.Lp D.names s,E.2) w':=by
 obtain⟨q0,q1,-,-,-⟩:=H.cells;have HI:=zh (UA (sG rfl H.names H.nok) s);obtain⟨an,cn,en,-,-⟩:=aJ H.names;have HX:Hid (∀W,O0 w W->jl W gt gb gp X Bs D E):=fun W ho=>H.aH ho;have hii:i= -1\/ ∃k:Nat,i=k/\k<D.names.length:=by rw[<-hi];exact Em _ _
 have hi2:kR (fun t=>decide (t=s)) D.names=i:=hi;rw[hi2]at HI;rw[en]at q1 HI;obtain⟨S2,hS2⟩:=ze (E.Lp D.names s);rw[hS2];unfold ES.Lp at hS2;unfold ES.Pj at hz;rw[hi]at hz hS2;have HS2:=zh hS2;have HZ:=zh hz;clear H hi hi2 en hS2 hz;go_enter Tryz.func226,Tryz.ntmps226;go_wp2_with fail;refine HI.out.mono ?_;rintro e w1 ⟨rfl,O1⟩;have H1:=HX.out w1 O1;have aW:=zh O1;obtain⟨q0,-,-,-,-⟩:=H1.cells;rcases hii with rfl| ⟨k,rfl,hk⟩;·have hz:=HZ.out;have hS2:=HS2.out;rw[if_pos zAB]at hz hS2;subst hz hS2;have HE:Hid (bF w gt gb gp X Bs D (E.1,E.2) w1):=bF.after aW.out (bF.refl H1);clear H1 O1 q0;go_wp2_with fail;go_ret2;exact⟨rfl,HE.out⟩
 have hz:=HZ.out;have hS2:=HS2.out;rw[if_neg zAB,yT]at hz hS2;have HN:Hid (Calls Tryz.prog 75 #[.pointer (some ⟨X.c,0,none⟩),iY (fU k)] w1 fun e w'=>e= .returned (.int .i64 z)/\bF w gt gb gp X Bs D (S2,E.2) w'):=by rw[<-hS2];exact(DN H1.gx (ac4 ⟨by omega,by omega⟩) z hz).mono fun e w' ⟨he,h⟩=>⟨he,bF.after aW.out (H1.step h)⟩
 clear H1 O1 hz hS2;go_wp2_with fail;refine HN.out.mono ?_;rintro e w2 ⟨rfl,h2⟩;have H2:=zh h2;clear h2;go_wp2_with fail;go_ret2;exact⟨rfl,H2.out⟩
end
end Go.Proofs.YtdmmebjjojimiaaGreatDoor
namespace Go.Proofs.YtdmmebjjojimiaaGreatDoor
open Go.RowKit Go.Sort Go.Shelf
def Tryz.aaB:Go.Shelf.Ren:=⟨fun |6=>157|8=>174|9=>223|19=>252|20=>253|21=>301|22=>302|23=>303|24=>304|25=>305|26=>306|27=>307|28=>308|29=>309|31=>318|32=>319|36=>356|37=>357|38=>358|39=>175|41=>390|n=>n,fun |0=>0|3=>3|4=>4|5=>5|9=>9|26=>81|27=>81|29=>9|32=>239|35=>280|36=>281|41=>285|44=>288|46=>290|53=>332|57=>336|63=>369|64=>264|n=>n,fun n=>n⟩
theorem Tryz.uF:Go.Proofs.SlLaysM.n6 Tryz.prog Tryz.aaB:={
 mixed:=by kernel_rfl
 f6:=⟨Tryz.f157.name,by decide,Tryz.func157.trans (congrArg some zk)⟩
 f8:=Tryz.func174.trans (congrArg some zk)
 f9:=⟨Tryz.f223.name,by decide,Tryz.func223.trans (congrArg some zk)⟩
 f19:=Tryz.func252.trans (congrArg some zk)
 f20:=Tryz.func253.trans (congrArg some zk)
 f21:=⟨Tryz.f301.name,by decide,Tryz.func301.trans (congrArg some zk)⟩
 f22:=⟨Tryz.f302.name,by decide,Tryz.func302.trans (congrArg some zk)⟩
 f23:=⟨Tryz.f303.name,by decide,Tryz.func303.trans (congrArg some zk)⟩
 f24:=⟨Tryz.f304.name,by decide,Tryz.func304.trans (congrArg some zk)⟩
 f25:=⟨Tryz.f305.name,by decide,Tryz.func305.trans (congrArg some zk)⟩
 f26:=⟨Tryz.f306.name,by decide,Tryz.func306.trans (congrArg some zk)⟩
 f27:=⟨Tryz.f307.name,by decide,Tryz.func307.trans (congrArg some zk)⟩
 f28:=⟨Tryz.f308.name,by decide,Tryz.func308.trans (congrArg some zk)⟩
 f29:=⟨Tryz.f309.name,by decide,Tryz.func309.trans (congrArg some zk)⟩
 f31:=Tryz.func318.trans (congrArg some zk)
 f32:=Tryz.func319.trans (congrArg some zk)
 f36:=⟨Tryz.f356.name,by decide,Tryz.func356.trans (congrArg some zk)⟩
 f37:=⟨Tryz.f357.name,by decide,Tryz.func357.trans (congrArg some zk)⟩
 f38:=⟨Tryz.f358.name,by decide,Tryz.func358.trans (congrArg some zk)⟩
 f39:=⟨Tryz.f175.name,by decide,Tryz.func175.trans (congrArg some zk)⟩
 f41:=⟨Tryz.f390.name,by decide,Tryz.func390.trans (congrArg some zk)⟩
 t0:=Tryz.underlying0
 a0:=Tryz.isAgg0
 z0:=Tryz.sizeOf0
 v0:=Tryz.zeroValue0
 t3:=Tryz.underlying3
 a3:=Tryz.isAgg3
 z3:=Tryz.sizeOf3
 v3:=Tryz.zeroValue3
 t4:=Tryz.underlying4
 a4:=Tryz.isAgg4
 z4:=Tryz.sizeOf4
 v4:=Tryz.zeroValue4
 t5:=Tryz.underlying5
 a5:=Tryz.isAgg5
 z5:=Tryz.sizeOf5
 v5:=Tryz.zeroValue5
 t9:=Tryz.underlying9
 a9:=Tryz.isAgg9
 z9:=Tryz.sizeOf9
 v9:=Tryz.zeroValue9
 t26:=Tryz.underlying81
 a26:=Tryz.isAgg81
 z26:=Tryz.sizeOf81
 v26:=Tryz.zeroValue81
 t27:=Tryz.underlying81
 a27:=Tryz.isAgg81
 z27:=Tryz.sizeOf81
 v27:=Tryz.zeroValue81
 t29:=Tryz.underlying9
 a29:=Tryz.isAgg9
 z29:=Tryz.sizeOf9
 v29:=Tryz.zeroValue9
 t32:=Tryz.underlying239
 a32:=Tryz.isAgg239
 z32:=Tryz.sizeOf239
 v32:=Tryz.zeroValue239
 t35:=Tryz.underlying280
 a35:=Tryz.isAgg280
 z35:=Tryz.sizeOf280
 v35:=Tryz.zeroValue280
 t36:=Tryz.underlying281
 a36:=Tryz.isAgg281
 z36:=Tryz.sizeOf281
 v36:=Tryz.zeroValue281
 t41:=Tryz.underlying285
 a41:=Tryz.isAgg285
 z41:=Tryz.sizeOf285
 v41:=Tryz.zeroValue285
 t44:=Tryz.underlying288
 a44:=Tryz.isAgg288
 z44:=Tryz.sizeOf288
 v44:=Tryz.zeroValue288
 t46:=Tryz.underlying290
 a46:=Tryz.isAgg290
 z46:=Tryz.sizeOf290
 v46:=Tryz.zeroValue290
 t53:=Tryz.underlying332
 a53:=Tryz.isAgg332
 z53:=Tryz.sizeOf332
 v53:=Tryz.zeroValue332
 t57:=Tryz.underlying336
 a57:=Tryz.isAgg336
 z57:=Tryz.sizeOf336
 v57:=Tryz.zeroValue336
 t63:=Tryz.underlying369
 a63:=Tryz.isAgg369
 z63:=Tryz.sizeOf369
 v63:=Tryz.zeroValue369
 t64:=Tryz.underlying264
 a64:=Tryz.isAgg264
 z64:=Tryz.sizeOf264
 v64:=Tryz.zeroValue264}
def Tryz.Rh:Go.Shelf.Ren:=⟨fun |194=>158|n=>n,fun |0=>0|3=>3|4=>4|9=>9|31=>81|n=>n,fun n=>n⟩
theorem Tryz.iR:Go.Proofs.Lays.n194 Tryz.prog Tryz.Rh:={
 mixed:=by kernel_rfl
 f194:=Tryz.func158.trans (congrArg some zk)
 t0:=Tryz.underlying0
 a0:=Tryz.isAgg0
 z0:=Tryz.sizeOf0
 v0:=Tryz.zeroValue0
 t3:=Tryz.underlying3
 a3:=Tryz.isAgg3
 z3:=Tryz.sizeOf3
 v3:=Tryz.zeroValue3
 t4:=Tryz.underlying4
 a4:=Tryz.isAgg4
 z4:=Tryz.sizeOf4
 v4:=Tryz.zeroValue4
 t9:=Tryz.underlying9
 a9:=Tryz.isAgg9
 z9:=Tryz.sizeOf9
 v9:=Tryz.zeroValue9
 t31:=Tryz.underlying81
 a31:=Tryz.isAgg81
 z31:=Tryz.sizeOf81
 v31:=Tryz.zeroValue81}
abbrev gQ(s:Str):List UInt8:=s.data.toList
abbrev ofL(l:List UInt8):Str:=⟨l.toArray⟩
theorem CG(s:Str):ofL (gQ s)=s:=by cases s with|mk d=>simp[ofL,gQ]
theorem Zc(l:List Str):(l.map gQ).map ofL=l:=by
 rw[List.map_map];conv=>rhs;rw[<-List.map_id l]
 exact List.map_congr_left fun s _=>CG s
theorem LV(l:List (List UInt8)):l.map encStr=fH (l.map ofL):=by unfold fH;rw[List.map_map];rfl
theorem PG(l:List Str):fH l=(l.map gQ).map encStr:=by rw[LV,Zc]
def uF(l:List Str):List Str:=((l.map gQ).mergeSort fun x y=>decide (x<=y)).map ofL
def iR(l:List Str):List Str:=(Lib.compact (l.map gQ)).map ofL
theorem LW(l:List Str):(uF l).Perm l:=by have h:=(List.mergeSort_perm (l.map gQ) fun x y=>decide (x<=y)).map ofL;rw[Zc]at h;exact h
theorem CJ(l:List Str):(uF l).length=l.length:=(LW l).length_eq
theorem Aa{α:Type}[DecidableEq α][Inhabited α](xs:List α):(∀x∈Lib.compact xs,x∈xs)/\(Lib.compact xs).length<=xs.length:=by
 unfold Lib.compact Lib.compactUpTo;refine⟨fun x hx=>?_,?_⟩
 ·obtain⟨i,hi,rfl⟩:=yD.1 hx;have h2:=yI.1 (List.mem_filter.1 hi).1;have h3:i<xs.length:=by simpa using h2
  simp[h3]
 exact zEx
theorem Ri(l:List Str):(iR l).length<=l.length:=by unfold iR;rw[qM];have:=(Aa (l.map gQ)).2;rwa[qM]at this
theorem Rj{l:List Str}{s:Str}(h:s∈iR l):s∈l:=by unfold iR at h;obtain⟨b,hb,rfl⟩:=yD.1 h;obtain⟨s,hs,rfl⟩:=yD.1 ((Aa (l.map gQ)).1 b hb);rw[CG];exact hs
section
variable {w:World}
theorem Jb{α:Type}[Inhabited α](enc:α->Value){e:TypeId}{g n cap:Nat}{xs:List Value}(h:w.ownsRow 0 e 1 (.slice (some ⟨g,0,none⟩) n cap) n xs)(d:Array α)(hd:d.size=n):(putRow enc w g 0 d).ownsRow 0 e 1 (.slice (some ⟨g,0,none⟩) n cap) n (d.toList.map enc):=by
 rcases h.2 with⟨h',_⟩| ⟨g',cap',cur,h',hb,hg,h1,h2,h3,htake⟩;·simp at h'
 simp only[qU,qG,qO,and_true,true_and]at h';obtain⟨rfl,rfl⟩:=h';refine⟨by simp[hd],.inr ⟨g,cap,putCells enc 0 d cur,rfl,qE _,?_,h1,h2,?_,?_⟩⟩;·exact zC0
 ·simpa[putCells]using h3
 apply List.ext_getElem?;intro j;simp only[yH,putCells,List.getElem?_take,List.getElem?_map];by_cases hj:j<n
 ·have hc:j<cur.size:=by omega
  simp[hj,hc,hd]
 rw[if_neg hj,List.getElem?_eq_none (by simp[hd];omega)];rfl
theorem Gn{α:Type}[Inhabited α](enc:α->Value)(w:World)(g:Nat)(d:Array α):Only (fun k=>k=g) w (putRow enc w g 0 d):=
 ⟨rfl,rfl,rfl,by simp[putRow,mapBlock],fun k _ hk=>by
  show(w.heap.modify g _)[k]? =_
  rw[Array.getElem?_modify,if_neg (fun e=>hk e.symm)]⟩
theorem LX{e:TypeId}{g n cap:Nat}{xs:List (List UInt8)}(h:w.ownsRow 0 e 1 (.slice (some ⟨g,0,none⟩) n cap) n (xs.map encStr)):Holds encStr w g 0 xs.toArray:=by
 intro j hj;have hn:xs.length=n:=by simpa using h.1
 have hj':j<xs.length:=zA1;refine⟨?_,h.frozenAt _⟩;rw[Nat.zero_add,h.cellAt j zAB];simp[hj']
theorem Rk{v:Value}{l:List Str}{n:Nat}(hn:l.length=n)(h:w.ownsRow 0 9 1 v n (fH l))(hb:n<=1000000):Calls Tryz.prog 157 #[v] w fun e w'=>e= .returned (.tuple #[])/\w'.ownsRow 0 9 1 v n (fH (uF l))/\Only (fun k=>v.ownBlock=some k) w w':=by
 subst hn;by_cases h0:l.length=0
 ·have hx:l=[]:=yF h0;subst hx;obtain⟨ao,cap,rfl,_,_⟩:=aJ h;refine(AnyM.slices_Sort_string_none Tryz.uF ao cap w).mono fun e w' ⟨he,hw⟩=>⟨he,?_,?_⟩;·rw[hw];simpa[uF]using h
  exact zD5
 obtain⟨gb,cap,rfl,_,_⟩:=dU h zAB;rw[PG]at h;have hH:=LX h;have hlt:=dP h (k:=gb) rfl;have key:=AnyM.slices_Sort_string Tryz.uF gb 0 cap (l.map gQ) w hH hlt zAU;rw[qM]at key;refine key.mono fun e w' ⟨he,q,os,hw⟩=>⟨he,?_,?_⟩;·subst hw;have h1:=Jb encStr (w:=Sort.ahead w q) (g:=gb) (n:=l.length) (cap:=cap) (e:=9) h ((l.map gQ).mergeSort fun x y=>decide (x<=y)).toArray zAF;have h2:=aG h1 (oQ (Only.refl (fun _=>False) _) os) (fun _ _ f=>f);rw[LV]at h2;exact h2
 subst hw;refine oQ ?_ os;have:=(su (Only.refl (fun k=>k=gb) w) q).same (Gn encStr (Sort.ahead w q) gb ((l.map gQ).mergeSort fun x y=>decide (x<=y)).toArray);exact zDE
theorem LY{v:Value}{l:List Str}{n:Nat}(hn:l.length=n)(h:w.ownsRow 0 9 1 v n (fH l)):Calls Tryz.prog 158 #[v] w fun e w'=> ∃v',e= .returned v'/\w'.ownsRow 0 9 1 v' (iR l).length (fH (iR l))/\v'.ownBlock=v.ownBlock/\Only (fun k=>v.ownBlock=some k) w w':=by
 subst hn;by_cases h0:l.length=0
 ·have hx:l=[]:=yF h0;subst hx;obtain⟨ao,cap,rfl,_,_⟩:=aJ h;refine(Any.slices_Compact_string_empty Tryz.iR ao cap w).mono fun e w' ⟨he,hw⟩=>⟨_,he,?_,rfl,?_⟩;·rw[hw];exact h
  exact zD5
 obtain⟨gb,cap,rfl,hc1,hc2⟩:=dU h zAB;rw[PG]at h;have hH:=LX h;unfold maxLen at hc2;have key:=Any.slices_Compact_string Tryz.iR gb 0 cap (l.map gQ) w hH zAU (by simpa using hc1);rw[qM]at key;have hlen:(iR l).length=(Lib.compact (l.map gQ)).length:=by unfold iR;rw[qM]
 refine key.mono fun e w' ⟨he,q,hw⟩=>⟨_,he,?_,rfl,?_⟩
 ·subst hw;have hle:=(Aa (l.map gQ)).2;rw[qM]at hle;have h1:=Jb encStr (w:=Sort.ahead w q) (g:=gb) (n:=l.length) (cap:=cap) (e:=9) h (Lib.compact (l.map gQ)++List.replicate (l.length-(Lib.compact (l.map gQ)).length) []).toArray zAU;have h2:=Yr h1 (Lib.compact (l.map gQ)).length hle;rw[hlen];have e:((Lib.compact (l.map gQ)++List.replicate (l.length-(Lib.compact (l.map gQ)).length) []).toArray.toList.map encStr).take (Lib.compact (l.map gQ)).length=fH (iR l):=by unfold iR;rw[<-LV];simp
  rw[e]at h2;exact h2
 subst hw;have:=(su (Only.refl (fun k=>k=gb) w) q).same (Gn encStr (Sort.ahead w q) gb (Lib.compact (l.map gQ)++List.replicate (l.length-(Lib.compact (l.map gQ)).length) []).toArray);exact zDE
end
end Go.Proofs.YtdmmebjjojimiaaGreatDoor
namespace Go.Proofs.YtdmmebjjojimiaaGreatDoor
open Go.RowKit
theorem XT{α:Type}[DecidableEq α][Inhabited α](xs:List α):(Lib.compact xs).length<xs.length↔ ∃i,i<xs.length/\Lib.keeps xs.toArray i=false:=by
 unfold Lib.compact Lib.compactUpTo;rw[qM];constructor
 ·intro h;by_cases hc:∀i,i<xs.length->Lib.keeps xs.toArray i=true;·rw[List.filter_eq_self.2 (fun i hi=>hc i (yI.1 hi)),List.length_range]at h;omega
  simp only[Classical.not_forall]at hc;obtain⟨i,hi,h2⟩:=hc;exact⟨i,hi,by simpa using h2⟩
 rintro⟨i,hi,h2⟩;have h3:(List.range xs.length).filter (Lib.keeps xs.toArray)≠List.range xs.length:=fun e=>by have:=List.filter_eq_self.1 e i (yI.2 hi);rw[h2]at this;cases this
 have h4:=yO (Lib.keeps xs.toArray) (List.range xs.length);have h5:((List.range xs.length).filter (Lib.keeps xs.toArray)).length≠(List.range xs.length).length:=fun e=>h3 (List.filter_eq_self.2 (List.length_filter_eq_length_iff.1 e));rw[List.length_range]at h4 h5;omega
theorem Jd{α:Type}[DecidableEq α][Inhabited α](xs:List α)(i:Nat)(hi:i<xs.length):Lib.keeps xs.toArray i=false↔ ∃j,i=j+1/\xs[i]? =xs[j]? :=by
 unfold Lib.keeps;rw[decide_eq_false_iff_not,not_or,Classical.not_not];cases i with
 |zero=>simp
 |succ j=>
  have h1:xs[j+1]? =some xs[j+1]:=qA hi;have h2:xs[j]? =some (xs[j]'zBU):=qA zAB;rw[Nat.add_sub_cancel,getElem!_pos xs.toArray (j+1) (by simpa using hi),getElem!_pos xs.toArray j zAU];constructor;·rintro⟨-,h⟩;exact⟨j,rfl,by rw[h1,h2];exact congrArg some zA0⟩
  rintro⟨k,hk,h⟩;obtain rfl:j=k:=by omega
  rw[h1,h2]at h;exact⟨by omega,by simpa using Option.some.inj h⟩
theorem Rn{xs:List (List UInt8)}(hs:xs.Pairwise (· <= ·)):(Lib.compact xs).length<xs.length↔ ¬xs.Nodup:=by
 rw[XT];constructor;·rintro⟨i,hi,hk⟩ hn;obtain⟨j,rfl,he⟩:=(Jd xs i hi).1 hk;have:=List.pairwise_iff_getElem.1 hn j (j+1) zBU hi zAB;rw[qA hi,qA zAB]at he;exact this (Option.some.inj he).symm
 intro hn;unfold List.Nodup at hn;rw[List.pairwise_iff_getElem]at hn;simp only[Classical.not_forall,Classical.not_not]at hn;obtain⟨i,j,hi,hj,hij,he'⟩:=hn;refine⟨i+1,by omega,(Jd xs (i+1) zAB).2 ⟨i,rfl,?_⟩⟩;rw[qA zBU,qA zAB];have h1:=List.pairwise_iff_getElem.1 hs i (i+1) zBl zBU zAB;have h2:xs[i+1]'zAB<=xs[j]:=by
  rcases yK (i+1) j with h|h;·exact List.pairwise_iff_getElem.1 hs (i+1) j zAB hj h
  have:i+1=j:=by omega
  subst this;exact List.le_refl _
 rw[<-he']at h2;exact congrArg some (List.le_antisymm h2 h1)
theorem XU{a b:Str}(h:gQ a=gQ b):a=b:=by rw[<-CG a,<-CG b,h]
theorem U5(l:List Str):(l.map gQ).Nodup↔l.Nodup:=by
 constructor;·exact fun h=>(List.pairwise_map.1 h).imp fun hne e=>hne zBs
 exact fun h=>List.pairwise_map.2 (h.imp fun hne e=>hne (XU e))
theorem aaE(l:List Str):decide ((iR (uF l)).length<l.length)= !dA l:=by
 have hp:=List.mergeSort_perm (l.map gQ) fun x y=>decide (x<=y);have hs:((l.map gQ).mergeSort fun x y=>decide (x<=y)).Pairwise (· <= ·):=by
  have:=List.pairwise_mergeSort (le:=fun x y:List UInt8=>decide (x<=y)) (fun a b c h1 h2=>by simp only[yP]at*;exact List.le_trans h1 h2) (fun a b=>by
   simp only[Bool.or_eq_true,yP];exact List.le_total a b) (l.map gQ)
  exact this.imp fun h=>by simpa using h
 have h1:(iR (uF l)).length=(Lib.compact ((l.map gQ).mergeSort fun x y=>decide (x<=y))).length:=by
  unfold iR uF;rw[qM,List.map_map];congr 2;conv=>rhs;rw[<-List.map_id ((l.map gQ).mergeSort fun x y=>decide (x<=y))]
  exact List.map_congr_left fun s _=>by simp[gQ,ofL]
 have h2:l.length=((l.map gQ).mergeSort fun x y=>decide (x<=y)).length:=by rw[List.length_mergeSort,qM]
 rw[h1,h2,Bool.eq_iff_iff,yP,Rn hs,hp.nodup_iff,U5,Bool.not_eq_true',Bool.eq_false_iff,Ne,sQ]
end Go.Proofs.YtdmmebjjojimiaaGreatDoor
