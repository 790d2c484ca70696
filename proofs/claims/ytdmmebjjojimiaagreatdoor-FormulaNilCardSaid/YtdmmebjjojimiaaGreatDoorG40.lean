/- Package edge: back's state: the part, and what goes into each place.; Package edge: a row of one's own beside back's state. -/
import Derived.Test.YtdmmebjjojimiaaGreatDoorG29
set_option maxRecDepth 100000
set_option maxHeartbeats 8000000
set_option linter.all false
namespace Go.Proofs
theorem zCW{p:Prop}(h:p:=by
 intro k hk
 rcases yK k w.heap.size with hlt|hge
 ·refine H1.Eh k ?_
  unfold Mine at hk⊢
  rwa[A1 k hlt,A2 k hlt]at hk
 ·unfold Mine;rw[H1.fresh k hge];simp):p:=h
theorem zDZ{p:Prop}(h:p:=by
 intro k hk
 rw[aX.agree A1 A2 (Agree.refl w gp) (dn H1.names hk)];exact H1.nb k hk):p:=h
end Go.Proofs
namespace Go.Proofs.YtdmmebjjojimiaaGreatDoor
open Go.RowKit
def oq(w:World)(gt gb gp:Tag)(X:G9)(Bs:Nat)(D:rU)(E:ES)(m3:Nat)(I:List (Nat×List Int)):Prop:=gI w gt gb gp X Bs D E/\∃val,lU KI w gp 4 m3 I val
def bQ(w:World)(gt gb gp:Tag)(X:G9)(Bs:Nat)(D:rU)(E:ES)(m3:Nat)(I:List (Nat×List Int))(w':World):Prop:=
 ∃gt' gb' jC,oq w' gt' gb' jC X Bs D E m3 I/\Agree w gt gt'/\Agree w gb gb'/\Agree w gp jC/\Only (aX gt gb gp) w w'
section
variable {w w':World} {gt gb gp:Tag} {X:G9} {Bs:Nat} {D:rU} {E:ES} {m3:Nat} {I:List (Nat×List Int)}
theorem oq.aF(H:oq w gt gb gp X Bs D E m3 I)(ho:O0 w w'):oq w' gt gb gp X Bs D E m3 I:=by obtain⟨h1,val,h2⟩:=H;exact⟨h1.aF ho,val,h2.keep ho (fun _ _ f=>f) (Agree.refl _ _)⟩
theorem bQ.refl(H:oq w gt gb gp X Bs D E m3 I):bQ w gt gb gp X Bs D E m3 I w:=⟨gt,gb,gp,H,Agree.refl _ _,Agree.refl _ _,Agree.refl _ _,Only.refl _ _⟩
theorem bQ.trans{w1 w2:World}{iT iU MK:Tag}(ht:Agree w gt iT)(hb:Agree w gb iU)(hp:Agree w gp MK)(ho:Only (aX gt gb gp) w w1){E2:ES}{I2:List (Nat×List Int)}(h2:bQ w1 iT iU MK X Bs D E2 m3 I2 w2):bQ w gt gb gp X Bs D E2 m3 I2 w2:=by exact zCd
theorem bQ.after{w1 w2:World}(o1:O0 w w1){E2:ES}{I2:List (Nat×List Int)}(h:bQ w1 gt gb gp X Bs D E2 m3 I2 w2):bQ w gt gb gp X Bs D E2 m3 I2 w2:=bQ.trans (Agree.refl _ _) (Agree.refl _ _) (Agree.refl _ _) (o1.mono fun _ f=>f.elim) h
theorem bQ.F5{w1 w2:World}(h:bQ w gt gb gp X Bs D E m3 I w1)(o:O0 w1 w2):bQ w gt gb gp X Bs D E m3 I w2:=by exact zCv
theorem bQ.only(h:bQ w gt gb gp X Bs D E m3 I w'):Only (aX gt gb gp) w w':=by obtain⟨_,_,_,_,_,_,_,O⟩:=h;exact O
theorem bQ.Hf(h:bQ w gt gb gp X Bs D E m3 I w'):E.1.1.Ok:=by obtain⟨_,_,_,H,_⟩:=h;exact H.1.ok
theorem bQ.ed(h:bQ w gt gb gp X Bs D E m3 I w'):aQ w gt gb gp X Bs D E w':=by obtain⟨gt',gb',jC,H2,A1,A2,A3,O⟩:=h;exact⟨gt',gb',jC,H2.1,A1,A2,A3,O⟩
theorem bQ.call(h:bQ w gt gb gp X Bs D E m3 I w'){w2:World}(o:O0 w' w2){E2:ES}{I2:List (Nat×List Int)}{f:FuncId}{args:Array Value}{u:Value}(hc:∀gt' gb' jC,oq w2 gt' gb' jC X Bs D E m3 I->Only (aX gt gb gp) w w2->Calls Tryz.prog f args w2 fun e w3=>e= .returned u/\bQ w2 gt' gb' jC X Bs D E2 m3 I2 w3):Calls Tryz.prog f args w2 fun e w3=>e= .returned u/\bQ w gt gb gp X Bs D E2 m3 I2 w3:=by obtain⟨gt',gb',jC,H2,A1,A2,A3,O⟩:=h;exact(hc gt' gb' jC (H2.aF o) (O.same (o.mono fun _ f=>f.elim))).mono fun e w3 ⟨he,h⟩=>⟨he,bQ.trans A1 A2 A3 O (bQ.after o h)⟩
theorem oq.step(H:oq w gt gb gp X Bs D E m3 I){S2:TB}(h:aN w gt gb X.c X.bt X.bb X.G Bs D S2 w'):bQ w gt gb gp X Bs D (S2,E.2) m3 I w':=by
 obtain⟨H1,val,hR⟩:=H;have h0:=H1.step h;obtain⟨gt',gb',H2,A1,A2,O⟩:=h;have hF:∀k,(gp k).1=4->¬(Mine gt k\/Mine gb k):=fun k hk hm=>H1.Eh k hm zAj;obtain⟨v1,h1⟩:=H1.of;obtain⟨us,h2⟩:=H1.needs;obtain⟨v3,h3⟩:=H1.roots;have hF2:∀{τ:Nat},0<τ->∀k,(gp k).1=τ->¬(Mine gt k\/Mine gb k):=fun{τ} ht k hk hm=>H1.Eh k hm zAj;have hpx:=bf H1.blk;refine⟨gt',gb',gp,⟨⟨H2,⟨v1,h1.keep O (hF2 zBL) (Agree.refl _ _)⟩,⟨us,h2.keep O (hF2 zAB) (Agree.refl _ _)⟩,H1.D5,⟨v3,h3.keep O (hF2 zBB) (Agree.refl _ _)⟩,ak H1.blk O (fun hm=>H1.tp (.inl hm)),?_,H1.tc,aB H1.names O (fun k hk hm=>H1.nb k hk (.inl hm)),?_,H1.Yy,H1.low,?_,H1.fresh.more O.size⟩,val,hR.keep O hF (Agree.refl _ _)⟩,A1,A2,Agree.refl _ _,O.mono fun k hk=>.inl hk⟩;·rw[aX.agree A1 A2 (Agree.refl w gp) hpx];exact H1.tp
 ·exact zDZ
 exact zCW
theorem UU(H:oq w gt gb gp X Bs D E m3 I){v:Value}{xs:List Int}(hI:Ints w v xs)(hb:xs.length<=1000000):Calls Tryz.prog 163 #[.pointer (some ⟨X.c,0,none⟩),v] w fun e w'=>e= .returned (.tuple #[])/\bQ w gt gb gp X Bs D (E.1.aV xs,E.2) m3 I w':=(Uw H.1.gx hI hb).mono fun e w' ⟨he,h⟩=>⟨he,H.step h⟩
theorem Tn(H:oq w gt gb gp X Bs D E m3 I){p:Nat}(hp:p<=1000000)(z:Int)(hz:(E.1.num (aG p)).2=z):
  Calls Tryz.prog 164 #[.pointer (some ⟨X.c,0,none⟩),.int .i64 p] w fun e w'=>e= .returned (.int .i64 z)/\bQ w gt gb gp X Bs D ((E.1.num (aG p)).1,E.2) m3 I w':=
 (KX H.1.gx (p:=p) ⟨by omega,by omega⟩ z hz).mono fun e w' ⟨he,h⟩=>⟨he,H.step h⟩
theorem ZR(H:oq w gt gb gp X Bs D E m3 I){x:At}(hx:kC x)(z:Int)(hz:(E.1.num x).2=z):Calls Tryz.prog 75 #[.pointer (some ⟨X.c,0,none⟩),fH x] w fun e w'=>e= .returned (.int .i64 z)/\bQ w gt gb gp X Bs D ((E.1.num x).1,E.2) m3 I w':=(xP H.1.gx hx z hz).mono fun e w' ⟨he,h⟩=>⟨he,H.step h⟩
theorem oq.aic(H:oq w gt gb gp X Bs D E m3 I){e:Nat}(he:KI.ok e){z:Int}(hz:aO z)(hl:I.length<maxLen):∃(ix:Nat) (v:Value),Row w gp (4,ix+1) 3 v ((bT I e).map cI)/\(∀W,Only (fun k=>gp k=(4,ix+1)) w W->(Instr.lookup 151 (.map (some m3)) (.int .i64 (e:Int)) false).run Tryz.prog W= .ok v W)/\(∀wA w5 v',O0 w wA->Only (fun k=>gp k=(4,ix+1)) wA w5->Row w5 (Tag.put gp wA.heap.size w5.heap.size (4,ix+1)) (4,ix+1) 3 v' ((bT I e).map cI++[cI z])->∃w9,(Instr.mapUpdate 151 (.map (some m3)) (.int .i64 (e:Int)) v').run Tryz.prog w5= .ok () w9/\bQ w gt gb gp X Bs D E m3 (dH I e z) w9):=by
 obtain⟨H1,v4,hI⟩:=H;obtain⟨val,hR⟩:=H1.of;obtain⟨us,hN⟩:=H1.needs;obtain⟨v3,MP⟩:=H1.roots;refine⟨kV I e,v4 e,hI.rowAt e,fun W hW=>hI.look' he hW (by rw[hI.tb];simp),fun wA w5 v' oA o5 hr=>?_⟩;have HA:=H1.aF oA;have hRA:=hI.keep oA (fun _ _ f=>f) (Agree.refl _ _);have hA:Agree wA gp (Tag.put gp wA.heap.size w5.heap.size (4,kV I e+1)):=Agree.put _ _ (qH _);obtain⟨w9,h1,h2,h3⟩:=hRA.push he hA o5 hz hr hl;refine⟨w9,h1,bQ.after oA ?_⟩;have hm1:=hRA.tb;have Qs:Only (fun k=>gp k=(4,kV I e+1)\/k=m3) wA w9:=(o5.mono fun k hk=>.inl hk).same (h3.mono fun k hk=>.inr hk);have hT:∀{τ:Nat},τ≠4->∀k,(gp k).1=τ->¬(gp k=(4,kV I e+1)\/k=m3):=fun{τ} ht k hk h=>by exact zCQ
 have hf5:mg w5 (Tag.put gp wA.heap.size w5.heap.size (4,kV I e+1)):=mg.put _ HA.fresh o5.size;have hO:Only (Mine gp) wA w9:=Qs.mono fun k hk=>by exact zCp
 have hpx:=bf HA.blk;have hc:=bf HA.gx.gr.blk;have hd:∀k,Mine gt k\/Mine gb k->k<wA.heap.size:=fun k hk=>by
  obtain⟨V,hV⟩:=HA.gx.gr.tab;obtain⟨U,hU⟩:=HA.gx.gr.G8;rcases yK k wA.heap.size with hlt|hge;·exact hlt
  rcases hk with hk|hk;·exact absurd (hV.fresh k hge) hk
  exact absurd (hU.fresh k hge) hk
 have hM:∀k,k<wA.heap.size->(Mine (Tag.put gp wA.heap.size w5.heap.size (4,kV I e+1)) k↔Mine gp k):=fun k hk=>by unfold Mine;rw[hA k hk]
 refine⟨gt,gb,Tag.put gp wA.heap.size w5.heap.size (4,kV I e+1),⟨⟨HA.gx.keep hO (fun k hk=>HA.low k hk) (fun k hk hm=>HA.Eh k hk hm) (by unfold Mine;rw[HA.tc];simp),⟨val,(hR.keep oA (fun _ _ f=>f) (Agree.refl _ _)).keep Qs (hT zBP) hA⟩,⟨us,(hN.keep oA (fun _ _ f=>f) (Agree.refl _ _)).keep Qs (hT zBC) hA⟩,HA.D5,⟨v3,(MP.keep oA (fun _ _ f=>f) (Agree.refl _ _)).keep Qs (hT zAC) hA⟩,ak HA.blk hO (fun hm=>HA.tp (.inr hm)),?_,by rw[hA X.c hc];exact HA.tc,aB HA.names hO (fun k hk hm=>HA.nb k hk (.inr hm)),?_,HA.Yy,fun k hk=>?_,fun k hk hm=>HA.Eh k hk ((hM k (hd k hk)).1 hm),hf5.more h3.size⟩,_,h2⟩,Agree.refl _ _,Agree.refl _ _,hA,hO.mono fun k hk=>.inr hk⟩;·rw[aX.agree (Agree.refl wA gt) (Agree.refl wA gb) hA hpx];exact HA.tp
 ·intro k hk;rw[aX.agree (Agree.refl wA gt) (Agree.refl wA gb) hA (dn HA.names hk)];exact HA.nb k hk
 rcases yK k wA.heap.size with hlt|hge;·exact HA.low k ((hM k hlt).1 hk)
 exact qR HA.gx.le hge
theorem oq.made(H:gI w gt gb gp X Bs D E):bQ w gt gb gp X Bs D E w.heap.size [] (w.alloc (.map #[] 0)):=by
 have o:=(Only.refl (fun _=>False) w).alloc (.map #[] 0);have H1:=H.aF o;have hg:Tag.put gp w.heap.size (w.heap.size+1) (4,0) w.heap.size=(4,0):=Tag.ug _ _ (qH _) zBB;have hA:Agree w gp (Tag.put gp w.heap.size (w.heap.size+1) (4,0)):=Agree.put _ _ (qH _);obtain⟨val,hR⟩:=H.of;obtain⟨us,hN⟩:=H.needs;obtain⟨v3,MP⟩:=H.roots;have hpx:=bf H.blk;have hc:=bf H.gx.gr.blk;have hd:∀k,Mine gt k\/Mine gb k->k<w.heap.size:=fun k hk=>by exact zCE
 have hM:∀k,k<w.heap.size->(Mine (Tag.put gp w.heap.size (w.heap.size+1) (4,0)) k↔Mine gp k):=fun k hk=>by unfold Mine;rw[hA k hk]
 refine⟨gt,gb,Tag.put gp w.heap.size (w.heap.size+1) (4,0),⟨⟨H.gx.aF o,⟨val,hR.keep o (fun _ _ f=>f) hA⟩,⟨us,hN.keep o (fun _ _ f=>f) hA⟩,H.D5,⟨v3,MP.keep o (fun _ _ f=>f) hA⟩,ak H.blk o (fun f=>f),?_,by rw[hA X.c hc];exact H.tc,aB H.names o (fun _ _ f=>f),?_,H.Yy,fun k hk=>?_,fun k hk hm=>H.Eh k hk ((hM k (hd k hk)).1 hm),fun k hk=>?_⟩,_,lU.made KI w _ hg⟩,Agree.refl _ _,Agree.refl _ _,hA,o.mono fun _ f=>f.elim⟩;·rw[aX.agree (Agree.refl w gt) (Agree.refl w gb) hA hpx];exact H.tp
 ·intro k hk;rw[aX.agree (Agree.refl w gt) (Agree.refl w gb) hA (dn H.names hk)];exact H.nb k hk
 ·exact zDK
 rw[World.size_alloc]at hk;rw[Tag.Ee _ _ hk];exact H.fresh k zBB
end
def iC(w2:World)(gt gb gp:Tag)(X:G9)(Bs:Nat)(D:rU)(E:ES)(m3:Nat)(I:List (Nat×List Int))(wr:World)(v:Value)(xs:List Int):Prop:=
 ∃gt' gb' jC,oq wr gt' gb' jC X Bs D E m3 I/\Agree w2 gt gt'/\Agree w2 gb gb'/\Agree w2 gp jC/\Only (aX gt gb gp) w2 wr/\wr.ownsRow 0 3 1 v xs.length (xs.map cI)/\∀k,v.ownBlock=some k->¬aX gt' gb' jC k/\w2.heap.size<=k
section
variable {w w' w2 wr:World} {gt gb gp:Tag} {X:G9} {Bs:Nat} {D:rU} {E:ES} {m3:Nat} {I:List (Nat×List Int)}
theorem oq.off(H:oq w gt gb gp X Bs D E m3 I){F:Nat->Prop}(ho:Only F w w')(hF:∀k,F k->¬aX gt gb gp k/\k≠X.c/\k≠X.px/\X.nv.ownBlock≠some k/\Bs<=k):oq w' gt gb gp X Bs D E m3 I:=by obtain⟨H1,alE,h4⟩:=H;obtain⟨v1,h1⟩:=H1.of;obtain⟨us,h2⟩:=H1.needs;obtain⟨v3,h3⟩:=H1.roots;have hT:∀{τ:Nat},0<τ->∀k,(gp k).1=τ->¬F k:=fun{τ} ht k hk hf=>(hF k hf).1 (.inr zAj);exact⟨⟨H1.gx.keep ho (fun k hk=>(hF k hk).2.2.2.2) (fun k hk hf=>(hF k hf).1 (.inl hk)) (fun hf=>(hF _ hf).2.1 rfl),⟨v1,h1.keep ho (hT zBR) (Agree.refl _ _)⟩,⟨us,h2.keep ho (hT zBL) (Agree.refl _ _)⟩,H1.D5,⟨v3,h3.keep ho (hT zAB) (Agree.refl _ _)⟩,ak H1.blk ho (fun hf=>(hF _ hf).2.2.1 rfl),H1.tp,H1.tc,aB H1.names ho (fun k hk hf=>(hF k hf).2.2.2.1 hk),H1.nb,H1.Yy,H1.low,H1.Eh,H1.fresh.more ho.size⟩,alE,h4.keep ho (hT zBB) (Agree.refl _ _)⟩
theorem iC.start(h:bQ w2 gt gb gp X Bs D E m3 I wr):iC w2 gt gb gp X Bs D E m3 I wr bK []:=by obtain⟨a,b,c,H,A,B,C,O⟩:=h;exact⟨a,b,c,H,A,B,C,O,World.ownsRow_nil _ _ _ _,fun k hk=>by cases hk⟩
theorem iC.bk{v:Value}{xs:List Int}(h:iC w2 gt gb gp X Bs D E m3 I wr v xs):bQ w2 gt gb gp X Bs D E m3 I wr:=by obtain⟨a,b,c,H,A,B,C,O,-,-⟩:=h;exact⟨a,b,c,H,A,B,C,O⟩
theorem iC.own{v:Value}{xs:List Int}(h:iC w2 gt gb gp X Bs D E m3 I wr v xs):wr.ownsRow 0 3 1 v xs.length (xs.map cI):=by obtain⟨_,_,_,_,_,_,_,_,R,_⟩:=h;exact R
theorem iC.aF{v:Value}{xs:List Int}(h:iC w2 gt gb gp X Bs D E m3 I wr v xs){w3:World}(o:O0 wr w3):iC w2 gt gb gp X Bs D E m3 I w3 v xs:=by obtain⟨a,b,c,H,A,B,C,O,R,N⟩:=h;exact⟨a,b,c,H.aF o,A,B,C,O.same (o.mono fun _ f=>f.elim),aB R o (fun _ _ f=>f),N⟩
theorem iC.call{v:Value}{xs:List Int}(h:iC w2 gt gb gp X Bs D E m3 I wr v xs){w3:World}(o:O0 wr w3){E2:ES}{f:FuncId}{args:Array Value}{u:Value}(hc:∀gt' gb' jC,oq w3 gt' gb' jC X Bs D E m3 I->Calls Tryz.prog f args w3 fun e w'=>e= .returned u/\bQ w3 gt' gb' jC X Bs D E2 m3 I w'):Calls Tryz.prog f args w3 fun e w'=>e= .returned u/\iC w2 gt gb gp X Bs D E2 m3 I w' v xs:=by obtain⟨a,b,c,H,A,B,C,O,R,N⟩:=h;refine(hc a b c (H.aF o)).mono fun e w' ⟨he,h2⟩=>⟨he,?_⟩;obtain⟨a2,b2,c2,H2,A2,B2,C2,O2⟩:=bQ.after o h2;refine⟨a2,b2,c2,H2,A.trans A2 O.size,B.trans B2 O.size,C.trans C2 O.size,O.sZ A B C O2,aB R O2 (fun k hk=>(N k hk).1),fun k hk=>⟨?_,(N k hk).2⟩⟩;rw[aX.agree A2 B2 C2 (dn R hk)];exact(N k hk).1
theorem iC.app(hw2:X.c<w2.heap.size/\X.px<w2.heap.size/\(∀k,X.nv.ownBlock=some k->k<w2.heap.size)/\Bs<=w2.heap.size){v v':Value}{xs:List Int}(h:iC w2 gt gb gp X Bs D E m3 I wr v xs){w3 w4:World}(o3:O0 wr w3){z:Int}(r:w4.ownsRow 0 3 1 v' (xs.length+1) (xs.map cI++[cI z]))(o:Only (fun k=>v.ownBlock=some k) w3 w4)(a:vg w3 v v' (xs.length+1)):iC w2 gt gb gp X Bs D E m3 I w4 v' (xs++[z]):=by
 obtain⟨ga,gb',gc,H,A,B,C,O,R,N⟩:=h;have o4:Only (fun k=>v.ownBlock=some k) wr w4:=(o3.mono fun _ f=>f.elim).same o;obtain⟨q1,q2,q3,q4⟩:=hw2;refine⟨ga,gb',gc,H.off o4 (fun k hk=>?_),A,B,C,O.trans o4 fun k hk=>.inr (N k hk).2,by simpa using r,fun k hk=>?_⟩;·obtain⟨n1,n2⟩:=N k hk;exact⟨n1,by omega,by omega,fun hh=>by have:=q3 k hh;omega,by omega⟩
 obtain⟨g,cap,rfl,-,-,hg⟩:=a;simp[Value.ownBlock]at hk;subst hk;rcases hg with hg|hg;·exact N g hg
 have:=o3.size;have:=O.size;exact⟨H.1.jD zBB,by omega⟩
def WS(w:World)(gt gb gp:Tag)(X:G9)(Bs:Nat)(D:rU)(E:ES)(m3:Nat)(I:List (Nat×List Int))(w':World):Prop:=
 ∃gt' gb',oq w' gt' gb' gp X Bs D E m3 I/\Agree w gt gt'/\Agree w gb gb'/\Only (fun k=>Mine gt k\/Mine gb k) w w'
theorem WS.bk(h:WS w gt gb gp X Bs D E m3 I w'):bQ w gt gb gp X Bs D E m3 I w':=by obtain⟨a,b,H,A,B,O⟩:=h;exact⟨a,b,gp,H,A,B,Agree.refl _ _,O.mono fun k hk=>.inl hk⟩
theorem WS.after{w1:World}(o:O0 w w1)(h:WS w1 gt gb gp X Bs D E m3 I w'):WS w gt gb gp X Bs D E m3 I w':=by obtain⟨a,b,H,A,B,O⟩:=h;refine⟨a,b,H,fun k hk=>A k (Nat.lt_of_lt_of_le hk o.size),fun k hk=>B k (Nat.lt_of_lt_of_le hk o.size),(o.mono fun _ f=>f.elim).same O⟩
theorem oq.acK(H:oq w gt gb gp X Bs D E m3 I){S2:TB}(h:aN w gt gb X.c X.bt X.bb X.G Bs D S2 w'):WS w gt gb gp X Bs D (S2,E.2) m3 I w':=by
 obtain⟨H1,val,hR⟩:=H;obtain⟨gt',gb',H2,A1,A2,O⟩:=h;have hF:∀k,(gp k).1=4->¬(Mine gt k\/Mine gb k):=fun k hk hm=>H1.Eh k hm zAj;obtain⟨v1,h1⟩:=H1.of;obtain⟨us,h2⟩:=H1.needs;obtain⟨v3,h3⟩:=H1.roots;have hF2:∀{τ:Nat},0<τ->∀k,(gp k).1=τ->¬(Mine gt k\/Mine gb k):=fun{τ} ht k hk hm=>H1.Eh k hm zAj;have hpx:=bf H1.blk;refine⟨gt',gb',⟨⟨H2,⟨v1,h1.keep O (hF2 zBL) (Agree.refl _ _)⟩,⟨us,h2.keep O (hF2 zAB) (Agree.refl _ _)⟩,H1.D5,⟨v3,h3.keep O (hF2 zBB) (Agree.refl _ _)⟩,ak H1.blk O (fun hm=>H1.tp (.inl hm)),?_,H1.tc,aB H1.names O (fun k hk hm=>H1.nb k hk (.inl hm)),?_,H1.Yy,H1.low,?_,H1.fresh.more O.size⟩,val,hR.keep O hF (Agree.refl _ _)⟩,A1,A2,O⟩;·rw[aX.agree A1 A2 (Agree.refl w gp) hpx];exact H1.tp
 ·exact zDZ
 exact zCW
theorem abP(H:oq w gt gb gp X Bs D E m3 I){W:World}(o:O0 w W){p:Nat}(hp:p<=1000000)(z:Int)(hz:(E.1.num (aG p)).2=z):
  Calls Tryz.prog 164 #[.pointer (some ⟨X.c,0,none⟩),.int .i64 p] W fun e w'=>e= .returned (.int .i64 z)/\WS w gt gb gp X Bs D ((E.1.num (aG p)).1,E.2) m3 I w':=
 (KX (H.aF o).1.gx (p:=p) ⟨by omega,by omega⟩ z hz).mono fun e w' ⟨he,h⟩=>⟨he,WS.after o ((H.aF o).acK h)⟩
theorem aeT(H:oq w gt gb gp X Bs D E m3 I){W:World}(o:O0 w W){v:Value}{xs:List Int}(hI:Ints W v xs)(hb:xs.length<=1000000):Calls Tryz.prog 163 #[.pointer (some ⟨X.c,0,none⟩),v] W fun e w'=>e= .returned (.tuple #[])/\WS w gt gb gp X Bs D (E.1.aV xs,E.2) m3 I w':=(Uw (H.aF o).1.gx hI hb).mono fun e w' ⟨he,h⟩=>⟨he,WS.after o ((H.aF o).acK h)⟩
theorem gI.sizes(H:gI w gt gb gp X Bs D E):X.c<w.heap.size/\X.px<w.heap.size/\(∀k,X.nv.ownBlock=some k->k<w.heap.size)/\Bs<=w.heap.size:=⟨bf H.gx.gr.blk,bf H.blk,fun _ hk=>dn H.names hk,H.gx.le⟩
end
end Go.Proofs.YtdmmebjjojimiaaGreatDoor
