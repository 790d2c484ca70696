/- Package edge: back's state: the part, and what goes into each place.; Package edge: a row of one's own beside back's state. -/
import Derived.Test.YtdmmebjjojimiaaGreatDoorG29
import Derived.Shelf.Spec.SlicesGrow
set_option maxRecDepth 100000
set_option maxHeartbeats 8000000
set_option linter.all false
namespace Go.Proofs
theorem zDL{p:Prop}(h:p:=by
 intro k hk
 rcases yK k w.heap.size with hlt|hge
 ·refine H1.Kw k ?_
  unfold Mine at hk⊢
  rwa[A1 k hlt,A2 k hlt]at hk
 ·unfold Mine;rw[H1.fresh k hge];simp):p:=h
theorem zEf{p:Prop}(h:p:=by
 intro k hk
 rw[dF.agree A1 A2 (Agree.refl w gp) (dX H1.names hk)];exact H1.nb k hk):p:=h
end Go.Proofs
namespace Go.Proofs.YtdmmebjjojimiaaGreatDoor
open Go.RowKit
def uV(w:World)(gt gb gp:Tag)(X:NV)(Bs:Nat)(D:Dn)(E:ES)(m3:Nat)(I:List (Nat×List Int)):Prop:=jW w gt gb gp X Bs D E/\∃val,sO KI w gp 4 m3 I val
def eX(w:World)(gt gb gp:Tag)(X:NV)(Bs:Nat)(D:Dn)(E:ES)(m3:Nat)(I:List (Nat×List Int))(w':World):Prop:=
 ∃gt' gb' nM,uV w' gt' gb' nM X Bs D E m3 I/\Agree w gt gt'/\Agree w gb gb'/\Agree w gp nM/\Only (dF gt gb gp) w w'
section
variable {w w':World} {gt gb gp:Tag} {X:NV} {Bs:Nat} {D:Dn} {E:ES} {m3:Nat} {I:List (Nat×List Int)}
theorem uV.aN(H:uV w gt gb gp X Bs D E m3 I)(ho:O0 w w'):uV w' gt gb gp X Bs D E m3 I:=by obtain⟨h1,val,h2⟩:=H;exact⟨h1.aN ho,val,h2.keep ho (fun _ _ f=>f) (Agree.refl _ _)⟩
theorem eX.refl(H:uV w gt gb gp X Bs D E m3 I):eX w gt gb gp X Bs D E m3 I w:=⟨gt,gb,gp,H,Agree.refl _ _,Agree.refl _ _,Agree.refl _ _,Only.refl _ _⟩
theorem eX.trans{w1 w2:World}{kF lV Tv:Tag}(ht:Agree w gt kF)(hb:Agree w gb lV)(hp:Agree w gp Tv)(ho:Only (dF gt gb gp) w w1){E2:ES}{I2:List (Nat×List Int)}(h2:eX w1 kF lV Tv X Bs D E2 m3 I2 w2):eX w gt gb gp X Bs D E2 m3 I2 w2:=by exact zDR
theorem eX.after{w1 w2:World}(o1:O0 w w1){E2:ES}{I2:List (Nat×List Int)}(h:eX w1 gt gb gp X Bs D E2 m3 I2 w2):eX w gt gb gp X Bs D E2 m3 I2 w2:=eX.trans (Agree.refl _ _) (Agree.refl _ _) (Agree.refl _ _) (o1.mono fun _ f=>f.elim) h
theorem eX.Qn{w1 w2:World}(h:eX w gt gb gp X Bs D E m3 I w1)(o:O0 w1 w2):eX w gt gb gp X Bs D E m3 I w2:=by exact zDu
theorem eX.only(h:eX w gt gb gp X Bs D E m3 I w'):Only (dF gt gb gp) w w':=by obtain⟨_,_,_,_,_,_,_,O⟩:=h;exact O
theorem eX.XR(h:eX w gt gb gp X Bs D E m3 I w'):E.1.1.Ok:=by obtain⟨_,_,_,H,_⟩:=h;exact H.1.ok
theorem eX.ed(h:eX w gt gb gp X Bs D E m3 I w'):bV w gt gb gp X Bs D E w':=by obtain⟨gt',gb',nM,H2,A1,A2,A3,O⟩:=h;exact⟨gt',gb',nM,H2.1,A1,A2,A3,O⟩
theorem eX.call(h:eX w gt gb gp X Bs D E m3 I w'){w2:World}(o:O0 w' w2){E2:ES}{I2:List (Nat×List Int)}{f:FuncId}{args:Array Value}{u:Value}(hc:∀gt' gb' nM,uV w2 gt' gb' nM X Bs D E m3 I->Only (dF gt gb gp) w w2->Calls Tryz.prog f args w2 fun e w3=>e= .returned u/\eX w2 gt' gb' nM X Bs D E2 m3 I2 w3):Calls Tryz.prog f args w2 fun e w3=>e= .returned u/\eX w gt gb gp X Bs D E2 m3 I2 w3:=by obtain⟨gt',gb',nM,H2,A1,A2,A3,O⟩:=h;exact(hc gt' gb' nM (H2.aN o) (O.same (o.mono fun _ f=>f.elim))).mono fun e w3 ⟨he,h⟩=>⟨he,eX.trans A1 A2 A3 O (eX.after o h)⟩
theorem uV.step(H:uV w gt gb gp X Bs D E m3 I){S2:TB}(h:fE w gt gb X.c X.bt X.bb X.G Bs D S2 w'):eX w gt gb gp X Bs D (S2,E.2) m3 I w':=by
 obtain⟨H1,val,hR⟩:=H;have h0:=H1.step h;obtain⟨gt',gb',H2,A1,A2,O⟩:=h;have hF:∀k,(gp k).1=4->¬(Mine gt k\/Mine gb k):=fun k hk hm=>H1.Kw k hm zBB;obtain⟨v1,h1⟩:=H1.of;obtain⟨us,h2⟩:=H1.needs;obtain⟨v3,h3⟩:=H1.roots;have hF2:∀{τ:Nat},0<τ->∀k,(gp k).1=τ->¬(Mine gt k\/Mine gb k):=fun{τ} ht k hk hm=>H1.Kw k hm zBB;have hpx:=dR H1.blk;refine⟨gt',gb',gp,⟨⟨H2,⟨v1,h1.keep O (hF2 zBy) (Agree.refl _ _)⟩,⟨us,h2.keep O (hF2 zAC) (Agree.refl _ _)⟩,H1.Kq,⟨v3,h3.keep O (hF2 zBk) (Agree.refl _ _)⟩,aF H1.blk O (fun hm=>H1.tp (.inl hm)),?_,H1.tc,aI H1.names O (fun k hk hm=>H1.nb k hk (.inl hm)),?_,H1.nok,H1.low,?_,H1.fresh.more O.size⟩,val,hR.keep O hF (Agree.refl _ _)⟩,A1,A2,Agree.refl _ _,O.mono fun k hk=>.inl hk⟩;·rw[dF.agree A1 A2 (Agree.refl w gp) hpx];exact H1.tp
 ·exact zEf
 exact zDL
theorem Zb(H:uV w gt gb gp X Bs D E m3 I){v:Value}{xs:List Int}(hI:Ints w v xs)(hb:xs.length<=1000000):Calls Tryz.prog 163 #[.pointer (some ⟨X.c,0,none⟩),v] w fun e w'=>e= .returned (.tuple #[])/\eX w gt gb gp X Bs D (E.1.dD xs,E.2) m3 I w':=(Y5 H.1.gx hI hb).mono fun e w' ⟨he,h⟩=>⟨he,H.step h⟩
theorem X0(H:uV w gt gb gp X Bs D E m3 I){p:Nat}(hp:p<=1000000)(z:Int)(hz:(E.1.num (aJ p)).2=z):
  Calls Tryz.prog 164 #[.pointer (some ⟨X.c,0,none⟩),.int .i64 p] w fun e w'=>e= .returned (.int .i64 z)/\eX w gt gb gp X Bs D ((E.1.num (aJ p)).1,E.2) m3 I w':=
 (RV H.1.gx (p:=p) ⟨by omega,by omega⟩ z hz).mono fun e w' ⟨he,h⟩=>⟨he,H.step h⟩
theorem adU(H:uV w gt gb gp X Bs D E m3 I){x:At}(hx:sD x)(z:Int)(hz:(E.1.num x).2=z):Calls Tryz.prog 75 #[.pointer (some ⟨X.c,0,none⟩),jS x] w fun e w'=>e= .returned (.int .i64 z)/\eX w gt gb gp X Bs D ((E.1.num x).1,E.2) m3 I w':=(Hr H.1.gx hx z hz).mono fun e w' ⟨he,h⟩=>⟨he,H.step h⟩
theorem uV.amg(H:uV w gt gb gp X Bs D E m3 I){e:Nat}(he:KI.ok e){z:Int}(hz:bU z)(hl:I.length<maxLen):∃(ix:Nat) (v:Value),Row w gp (4,ix+1) 3 v ((fA I e).map cI)/\(∀W,Only (fun k=>gp k=(4,ix+1)) w W->(Instr.lookup 151 (.map (some m3)) (.int .i64 (e:Int)) false).run Tryz.prog W= .ok v W)/\(∀wA w5 v',O0 w wA->Only (fun k=>gp k=(4,ix+1)) wA w5->Row w5 (Tag.put gp wA.heap.size w5.heap.size (4,ix+1)) (4,ix+1) 3 v' ((fA I e).map cI++[cI z])->∃w9,(Instr.mapUpdate 151 (.map (some m3)) (.int .i64 (e:Int)) v').run Tryz.prog w5= .ok () w9/\eX w gt gb gp X Bs D E m3 (gQ I e z) w9):=by
 obtain⟨H1,v4,hI⟩:=H;obtain⟨val,hR⟩:=H1.of;obtain⟨us,hN⟩:=H1.needs;obtain⟨v3,TA⟩:=H1.roots;refine⟨qh I e,v4 e,hI.rowAt e,fun W hW=>hI.look' he hW (by rw[hI.tb];simp),fun wA w5 v' oA o5 hr=>?_⟩;have HA:=H1.aN oA;have hRA:=hI.keep oA (fun _ _ f=>f) (Agree.refl _ _);have hA:Agree wA gp (Tag.put gp wA.heap.size w5.heap.size (4,qh I e+1)):=Agree.put _ _ (qH _);obtain⟨w9,h1,h2,h3⟩:=hRA.push he hA o5 hz hr hl;refine⟨w9,h1,eX.after oA ?_⟩;have hm1:=hRA.tb;have Wl:Only (fun k=>gp k=(4,qh I e+1)\/k=m3) wA w9:=(o5.mono fun k hk=>.inl hk).same (h3.mono fun k hk=>.inr hk);have hT:∀{τ:Nat},τ≠4->∀k,(gp k).1=τ->¬(gp k=(4,qh I e+1)\/k=m3):=fun{τ} ht k hk h=>by exact zDG
 have hf5:sV w5 (Tag.put gp wA.heap.size w5.heap.size (4,qh I e+1)):=sV.put _ HA.fresh o5.size;have hO:Only (Mine gp) wA w9:=Wl.mono fun k hk=>by exact zDh
 have hpx:=dR HA.blk;have hc:=dR HA.gx.gr.blk;have hd:∀k,Mine gt k\/Mine gb k->k<wA.heap.size:=fun k hk=>by
  obtain⟨V,hV⟩:=HA.gx.gr.tab;obtain⟨U,hU⟩:=HA.gx.gr.Jy;rcases yK k wA.heap.size with hlt|hge;·exact hlt
  rcases hk with hk|hk;·exact absurd (hV.fresh k hge) hk
  exact absurd (hU.fresh k hge) hk
 have hM:∀k,k<wA.heap.size->(Mine (Tag.put gp wA.heap.size w5.heap.size (4,qh I e+1)) k↔Mine gp k):=fun k hk=>by unfold Mine;rw[hA k hk]
 refine⟨gt,gb,Tag.put gp wA.heap.size w5.heap.size (4,qh I e+1),⟨⟨HA.gx.keep hO (fun k hk=>HA.low k hk) (fun k hk hm=>HA.Kw k hk hm) (by unfold Mine;rw[HA.tc];simp),⟨val,(hR.keep oA (fun _ _ f=>f) (Agree.refl _ _)).keep Wl (hT zB1) hA⟩,⟨us,(hN.keep oA (fun _ _ f=>f) (Agree.refl _ _)).keep Wl (hT zBl) hA⟩,HA.Kq,⟨v3,(TA.keep oA (fun _ _ f=>f) (Agree.refl _ _)).keep Wl (hT zAG) hA⟩,aF HA.blk hO (fun hm=>HA.tp (.inr hm)),?_,by rw[hA X.c hc];exact HA.tc,aI HA.names hO (fun k hk hm=>HA.nb k hk (.inr hm)),?_,HA.nok,fun k hk=>?_,fun k hk hm=>HA.Kw k hk ((hM k (hd k hk)).1 hm),hf5.more h3.size⟩,_,h2⟩,Agree.refl _ _,Agree.refl _ _,hA,hO.mono fun k hk=>.inr hk⟩;·rw[dF.agree (Agree.refl wA gt) (Agree.refl wA gb) hA hpx];exact HA.tp
 ·intro k hk;rw[dF.agree (Agree.refl wA gt) (Agree.refl wA gb) hA (dX HA.names hk)];exact HA.nb k hk
 rcases yK k wA.heap.size with hlt|hge;·exact HA.low k ((hM k hlt).1 hk)
 exact qR HA.gx.le hge
theorem uV.made(H:jW w gt gb gp X Bs D E):eX w gt gb gp X Bs D E w.heap.size [] (w.alloc (.map #[] 0)):=by
 have o:=(Only.refl (fun _=>False) w).alloc (.map #[] 0);have H1:=H.aN o;have hg:Tag.put gp w.heap.size (w.heap.size+1) (4,0) w.heap.size=(4,0):=Tag.Ah _ _ (qH _) zBk;have hA:Agree w gp (Tag.put gp w.heap.size (w.heap.size+1) (4,0)):=Agree.put _ _ (qH _);obtain⟨val,hR⟩:=H.of;obtain⟨us,hN⟩:=H.needs;obtain⟨v3,TA⟩:=H.roots;have hpx:=dR H.blk;have hc:=dR H.gx.gr.blk;have hd:∀k,Mine gt k\/Mine gb k->k<w.heap.size:=fun k hk=>by exact zC2
 have hM:∀k,k<w.heap.size->(Mine (Tag.put gp w.heap.size (w.heap.size+1) (4,0)) k↔Mine gp k):=fun k hk=>by unfold Mine;rw[hA k hk]
 refine⟨gt,gb,Tag.put gp w.heap.size (w.heap.size+1) (4,0),⟨⟨H.gx.aN o,⟨val,hR.keep o (fun _ _ f=>f) hA⟩,⟨us,hN.keep o (fun _ _ f=>f) hA⟩,H.Kq,⟨v3,TA.keep o (fun _ _ f=>f) hA⟩,aF H.blk o (fun f=>f),?_,by rw[hA X.c hc];exact H.tc,aI H.names o (fun _ _ f=>f),?_,H.nok,fun k hk=>?_,fun k hk hm=>H.Kw k hk ((hM k (hd k hk)).1 hm),fun k hk=>?_⟩,_,sO.made KI w _ hg⟩,Agree.refl _ _,Agree.refl _ _,hA,o.mono fun _ f=>f.elim⟩;·rw[dF.agree (Agree.refl w gt) (Agree.refl w gb) hA hpx];exact H.tp
 ·intro k hk;rw[dF.agree (Agree.refl w gt) (Agree.refl w gb) hA (dX H.names hk)];exact H.nb k hk
 ·exact zEJ
 rw[World.size_alloc]at hk;rw[Tag.Kt _ _ hk];exact H.fresh k zBk
end
def kW(w2:World)(gt gb gp:Tag)(X:NV)(Bs:Nat)(D:Dn)(E:ES)(m3:Nat)(I:List (Nat×List Int))(wr:World)(v:Value)(xs:List Int):Prop:=
 ∃gt' gb' nM,uV wr gt' gb' nM X Bs D E m3 I/\Agree w2 gt gt'/\Agree w2 gb gb'/\Agree w2 gp nM/\Only (dF gt gb gp) w2 wr/\wr.ownsRow 0 3 1 v xs.length (xs.map cI)/\∀k,v.ownBlock=some k->¬dF gt' gb' nM k/\w2.heap.size<=k
section
variable {w w' w2 wr:World} {gt gb gp:Tag} {X:NV} {Bs:Nat} {D:Dn} {E:ES} {m3:Nat} {I:List (Nat×List Int)}
theorem uV.off(H:uV w gt gb gp X Bs D E m3 I){F:Nat->Prop}(ho:Only F w w')(hF:∀k,F k->¬dF gt gb gp k/\k≠X.c/\k≠X.px/\X.nv.ownBlock≠some k/\Bs<=k):uV w' gt gb gp X Bs D E m3 I:=by obtain⟨H1,aqW,h4⟩:=H;obtain⟨v1,h1⟩:=H1.of;obtain⟨us,h2⟩:=H1.needs;obtain⟨v3,h3⟩:=H1.roots;have hT:∀{τ:Nat},0<τ->∀k,(gp k).1=τ->¬F k:=fun{τ} ht k hk hf=>(hF k hf).1 (.inr zBB);exact⟨⟨H1.gx.keep ho (fun k hk=>(hF k hk).2.2.2.2) (fun k hk hf=>(hF k hf).1 (.inl hk)) (fun hf=>(hF _ hf).2.1 rfl),⟨v1,h1.keep ho (hT zB7) (Agree.refl _ _)⟩,⟨us,h2.keep ho (hT zBy) (Agree.refl _ _)⟩,H1.Kq,⟨v3,h3.keep ho (hT zAC) (Agree.refl _ _)⟩,aF H1.blk ho (fun hf=>(hF _ hf).2.2.1 rfl),H1.tp,H1.tc,aI H1.names ho (fun k hk hf=>(hF k hf).2.2.2.1 hk),H1.nb,H1.nok,H1.low,H1.Kw,H1.fresh.more ho.size⟩,aqW,h4.keep ho (hT zBk) (Agree.refl _ _)⟩
theorem kW.start(h:eX w2 gt gb gp X Bs D E m3 I wr):kW w2 gt gb gp X Bs D E m3 I wr bP []:=by obtain⟨a,b,c,H,A,B,C,O⟩:=h;exact⟨a,b,c,H,A,B,C,O,World.ownsRow_nil _ _ _ _,fun k hk=>by cases hk⟩
theorem kW.bk{v:Value}{xs:List Int}(h:kW w2 gt gb gp X Bs D E m3 I wr v xs):eX w2 gt gb gp X Bs D E m3 I wr:=by obtain⟨a,b,c,H,A,B,C,O,-,-⟩:=h;exact⟨a,b,c,H,A,B,C,O⟩
theorem kW.own{v:Value}{xs:List Int}(h:kW w2 gt gb gp X Bs D E m3 I wr v xs):wr.ownsRow 0 3 1 v xs.length (xs.map cI):=by obtain⟨_,_,_,_,_,_,_,_,R,_⟩:=h;exact R
theorem kW.aN{v:Value}{xs:List Int}(h:kW w2 gt gb gp X Bs D E m3 I wr v xs){w3:World}(o:O0 wr w3):kW w2 gt gb gp X Bs D E m3 I w3 v xs:=by obtain⟨a,b,c,H,A,B,C,O,R,N⟩:=h;exact⟨a,b,c,H.aN o,A,B,C,O.same (o.mono fun _ f=>f.elim),aI R o (fun _ _ f=>f),N⟩
theorem kW.call{v:Value}{xs:List Int}(h:kW w2 gt gb gp X Bs D E m3 I wr v xs){w3:World}(o:O0 wr w3){E2:ES}{f:FuncId}{args:Array Value}{u:Value}(hc:∀gt' gb' nM,uV w3 gt' gb' nM X Bs D E m3 I->Calls Tryz.prog f args w3 fun e w'=>e= .returned u/\eX w3 gt' gb' nM X Bs D E2 m3 I w'):Calls Tryz.prog f args w3 fun e w'=>e= .returned u/\kW w2 gt gb gp X Bs D E2 m3 I w' v xs:=by obtain⟨a,b,c,H,A,B,C,O,R,N⟩:=h;refine(hc a b c (H.aN o)).mono fun e w' ⟨he,h2⟩=>⟨he,?_⟩;obtain⟨a2,b2,c2,H2,A2,B2,C2,O2⟩:=eX.after o h2;refine⟨a2,b2,c2,H2,A.trans A2 O.size,B.trans B2 O.size,C.trans C2 O.size,O.zZ A B C O2,aI R O2 (fun k hk=>(N k hk).1),fun k hk=>⟨?_,(N k hk).2⟩⟩;rw[dF.agree A2 B2 C2 (dX R hk)];exact(N k hk).1
theorem kW.app(hw2:X.c<w2.heap.size/\X.px<w2.heap.size/\(∀k,X.nv.ownBlock=some k->k<w2.heap.size)/\Bs<=w2.heap.size){v v':Value}{xs:List Int}(h:kW w2 gt gb gp X Bs D E m3 I wr v xs){w3 w4:World}(o3:O0 wr w3){z:Int}(r:w4.ownsRow 0 3 1 v' (xs.length+1) (xs.map cI++[cI z]))(o:Only (fun k=>v.ownBlock=some k) w3 w4)(a:BN w3 v v' (xs.length+1)):kW w2 gt gb gp X Bs D E m3 I w4 v' (xs++[z]):=by
 obtain⟨ga,gb',gc,H,A,B,C,O,R,N⟩:=h;have o4:Only (fun k=>v.ownBlock=some k) wr w4:=(o3.mono fun _ f=>f.elim).same o;obtain⟨q1,q2,q3,q4⟩:=hw2;refine⟨ga,gb',gc,H.off o4 (fun k hk=>?_),A,B,C,O.trans o4 fun k hk=>.inr (N k hk).2,by simpa using r,fun k hk=>?_⟩;·obtain⟨n1,n2⟩:=N k hk;exact⟨n1,by omega,by omega,fun hh=>by have:=q3 k hh;omega,by omega⟩
 obtain⟨g,cap,rfl,-,-,hg⟩:=a;simp[Value.ownBlock]at hk;subst hk;rcases hg with hg|hg;·exact N g hg
 have:=o3.size;have:=O.size;exact⟨H.1.nN zBk,by omega⟩
def BkK(w:World)(gt gb gp:Tag)(X:NV)(Bs:Nat)(D:Dn)(E:ES)(m3:Nat)(I:List (Nat×List Int))(w':World):Prop:=
 ∃gt' gb',uV w' gt' gb' gp X Bs D E m3 I/\Agree w gt gt'/\Agree w gb gb'/\Only (fun k=>Mine gt k\/Mine gb k) w w'
theorem BkK.bk(h:BkK w gt gb gp X Bs D E m3 I w'):eX w gt gb gp X Bs D E m3 I w':=by obtain⟨a,b,H,A,B,O⟩:=h;exact⟨a,b,gp,H,A,B,Agree.refl _ _,O.mono fun k hk=>.inl hk⟩
theorem BkK.after{w1:World}(o:O0 w w1)(h:BkK w1 gt gb gp X Bs D E m3 I w'):BkK w gt gb gp X Bs D E m3 I w':=by obtain⟨a,b,H,A,B,O⟩:=h;refine⟨a,b,H,fun k hk=>A k (Nat.lt_of_lt_of_le hk o.size),fun k hk=>B k (Nat.lt_of_lt_of_le hk o.size),(o.mono fun _ f=>f.elim).same O⟩
theorem uV.agO(H:uV w gt gb gp X Bs D E m3 I){S2:TB}(h:fE w gt gb X.c X.bt X.bb X.G Bs D S2 w'):BkK w gt gb gp X Bs D (S2,E.2) m3 I w':=by
 obtain⟨H1,val,hR⟩:=H;obtain⟨gt',gb',H2,A1,A2,O⟩:=h;have hF:∀k,(gp k).1=4->¬(Mine gt k\/Mine gb k):=fun k hk hm=>H1.Kw k hm zBB;obtain⟨v1,h1⟩:=H1.of;obtain⟨us,h2⟩:=H1.needs;obtain⟨v3,h3⟩:=H1.roots;have hF2:∀{τ:Nat},0<τ->∀k,(gp k).1=τ->¬(Mine gt k\/Mine gb k):=fun{τ} ht k hk hm=>H1.Kw k hm zBB;have hpx:=dR H1.blk;refine⟨gt',gb',⟨⟨H2,⟨v1,h1.keep O (hF2 zBy) (Agree.refl _ _)⟩,⟨us,h2.keep O (hF2 zAC) (Agree.refl _ _)⟩,H1.Kq,⟨v3,h3.keep O (hF2 zBk) (Agree.refl _ _)⟩,aF H1.blk O (fun hm=>H1.tp (.inl hm)),?_,H1.tc,aI H1.names O (fun k hk hm=>H1.nb k hk (.inl hm)),?_,H1.nok,H1.low,?_,H1.fresh.more O.size⟩,val,hR.keep O hF (Agree.refl _ _)⟩,A1,A2,O⟩;·rw[dF.agree A1 A2 (Agree.refl w gp) hpx];exact H1.tp
 ·exact zEf
 exact zDL
theorem afO(H:uV w gt gb gp X Bs D E m3 I){W:World}(o:O0 w W){p:Nat}(hp:p<=1000000)(z:Int)(hz:(E.1.num (aJ p)).2=z):
  Calls Tryz.prog 164 #[.pointer (some ⟨X.c,0,none⟩),.int .i64 p] W fun e w'=>e= .returned (.int .i64 z)/\BkK w gt gb gp X Bs D ((E.1.num (aJ p)).1,E.2) m3 I w':=
 (RV (H.aN o).1.gx (p:=p) ⟨by omega,by omega⟩ z hz).mono fun e w' ⟨he,h⟩=>⟨he,BkK.after o ((H.aN o).agO h)⟩
theorem aiR(H:uV w gt gb gp X Bs D E m3 I){W:World}(o:O0 w W){v:Value}{xs:List Int}(hI:Ints W v xs)(hb:xs.length<=1000000):Calls Tryz.prog 163 #[.pointer (some ⟨X.c,0,none⟩),v] W fun e w'=>e= .returned (.tuple #[])/\BkK w gt gb gp X Bs D (E.1.dD xs,E.2) m3 I w':=(Y5 (H.aN o).1.gx hI hb).mono fun e w' ⟨he,h⟩=>⟨he,BkK.after o ((H.aN o).agO h)⟩
theorem jW.sizes(H:jW w gt gb gp X Bs D E):X.c<w.heap.size/\X.px<w.heap.size/\(∀k,X.nv.ownBlock=some k->k<w.heap.size)/\Bs<=w.heap.size:=⟨dR H.gx.gr.blk,dR H.blk,fun _ hk=>dX H.names hk,H.gx.le⟩
end
end Go.Proofs.YtdmmebjjojimiaaGreatDoor
namespace Go.Proofs.YtdmmebjjojimiaaGreatDoor
open Go.RowKit Go.Shelf
def Tryz.SC:Go.Shelf.Ren:=⟨fun |4=>236|n=>n,fun |0=>0|3=>3|4=>4|9=>9|20=>20|22=>78|25=>3|n=>n,fun n=>n⟩
theorem Tryz.VB:Go.Proofs.Lays8.n4 Tryz.prog Tryz.SC:={
 mixed:=by kernel_rfl
 f4:=⟨Tryz.f236.name,by decide,Tryz.func236.trans (congrArg some zk)⟩
 t0:=Tryz.underlying0
 a0:=Tryz.isAgg0
 z0:=Tryz.sizeOf0
 v0:=Tryz.zeroValue0
 t3:=Tryz.underlying3
 a3:=Tryz.isAgg3
 z3:=Tryz.sizeOf3
 v3:=Tryz.zeroValue3
 t4:=Tryz.underlying4
 a4:=Tryz.isAgg4
 z4:=Tryz.sizeOf4
 v4:=Tryz.zeroValue4
 t9:=Tryz.underlying9
 a9:=Tryz.isAgg9
 z9:=Tryz.sizeOf9
 v9:=Tryz.zeroValue9
 t20:=Tryz.underlying20
 a20:=Tryz.isAgg20
 z20:=Tryz.sizeOf20
 v20:=Tryz.zeroValue20
 t22:=Tryz.underlying78
 a22:=Tryz.isAgg78
 z22:=Tryz.sizeOf78
 v22:=Tryz.zeroValue78}
theorem aiS(w:World){n:Nat}(hn:n<=100000000):Calls Tryz.prog 236 #[.slice none 0 0,.int .i64 n] w fun e w'=> ∃v,e= .returned v/\w'.ownsRow 0 3 1 v 0 []/\(∀k,v.ownBlock=some k->w.heap.size<=k)/\O0 w w':=by
 rcases Nat.eq_zero_or_pos n with rfl|h0
 ·refine(Any8.slices_Grow_room Tryz.VB none 0 0 0 w (qH _) zBy zAC zBk).mono fun e w' ⟨he,hw⟩=>⟨_,he,?_,fun k hk=>(by cases hk),?_⟩;·rw[hw];exact⟨rfl,.inl ⟨rfl,rfl⟩⟩
  exact zEE
 obtain⟨i0,hi,hz0,hz1,hz2⟩:=info_parts (show(Tryz.prog.info? 3).map (fun i=>(i.zero,i.size,i.bytes))=some (some (.int .i64 0),1,8) by kernel_rfl);refine(Any8.slices_Grow_grow Tryz.VB i0 (.int .i64 0) hi hz0 zBy none 0 0 n [] w (qH _) zAC (by rw[hz2];omega) zBk zCC (fun _=>rfl) (fun a ha=>by cases ha)).mono fun e w' ⟨he,hw⟩=>⟨_,he,?_,fun k hk=>?_,?_⟩
 ·have hG:0+n<=grownCap w (0+n) 0 3:=grownCap_ge w _ _ _;have hM:grownCap w (0+n) 0 3<=maxLen:=grownCap_le_maxLen w (0+n) 0 3 zBp;have hsz:(([]:List Value).toArray++Builtin.zeroCells (Value.int .i64 0).cells (0+n-0)++Builtin.zeroCells (Value.int .i64 0).cells (grownCap w (0+n) 0 3-(0+n))).size=grownCap w (0+n) 0 3*1:=by obtain⟨G,hGG⟩:=ze (grownCap w (0+n) 0 3);rw[hGG]at hG⊢;simp[Builtin.zeroCells,Value.cells];omega
  refine⟨rfl,Or.inr ⟨w.heap.size,grownCap w (0+n) 0 3,_,rfl,qE _,by rw[hw];exact qL w.drew _,qE _,hM,hsz,by simp⟩⟩
 ·cases hk;exact qH _
 rw[hw];exact(zr.drew).alloc _
end Go.Proofs.YtdmmebjjojimiaaGreatDoor
namespace Go.Proofs.YtdmmebjjojimiaaGreatDoor
open Go.RowKit
def mQ(l:List (Nat×Nat)):List Value:=l.flatMap fun e=>[.int .i64 (e.1:Int),.int .i64 (e.2:Int)]
section
variable {w:World}
theorem aaF{b:Nat}{vs:List Value}{xs:List (List Int)}(hb:w.heap[b]? =some (.cells vs.toArray 78 (0,0)))(hlv:vs.length=xs.length)(hv:∀(i:Nat) v x,vs[i]? =some v->xs[i]? =some x->Ints w v x)(hl:xs.flatten.length<=100000000)(hk:xs.length<=1000){n:Nat}(hn:xs.length=n):Calls Tryz.prog 166 #[.slice (some ⟨b,0,none⟩) n n] w fun e w'=> ∃v,e= .returned v/\w'.ownsRow 0 3 1 v xs.flatten.length (xs.flatten.map cI)/\(∀k,v.ownBlock=some k->w.heap.size<=k)/\O0 w w':=by
 have hcell:∀(i:Nat) v,vs[i]? =some v->w.cell? ⟨b,i,none⟩=some v:=by intro i v h;simp[World.cell?,hb,h]
 have HC:=zh hcell;have HV:=zh hv;have HN:=zh hn;have HLV:=zh hlv;have hpre:∀(i:Nat),(xs.take i).flatten.length<=xs.flatten.length:=fun i=>by have h:=congrArg (fun l=>l.flatten.length) (List.take_append_drop i xs);simp only[List.flatten_append,qK]at h;omega
 have HP:=zh hpre;obtain⟨N,hN⟩:=ze xs.flatten.length;have HNN:=zh hN;have hNb:N<=100000000:=by rw[<-hN];exact hl
 have hn6:n<=1000:=zBk;have hw0:O0 w w:=Only.refl _ _;obtain⟨w0,aqY⟩:=ze w;clear hcell hv hn hlv hpre hN hl hb hk aqY;go_enter Tryz.func166,Tryz.ntmps166;go_wp2_with fail;go_loopw [3,11] (fun vs vi wr=> ∃i:Nat,vi= .int .i64 i/\i<=n/\vs= .int .i64 ((xs.take i).flatten.length:Nat)/\Hid (wr=w)) (fun _ v _=>n-(intOf v).toNat);case atStart=>exact⟨0,rfl,qE _,rfl,zh rfl⟩
 case round=>
  obtain⟨i,rfl,hi,rfl,hwr⟩:=hrel;have aqZ:=hwr.out.symm;subst aqZ;by_cases ci:i<n
  ·obtain⟨v,hv⟩:=zG vs i (by rw[HLV.out,HN.out];exact ci);obtain⟨x,hx⟩:=zG xs i zAl;have hI:=HV.out i v x hv hx;have hcl:=HC.out i v hv;obtain⟨ao,cap,rfl,-,-⟩:=hI.shape;have hs:(xs.take (i+1)).flatten.length=(xs.take i).flatten.length+x.length:=by rw[List.take_add_one,hx];simp
   have h1:=HP.out (i+1);rw[HNN.out]at h1;obtain⟨a,ha⟩:=ze ((xs.take i).flatten.length);obtain⟨c,hc⟩:=ze x.length;rw[hc]at hcl;rw[ha]at hs⊢;rw[hc]at hs;have hab:a+c<=N:=zBk;have HS:=zh hs;have jh:=zw (i+1);have ewa:=zw ((a:Int)+(c:Int));have hneg:¬((a:Int)+(c:Int)<0):=zBk;clear hI hv hx hs ha h1 hc;go_wp2_with fail;go_roundw;case rel=>exact⟨i+1,by first|rfl|go_num,by omega,by rw[HS.out];first|rfl|simp| (push_cast;rfl),by first|exact hwr|exact zh trivial⟩
   case measure=>simp[intOf]<;>omega
  obtain rfl:n=i:=by omega
  have hall:(xs.take n).flatten.length=N:=by rw[qI (yG HN.out)];exact HNN.out
  rw[hall];clear hall;go_wp2_with fail;refine(aiS w hNb).mono ?_;rintro e w1 ⟨v6,rfl,r6,b6,o6⟩;have R6:=zh r6;have B6:=zh b6;have O6:=zh o6;clear r6 b6 o6;go_wp2_with fail;go_loopw [6,27] (fun v6 vi ws=> ∃i:Nat,vi= .int .i64 i/\i<=n/\Hid (ws.ownsRow 0 3 1 v6 (xs.take i).flatten.length ((xs.take i).flatten.map cI))/\Hid (∀k,v6.ownBlock=some k->w.heap.size<=k)/\Hid (O0 w ws)) (fun _ v _=>n-(intOf v).toNat);case atStart=>exact⟨0,rfl,qE _,zh (by simpa using R6.out),B6,O6⟩
  case round=>
   clear R6 B6 O6;obtain⟨i,rfl,hi,R,B,O⟩:=hrel;by_cases ci:i<n
   ·obtain⟨v,hv⟩:=zG vs i (by rw[HLV.out,HN.out];exact ci);obtain⟨x,hx⟩:=zG xs i zAl;have hI:=(HV.out i v x hv hx).aN O.out;have hcl:=dh (HC.out i v hv) O.out (fun f=>f);obtain⟨ao,cap,rfl,-,-⟩:=hI.shape;have hs:(xs.take (i+1)).flatten=(xs.take i).flatten++x:=by rw[List.take_add_one,hx];simp
    have h1:=HP.out (i+1);rw[HNN.out,hs,qK]at h1;have HS:=zh hs;obtain⟨y,hy⟩:=ze ((xs.take i).flatten);rw[hy]at R h1;have HY:=zh hy;obtain⟨c,hc⟩:=ze x.length;obtain⟨a,ha⟩:=ze y.length;have HA:=zh ha;have HX:=zh hc;rw[hc]at hcl h1;rw[ha]at R h1;have HI:=zh hI;have jh:=zw (i+1);clear hI hv hx hs hy hc ha;go_wp2_with (at_builtin;go_must (refine KO kJ (n:=a) (xs:=y.map cI) (ao:=ao) (m:=c) (c:=cap) (news:=x.map cI) rfl (.tmp 31) (.tmp 32) rfl rfl R.out rfl (by rw[qM];exact HX.out) (fun e=>by have h:=HI.out;rw[HX.out]at h;exact h.nil c cap zB6) ?n1 (zy _) zBk zBl ?n2));case n1=>have h:=HI.out;exact fun ad had=>h.news ad had
    case n2=>
     intro v' w2 r2 o2 nr;have R2:Hid (w2.ownsRow 0 3 1 v' (xs.take (i+1)).flatten.length ((xs.take (i+1)).flatten.map cI)):=by rw[HS.out,HY.out,qK,HA.out,HX.out,List.map_append];exact zh r2
     have B2:Hid (∀k,v'.ownBlock=some k->w.heap.size<=k):=fun k hk=>(nr k hk).elim (B.out k) (fun h=>qR O.out.size h);have O2:Hid (O0 w w2):=O.out.trans o2 fun k hk=>.inr (B.out k hk);clear r2 o2 nr;go_wp2_with fail;go_roundw;case rel=>exact⟨i+1,by first|rfl|go_num,by omega,R2,B2,O2⟩
     case measure=>simp[intOf]<;>omega
   obtain rfl:n=i:=by omega
   have hf:xs.take n=xs:=qI (yG HN.out);rw[hf]at R;clear hf;go_wp2_with fail;go_ret;exact⟨_,rfl,R.out,B.out,O.out⟩
end
end Go.Proofs.YtdmmebjjojimiaaGreatDoor
namespace Go.Proofs.YtdmmebjjojimiaaGreatDoor
open Go.RowKit Go.Maps Go.Sort Go.Shelf
attribute [local go_sem] Oper.semAt_some
theorem Nw(w:World)(old cs:Array Value)(t:TypeId):(w.alloc (.cells old t)).setRow w.heap.size cs=w.alloc (.cells cs t):=by
 unfold World.alloc World.setRow;congr 1;apply Array.ext;·simp
 intro k h1 h2;simp only[Array.getElem_modify,Array.getElem_push];by_cases e:k<w.heap.size;·simp[e,Nat.ne_of_gt e]
 have e2:w.heap.size=k:=by simp at h1;omega
 simp[e2]
section
variable {F:Fence} {n:Nat} {P:Program} {w:World} {ops:Array Oper} {rest:List Oper} {o:Oper} {a:Act} {Q:Exit->Act->World->Prop}
theorem xH(hgd:o.guard=none)(ty:TypeId)(x y:Operand)(ho:o.op= .store ty x y)(g:Nat)(cells:Array Value)(hx:a.eval x= .pointer (some ⟨g,0,none⟩))(hy:a.eval y= .agg cells)(t:TypeId)(old:Array Value)(hg:w.heap[g]? =some (.cells old t (0,0)))(hi:(P.info? ty).map (·.size)=some cells.size)(hold:old.size=cells.size)(h1:cells.all (·.oneCell')=true)(h:wpListIn F n P ops Q rest (a.put o.dst undef) (w.setRow g cells)):wpListIn F n P ops Q (o::rest) a w:=by refine wpListIn_plain hgd fun K' hK'=>?_;unfold Oper.wpIn;refine⟨by simp[Oper.about,ho],?_⟩;rw[Oper.semAt_plain F _ _ (by rw[ho];intro c hc';cases hc')];unfold execOp;simp only[ho,hx,hy,Instr.storeAt,Instr.sureAddr,Sem.run_bind,Sem.run_pure,Result.andThen_ok,run_storeVar_row w g t ty old cells hg hi hold h1];exact hK' _ _ h
theorem yV(hgd:o.guard=none)(ty:TypeId)(x:Operand)(ho:o.op= .load ty x)(g:Nat)(hx:a.eval x= .pointer (some ⟨g,0,none⟩))(t:TypeId)(cs:Array Value)(fr:Nat×Nat)(d:TypeDesc)(hg:w.heap[g]? =some (.cells cs t fr))(hu:P.underlying ty=some d)(hd:(match d with| .struct _| .array _ _=>true|_=>false)=true)(hi:(P.info? ty).map (·.size)=some cs.size)(h:wpListIn F n P ops Q rest (a.put o.dst (.agg cs)) w):wpListIn F n P ops Q (o::rest) a w:=by refine wpListIn_plain hgd fun K' hK'=>?_;unfold Oper.wpIn;refine⟨by simp[Oper.about,ho],?_⟩;rw[Oper.semAt_plain F _ _ (by rw[ho];intro c hc';cases hc')];unfold execOp;simp only[ho,hx,Instr.loadAt,Instr.sureAddr,Sem.run_bind,Sem.run_pure,Result.andThen_ok,run_loadVar_row w g t ty cs fr d hg hu hd hi];exact hK' _ _ h
end
section
variable {κ:Type} [DecidableEq κ] {t k:TypeId} {K:FT κ t k} {m:List (κ×List Int)} {w:World} {B n:Nat} {D:DataW Value}
theorem adV(hown:w.ownsMap Tryz.prog k Hq B n D)(hh:∀x,K.ok x->(Maps.has D (K.lit x)=true↔x∈keysOf m))(hs:Maps.size D=m.length)(nd:(keysOf m).Nodup)(ok:∀x∈keysOf m,K.ok x){kl:Lit}(hk:Maps.has D kl=true):∃x∈keysOf m,K.lit x=kl:=by
 obtain⟨es,rfl,hpw,-⟩:=hown.entries K.law;have hmem:∀{l:Lit},Maps.has (.map es) l=true->l∈es.map Prod.fst:=fun{l} h=>by rw[Maps.has_eq,yU]at h;obtain⟨p,hp,hs⟩:=h;exact yD.2 ⟨p,hp,WideAt.sameKey_eq hs⟩
 have hes:es.length=m.length:=hs;have h1:((keysOf m).map K.lit).Nodup:=by refine List.pairwise_map.2 (nd.imp_of_mem fun{a b} ha hb hab e=>?_);exact K.ne (ok a ha) (ok b hb) (Ne.symm hab) e.symm
 have hsub:∀z∈(keysOf m).map K.lit,z∈es.map Prod.fst:=fun z hz=>by obtain⟨x,hx,rfl⟩:=yD.1 hz;exact hmem ((hh x (ok x hx)).2 hx)
 by_cases hin:kl∈(keysOf m).map K.lit;·obtain⟨x,hx,e⟩:=yD.1 hin;exact⟨x,hx,e⟩
 exfalso;letI:DecidableEq Lit:=fun a b=>Classical.propDecidable (a=b);have h2:=AL (l:=kl::(keysOf m).map K.lit) (m:=es.map Prod.fst) (List.nodup_cons.2 ⟨hin,h1⟩) (fun z hz=>by
  rcases qY.1 hz with rfl|hz
  ·exact hmem hk
  ·exact hsub z hz)
 simp only[qN,qM]at h2;omega
def SE(K:FT κ t k)(m:List (κ×List Int))(left:Lit->Bool)(ss:List κ):Prop:=ss.Nodup/\(∀x∈ss,x∈keysOf m)/\∀x∈keysOf m,(x∈ss↔left (K.lit x)=false)
theorem SE.start(hh:∀x,K.ok x->(Maps.has D (K.lit x)=true↔x∈keysOf m))(ok:∀x∈keysOf m,K.ok x):SE K m (Maps.has D) []:=
 ⟨List.nodup_nil,fun x hx=>(List.not_mem_nil hx).elim,fun x hx=>by simp[(hh x (ok x hx)).2 hx]⟩
theorem SE.step{left:Lit->Bool}{ss:List κ}(h:SE K m left ss){x:κ}(hx:x∈keysOf m)(ok:∀x∈keysOf m,K.ok x)(hl:left (K.lit x)=true):SE K m (fun z=>left z&& !z.sameKey (K.lit x)) (ss++[x]):=by
 have hnew:x∉ss:=fun hm=>by have:=(h.2.2 x hx).1 hm;rw[hl]at this;cases this
 refine⟨List.nodup_append.2 ⟨h.1,by simp,fun a ha b hb=>by simp at hb;subst hb;exact fun e=>hnew (e▸ha)⟩,fun y hy=>?_,fun y hy=>?_⟩
 ·rcases qW.1 hy with hy|hy;·exact h.2.1 y hy
  simp at hy;subst hy;exact hx
 by_cases e:y=x;·subst e;simp[WideAt.sameKey_self (K.isKey (ok y hy))]
 have h1:(K.lit y).sameKey (K.lit x)=false:=Maps.sameKey_ne (K.ne (ok x hx) (ok y hy) e);simp[h.2.2 y hy,e,h1]
theorem SE.perm{left:Lit->Bool}{ss:List κ}(h:SE K m left ss)(nd:(keysOf m).Nodup)(hl:∀kl,left kl=false):ss.Perm (keysOf m):=(List.perm_ext_iff_of_nodup h.1 nd).2 fun x=>⟨h.2.1 x,fun hx=>(h.2.2 x hx).2 (hl _)⟩
end
section
variable {m:List ((Nat×Nat)×List Int)}
theorem aaG(n:Nat)(hn:1<=n)(l Bm b nn:Nat)(D0:DataW Value)(J:List (Nat×Nat)->World->Prop)(hh:∀x,KE.ok x->(Maps.has D0 (KE.lit x)=true↔x∈keysOf m))(hsz:Maps.size D0=m.length)(nd:(keysOf m).Nodup)(ok:∀x∈keysOf m,KE.ok x)(hY:∀pre x W,J pre W->pre.length<m.length->YieldAt Fence.wide (n-1) Tryz.prog l #[RU x] W fun e W'=>e= .returned (.bool true)/\J (pre++[x]) W'/\KeepsWalks W W')(W:World)(hJ:AbidesFrom W.heap.size J)(hm:W.cell? ⟨Bm,0,none⟩=some (.map (some b)))(hown:W.ownsMap Tryz.prog 226 Hq b nn D0)(h0:J [] W):CallsIn Fence.wide n Tryz.prog 314 #[.func (.yield l) #[] #[],.pointer (some ⟨Bm,0,none⟩)] W fun e W'=>(∃v,e= .returned v)/\∃ss:List (Nat×Nat),ss.Perm (keysOf m)/\J ss W':=by
 refine callsIn_of_wp Tryz.func314 rfl trivial ?_ rfl;simp only[Tryz.ntmps314,List.size_toArray,qN,List.length_nil,Nat.reduceAdd,Nat.reduceSub,Array.replicate_succ,Array.replicate_zero,List.push_toArray,List.append_toArray,List.nil_append,List.cons_append];gi_wp2_with (first
  | (gi_at_range;refine wpListIn_range_own _ rfl _ 150 rfl 226 78 MZ Tryz.underlying150 Hq b nn _ rfl hown ?_;intro w0 hrg0 hg0 hs0)
  |gi_in)
 go_frame;gi_loopw [3] (fun _ wr=> ∃(left:Lit->Bool) (cnt:Nat) (ss:List (Nat×Nat)),wr.ranges Tryz.prog 226 Hq b W.heap.size nn D0 left cnt/\ss.length+cnt<=m.length/\SE KE m left ss/\J ss wr) (fun _ wr=>wr.rangeLeft b W.heap.size);case atStart=>exact⟨_,_,[],hrg0,by simp[hsz],SE.start hh ok,hJ [] W w0 none h0 hg0 (fun r e=>by cases e)⟩
 case round=>
  obtain⟨left,cnt,ss,hrg,hcs,hC,hJs⟩:=hrel;gi_wp2_with (first
   | (gi_at_next;refine wpListIn_next_ranges _ rfl _ rfl 226 MZ Hq (id:Value->Value) (id:Value->Value) (fun key kl hk=>⟨key,rfl⟩) (fun v _ _=>⟨v,rfl⟩) b W.heap.size nn _ _ _ rfl hrg ?_ ?_)
   |gi_in)
  ·intro hc0 hl0;gi_wp2;go_end0;exact⟨⟨_,rfl⟩,ss,hC.perm nd hl0,hJs⟩
  intro x c kl yd yp w2 cnt2 hkey hlk hv hat hrg2 hlt hg2 hs2 hen;obtain⟨e,he,rfl⟩:=adV (K:=KE) hown hh hsz nd ok (Maps.has_true_of_atKey hat);obtain rfl:x=RU e:=MZ.inj hkey (KE.key e (ok e he));have hJ2:J ss w2:=hJ ss wr w2 (some W.heap.size) hJs hg2 (fun r e=>by cases e;exact⟨qH _,hrg.iter_walk⟩);have hJ3:J ss (w2.alloc (.cells #[.int .i64 e.1,.int .i64 e.2] 226)):=hJ ss w2 _ none hJ2 (World.grownBy_alloc _ _ _) (fun r e=>by cases e);obtain⟨fn,tmps,assign,body,hy,hR⟩:=hY ss e _ hJ3 zBk;have HR:=zh hR;have HRG:=zh (hrg2.alloc (.cells #[.int .i64 e.1,.int .i64 e.2] 226));have HC:=zh (hC.step he ok hlk);have HLT:=zh hlt;have aq0:=zh hrg;clear hs2 hR hrg2 hJ2 hJ3 hC hlt hrg hat hv;gi_wp2_with (first
   | (refine xH rfl 226 (.tmp 3) (.tmp 9) rfl w2.heap.size #[.int .i64 e.1,.int .i64 e.2] rfl rfl 226 #[.int .i64 0,.int .i64 0] zA0 zk rfl (by rfl) ?_;rw[Nw])
   | (refine yV rfl 226 (.tmp 3) rfl w2.heap.size rfl 226 #[.int .i64 e.1,.int .i64 e.2] (0,0) _ zA0 Tryz.underlying226 rfl zk ?_)
   |gi_in)
  refine HR.out.mono ?_;rintro e3 W3 ⟨rfl,hJ3,hk3⟩;gi_wp2;have hrg3:=HRG.out.of_walks hk3;go_roundw;case rel=>exact⟨_,cnt2,ss++[e],hrg3,by have:=HLT.out;simp;omega,HC.out,hJ3⟩
  case measure=>rw[hrg3.left_eq,aq0.out.left_eq];exact HLT.out
theorem cell_new1(w:World)(v:Value)(t:TypeId):(w.alloc (.cells #[v] t)).cell? ⟨w.heap.size,0,none⟩=some v:=by simp only[World.cell?,World.alloc_heap_new];simp
theorem aaH(w:World)(a b:Value)(t:TypeId):∀(j:Nat) u,[a,b][j]? =some u->(w.alloc (.cells #[a,b] t)).cell? ((⟨w.heap.size,0,none⟩:Addr).add j)=some u:=by
 intro j u h;have e:(⟨w.heap.size,0,none⟩:Addr).add j=⟨w.heap.size,j,none⟩:=by unfold Addr.add;simp[eq_comm]
 rw[e];simp only[World.cell?,World.alloc_heap_new];simpa using h
theorem VD{w:World}{g:Tag}{τ B:Nat}{val:Nat×Nat->Value}(H:sO KE w g τ B m val)(n:Nat)(hn:1<=n):
  SeqGives Fence.wide n Tryz.prog 314 #[.pointer (some ⟨w.heap.size,0,none⟩)] RU (fun ss=>ss.Perm (keysOf m)) m.length (w.alloc (.cells #[.map (some B)] 150)):=fun l J W hW hJ hY h0=>by
 obtain⟨D,h1,-,h3,h4⟩:=H.own
 have h1':W.ownsMap Tryz.prog 226 Hq B m.length D:=by
  have hbl:=h1.lt
  obtain⟨es,clock,hb,Ft,hs,hD⟩:=h1.alloc (.cells #[.map (some B)] 150)
  exact⟨es,clock,(hW.block B zAd).trans hb,Ft,hs,hD⟩
 exact aaG n hn l w.heap.size B m.length D J (fun x hx=>by rw[h3 x hx];simp) h4 H.nd H.ok hY W hJ ((hW.cell (p:=⟨w.heap.size,0,none⟩) zAM).trans (cell_new1 _ _ _)) h1' h0
theorem X3(ss:List (Nat×Nat))(x:Nat×Nat):mQ (ss++[x])=mQ ss++[.int .i64 (x.1:Int),.int .i64 (x.2:Int)]:=by simp[mQ]
theorem Qv(ss:List (Nat×Nat)):(mQ ss).length=ss.length*2:=by
 induction ss with
 |nil=>rfl
 |cons x r ih=>simp only[mQ,List.flatMap_cons,qK,qN,List.length_nil]at ih⊢;omega
def aiT:Code:=(Code.region 2 #[{dst:=some 5,op:=Op.alloc 226,type:=0,pos:= "iter.go:51",after:= #[],guard:=none},{dst:=none,op:=Op.store 226 (Operand.tmp 5) (Operand.tmp 7),type:=0,pos:= "iter.go:51",after:= #[{on:=0,ground:=Ground.data},{on:=0,ground:=Ground.phase}],guard:=none}] false)
def aiU:Code:=(Code.block 1 (Code.region 3 #[{dst:=some 8,op:=Op.load 223 (Operand.tmp 2),type:=223,pos:= "iter.go:52",after:= #[],guard:=none},{dst:=some 9,op:=Op.load 226 (Operand.tmp 5),type:=226,pos:= "iter.go:52",after:= #[],guard:=none},{dst:=some 10,op:=Op.buildSlice 223 1 #[(0,Operand.tmp 9)],type:=223,pos:= "iter.go:52",after:= #[{on:=1,ground:=Ground.data}],guard:=none},{dst:=some 11,op:=Op.call {callee:=Callee.builtin Builtin.append,args:= #[Operand.tmp 8,Operand.tmp 10],argTypes:= #[223,223]},type:=223,pos:= "iter.go:52",after:= #[{on:=0,ground:=Ground.data},{on:=2,ground:=Ground.data}],guard:=none},{dst:=none,op:=Op.store 223 (Operand.tmp 2) (Operand.tmp 11),type:=0,pos:= "iter.go:52",after:= #[{on:=3,ground:=Ground.data},{on:=3,ground:=Ground.chain},{on:=0,ground:=Ground.phase},{on:=1,ground:=Ground.phase},{on:=2,ground:=Ground.phase},{on:=3,ground:=Ground.phase}],guard:=none}] false))
def Ny(fn:FuncId)(sv:Value)(Bs D:Nat)(st:LoopState)(pend:Option Code):Loop:=
 {state:=st,pending:=pend,fn,tmps:= #[.slice none 0 0,sv,.pointer (some ⟨Bs,0,none⟩),undef,.slice none 0 0,undef,sv,undef,undef,undef,undef,undef,undef],params:= #[7],assign:=aiT,body:=aiU,defers:=D}
structure ApE (w0:World) (fn:FuncId) (sv:Value) (Bs l D:Nat) (ss:List (Nat×Nat)) (W:World):Prop where
 box:∃v,W.heap[Bs]? =some (.cells #[v] 223 (0,0))/\W.ownsRow w0.heap.size 226 2 v ss.length (mQ ss)
 L:W.heap[l]? =some (.loop (Ny fn sv Bs D .ready none))
 K:W.heap[D]? =some (.deferred (some []))
 below:Below w0.heap.size w0 W
theorem Nz{w:World}{base:Nat}{e:TypeId}{size:Nat}{v:Value}{n:Nat}{xs:List Value}(h:w.ownsRow base e size v (n+1) xs):∃g cap,v= .slice (some ⟨g,0,none⟩) (n+1) cap:=by
 rcases h.2 with⟨_,h0⟩| ⟨g,cap,_,h',_⟩;·omega
 exact⟨g,cap,h'⟩
theorem ami:223≠226:=by decide
theorem X4(w0:World)(fn:FuncId)(sv:Value)(Bs l D B:Nat)(hB:w0.heap.size<=B):AbidesFrom B (ApE w0 fn sv Bs l D):=fun s W W' row h hg hrow=>by
 have hrow':∀r,row=some r->∃o:Obj,W.heap[r]? =some o/\o.isWalk=true:=fun r e=>(hrow r e).2
 obtain⟨v,hv,hr⟩:=h.box
 exact⟨⟨v,(grownBy_keeps hg hrow' hv rfl).trans hv,ownsRow_abides_a hr hg hrow'⟩,(grownBy_keeps hg hrow' h.L rfl).trans h.L,(grownBy_keeps hg hrow' h.K rfl).trans h.K,
  h.below.grown hg h.below.size (fun k e=>qR hB (hrow k e).1)⟩
theorem adW:(Tryz.prog.info? 226).map (fun i=>(i.zero,i.size,i.bytes))=some (some (.agg #[.int .i64 0,.int .i64 0]),2,16):=by kernel_rfl
theorem aaI(mm:Nat)(w0:World)(fn:FuncId)(sv:Value)(Bs l D:Nat)(hBl:Bs≠l)(hDl:D≠l)(hDB:D≠Bs)(h0B:w0.heap.size<=Bs)(h0l:w0.heap.size<=l)(N:Nat)(hN:N<=1000000)(ss:List (Nat×Nat))(x:Nat×Nat)(W:World)(h:ApE w0 fn sv Bs l D ss W)(hlen:ss.length<N):YieldAt Fence.wide mm Tryz.prog l #[RU x] W fun e W'=>e= .returned (.bool true)/\ApE w0 fn sv Bs l D (ss++[x]) W'/\KeepsWalks W W':=by
 obtain⟨i0,hi,hz0,hz1,hz2⟩:=info_parts adW;obtain⟨v,hv,hrow⟩:=h.box;have hne:=ami;refine⟨fn,#[.slice none 0 0,sv,.pointer (some ⟨Bs,0,none⟩),undef,.slice none 0 0,undef,sv,RU x,undef,undef,undef,undef,undef],aiT,aiU,by simpa[Ny]using run_yield (P:=Tryz.prog) (args:= #[RU x]) h.L rfl,roundIn_of_wpIn trivial ?_⟩;have amj:Bs<W.heap.size:=(yA.1 hv).1;have hl0:l<W.heap.size:=(yA.1 h.L).1;have amk:D<W.heap.size:=(yA.1 h.K).1; -- the struct's own block
 obtain⟨W1,hW1⟩:∃W1,W.alloc (.cells #[.int .i64 (x.1:Int),.int .i64 (x.2:Int)] 226)=W1:=⟨_,rfl⟩;have hs1:W1.heap.size=W.heap.size+1:=by rw[<-hW1];simp
 have adX:∀k,k<W.heap.size->W1.heap[k]? =W.heap[k]? :=fun k hk=>by rw[<-hW1];exact Below.heap_alloc _ _ k hk
 have hx1:W1.heap[W.heap.size]? =some (.cells #[.int .i64 (x.1:Int),.int .i64 (x.2:Int)] 226 (0,0)):=by rw[<-hW1];exact World.alloc_heap_new _ _
 have hk1:KeepsWalks W W1:=by rw[<-hW1];exact KeepsWalks.alloc _ _
 have hv1:=(adX Bs amj).trans hv;have hL1:=(adX l hl0).trans h.L;have hK1:=(adX D amk).trans h.K;have hrow1:W1.ownsRow w0.heap.size 226 2 v ss.length (mQ ss):=by rw[<-hW1];exact hrow.alloc _
 have hb1:Below w0.heap.size w0 W1:=by rw[<-hW1];exact h.below.alloc h.below.size _
 have hl1:l<W1.heap.size:=zBk;have hbr:=run_beginRound (P:=Tryz.prog) hL1 rfl;obtain⟨W2,hW2⟩:∃W2,W1.putObj l (.loop {Ny fn sv Bs D .ready none with state:=.busy})=W2:=⟨_,rfl⟩;rw[hW2]at hbr;have hg2:W1.grownBy W2 (some l):=by rw[<-hW2];exact grownBy_putObj_a _ _ _
 have hk2:KeepsWalks W W2:=hk1.trans (by rw[<-hW2];exact KeepsWalks.putObj _ hL1 rfl);have hs2:W2.heap.size=W1.heap.size:=by rw[<-hW2];simp[World.putObj]
 have hv2:W2.heap[Bs]? =some (.cells #[v] 223 (0,0)):=by rw[<-hW2];exact(World.putObj_heap_other hBl).trans hv1
 have hx2:W2.heap[W.heap.size]? =some (.cells #[.int .i64 (x.1:Int),.int .i64 (x.2:Int)] 226 (0,0)):=by rw[<-hW2];exact(World.putObj_heap_other zBk).trans hx1
 have hK2:W2.heap[D]? =some (.deferred (some [])):=by rw[<-hW2];exact(World.putObj_heap_other hDl).trans hK1
 have hL2:W2.heap[l]? =some (.loop {Ny fn sv Bs D .ready none with state:=.busy}):=by rw[<-hW2];exact World.putObj_heap_same hl1
 have hrow2:W2.ownsRow w0.heap.size 226 2 v ss.length (mQ ss):=hrow1.kept hg2 (ownsRow_ne_a hrow1 hL1 (fun cur e=>by first|cases e|exact hne (Obj.cells.inj e).2.1));have hb2:Below w0.heap.size w0 W2:=hb1.grown hg2 hb1.size (fun k e=>by cases e;exact h0l);obtain⟨hc2,hf2⟩:=cell_of_box_a hv2;have aml:Bs<W2.heap.size:=(yA.1 hv2).1;have hl2:l<W2.heap.size:=(yA.1 hL2).1;have amm:D<W2.heap.size:=(yA.1 hK2).1;have ne_of:∀{j:Nat} {o:Obj},W2.heap[j]? =some o->(∀cur,o≠ .cells cur 226 (0,0))->some j≠v.ownBlock:=fun hj hno=>by
  rcases ownsRow_ne_a hrow2 hj hno with e|e;·rw[e];simp
  exact fun e'=>e e'.symm
 clear hW2 hs1 hs2;unfold aiT;gi_wp2_with (first
  | (refine xH rfl 226 (.tmp 5) (.tmp 7) rfl W.heap.size #[.int .i64 (x.1:Int),.int .i64 (x.2:Int)] rfl rfl 226 #[.int .i64 0,.int .i64 0] zA0 zk rfl (by rfl) ?_;rw[Nw,hW1])
  |gi_round_op_a)
 unfold aiU;gi_wp2_with (first
  | (refine yV rfl 226 (.tmp 5) rfl W.heap.size rfl 226 #[.int .i64 (x.1:Int),.int .i64 (x.2:Int)] (0,0) _ hx2 Tryz.underlying226 rfl zk ?_)
  | (gi_at_builtin;refine wpListIn_append_own _ rfl _ _ 223 rfl w0.heap.size 226 i0 (.agg #[.int .i64 0,.int .i64 0]) 2 16 Tryz.underlying223 hi hz0 hz1 hz2 rfl zBl _ _ _ rfl (hrow2.alloc _) ⟨W2.heap.size,0,none⟩ 1 1 [.int .i64 (x.1:Int),.int .i64 (x.2:Int)] rfl rfl (aaH _ _ _ _) (by intro u hu;simp at hu;rcases hu with rfl|rfl<;>rfl) (by unfold maxLen;omega) zBk (by exact qR hb2.size zBz) ?_;intro v' w3 hown' hg3 hnil3;have hv3:w3.heap[Bs]? =some (.cells #[v] 223 (0,0)):=(hg3.block Bs (by simp;omega) (ne_of hv2 (fun cur e=>by first|cases e|exact hne (Obj.cells.inj e).2.1))).trans ((Below.heap_alloc _ _ Bs aml).trans hv2);obtain⟨hc3,hf3⟩:=cell_of_box_a hv3;obtain⟨g',cap',rfl⟩:=Nz hown';go_frame)
  |gi_round_op_a)
 have hg3':(W2.alloc (.cells #[.int .i64 (x.1:Int),.int .i64 (x.2:Int)] 226)).grownBy w3 v.ownBlock:=hg3;have hL3:w3.heap[l]? =some (.loop {Ny fn sv Bs D .ready none with state:=.busy}):=(hg3'.block l zAd (ne_of hL2 (fun cur e=>by first|cases e|exact hne (Obj.cells.inj e).2.1))).trans ((Below.heap_alloc _ _ l hl2).trans hL2);have hK3:w3.heap[D]? =some (.deferred (some [])):=(hg3'.block D zAd (ne_of hK2 (fun cur e=>by first|cases e|exact hne (Obj.cells.inj e).2.1))).trans ((Below.heap_alloc _ _ D amm).trans hK2);obtain⟨w4,hw4⟩:=ze (w3.setCell ⟨Bs,0,none⟩ (.slice (some ⟨g',0,none⟩) (ss.length+1) cap'));rw[hw4];have hg4:w3.grownBy w4 (some Bs):=by rw[<-hw4];exact grownBy_setCell0_a _ _ _
 have hv4:w4.heap[Bs]? =some (.cells #[.slice (some ⟨g',0,none⟩) (ss.length+1) cap'] 223 (0,0)):=by rw[<-hw4];exact heap_setCell_box_a _ hv3
 have hL4:w4.heap[l]? =some (.loop {Ny fn sv Bs D .ready none with state:=.busy}):=(hg4.block l (yA.1 hL3).1 (fun e=>hBl (by cases e;rfl))).trans hL3;have hK4:w4.heap[D]? =some (.deferred (some [])):=(hg4.block D (yA.1 hK3).1 (fun e=>hDB (by cases e;rfl))).trans hK3;have hrow4:=hown'.kept hg4 (ownsRow_ne_a hown' hv3 (fun cur e=>by first|cases e|exact hne (Obj.cells.inj e).2.1));have hl4:l<w4.heap.size:=(yA.1 hL4).1;have hb3:Below w0.heap.size w0 w3:=(hb2.alloc hb2.size _).grown hg3' (by have:=hb2.size;simp;omega) (fun k e=>(hrow2.lt k e).1);have hb4:Below w0.heap.size w0 w4:=hb3.grown hg4 hb3.size (fun k e=>by cases e;exact h0B);have hk4:KeepsWalks W w4:=((hk2.trans (KeepsWalks.alloc _ _)).trans (KeepsWalks.of_grownBy hg3' (ownsRow_not_walk_a (hrow2.alloc _)))).trans (by rw[<-hw4];exact KeepsWalks.setCell _ _ _);clear hw4;refine⟨_,_,run_endRound none hL4,rfl,⟨⟨_,(World.putObj_heap_other hBl).trans hv4,?_⟩,World.putObj_heap_same hl4,(World.putObj_heap_other hDl).trans hK4,hb4.grown (grownBy_putObj_a _ _ _) hb4.size (fun k e=>by cases e;exact h0l)⟩,hk4.trans (KeepsWalks.putObj _ hL4 rfl)⟩;have:=hrow4.kept (grownBy_putObj_a w4 l (.loop {{Ny fn sv Bs D .ready none with state:=.busy}with state:=if (none:Option Code).isNone then .ready else .done,pending:=none})) (ownsRow_ne_a hrow4 hL4 (fun cur e=>by first|cases e|exact hne (Obj.cells.inj e).2.1));rw[X3,qK];exact this
theorem OW(n:Nat)(hn:2<=n)(g:Nat)(lb:Array Value)(eg:∀args w,(callFunc g args).run Tryz.prog w= .ok (.enter g args) w)(S:List (Nat×Nat)->Prop)(N:Nat)(hN:N<=1000000)(w:World)(hseq:SeqGives Fence.wide (n-1) Tryz.prog g lb RU S N w):CallsIn Fence.wide n Tryz.prog 361 #[.slice none 0 0,.func (.func g) #[] lb] w fun e w'=> ∃(v:Value) (ss:List (Nat×Nat)),e= .returned v/\S ss/\w'.ownsRow w.heap.size 226 2 v ss.length (mQ ss)/\Below w.heap.size w w':=by
 have h1:1<=n:=zBk;have hne:=ami;refine callsIn_of_wp_marks Tryz.func361 rfl trivial ?_ rfl;simp only[Tryz.ntmps361,List.size_toArray,qN,List.length_nil,Nat.reduceAdd,Nat.reduceSub,Array.replicate_succ,Array.replicate_zero,List.push_toArray,List.append_toArray,List.nil_append,List.cons_append];gi_wp2;refine wpIn_rangeFunc ?_;intro fn hfn;rw[show(Fence.wide).round=none from rfl];obtain⟨W0,hW0⟩:=ze (w.alloc (.cells #[.slice none 0 0] 223));have hs0:W0.heap.size=w.heap.size+1:=by rw[<-hW0];simp
 have hv0:W0.heap[w.heap.size]? =some (.cells #[.slice none 0 0] 223 (0,0)):=by rw[<-hW0];exact World.alloc_heap_new w _
 have hb0:Below w.heap.size w W0:=by rw[<-hW0];exact(Below.refl _ w).alloc (qH _) _
 rw[hW0];obtain⟨W1,hW1⟩:=ze ((W0.alloc (.deferred (some []))).alloc (.loop (Ny fn (.func (.func g) #[] lb) w.heap.size W0.heap.size .ready none)));have hold:∀k,k<W0.heap.size->W1.heap[k]? =W0.heap[k]? :=fun k hk=>by rw[<-hW1];exact(Below.heap_alloc _ _ k zAd).trans (Below.heap_alloc _ _ k hk)
 have hb1:Below w.heap.size w W1:=by rw[<-hW1];exact(hb0.alloc hb0.size _).alloc (by have:=hb0.size;simp;omega) _
 have hs1:W1.heap.size=W0.heap.size+2:=by rw[<-hW1];simp
 have hM:ApE w fn (.func (.func g) #[] lb) w.heap.size (W0.heap.size+1) W0.heap.size [] W1:=
  ⟨⟨_,(hold w.heap.size zBk).trans hv0,⟨rfl,.inl ⟨rfl,rfl⟩⟩⟩,
  by rw[<-hW1];have:=World.alloc_heap_new (W0.alloc (.deferred (some []))) (.loop (Ny fn (.func (.func g) #[] lb) w.heap.size W0.heap.size .ready none));rwa[World.size_alloc]at this,
  by rw[<-hW1];exact(Below.heap_alloc _ _ _ zAM).trans (World.alloc_heap_new W0 _),hb1⟩
 refine⟨W0.heap.size+1,[{target:=.collected W0.heap.size,args:= #[]}],W1,{target:=.fn (.func g) lb,args:= #[.func (.yield (W0.heap.size+1)) #[] #[]]},W1,g,#[.func (.yield (W0.heap.size+1)) #[] #[]]++lb,W1,?_,?_,?_,?_,fun _=>h1,?_⟩;·rw[<-hW1];exact run_enterLoop_outer _ _ _ _ _
 ·simp[resolve,go_sem]
 ·intro f' hf';trivial
 ·simp[invoke,go_sem,eg]
 refine(hseq (W0.heap.size+1) (ApE w fn (.func (.func g) #[] lb) w.heap.size (W0.heap.size+1) W0.heap.size) W1 hb1 (X4 _ _ _ _ _ _ _ hb1.size) (fun pre x W hJ hl=>aaI (n-1-1) w fn _ w.heap.size (W0.heap.size+1) W0.heap.size zB7 zBy zAC (qH _) zBk N hN pre x W hJ hl) hM).mono ?_;rintro e W2 ⟨⟨v0,rfl⟩,ss,hS,h2⟩;obtain⟨v,hv,hrow⟩:=h2.box;have hend:=run_endLoop (P:=Tryz.prog) h2.L (by simp[Ny]);obtain⟨W3,hW3⟩:∃W3,W2.putObj (W0.heap.size+1) (.loop {Ny fn (.func (.func g) #[] lb) w.heap.size W0.heap.size .ready none with state:=.exhausted})=W3:=⟨_,rfl⟩;rw[hW3]at hend;have hg3:W2.grownBy W3 (some (W0.heap.size+1)):=by rw[<-hW3];exact grownBy_putObj_a _ _ _
 have hv3:W3.heap[w.heap.size]? =some (.cells #[v] 223 (0,0)):=by rw[<-hW3];exact(World.putObj_heap_other zBk).trans hv
 have hK3:W3.heap[W0.heap.size]? =some (.deferred (some [])):=by rw[<-hW3];exact(World.putObj_heap_other zBk).trans h2.K
 have hrow3:=hrow.kept hg3 (ownsRow_ne_a hrow h2.L (fun cur e=>by first|cases e|exact hne (Obj.cells.inj e).2.1));have hb3:Below w.heap.size w W3:=h2.below.grown hg3 h2.below.size (fun k e=>by cases e;omega);obtain⟨hc3,hf3⟩:=cell_of_box_a hv3;clear hW3;refine⟨none,W3,hend,?_⟩;gi_wp2;rw[<-hs0];refine⟨by simp,.inl ⟨_,_,rfl,run_takeDeferred hK3,?_⟩⟩;exact⟨_,results_tmp rfl _ _ _,v,ss,rfl,hS,hrow3.kept (grownBy_putObj_a _ _ _) (ownsRow_ne_a hrow3 hK3 (fun cur e=>by first|cases e|exact hne (Obj.cells.inj e).2.1)),hb3.grown (grownBy_putObj_a _ _ _) hb3.size (fun k e=>by cases e;omega)⟩
end
end Go.Proofs.YtdmmebjjojimiaaGreatDoor
namespace Go.Proofs.YtdmmebjjojimiaaGreatDoor
open Go.RowKit Go.Sort
def cfE(x y:Nat×Nat):Int:=if Lib.compareInt x.1 y.1=0 then Lib.compareInt x.2 y.2 else Lib.compareInt x.1 y.1
def SG(x:Nat×Nat):List Value:=[.int .i64 (x.1:Int),.int .i64 (x.2:Int)]
theorem OX(w:World)(a b c:Obj):(((w.alloc a).alloc b).drew).alloc c=grow (w.drewN 1) #[a,b,c]:=by show({w with heap:=_,drawn:=_}:World)={w with heap:=_,drawn:=_};congr 1
theorem afP(x y:Nat×Nat)(w:World):Calls Tryz.prog 233 #[.agg (SG x).toArray,.agg (SG y).toArray] w fun e w'=>e= .returned (.int .i64 (cfE x y))/\∃q os',w'=grow (w.drewN q) os':=by
 obtain⟨xp,xt⟩:=x;obtain⟨yp,yt⟩:=y;unfold cfE;dsimp only;obtain⟨c1,h1⟩:=ze (Lib.compareInt xp yp);obtain⟨c2,h2⟩:=ze (Lib.compareInt xt yt);have k1:∀W:World,Calls Tryz.prog 235 #[.int .i64 xp,.int .i64 yp] W fun e w'=>e= .returned (.int .i64 (Lib.compareInt xp yp))/\W=w':=fun W=>(Tryz.cmp_Compare_int xp yp W).mono fun _ _ h=>⟨h.1,h.2.symm⟩;have k2:∀W:World,Calls Tryz.prog 235 #[.int .i64 xt,.int .i64 yt] W fun e w'=>e= .returned (.int .i64 (Lib.compareInt xt yt))/\W=w':=fun W=>(Tryz.cmp_Compare_int xt yt W).mono fun _ _ h=>⟨h.1,h.2.symm⟩;rw[h1]at k1⊢;rw[h2]at k2⊢;have K1:=zh k1;have K2:=zh k2;clear h1 h2 k1 k2;obtain⟨r,hr⟩:∃r,(if c1=0 then c2 else c1)=r:=⟨_,rfl⟩;rw[hr];have HR:=zh hr;clear hr;obtain⟨w1,hw1⟩:=ze (w.alloc (.cells #[.int .i64 xp,.int .i64 xt] 226));obtain⟨w2,hw2⟩:=ze (w1.alloc (.cells #[.int .i64 yp,.int .i64 yt] 226));obtain⟨A,hA⟩:=ze w.heap.size;obtain⟨B,hB⟩:=ze w1.heap.size;have bA1:w1.heap[A]? =some (.cells #[.int .i64 xp,.int .i64 xt] 226 (0,0)):=by rw[<-hw1,<-hA];exact qL _ _
 have bA:w2.heap[A]? =some (.cells #[.int .i64 xp,.int .i64 xt] 226 (0,0)):=by rw[<-hw2];exact dw bA1 _
 have bB:w2.heap[B]? =some (.cells #[.int .i64 yp,.int .i64 yt] 226 (0,0)):=by rw[<-hw2,<-hB];exact qL _ _
 have a0:w2.cell? ⟨A,0,none⟩=some (.int .i64 xp):=zBd;have a1:w2.cell? ⟨A,1,none⟩=some (.int .i64 xt):=zBd;have b0:w2.cell? ⟨B,0,none⟩=some (.int .i64 yp):=zBc;have b1:w2.cell? ⟨B,1,none⟩=some (.int .i64 yt):=zBc;have HW2:=zh (And.intro hw1 hw2);have hS0:(fun w':World=>w'.cell? ⟨A,0,none⟩=some (.int .i64 xp)/\w'.cell? ⟨A,1,none⟩=some (.int .i64 xt)/\w'.cell? ⟨B,0,none⟩=some (.int .i64 yp)/\w'.cell? ⟨B,1,none⟩=some (.int .i64 yt)) w2.drew:=⟨a0,a1,b0,b1⟩;have HS0:=zh hS0;have Iw:Hid (∀w':World,O0 w2 w'->w'.cell? ⟨A,0,none⟩=some (.int .i64 xp)/\w'.cell? ⟨A,1,none⟩=some (.int .i64 xt)/\w'.cell? ⟨B,0,none⟩=some (.int .i64 yp)/\w'.cell? ⟨B,1,none⟩=some (.int .i64 yt)):=fun w' h=>
  ⟨dh a0 h (fun f=>f),dh a1 h (fun f=>f),dh b0 h (fun f=>f),dh b1 h (fun f=>f)⟩
 clear bA1 bA bB a0 a1 b0 b1 hS0;unfold SG;dsimp only;go_enter Tryz.func233,Tryz.ntmps233;go_upto_region 1 with fail;refine bH (n:=13) (E:=fun _=>false) (S:=fun w':World=>w'.cell? ⟨A,0,none⟩=some (.int .i64 xp)/\w'.cell? ⟨A,1,none⟩=some (.int .i64 xt)/\w'.cell? ⟨B,0,none⟩=some (.int .i64 yp)/\w'.cell? ⟨B,1,none⟩=some (.int .i64 yt)) zk rfl HS0.out (fun hHeld=>?_);refine tW 0 ?_;refine tK 1 ?_;refine tW 2 ?_;refine tK 3 ?_;refine nX (i:=4) (v:=?_) (f:=235) (args:= #[.int .i64 xp,.int .i64 yp]) rfl zk zk zk rfl zk zk (fun _ _ _ h=>h) zAi (by rfl) ?_ ?_ ?_;rotate_left;·exact zCM
 ·(intro w hSw;exact K1.out w)
 try simp only[Act.put,gJ,gU,gK,gu,gy,gG]
 refine tW 5 ?_;refine tK 6 ?_;refine tW 7 ?_;refine tK 8 ?_;refine nX (i:=9) (v:=?_) (f:=235) (args:= #[.int .i64 xt,.int .i64 yt]) rfl zk zk zk rfl zk zk (fun _ _ _ h=>h) zAi (by rfl) ?_ ?_ ?_;rotate_left;·exact zCM
 ·(intro w hSw;exact K2.out w)
 try simp only[Act.put,gJ,gU,gK,gu,gy,gG]
 refine tO 10 fun K hK=>?_;go_simp;refine hK.out _ _ ?_ (fun hHeld=>?_);·exact zFG
 clear hK K;try simp only[Act.put,gJ,gU,gK,gu,gy,gG]
 refine tO 11 fun K hK=>?_;(go_simp;refine(agm w2.drew.heap.size c1 c2 r zBz zAM HR.out).mono ?_;rintro e w5 ⟨rfl,h5⟩;subst h5;try go_wp2_with fail);refine hK.out _ _ ?_ (fun hHeld=>?_);·exact zFG
 clear hK K;try simp only[Act.put,gJ,gU,gK,gu,gy,gG]
 refine tO 12 fun K hK=>?_;go_simp;refine hK.out _ _ ?_ (fun hHeld=>?_);·exact zFG
 clear hK K;try simp only[Act.put,gJ,gU,gK,gu,gy,gG]
 refine aZ zk ?_ _;go_wp2_with fail;go_ret;obtain⟨e1,e2⟩:=HW2.out;refine⟨rfl,1,#[Obj.cells #[.int .i64 xp,.int .i64 xt] 226 (0,0),Obj.cells #[.int .i64 yp,.int .i64 yt] 226 (0,0),Obj.cells #[.int .i64 c1,.int .i64 c2] 3 (0,0)],?_⟩;rw[<-e2,<-e1];exact OX _ _ _ _
end Go.Proofs.YtdmmebjjojimiaaGreatDoor
namespace Go.Proofs.YtdmmebjjojimiaaGreatDoor
open Go.RowKit Go.Sort Go.Shelf
def Tryz.OY:Go.Shelf.Ren:=⟨fun |6=>313|15=>174|14=>362|28=>252|29=>253|20=>391|21=>392|22=>393|23=>394|24=>395|25=>396|26=>397|27=>398|46=>410|47=>318|48=>319|49=>411|50=>412|57=>418|n=>n,fun |22=>223|24=>226|25=>274|3=>3|39=>239|0=>0|53=>288|55=>290|4=>4|46=>281|45=>280|50=>285|5=>5|9=>9|66=>332|70=>336|76=>369|77=>264|n=>n,fun |n=>n⟩
theorem Tryz.Qw:Go.Proofs.SlLaysF0.n6 Tryz.prog Tryz.OY:={
 mixed:=by kernel_rfl
 f6:=⟨Tryz.f313.name,by decide,Tryz.func313.trans (congrArg some zk)⟩
 f14:=⟨Tryz.f362.name,by decide,Tryz.func362.trans (congrArg some zk)⟩
 f15:=Tryz.func174.trans (congrArg some zk)
 f20:=⟨Tryz.f391.name,by decide,Tryz.func391.trans (congrArg some zk)⟩
 f21:=⟨Tryz.f392.name,by decide,Tryz.func392.trans (congrArg some zk)⟩
 f22:=⟨Tryz.f393.name,by decide,Tryz.func393.trans (congrArg some zk)⟩
 f23:=⟨Tryz.f394.name,by decide,Tryz.func394.trans (congrArg some zk)⟩
 f24:=⟨Tryz.f395.name,by decide,Tryz.func395.trans (congrArg some zk)⟩
 f25:=⟨Tryz.f396.name,by decide,Tryz.func396.trans (congrArg some zk)⟩
 f26:=⟨Tryz.f397.name,by decide,Tryz.func397.trans (congrArg some zk)⟩
 f27:=⟨Tryz.f398.name,by decide,Tryz.func398.trans (congrArg some zk)⟩
 f28:=Tryz.func252.trans (congrArg some zk)
 f29:=Tryz.func253.trans (congrArg some zk)
 f46:=⟨Tryz.f410.name,by decide,Tryz.func410.trans (congrArg some zk)⟩
 f47:=Tryz.func318.trans (congrArg some zk)
 f48:=Tryz.func319.trans (congrArg some zk)
 f49:=⟨Tryz.f411.name,by decide,Tryz.func411.trans (congrArg some zk)⟩
 f50:=⟨Tryz.f412.name,by decide,Tryz.func412.trans (congrArg some zk)⟩
 f57:=⟨Tryz.f418.name,by decide,Tryz.func418.trans (congrArg some zk)⟩
 t0:=Tryz.underlying0
 a0:=Tryz.isAgg0
 z0:=Tryz.sizeOf0
 v0:=Tryz.zeroValue0
 t3:=Tryz.underlying3
 a3:=Tryz.isAgg3
 z3:=Tryz.sizeOf3
 v3:=Tryz.zeroValue3
 t4:=Tryz.underlying4
 a4:=Tryz.isAgg4
 z4:=Tryz.sizeOf4
 v4:=Tryz.zeroValue4
 t5:=Tryz.underlying5
 a5:=Tryz.isAgg5
 z5:=Tryz.sizeOf5
 v5:=Tryz.zeroValue5
 t9:=Tryz.underlying9
 a9:=Tryz.isAgg9
 z9:=Tryz.sizeOf9
 v9:=Tryz.zeroValue9
 t22:=Tryz.underlying223
 a22:=Tryz.isAgg223
 z22:=Tryz.sizeOf223
 v22:=Tryz.zeroValue223
 t25:=Tryz.underlying274
 a25:=Tryz.isAgg274
 z25:=Tryz.sizeOf274
 v25:=Tryz.zeroValue274
 t39:=Tryz.underlying239
 a39:=Tryz.isAgg239
 z39:=Tryz.sizeOf239
 v39:=Tryz.zeroValue239
 t45:=Tryz.underlying280
 a45:=Tryz.isAgg280
 z45:=Tryz.sizeOf280
 v45:=Tryz.zeroValue280
 t46:=Tryz.underlying281
 a46:=Tryz.isAgg281
 z46:=Tryz.sizeOf281
 v46:=Tryz.zeroValue281
 t50:=Tryz.underlying285
 a50:=Tryz.isAgg285
 z50:=Tryz.sizeOf285
 v50:=Tryz.zeroValue285
 t53:=Tryz.underlying288
 a53:=Tryz.isAgg288
 z53:=Tryz.sizeOf288
 v53:=Tryz.zeroValue288
 t55:=Tryz.underlying290
 a55:=Tryz.isAgg290
 z55:=Tryz.sizeOf290
 v55:=Tryz.zeroValue290
 t66:=Tryz.underlying332
 a66:=Tryz.isAgg332
 z66:=Tryz.sizeOf332
 v66:=Tryz.zeroValue332
 t70:=Tryz.underlying336
 a70:=Tryz.isAgg336
 z70:=Tryz.sizeOf336
 v70:=Tryz.zeroValue336
 t76:=Tryz.underlying369
 a76:=Tryz.isAgg369
 z76:=Tryz.sizeOf369
 v76:=Tryz.zeroValue369
 t77:=Tryz.underlying264
 a77:=Tryz.isAgg264
 z77:=Tryz.sizeOf264
 v77:=Tryz.zeroValue264}
theorem Zc{a b:Int}(h:a<b):Lib.compareInt a b= -1:=by unfold Lib.compareInt;rw[if_pos h]
theorem Zd{a b:Int}(h:b<a):Lib.compareInt a b=1:=by unfold Lib.compareInt;rw[if_neg zAC,if_pos zBk]
theorem Ze{a b:Int}(h:a=b):Lib.compareInt a b=0:=by unfold Lib.compareInt;rw[if_neg zAC,if_neg zBk]
theorem KJ(x y:Nat×Nat):ltOf cfE x y=true↔x.1<y.1\/(x.1=y.1/\x.2<y.2):=by
 unfold ltOf cfE;rw[decide_eq_true_iff];rcases Nat.lt_trichotomy x.1 y.1 with h|h|h;·rw[Zc zBk,if_neg zBl];exact⟨fun _=>.inl h,fun _=>by decide⟩
 ·rw[Ze zBk,if_pos rfl];rcases Nat.lt_trichotomy x.2 y.2 with h2|h2|h2;·rw[Zc zBk];exact⟨fun _=>.inr ⟨h,h2⟩,fun _=>by decide⟩
  ·rw[Ze zBk];exact⟨fun h3=>absurd h3 zBl,fun h3=>by omega⟩
  rw[Zd zBk];exact⟨fun h3=>absurd h3 zBl,fun h3=>by omega⟩
 rw[Zd zBk,if_neg zBl];exact⟨fun h3=>absurd h3 zAG,fun h3=>by omega⟩
theorem jD(x y:Nat×Nat):ltOf cfE x y=false↔ ¬(x.1<y.1\/(x.1=y.1/\x.2<y.2)):=by rw[<-KJ,Bool.not_eq_true]
theorem aq1:SWO (ltOf cfE) where
 irrefl x:=by rw[jD];omega
 trans x y z:=by rw[KJ,KJ,KJ];omega
 ntrans x y z:=by rw[jD,jD,jD];omega
theorem kN(x y:Nat×Nat):mP x y=true↔ltOf cfE y x=false:=by rw[jD];unfold mP;simp;omega
theorem VE{xs l:List (Nat×Nat)}(hp:l.Perm xs)(hs:l.Pairwise fun a b=>ltOf cfE b a=false):l=xs.mergeSort mP:=by
 have tr:∀a b c:Nat×Nat,mP a b=true->mP b c=true->mP a c=true:=fun a b c=>by rw[kN,kN,kN,jD,jD,jD];omega
 have tot:∀a b:Nat×Nat,(mP a b||mP b a)=true:=fun a b=>by rw[Bool.or_eq_true,kN,kN,jD,jD];omega
 refine List.Perm.eq_of_pairwise (le:=fun a b=>mP a b=true) (fun a b _ _ h1 h2=>?_) (hs.imp fun h=>(kN _ _).2 h) (List.pairwise_mergeSort tr tot xs) (hp.trans (List.mergeSort_perm xs mP).symm);rw[kN,jD]at h1 h2;exact Prod.ext zAC zBk
theorem VF:∀(xs:List (Nat×Nat)) (i:Nat) (e:Nat×Nat),xs[i]? =some e->(mQ xs)[i*2]? =some (.int .i64 (e.1:Int))/\(mQ xs)[i*2+1]? =some (.int .i64 (e.2:Int))
 | [],i,e,h=>by simp at h
 |x::r,0,e,h=>by
  simp at h;subst h
  exact⟨rfl,rfl⟩
 |x::r,i+1,e,h=>by
  have ih:=VF r i e (by simpa using h)
  have hs:mQ (x::r)=[.int .i64 (x.1:Int),.int .i64 (x.2:Int)]++mQ r:=rfl
  rw[hs,yN zBt,yN zAd]
  simp only[qN,List.length_nil]
  rw[show(i+1)*2-(0+1+1)=i*2 by omega,show(i+1)*2+1-(0+1+1)=i*2+1 by omega]
  exact ih
theorem JQ(xs:List (Nat×Nat)):flatK SG 2 xs.toArray=(mQ xs).toArray:=by
 refine ext_get! (by simp[Qv]) fun t ht=>?_;have ht2:t<xs.length*2:=by simpa using ht
 rw[get_flatK _ _ _ t (by simpa using ht2)];have hi:t/2<xs.length:=zBk;obtain⟨e,he⟩:=zG xs (t/2) hi;have h1:xs.toArray[t/2]! =e:=by simp[he]
 rw[h1];have h2:=VF xs (t/2) e he;have hr:((mQ xs).toArray)[t]! =((mQ xs)[t]?).getD default:=zAM;rw[hr];rcases Nat.mod_two_eq_zero_or_one t with hm|hm
 ·have e1:t/2*2=t:=by omega
  rw[e1]at h2;rw[h2.1,hm];rfl
 have e1:t/2*2+1=t:=by omega
 rw[e1]at h2;rw[h2.2,hm];rfl
theorem VG{w:World}{e:TypeId}{g n cap:Nat}{xs:List Value}(h:w.ownsRow 0 e 2 (.slice (some ⟨g,0,none⟩) n cap) n xs)(d:Array Value)(hd:d.size=n*2):(putRow id w g 0 d).ownsRow 0 e 2 (.slice (some ⟨g,0,none⟩) n cap) n d.toList:=by
 rcases h.2 with⟨h',_⟩| ⟨g',cap',cur,h',hb,hg,h1,h2,h3,htake⟩;·simp at h'
 simp only[qU,qG,qO,and_true,true_and]at h';obtain⟨rfl,rfl⟩:=h';refine⟨by simp[hd],.inr ⟨g,cap,putCells id 0 d cur,rfl,qE _,?_,h1,h2,?_,?_⟩⟩;·exact zDb
 ·simpa[putCells]using h3
 apply List.ext_getElem?;intro j;simp only[putCells,List.getElem?_take];by_cases hj:j<n*2
 ·have hc:j<cur.size:=by omega
  simp[hj,hc,hd]
 rw[if_neg hj,List.getElem?_eq_none (by simp[hd];omega)]
theorem holds2{w:World}{e:TypeId}{g n cap:Nat}{xs:List Value}(h:w.ownsRow 0 e 2 (.slice (some ⟨g,0,none⟩) n cap) n xs):Holds id w g 0 xs.toArray:=by intro j hj;have hn:xs.length=n*2:=h.1;have hj':j<xs.length:=zBb;refine⟨?_,h.frozenAt _⟩;rw[Nat.zero_add,h.cellAt j zBk];simp[hj']
theorem X5{w:World}{base:Nat}{e:TypeId}{size:Nat}{v:Value}{n:Nat}{xs:List Value}(h:w.ownsRow base e size v n xs):∃ao cap,v= .slice ao n cap:=by
 rcases h.2 with⟨rfl,rfl⟩| ⟨g,cap,_,h',_⟩;·exact⟨none,0,rfl⟩
 exact⟨_,cap,h'⟩
theorem SH(w:World)(g:Nat)(F:Array Value):Only (fun k=>k=g) w (putRow id w g 0 F):=
 ⟨rfl,rfl,rfl,by simp[putRow,mapBlock],fun k _ hk=>by
  show(w.heap.modify g _)[k]? =_
  rw[Array.getElem?_modify,if_neg (fun e=>hk e.symm)]⟩
theorem SI:∀args w,(callFunc 233 args).run Tryz.prog w= .ok (.enter 233 args) w:=enters_of Tryz.func233 zk rfl
theorem afQ{w:World}{v:Value}{xs:List (Nat×Nat)}(h:w.ownsRow 0 226 2 v xs.length (mQ xs))(hb:xs.length<=1000000):Calls Tryz.prog 313 #[v,.func (.func 233) #[] #[]] w fun e w'=>e= .returned (.tuple #[])/\w'.ownsRow 0 226 2 v xs.length (mQ (xs.mergeSort mP))/\Only (fun k=>v.ownBlock=some k) w w':=by
 by_cases h0:xs.length=0
 ·have hx:xs=[]:=yF h0;subst hx;obtain⟨ao,cap,rfl⟩:=X5 h;refine(AnyF.slices_SortFunc_none Tryz.Qw ao cap _ w).mono fun e w' ⟨he,hw⟩=>⟨he,?_,?_⟩;·rw[hw];simpa using h
  exact zEE
 obtain⟨gb,cap,e1⟩:∃gb cap,v= .slice (some ⟨gb,0,none⟩) xs.length cap:=by obtain⟨n,hn⟩:∃n,xs.length=n+1:=⟨xs.length-1,by omega⟩;rw[hn]at h⊢;exact Nz h
 subst e1;have hH:HoldsK SG 2 w gb 0 xs.toArray:=by unfold HoldsK;rw[JQ];exact holds2 h
 have hlt:=dX h (k:=gb) rfl;have key:=AnyQ.slices_SortFunc Tryz.Qw 2 Tryz.isAgg226 Tryz.sizeOf226 SG (fun _=>rfl) (fun x v hv=>by simp[SG]at hv;rcases hv with rfl|rfl<;>rfl) cfE aq1 233 #[] gb 0 cap xs.toArray w SI (fun m os dk _ x y=>afP x y _) hH hlt zAd;simp only[List.size_toArray]at key;refine key.mono fun e w' ⟨he,d',n,os,hp,hs,hw⟩=>⟨he,?_,?_⟩
 ·have hsz:d'.size=xs.length:=by have:=hp.1;simpa using this
  have hpm:d'.toList.Perm xs:=by have:=hp.2.2;have h3:List.take d'.size xs=xs:=qI zBk;simpa[<-hsz,h3]using this
  have hso:d'.toList.Pairwise fun a b=>ltOf cfE b a=false:=by rw[List.pairwise_iff_getElem];intro i j hi hj hij;have:=hs i j (qE _) hij (by simp at hj;omega);simp at hi hj;simpa[getElem!_pos d' j hj,getElem!_pos d' i hi]using this
  have e2:=VE hpm hso;subst hw;unfold sortWorldK putRowK;have e3:flatK SG 2 d'=(mQ (xs.mergeSort mP)).toArray:=by rw[<-e2,<-JQ]
  rw[e3];have h1:=VG (w:=Sort.ahead w n) (g:=gb) (n:=xs.length) (cap:=cap) (e:=226) h (mQ (xs.mergeSort mP)).toArray (by simp[Qv]);exact zEZ
 subst hw;unfold sortWorldK putRowK;refine wC ?_ os;have:=(wS (Only.refl (fun k=>k=gb) w) n).same (SH (Sort.ahead w n) gb (flatK SG 2 d'));exact zDZ
section
variable {w w':World} {gt gb gp:Tag} {X:NV} {Bs:Nat} {D:Dn} {E:ES}
theorem VH:∀args w,(callFunc 314 args).run Tryz.prog w= .ok (.enter 314 args) w:=enters_of Tryz.func314 zk rfl
abbrev FW(w:World):Value:=.func (.func 314) #[] #[.pointer (some ⟨w.heap.size,0,none⟩)]
theorem afR(w:World)(B:Nat):Calls Tryz.prog 232 #[.map (some B)] w fun e w'=>e= .returned (FW w)/\w'=w.alloc (.cells #[.map (some B)] 150):=by go_enter Tryz.func232,Tryz.ntmps232;go_wp2_with fail;exact zCd
theorem X6{g:Tag}{τ B:Nat}{m:List ((Nat×Nat)×List Int)}{val:Nat×Nat->Value}(H:sO KE w g τ B m val)(hl:m.length<=1000000):Calls Tryz.prog 312 #[FW w] (w.alloc (.cells #[.map (some B)] 150)) fun e w'=> ∃(v:Value) (ss:List (Nat×Nat)),e= .returned v/\ss.Perm (keysOf m)/\w'.ownsRow 0 226 2 v ss.length (mQ ss)/\(∀k,v.ownBlock=some k->w.heap.size<=k)/\O0 w w':=by
 have hc:=callsIn_wide.1 (OW 5 zAC _ _ VH (fun ss=>ss.Perm (keysOf m)) m.length hl _ (VD H 4 zBk));obtain⟨w0,hw0⟩:=ze (w.alloc (.cells #[.map (some B)] 150));have o0:O0 w w0:=by rw[<-hw0];exact zr.alloc _
 rw[hw0]at hc⊢;have HC:=zh hc;obtain⟨a,ha⟩:=ze w.heap.size;have HA:=zh ha;have hsz:w0.heap.size=a+1:=by rw[<-hw0,<-ha];simp
 have HS:=zh hsz;unfold FW;rw[ha];unfold FW at HC;rw[ha]at HC;have O0:=zh o0;clear hc hw0 o0 ha hsz;go_enter Tryz.func312,Tryz.ntmps312;go_wp2_with fail;refine HC.out.mono ?_;rintro e w1 ⟨v,ss,rfl,hp,hrow,hb⟩;have R:=zh hrow;have HB:=zh hb;have HP:=zh hp;clear hrow hb hp HC;go_wp2_with fail;go_ret;have o1:=Only.of_below HB.out;refine⟨_,ss,rfl,HP.out,ownsRow_base_a R.out (qE _),fun k hk=>?_,?_⟩;·have:=(R.out.lt k hk).1;have h1:=HS.out;have h2:=HA.out;omega
 exact O0.out.trans o1 fun k hk=>.inr (qR O0.out.size hk)
theorem aaJ{g:Tag}{τ B:Nat}{m:List ((Nat×Nat)×List Int)}{val:Nat×Nat->Value}(H:sO KE w g τ B m val)(hl:m.length<=1000000):Calls Tryz.prog 231 #[FW w,.func (.func 233) #[] #[]] (w.alloc (.cells #[.map (some B)] 150)) fun e w'=> ∃v,e= .returned v/\w'.ownsRow 0 226 2 v ((keysOf m).mergeSort mP).length (mQ ((keysOf m).mergeSort mP))/\(∀k,v.ownBlock=some k->w.heap.size<=k)/\O0 w w':=by
 have HC:=zh (X6 H hl);obtain⟨w0,hw0⟩:=ze (w.alloc (.cells #[.map (some B)] 150));rw[hw0]at HC⊢;obtain⟨a,ha⟩:=ze w.heap.size;unfold FW at HC⊢;rw[ha]at HC⊢;clear hw0;go_enter Tryz.func231,Tryz.ntmps231;go_wp2_with fail;refine HC.out.mono ?_;rintro e w1 ⟨v,ss,rfl,hp,hrow,hb,o1⟩;have e1:ss.mergeSort mP=(keysOf m).mergeSort mP:=(VE ((List.mergeSort_perm ss mP).trans hp) (by
  have tr:∀a b c:Nat×Nat,mP a b=true->mP b c=true->mP a c=true:=fun a b c=>by
   rw[kN,kN,kN,jD,jD,jD];omega
  have tot:∀a b:Nat×Nat,(mP a b||mP b a)=true:=fun a b=>by
   rw[Bool.or_eq_true,kN,kN,jD,jD];omega
  exact(List.pairwise_mergeSort tr tot ss).imp fun h=>(kN _ _).1 h))
 have hln:ss.length=m.length:=by rw[hp.length_eq];simp[keysOf]
 have hS:=afQ hrow zBk;rw[e1]at hS;have e2:ss.length=((keysOf m).mergeSort mP).length:=by rw[<-e1,List.length_mergeSort]
 rw[e2]at hS;have HS:=zh hS;have HB:=zh hb;have HO:=zh o1;clear hp hrow hb o1 e1 e2 hln hS HC;go_wp2_with fail;refine HS.out.mono ?_;rintro e w2 ⟨rfl,r2,o2⟩;have R2:=zh r2;have O2:=zh o2;clear r2 o2 HS;go_wp2_with fail;go_ret;exact⟨_,rfl,R2.out,HB.out,HO.out.trans O2.out fun k hk=>.inr (by rw[ha];exact HB.out k hk)⟩
theorem afS(H:jW w gt gb gp X Bs D E)(hl:E.2.of.length<=65536):Calls Tryz.prog 162 #[.pointer (some ⟨X.px,0,none⟩)] w fun e w'=> ∃v,e= .returned v/\w'.ownsRow 0 226 2 v E.2.edges.length (mQ E.2.edges)/\(∀k,v.ownBlock=some k->w.heap.size<=k)/\O0 w w':=by obtain⟨val,hR⟩:=H.of;obtain⟨-,-,q2,-⟩:=H.cells;have HK:=zh (afR w X.m1);have HS:=zh (aaJ hR zBk);have he:E.2.edges=(keysOf E.2.of).mergeSort mP:=rfl;rw[<-he]at HS;unfold FW at HK HS;clear hR he H;go_enter Tryz.func162,Tryz.ntmps162;go_wp2_with fail;refine HK.out.mono ?_;rintro e w1 ⟨rfl,rfl⟩;go_wp2_with fail;refine HS.out.mono ?_;rintro e w2 ⟨v,rfl,r,b,o⟩;have R:=zh r;have B:=zh b;have O:=zh o;clear r b o HS HK;go_wp2_with fail;go_ret;exact⟨_,rfl,R.out,B.out,O.out⟩
theorem adY{b:Nat}{v1 v2 v3:Value}{x1 x2 x3:List Int}(hb:w.heap[b]? =some (.cells #[v1,v2,v3] 78 (0,0)))(h1:Ints w v1 x1)(h2:Ints w v2 x2)(h3:Ints w v3 x3)(hl:x1.length+x2.length+x3.length<=100000000):Calls Tryz.prog 166 #[.slice (some ⟨b,0,none⟩) 3 3] w fun e w'=> ∃v,e= .returned v/\w'.ownsRow 0 3 1 v (x1++(x2++x3)).length ((x1++(x2++x3)).map cI)/\(∀k,v.ownBlock=some k->w.heap.size<=k)/\O0 w w':=by
 have h:=aaF (w:=w) (b:=b) (vs:=[v1,v2,v3]) (xs:=[x1,x2,x3]) hb rfl (fun i v x hv hx=>by
  rcases i with _|_|_|i
  ·simp at hv hx;subst hv hx;exact h1
  ·simp at hv hx;subst hv hx;exact h2
  ·simp at hv hx;subst hv hx;exact h3
  ·simp at hv) zBt zAM (n:=3) rfl
 have e:[x1,x2,x3].flatten=x1++(x2++x3):=zAM;rw[e]at h;exact h
end
end Go.Proofs.YtdmmebjjojimiaaGreatDoor
