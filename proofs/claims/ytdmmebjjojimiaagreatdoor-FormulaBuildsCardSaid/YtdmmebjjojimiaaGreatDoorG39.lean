/- Package edge: a row of one's own beside back's state.; Package edge: part.edges: the keys of a map by two places, in order. -/
import Derived.Test.YtdmmebjjojimiaaGreatDoorG38
set_option maxRecDepth 100000
set_option maxHeartbeats 8000000
set_option linter.all false
namespace Go.Proofs.YtdmmebjjojimiaaGreatDoor
open Go.RowKit
def jJ(w2:World)(gt gb gp:Tag)(X:MW)(Bs:Nat)(D:xC)(E:ES)(m3:Nat)(I:List (Nat×List Int))(wr:World)(v:Value)(xs:List Int):Prop:=
 ∃gt' gb' lS,uH wr gt' gb' lS X Bs D E m3 I/\Agree w2 gt gt'/\Agree w2 gb gb'/\Agree w2 gp lS/\Only (bP gt gb gp) w2 wr/\wr.ownsRow 0 3 1 v xs.length (xs.map cI)/\∀k,v.ownBlock=some k->¬bP gt' gb' lS k/\w2.heap.size<=k
section
variable {w w' w2 wr:World} {gt gb gp:Tag} {X:MW} {Bs:Nat} {D:xC} {E:ES} {m3:Nat} {I:List (Nat×List Int)}
theorem uH.off(H:uH w gt gb gp X Bs D E m3 I){F:Nat->Prop}(ho:Only F w w')(hF:∀k,F k->¬bP gt gb gp k/\k≠X.c/\k≠X.px/\X.nv.ownBlock≠some k/\Bs<=k):uH w' gt gb gp X Bs D E m3 I:=by obtain⟨H1,aqd,h4⟩:=H;obtain⟨v1,h1⟩:=H1.of;obtain⟨us,h2⟩:=H1.needs;obtain⟨v3,h3⟩:=H1.roots;have hT:∀{τ:Nat},0<τ->∀k,(gp k).1=τ->¬F k:=fun{τ} ht k hk hf=>(hF k hf).1 (.inr zA4);exact⟨⟨H1.gx.keep ho (fun k hk=>(hF k hk).2.2.2.2) (fun k hk hf=>(hF k hf).1 (.inl hk)) (fun hf=>(hF _ hf).2.1 rfl),⟨v1,h1.keep ho (hT zBt) (Agree.refl _ _)⟩,⟨us,h2.keep ho (hT zBl) (Agree.refl _ _)⟩,H1.Jp,⟨v3,h3.keep ho (hT zBU) (Agree.refl _ _)⟩,aC H1.blk ho (fun hf=>(hF _ hf).2.2.1 rfl),H1.tp,H1.tc,aG H1.names ho (fun k hk hf=>(hF k hf).2.2.2.1 hk),H1.nb,H1.nok,H1.low,H1.Jz,H1.fresh.more ho.size⟩,aqd,h4.keep ho (hT zAB) (Agree.refl _ _)⟩
theorem jJ.start(h:dG w2 gt gb gp X Bs D E m3 I wr):jJ w2 gt gb gp X Bs D E m3 I wr dF []:=by obtain⟨a,b,c,H,A,B,C,O⟩:=h;exact⟨a,b,c,H,A,B,C,O,World.ownsRow_nil _ _ _ _,fun k hk=>by cases hk⟩
theorem jJ.bk{v:Value}{xs:List Int}(h:jJ w2 gt gb gp X Bs D E m3 I wr v xs):dG w2 gt gb gp X Bs D E m3 I wr:=by obtain⟨a,b,c,H,A,B,C,O,-,-⟩:=h;exact⟨a,b,c,H,A,B,C,O⟩
theorem jJ.own{v:Value}{xs:List Int}(h:jJ w2 gt gb gp X Bs D E m3 I wr v xs):wr.ownsRow 0 3 1 v xs.length (xs.map cI):=by obtain⟨_,_,_,_,_,_,_,_,R,_⟩:=h;exact R
theorem jJ.aH{v:Value}{xs:List Int}(h:jJ w2 gt gb gp X Bs D E m3 I wr v xs){w3:World}(o:O0 wr w3):jJ w2 gt gb gp X Bs D E m3 I w3 v xs:=by obtain⟨a,b,c,H,A,B,C,O,R,N⟩:=h;exact⟨a,b,c,H.aH o,A,B,C,O.same (o.mono fun _ f=>f.elim),aG R o (fun _ _ f=>f),N⟩
theorem jJ.call{v:Value}{xs:List Int}(h:jJ w2 gt gb gp X Bs D E m3 I wr v xs){w3:World}(o:O0 wr w3){E2:ES}{f:FuncId}{args:Array Value}{u:Value}(hc:∀gt' gb' lS,uH w3 gt' gb' lS X Bs D E m3 I->Calls Tryz.prog f args w3 fun e w'=>e= .returned u/\dG w3 gt' gb' lS X Bs D E2 m3 I w'):Calls Tryz.prog f args w3 fun e w'=>e= .returned u/\jJ w2 gt gb gp X Bs D E2 m3 I w' v xs:=by obtain⟨a,b,c,H,A,B,C,O,R,N⟩:=h;refine(hc a b c (H.aH o)).mono fun e w' ⟨he,h2⟩=>⟨he,?_⟩;obtain⟨a2,b2,c2,H2,A2,B2,C2,O2⟩:=dG.after o h2;refine⟨a2,b2,c2,H2,A.trans A2 O.size,B.trans B2 O.size,C.trans C2 O.size,O.y9 A B C O2,aG R O2 (fun k hk=>(N k hk).1),fun k hk=>⟨?_,(N k hk).2⟩⟩;rw[bP.agree A2 B2 C2 (dP R hk)];exact(N k hk).1
theorem jJ.app(hw2:X.c<w2.heap.size/\X.px<w2.heap.size/\(∀k,X.nv.ownBlock=some k->k<w2.heap.size)/\Bs<=w2.heap.size){v v':Value}{xs:List Int}(h:jJ w2 gt gb gp X Bs D E m3 I wr v xs){w3 w4:World}(o3:O0 wr w3){z:Int}(r:w4.ownsRow 0 3 1 v' (xs.length+1) (xs.map cI++[cI z]))(o:Only (fun k=>v.ownBlock=some k) w3 w4)(a:AB w3 v v' (xs.length+1)):jJ w2 gt gb gp X Bs D E m3 I w4 v' (xs++[z]):=by
 obtain⟨ga,gb',gc,H,A,B,C,O,R,N⟩:=h;have o4:Only (fun k=>v.ownBlock=some k) wr w4:=(o3.mono fun _ f=>f.elim).same o;obtain⟨q1,q2,q3,q4⟩:=hw2;refine⟨ga,gb',gc,H.off o4 (fun k hk=>?_),A,B,C,O.trans o4 fun k hk=>.inr (N k hk).2,by simpa using r,fun k hk=>?_⟩;·obtain⟨n1,n2⟩:=N k hk;exact⟨n1,by omega,by omega,fun hh=>by have:=q3 k hh;omega,by omega⟩
 obtain⟨g,cap,rfl,-,-,hg⟩:=a;simp[Value.ownBlock]at hk;subst hk;rcases hg with hg|hg;·exact N g hg
 have:=o3.size;have:=O.size;exact⟨H.1.lT zAB,by omega⟩
def BkK(w:World)(gt gb gp:Tag)(X:MW)(Bs:Nat)(D:xC)(E:ES)(m3:Nat)(I:List (Nat×List Int))(w':World):Prop:=
 ∃gt' gb',uH w' gt' gb' gp X Bs D E m3 I/\Agree w gt gt'/\Agree w gb gb'/\Only (fun k=>Mine gt k\/Mine gb k) w w'
theorem BkK.bk(h:BkK w gt gb gp X Bs D E m3 I w'):dG w gt gb gp X Bs D E m3 I w':=by obtain⟨a,b,H,A,B,O⟩:=h;exact⟨a,b,gp,H,A,B,Agree.refl _ _,O.mono fun k hk=>.inl hk⟩
theorem BkK.after{w1:World}(o:O0 w w1)(h:BkK w1 gt gb gp X Bs D E m3 I w'):BkK w gt gb gp X Bs D E m3 I w':=by obtain⟨a,b,H,A,B,O⟩:=h;refine⟨a,b,H,fun k hk=>A k (Nat.lt_of_lt_of_le hk o.size),fun k hk=>B k (Nat.lt_of_lt_of_le hk o.size),(o.mono fun _ f=>f.elim).same O⟩
theorem uH.ahb(H:uH w gt gb gp X Bs D E m3 I){S2:TB}(h:aZ w gt gb X.c X.bt X.bb X.G Bs D S2 w'):BkK w gt gb gp X Bs D (S2,E.2) m3 I w':=by
 obtain⟨H1,val,hR⟩:=H;obtain⟨gt',gb',H2,A1,A2,O⟩:=h;have hF:∀k,(gp k).1=4->¬(Mine gt k\/Mine gb k):=fun k hk hm=>H1.Jz k hm zA4;obtain⟨v1,h1⟩:=H1.of;obtain⟨us,h2⟩:=H1.needs;obtain⟨v3,h3⟩:=H1.roots;have hF2:∀{τ:Nat},0<τ->∀k,(gp k).1=τ->¬(Mine gt k\/Mine gb k):=fun{τ} ht k hk hm=>H1.Jz k hm zA4;have hpx:=bU H1.blk;refine⟨gt',gb',⟨⟨H2,⟨v1,h1.keep O (hF2 zBl) (Agree.refl _ _)⟩,⟨us,h2.keep O (hF2 zBU) (Agree.refl _ _)⟩,H1.Jp,⟨v3,h3.keep O (hF2 zAB) (Agree.refl _ _)⟩,aC H1.blk O (fun hm=>H1.tp (.inl hm)),?_,H1.tc,aG H1.names O (fun k hk hm=>H1.nb k hk (.inl hm)),?_,H1.nok,H1.low,?_,H1.fresh.more O.size⟩,val,hR.keep O hF (Agree.refl _ _)⟩,A1,A2,O⟩;·rw[bP.agree A1 A2 (Agree.refl w gp) hpx];exact H1.tp
 ·exact zEs
 exact zDQ
theorem agi(H:uH w gt gb gp X Bs D E m3 I){W:World}(o:O0 w W){p:Nat}(hp:p<=1000000)(z:Int)(hz:(E.1.num (aI p)).2=z):
  Calls Tryz.prog 164 #[.pointer (some ⟨X.c,0,none⟩),.int .i64 p] W fun e w'=>e= .returned (.int .i64 z)/\BkK w gt gb gp X Bs D ((E.1.num (aI p)).1,E.2) m3 I w':=
 (QH (H.aH o).1.gx (p:=p) ⟨by omega,by omega⟩ z hz).mono fun e w' ⟨he,h⟩=>⟨he,BkK.after o ((H.aH o).ahb h)⟩
theorem ajf(H:uH w gt gb gp X Bs D E m3 I){W:World}(o:O0 w W){v:Value}{xs:List Int}(hI:Ints W v xs)(hb:xs.length<=1000000):Calls Tryz.prog 163 #[.pointer (some ⟨X.c,0,none⟩),v] W fun e w'=>e= .returned (.tuple #[])/\BkK w gt gb gp X Bs D (E.1.bG xs,E.2) m3 I w':=(YW (H.aH o).1.gx hI hb).mono fun e w' ⟨he,h⟩=>⟨he,BkK.after o ((H.aH o).ahb h)⟩
theorem jl.sizes(H:jl w gt gb gp X Bs D E):X.c<w.heap.size/\X.px<w.heap.size/\(∀k,X.nv.ownBlock=some k->k<w.heap.size)/\Bs<=w.heap.size:=⟨bU H.gx.gr.blk,bU H.blk,fun _ hk=>dP H.names hk,H.gx.le⟩
end
end Go.Proofs.YtdmmebjjojimiaaGreatDoor
namespace Go.Proofs.YtdmmebjjojimiaaGreatDoor
open Go.RowKit Go.Sort Go.Shelf
section
variable {w w':World} {gt gb gp:Tag} {X:MW} {Bs:Nat} {D:xC} {E:ES}
theorem Vw:∀args w,(callFunc 314 args).run Tryz.prog w= .ok (.enter 314 args) w:=enters_of Tryz.func314 zk rfl
abbrev Ew(w:World):Value:=.func (.func 314) #[] #[.pointer (some ⟨w.heap.size,0,none⟩)]
theorem agj(w:World)(B:Nat):Calls Tryz.prog 232 #[.map (some B)] w fun e w'=>e= .returned (Ew w)/\w'=w.alloc (.cells #[.map (some B)] 150):=by go_enter Tryz.func232,Tryz.ntmps232;exact zCG
theorem X6{g:Tag}{τ B:Nat}{m:List ((Nat×Nat)×List Int)}{val:Nat×Nat->Value}(H:rD KE w g τ B m val)(hl:m.length<=1000000):Calls Tryz.prog 312 #[Ew w] (w.alloc (.cells #[.map (some B)] 150)) fun e w'=> ∃(v:Value) (ss:List (Nat×Nat)),e= .returned v/\ss.Perm (keysOf m)/\w'.ownsRow 0 226 2 v ss.length (kQ ss)/\(∀k,v.ownBlock=some k->w.heap.size<=k)/\O0 w w':=by
 have hc:=callsIn_wide.1 (NY 5 zBU _ _ Vw (fun ss=>ss.Perm (keysOf m)) m.length hl _ (UW H 4 zAB));obtain⟨w0,hw0⟩:=ze (w.alloc (.cells #[.map (some B)] 150));have o0:O0 w w0:=by rw[<-hw0];exact zr.alloc _
 rw[hw0]at hc⊢;have HC:=zh hc;obtain⟨a,ha⟩:=ze w.heap.size;have HA:=zh ha;have hsz:w0.heap.size=a+1:=by rw[<-hw0,<-ha];simp
 have HS:=zh hsz;unfold Ew;rw[ha];unfold Ew at HC;rw[ha]at HC;have O0:=zh o0;clear hc hw0 o0 ha hsz;go_enter Tryz.func312,Tryz.ntmps312;go_wp2_with fail;refine HC.out.mono ?_;rintro e w1 ⟨v,ss,rfl,hp,hrow,hb⟩;have R:=zh hrow;have HB:=zh hb;have HP:=zh hp;clear hrow hb hp HC;go_wp2_with fail;go_ret;have o1:=Only.of_below HB.out;refine⟨_,ss,rfl,HP.out,ownsRow_base_a R.out (qE _),fun k hk=>?_,?_⟩;·have:=(R.out.lt k hk).1;have h1:=HS.out;have h2:=HA.out;omega
 exact O0.out.trans o1 fun k hk=>.inr (qR O0.out.size hk)
theorem aaT{g:Tag}{τ B:Nat}{m:List ((Nat×Nat)×List Int)}{val:Nat×Nat->Value}(H:rD KE w g τ B m val)(hl:m.length<=1000000):Calls Tryz.prog 231 #[Ew w,.func (.func 233) #[] #[]] (w.alloc (.cells #[.map (some B)] 150)) fun e w'=> ∃v,e= .returned v/\w'.ownsRow 0 226 2 v ((keysOf m).mergeSort kP).length (kQ ((keysOf m).mergeSort kP))/\(∀k,v.ownBlock=some k->w.heap.size<=k)/\O0 w w':=by
 have HC:=zh (X6 H hl);obtain⟨w0,hw0⟩:=ze (w.alloc (.cells #[.map (some B)] 150));rw[hw0]at HC⊢;obtain⟨a,ha⟩:=ze w.heap.size;unfold Ew at HC⊢;rw[ha]at HC⊢;clear hw0;go_enter Tryz.func231,Tryz.ntmps231;go_wp2_with fail;refine HC.out.mono ?_;rintro e w1 ⟨v,ss,rfl,hp,hrow,hb,o1⟩;have e1:ss.mergeSort kP=(keysOf m).mergeSort kP:=(UY ((List.mergeSort_perm ss kP).trans hp) (by
  have tr:∀a b c:Nat×Nat,kP a b=true->kP b c=true->kP a c=true:=fun a b c=>by
   rw[jC,jC,jC,iF,iF,iF];omega
  have tot:∀a b:Nat×Nat,(kP a b||kP b a)=true:=fun a b=>by
   rw[Bool.or_eq_true,jC,jC,iF,iF];omega
  exact(List.pairwise_mergeSort tr tot ss).imp fun h=>(jC _ _).1 h))
 have hln:ss.length=m.length:=by rw[hp.length_eq];simp[keysOf]
 have hS:=afV hrow zAB;rw[e1]at hS;have e2:ss.length=((keysOf m).mergeSort kP).length:=by rw[<-e1,List.length_mergeSort]
 rw[e2]at hS;have HS:=zh hS;have HB:=zh hb;have HO:=zh o1;clear hp hrow hb o1 e1 e2 hln hS HC;go_wp2_with fail;refine HS.out.mono ?_;rintro e w2 ⟨rfl,r2,o2⟩;have R2:=zh r2;have O2:=zh o2;clear r2 o2 HS;go_wp2_with fail;go_ret;exact⟨_,rfl,R2.out,HB.out,HO.out.trans O2.out fun k hk=>.inr (by rw[ha];exact HB.out k hk)⟩
theorem agk(H:jl w gt gb gp X Bs D E)(hl:E.2.of.length<=65536):Calls Tryz.prog 162 #[.pointer (some ⟨X.px,0,none⟩)] w fun e w'=> ∃v,e= .returned v/\w'.ownsRow 0 226 2 v E.2.edges.length (kQ E.2.edges)/\(∀k,v.ownBlock=some k->w.heap.size<=k)/\O0 w w':=by obtain⟨val,hR⟩:=H.of;obtain⟨-,-,q2,-⟩:=H.cells;have HK:=zh (agj w X.m1);have HS:=zh (aaT hR zAB);have he:E.2.edges=(keysOf E.2.of).mergeSort kP:=rfl;rw[<-he]at HS;unfold Ew at HK HS;clear hR he H;go_enter Tryz.func162,Tryz.ntmps162;go_wp2_with fail;refine HK.out.mono ?_;rintro e w1 ⟨rfl,rfl⟩;go_wp2_with fail;refine HS.out.mono ?_;rintro e w2 ⟨v,rfl,r,b,o⟩;have R:=zh r;have B:=zh b;have O:=zh o;clear r b o HS HK;go_wp2_with fail;go_ret;exact⟨_,rfl,R.out,B.out,O.out⟩
theorem aee{b:Nat}{v1 v2 v3:Value}{x1 x2 x3:List Int}(hb:w.heap[b]? =some (.cells #[v1,v2,v3] 78 (0,0)))(h1:Ints w v1 x1)(h2:Ints w v2 x2)(h3:Ints w v3 x3)(hl:x1.length+x2.length+x3.length<=100000000):Calls Tryz.prog 166 #[.slice (some ⟨b,0,none⟩) 3 3] w fun e w'=> ∃v,e= .returned v/\w'.ownsRow 0 3 1 v (x1++(x2++x3)).length ((x1++(x2++x3)).map cI)/\(∀k,v.ownBlock=some k->w.heap.size<=k)/\O0 w w':=by
 have h:=aax (w:=w) (b:=b) (vs:=[v1,v2,v3]) (xs:=[x1,x2,x3]) hb rfl (fun i v x hv hx=>by
  rcases i with _|_|_|i
  ·simp at hv hx;subst hv hx;exact h1
  ·simp at hv hx;subst hv hx;exact h2
  ·simp at hv hx;subst hv hx;exact h3
  ·simp at hv) (by simp;omega) zAF (n:=3) rfl
 have e:[x1,x2,x3].flatten=x1++(x2++x3):=zAF;rw[e]at h;exact h
end
end Go.Proofs.YtdmmebjjojimiaaGreatDoor
