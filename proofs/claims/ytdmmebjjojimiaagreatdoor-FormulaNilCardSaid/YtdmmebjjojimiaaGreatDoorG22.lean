/- Package edge: right, add, node, rule, need.; Package edge: 'm[k] = append(m[k], v)' at the maps and rows of the part under way. -/
import Derived.Test.YtdmmebjjojimiaaGreatDoorG21
set_option maxRecDepth 100000
set_option maxHeartbeats 8000000
set_option linter.all false
namespace Go.Proofs
theorem zCK{p:Prop}(h:p:=by
 go_wp2_with fail
 refine HB.out.mono ?_
 rintro e w2 ⟨rfl,rfl⟩
 go_wp2_with fail
 refine HA.out.mono ?_
 rintro e w3 ⟨rfl,h3⟩
 have H3:=zh h3
 clear h3
 go_wp2_with fail
 go_end0
 exact⟨rfl,H3.out⟩):p:=h
theorem zCr{p:Prop}(h:p:=by
 go_wp2_with fail
 refine HN.out.mono ?_
 rintro e w1 ⟨rfl,h1⟩
 have H1:=zh h1
 clear h1
 go_wp2_with fail
 go_ret
 exact⟨rfl,H1.out⟩):p:=h
end Go.Proofs
namespace Go.Proofs.YtdmmebjjojimiaaGreatDoor
open Go.RowKit
section
variable {w w':World} {gt gb gp:Tag} {c bt bb:Nat} {G:BJ} {Bs:Nat} {D:rU} {S:TB} {X:G9} {E:ES}
theorem En{v:Value}{xs:List Int}(hI:Ints w v xs)(r:Bool)(hr:(!xs.contains 0)=r):Calls Tryz.prog 227 #[v] w fun e w'=>e= .returned (.bool r)/\w'=w:=by obtain⟨z,hz⟩:=ze (xs.contains 0);have HC:=zh (oZ hI 0 z hz);rw[hz]at hr;subst hr;obtain⟨ao,cap,rfl,-,-⟩:=hI.shape;obtain⟨n,hn⟩:=ze xs.length;rw[hn]at HC⊢;clear hI hz hn;go_enter Tryz.func227,Tryz.ntmps227;go_wp2_with fail;refine HC.out.mono ?_;rintro e w1 ⟨rfl,rfl⟩;exact zBd
theorem Uw(H:sD w gt gb c bt bb G Bs D S){v:Value}{xs:List Int}(hI:Ints w v xs)(hb:xs.length<=1000000):Calls Tryz.prog 163 #[.pointer (some ⟨c,0,none⟩),v] w fun e w'=>e= .returned (.tuple #[])/\aN w gt gb c bt bb G Bs D (S.aV xs) w':=by
 obtain⟨r,hr⟩:=ze (!xs.contains 0);have HR:=zh (En hI r hr);have HB:=zh (mX H.gr);have HA:Hid (Calls Tryz.prog 153 #[.pointer (some ⟨bb,0,none⟩),v] w fun e w'=>e= .returned (.tuple #[])/\aN w gt gb c bt bb G Bs D (S.1,S.2.add xs) w'):=
  (Ku H.gr hI zBB).mono fun e w' ⟨he,h⟩=>⟨he,H.step (S2:=(S.1,S.2.add xs)) h H.hinv⟩
 have H0:=zh H;have hS:S.aV xs=if r=true then (S.1,S.2.add xs)else S:=by unfold TB.aV;rw[<-hr];cases xs.contains 0<;>simp
 rw[hS];obtain⟨ao,cap,rfl,-,-⟩:=hI.shape;obtain⟨n,hn⟩:=ze xs.length;rw[hn]at HR HA⊢;clear hI hr hn H hb hS;go_enter Tryz.func163,Tryz.ntmps163;go_wp2_with fail;refine HR.out.mono ?_;rintro e w1 ⟨rfl,rfl⟩;cases r with
 |false=>go_wp2_with fail;go_end0;exact⟨rfl,aN.refl H0.out⟩
 |true=>exact zCK
theorem xP(H:sD w gt gb c bt bb G Bs D S){x:At}(hx:kC x)(z:Int)(hz:(S.num x).2=z):Calls Tryz.prog 75 #[.pointer (some ⟨c,0,none⟩),fH x] w fun e w'=>e= .returned (.int .i64 z)/\aN w gt gb c bt bb G Bs D (S.num x).1 w':=(Jd H.gr hx z hz).mono fun e w' ⟨he,h⟩=>⟨he,H.step (S2:=(S.num x).1) h (H.hinv.num x)⟩
theorem zI':aO 0:=⟨by decide,by decide⟩
theorem YA{p:Nat}(hp:aO (p:Int)):kC (aG p):=⟨by simp[aG],hp,zI',zI'⟩
theorem agW{p:Nat}(hp:aO (p:Int)):kC (eH p):=⟨by simp[eH],hp,zI',zI'⟩
theorem YB{p:Nat}(hp:aO (p:Int)):kC (eG p):=⟨by simp[eG],hp,zI',zI'⟩
theorem agX{p k:Nat}(hp:aO (p:Int))(hk:aO (k:Int)):kC (jJ p k):=⟨by simp[jJ],hp,hk,zI'⟩
theorem Ux{p k:Nat}(hp:aO (p:Int))(hk:aO (k:Int)):kC (gY p k):=⟨by simp[gY],hp,hk,zI'⟩
theorem adL{p k c:Nat}(hp:aO (p:Int))(hk:aO (k:Int))(hc:aO (c:Int)):kC (bM p k c):=⟨by simp[bM],hp,hk,hc⟩
theorem KX(H:sD w gt gb c bt bb G Bs D S){p:Nat}(hp:aO (p:Int))(z:Int)(hz:(S.num (aG p)).2=z):Calls Tryz.prog 164 #[.pointer (some ⟨c,0,none⟩),.int .i64 p] w fun e w'=>e= .returned (.int .i64 z)/\aN w gt gb c bt bb G Bs D (S.num (aG p)).1 w':=by have HN:=zh (xP H (YA hp) z hz);clear H hz;go_enter Tryz.func164,Tryz.ntmps164;exact zCr
theorem RG(H:gI w gt gb gp X Bs D E){r:Nat}(hr:aO (r:Int))(z:Int)(hz:(E.1.num (eH r)).2=z):Calls Tryz.prog 224 #[.pointer (some ⟨X.px,0,none⟩),.int .i64 r] w fun e w'=>e= .returned (.int .i64 z)/\aQ w gt gb gp X Bs D ((E.1.num (eH r)).1,E.2) w':=by
 have HN:Hid (Calls Tryz.prog 75 #[.pointer (some ⟨X.c,0,none⟩),fH (eH r)] w fun e w'=>e= .returned (.int .i64 z)/\aQ w gt gb gp X Bs D ((E.1.num (eH r)).1,E.2) w'):=
  (xP H.gx (agW hr) z hz).mono fun e w' ⟨he,h⟩=>⟨he,H.step h⟩
 obtain⟨q0,-,-,-,-⟩:=H.cells;clear H hz;go_enter Tryz.func224,Tryz.ntmps224;exact zCr
def ES.F6(E:ES)(names:List Str)(s:Str):TB:=if bP names s<0 then E.1 else (E.1.num (eG (bP names s).toNat)).1
def ES.Jy(E:ES)(names:List Str)(s:Str):Int:=if bP names s<0 then 0 else (E.1.num (eG (bP names s).toNat)).2
theorem y9(names:List Str)(s:Str):bP names s= -1\/ ∃k:Nat,bP names s=k/\k<names.length:=by
 rcases kR (fun t=>decide (t=s)) names with h| ⟨k,h,hk,-⟩;·exact .inl h
 exact .inr ⟨k,h,hk⟩
theorem YC(H:gI w gt gb gp X Bs D E)(hnl:D.names.length<=1000000)(s:Str)(i z:Int)(hi:bP D.names s=i)(hz:E.Jy D.names s=z):Calls Tryz.prog 226 #[.pointer (some ⟨X.px,0,none⟩),.string s] w fun e w'=>e= .returned (.tuple #[.int .i64 z,.int .i64 i])/\aQ w gt gb gp X Bs D (E.F6 D.names s,E.2) w':=by
 obtain⟨q0,q1,-,-,-⟩:=H.cells;have HI:=zh (OL (pI rfl H.names H.Yy) s);obtain⟨an,cn,en,-,-⟩:=aH H.names;have HX:Hid (∀W,O0 w W->gI W gt gb gp X Bs D E):=fun W ho=>H.aF ho;have hii:i= -1\/ ∃k:Nat,i=k/\k<D.names.length:=by rw[<-hi];exact y9 _ _
 have hi2:jk (fun t=>decide (t=s)) D.names=i:=hi;rw[hi2]at HI;rw[en]at q1 HI;obtain⟨S2,hS2⟩:=ze (E.F6 D.names s);rw[hS2];unfold ES.F6 at hS2;unfold ES.Jy at hz;rw[hi]at hz hS2;have HS2:=zh hS2;have HZ:=zh hz;clear H hi hi2 en hS2 hz;go_enter Tryz.func226,Tryz.ntmps226;go_wp2_with fail;refine HI.out.mono ?_;rintro e w1 ⟨rfl,O1⟩;have H1:=HX.out w1 O1;have bg:=zh O1;obtain⟨q0,-,-,-,-⟩:=H1.cells;rcases hii with rfl| ⟨k,rfl,hk⟩;·have hz:=HZ.out;have hS2:=HS2.out;rw[if_pos zBB]at hz hS2;subst hz hS2;have HE:Hid (aQ w gt gb gp X Bs D (E.1,E.2) w1):=aQ.after bg.out (aQ.refl H1);clear H1 O1 q0;go_wp2_with fail;go_ret2;exact⟨rfl,HE.out⟩
 have hz:=HZ.out;have hS2:=HS2.out;rw[if_neg zBB,yT]at hz hS2;have HN:Hid (Calls Tryz.prog 75 #[.pointer (some ⟨X.c,0,none⟩),fH (eG k)] w1 fun e w'=>e= .returned (.int .i64 z)/\aQ w gt gb gp X Bs D (S2,E.2) w'):=by rw[<-hS2];exact(xP H1.gx (YB ⟨by omega,by omega⟩) z hz).mono fun e w' ⟨he,h⟩=>⟨he,aQ.after bg.out (H1.step h)⟩
 clear H1 O1 hz hS2;go_wp2_with fail;refine HN.out.mono ?_;rintro e w2 ⟨rfl,h2⟩;have H2:=zh h2;clear h2;go_wp2_with fail;go_ret2;exact⟨rfl,H2.out⟩
end
end Go.Proofs.YtdmmebjjojimiaaGreatDoor
namespace Go.Proofs
theorem zCQ{p:Prop}(h:p:=by
 rcases h with h|h
 ·rw[h]at hk;exact ht hk.symm
 ·rw[h,hm1]at hk;exact ht hk.symm):p:=h
theorem zCR{p:Prop}(h:p:=by
 rcases yK k w9.heap.size with h|h
 ·exact h
 ·exact absurd ((hf5.more h3.size) k h) hm):p:=h
theorem zCp{p:Prop}(h:p:=by
 unfold Mine
 rcases hk with hk|hk
 ·rw[hk];simp
 ·rw[hk,hm1];simp):p:=h
end Go.Proofs
namespace Go.Proofs.YtdmmebjjojimiaaGreatDoor
open Go.RowKit
theorem YQ{P:Program}{w:World}{ops:Array Oper}{o:Oper}{a:Act}{K:Act->World->Prop}{Q:Exit->Act->World->Prop}{E:Prop}{t:TypeId}(hg:o.guard=none)(m x v:Operand)(hop:o.op=Op.mapUpdate t m x v){mv kv vv:Value}(hm:a.eval m=mv)(hx:a.eval x=kv)(hv:a.eval v=vv){w':World}(hr:(Instr.mapUpdate t mv kv vv).run P w= .ok () w')(hK:K (a.put o.dst undef) w'):if Region.wanted o (yielded ops a.tmps)=true then Oper.wp P o a w K Q else E:=by rw[if_pos (by simp[Region.wanted,hg])];unfold Oper.wp;simp[execOp,hop,hm,hx,hv,hr,Result.andThen];exact hK
section
variable {κ:Type} [DecidableEq κ] {t k:TypeId} {K:wS κ t k} {w w':World} {g:Tag} {τ B:Nat} {m:List (κ×List Int)} {val:κ->Value}
theorem lU.look'(h:lU K w g τ B m val){x:κ}(hx:K.ok x){F:Nat->Prop}(ho:Only F w w')(hF:¬F B):(Instr.lookup t (.map (some B)) (K.enc x) false).run Tryz.prog w'= .ok (val x) w':=by obtain⟨D,h1,h2,h3,h4⟩:=h.own;obtain⟨v,ps,hrun,hat⟩:=(uF h1 ho hF).lookup K.law K.und (Uu w') (zd:=.held bK) (zp:=[]) rfl (K.key x hx);exact zDB
end
section
variable {w w':World} {gt gb gp:Tag} {X:G9} {Bs:Nat} {D:rU} {E:ES}
theorem gI.Ld(H:gI w gt gb gp X Bs D E){e:Nat×Nat}(he:KE.ok e){z:Int}(hz:aO z)(hl:E.2.of.length<maxLen):∃(ix:Nat) (v:Value),Row w gp (1,ix+1) 3 v ((bT E.2.of e).map cI)/\(∀W,Only (fun k=>gp k=(1,ix+1)) w W->W.cell? ⟨X.px,2,none⟩=some (.map (some X.m1))/\(Instr.lookup 150 (.map (some X.m1)) (wU e) false).run Tryz.prog W= .ok v W)/\(∀wA w5 v',O0 w wA->Only (fun k=>gp k=(1,ix+1)) wA w5->Row w5 (Tag.put gp wA.heap.size w5.heap.size (1,ix+1)) (1,ix+1) 3 v' ((bT E.2.of e).map cI++[cI z])->∃w9,(Instr.mapUpdate 150 (.map (some X.m1)) (wU e) v').run Tryz.prog w5= .ok () w9/\aQ w gt gb gp X Bs D (E.1,{E.2 with of:=dH E.2.of e z}) w9):=by
 obtain⟨val,hR⟩:=H.of;obtain⟨us,hN⟩:=H.needs;obtain⟨v3,MP⟩:=H.roots;refine⟨kV E.2.of e,val e,hR.rowAt e,fun W hW=>⟨?_,?_⟩,fun wA w5 v' oA o5 hr=>?_⟩;·exact aK H.cells.2.2.1 hW (fun h=>H.tp (.inr (by unfold Mine;rw[h];simp)))
 ·exact hR.look' he hW (by rw[hR.tb];simp)
 have HA:=H.aF oA;have hRA:=hR.keep oA (fun _ _ f=>f) (Agree.refl _ _);have hA:Agree wA gp (Tag.put gp wA.heap.size w5.heap.size (1,kV E.2.of e+1)):=Agree.put _ _ (qH _);obtain⟨w9,h1,h2,h3⟩:=hRA.push he hA o5 hz hr hl;refine⟨w9,h1,aQ.after oA ?_⟩;have hm1:=hRA.tb;have Qs:Only (fun k=>gp k=(1,kV E.2.of e+1)\/k=X.m1) wA w9:=(o5.mono fun k hk=>.inl hk).same (h3.mono fun k hk=>.inr hk);have hT:∀{τ:Nat},τ≠1->∀k,(gp k).1=τ->¬(gp k=(1,kV E.2.of e+1)\/k=X.m1):=fun{τ} ht k hk h=>by exact zCQ
 have hf5:mg w5 (Tag.put gp wA.heap.size w5.heap.size (1,kV E.2.of e+1)):=mg.put _ HA.fresh o5.size;refine HA.Yz hA (Qs.mono fun k hk=>?_) (hf5.more h3.size) ⟨_,h2⟩ ⟨us,(hN.keep oA (fun _ _ f=>f) (Agree.refl _ _)).keep Qs (hT zBC) hA⟩ rfl ⟨v3,(MP.keep oA (fun _ _ f=>f) (Agree.refl _ _)).keep Qs (hT zAC) hA⟩ (fun k hk hm=>?_);·exact zCp
 exact zCR
theorem gI.CV(H:gI w gt gb gp X Bs D E){e:Nat}(he:KI.ok e){z:Int}(hz:aO z)(hl:E.2.roots.length<maxLen):∃(ix:Nat) (v:Value),Row w gp (3,ix+1) 3 v ((bT E.2.roots e).map cI)/\(∀W,Only (fun k=>gp k=(3,ix+1)) w W->W.cell? ⟨X.px,4,none⟩=some (.map (some X.m2))/\(Instr.lookup 151 (.map (some X.m2)) (.int .i64 (e:Int)) false).run Tryz.prog W= .ok v W)/\(∀wA w5 v',O0 w wA->Only (fun k=>gp k=(3,ix+1)) wA w5->Row w5 (Tag.put gp wA.heap.size w5.heap.size (3,ix+1)) (3,ix+1) 3 v' ((bT E.2.roots e).map cI++[cI z])->∃w9,(Instr.mapUpdate 151 (.map (some X.m2)) (.int .i64 (e:Int)) v').run Tryz.prog w5= .ok () w9/\aQ w gt gb gp X Bs D (E.1,{E.2 with roots:=dH E.2.roots e z}) w9):=by
 obtain⟨val,hR⟩:=H.of;obtain⟨us,hN⟩:=H.needs;obtain⟨v3,MP⟩:=H.roots;refine⟨kV E.2.roots e,v3 e,MP.rowAt e,fun W hW=>⟨?_,?_⟩,fun wA w5 v' oA o5 hr=>?_⟩;·exact aK H.cells.2.2.2.2 hW (fun h=>H.tp (.inr (by unfold Mine;rw[h];simp)))
 ·exact MP.look' he hW (by rw[MP.tb];simp)
 have HA:=H.aF oA;have hRA:=MP.keep oA (fun _ _ f=>f) (Agree.refl _ _);have hA:Agree wA gp (Tag.put gp wA.heap.size w5.heap.size (3,kV E.2.roots e+1)):=Agree.put _ _ (qH _);obtain⟨w9,h1,h2,h3⟩:=hRA.push he hA o5 hz hr hl;refine⟨w9,h1,aQ.after oA ?_⟩;have hm1:=hRA.tb;have Qs:Only (fun k=>gp k=(3,kV E.2.roots e+1)\/k=X.m2) wA w9:=(o5.mono fun k hk=>.inl hk).same (h3.mono fun k hk=>.inr hk);have hT:∀{τ:Nat},τ≠3->∀k,(gp k).1=τ->¬(gp k=(3,kV E.2.roots e+1)\/k=X.m2):=fun{τ} ht k hk h=>by exact zCQ
 have hf5:mg w5 (Tag.put gp wA.heap.size w5.heap.size (3,kV E.2.roots e+1)):=mg.put _ HA.fresh o5.size;refine HA.Yz hA (Qs.mono fun k hk=>?_) (hf5.more h3.size) ⟨val,(hR.keep oA (fun _ _ f=>f) (Agree.refl _ _)).keep Qs (hT zBC) hA⟩ ⟨us,(hN.keep oA (fun _ _ f=>f) (Agree.refl _ _)).keep Qs (hT zAC) hA⟩ rfl ⟨_,h2⟩ (fun k hk hm=>?_);·exact zCp
 exact zCR
theorem gI.pJ(H:gI w gt gb gp X Bs D E){n:Nat}(hn:n<D.names.length){z:Int}(hz:aO z):∃(b cap:Nat) (v:Value),X.sv= .slice (some ⟨b,0,none⟩) D.names.length cap/\Row w gp (2,n+1) 3 v ((E.2.needs.getD n []).map cI)/\(∀W,Only (fun k=>gp k=(2,n+1)) w W->W.cell? ⟨X.px,3,none⟩=some X.sv/\W.cell? ⟨b,n,none⟩=some v/\W.frozen? ⟨b,n,none⟩=false)/\(∀wA w5 v',O0 w wA->Only (fun k=>gp k=(2,n+1)) wA w5->Row w5 (Tag.put gp wA.heap.size w5.heap.size (2,n+1)) (2,n+1) 3 v' ((E.2.needs.getD n []).map cI++[cI z])->aQ w gt gb gp X Bs D (E.1,{E.2 with needs:=jK E.2.needs n z}) (w5.setCell ⟨b,n,none⟩ v')):=by
 obtain⟨val,hR⟩:=H.of;obtain⟨us,hN⟩:=H.needs;obtain⟨v3,MP⟩:=H.roots;have hnl:=H.D5;have Xr:us.length=D.names.length:=hN.len.trans hnl;obtain⟨b,cap,hsv,-,-,htb,-⟩:=hN.row.pos zBB;rw[Xr]at hsv;have hrow:=hN.row;rw[hsv]at hrow;have hn2:n<E.2.needs.length:=zBB;refine⟨b,cap,us.getD n bK,hsv,hN.rows n hn2,fun W hW=>⟨?_,?_,?_⟩,fun wA w5 v' oA o5 hr=>?_⟩;·exact aK H.cells.2.2.2.1 hW (fun h=>H.tp (.inr (by unfold Mine;rw[h];simp)))
 ·exact aK (hrow.cell bK zBB) hW (by rw[htb];simp)
 ·exact mQ (hrow.cell bK (by omega:n<us.length)) (hrow.free n) hW (by rw[htb];simp)
 have HA:=H.aF oA;have hA:Agree wA gp (Tag.put gp wA.heap.size w5.heap.size (2,n+1)):=Agree.put _ _ (qH _);have hNA:=hN.keep oA (fun _ _ f=>f) (Agree.refl _ _);rw[hsv]at hNA;obtain⟨h2,h3⟩:=hNA.push hn2 hA o5 hz hr;refine aQ.after oA ?_;obtain⟨w9,hw9⟩:=ze (w5.setCell ⟨b,n,none⟩ v');have h4:Only (fun k=>k=b) w5 w9:=by rw[<-hw9];exact Only.setCell (Only.refl (fun k=>k=b) w5) (p:=⟨b,n,none⟩) (.inl rfl) v'
 rw[hw9]at h2 h3⊢;have Qs:Only (fun k=>gp k=(2,n+1)\/k=b) wA w9:=(o5.mono fun k hk=>.inl hk).same (h4.mono fun k hk=>.inr hk);have hT:∀{τ:Nat},τ≠2->∀k,(gp k).1=τ->¬(gp k=(2,n+1)\/k=b):=fun{τ} ht k hk h=>by
  rcases h with h|h;·rw[h]at hk;exact ht hk.symm
  rw[h,htb]at hk;exact ht hk.symm
 have hf5:mg w5 (Tag.put gp wA.heap.size w5.heap.size (2,n+1)):=mg.put _ HA.fresh o5.size;refine HA.Yz hA (Qs.mono fun k hk=>?_) (hf5.more h3.size) ⟨val,(hR.keep oA (fun _ _ f=>f) (Agree.refl _ _)).keep Qs (hT zBC) hA⟩ ⟨_,by rw[hsv];exact h2⟩ (by unfold jK;simp) ⟨v3,(MP.keep oA (fun _ _ f=>f) (Agree.refl _ _)).keep Qs (hT zAC) hA⟩ (fun k hk hm=>?_)
 ·unfold Mine;rcases hk with hk|hk;·rw[hk];simp
  rw[hk,htb];simp
 exact zCR
end
end Go.Proofs.YtdmmebjjojimiaaGreatDoor
namespace Go.Proofs
theorem zBE{p:Prop}(h:p:=by repeat (first|exact qp.out|apply Row.drew|apply Row.alloc|apply Row.drewN)):p:=h
theorem zBT{p:Prop}(h:p:=by first| (simp only[qM,HN.out];rfl)|rfl):p:=h
theorem zBW{p:Prop}(h:p:=by simp only[qM];have:=HN.out;omega):p:=h
theorem zDy{p:Prop}(h:p:=by(try dsimp only)<;>(exact BI.out _ zBA)):p:=h
theorem zD3{p:Prop}(h:p:=by(try dsimp only)<;>(exact BI.out _ (Only.same zBA Ef))):p:=h
end Go.Proofs
namespace Go.Proofs.YtdmmebjjojimiaaGreatDoor
open Go.RowKit
structure oL (P:dR) (N:Nat):Prop where
 ofl:P.of.length<=N
 ofr:∀k,(bT P.of k).length<=N
 nr:∀i,(P.needs.getD i []).length<=N
 rol:P.roots.length<=N
 ror:∀k,(bT P.roots k).length<=N
theorem oL.mono{P:dR}{N N':Nat}(h:oL P N)(hN:N<=N'):oL P N':=⟨qR h.ofl hN,fun k=>qR (h.ofr k) hN,fun k=>qR (h.nr k) hN,qR h.rol hN,fun k=>qR (h.ror k) hN⟩
theorem vT{κ:Type}[DecidableEq κ]{m:List (κ×List Int)}{N:Nat}(h:∀k,(bT m k).length<=N)(x:κ)(z:Int)(k:κ):(bT (dH m x z) k).length<=N+1:=by
 by_cases e:k=x;·subst e;rw[uQ,qK];have:=h k;simp;omega
 rw[sW e];have:=h k;omega
theorem vU{κ:Type}[DecidableEq κ]{m:List (κ×List Int)}{N:Nat}(h:m.length<=N)(x:κ)(z:Int):(dH m x z).length<=N+1:=by rw[OH];split<;>omega
theorem oL.Ld{P:dR}{N:Nat}(h:oL P N)(e:Nat×Nat)(z:Int):oL {P with of:=dH P.of e z} (N+1):=⟨vU h.ofl e z,vT h.ofr e z,fun k=>Nat.le_succ_of_le (h.nr k),Nat.le_succ_of_le h.rol,fun k=>Nat.le_succ_of_le (h.ror k)⟩
theorem oL.CV{P:dR}{N:Nat}(h:oL P N)(e:Nat)(z:Int):oL {P with roots:=dH P.roots e z} (N+1):=⟨Nat.le_succ_of_le h.ofl,fun k=>Nat.le_succ_of_le (h.ofr k),fun k=>Nat.le_succ_of_le (h.nr k),vU h.rol e z,vT h.ror e z⟩
theorem oL.pJ{P:dR}{N:Nat}(h:oL P N)(n:Nat)(z:Int):oL {P with needs:=jK P.needs n z} (N+1):=
 ⟨Nat.le_succ_of_le h.ofl,fun k=>Nat.le_succ_of_le (h.ofr k),fun k=>by
  show((jK P.needs n z).getD k []).length<=N+1
  unfold jK
  by_cases e:k=n
  ·subst e
   by_cases hk:k<P.needs.length
   ·rw[qC,List.getElem?_set_self hk]
    show(P.needs.getD k []++[z]).length<=N+1
    rw[qK]
    exact Nat.succ_le_succ (h.nr k)
   ·rw[qC,List.getElem?_eq_none zAK];simp
  ·have:=h.nr k
   rw[qC]at this⊢
   rw[List.getElem?_set_ne (Ne.symm e)]
   omega,Nat.le_succ_of_le h.rol,fun k=>Nat.le_succ_of_le (h.ror k)⟩
section
variable {w w':World} {gt gb gp:Tag} {X:G9} {Bs:Nat} {D:rU} {E:ES}
theorem YR(H:gI w gt gb gp X Bs D E){p t:Nat}(hp:p<=1000000)(ht:t<=1000000){act:Int}(ha:aO act){N:Nat}(hP:oL E.2 N)(hN:N<=1000000)(z:Int)(hz:(E.goes p t act).2=z):Calls Tryz.prog 229 #[.pointer (some ⟨X.px,0,none⟩),.int .i64 p,.int .i64 t,.int .i64 act] w fun e w'=>e= .returned (.int .i64 z)/\aQ w gt gb gp X Bs D (E.goes p t act).1 w':=by
 have hpI:aO (p:Int):=⟨by omega,by omega⟩;have htI:aO (t:Int):=⟨by omega,by omega⟩;obtain⟨ix,v,hrow,hS,hpu⟩:=H.Ld (e:=(p,t)) ⟨hpI,htI⟩ ha (by have:=hP.ofl;unfold maxLen;omega);have hrl:=hP.ofr (p,t);obtain⟨xs,hxs⟩:=ze (bT E.2.of (p,t));rw[hxs]at hrow hrl hpu;obtain⟨ao,cap,rfl,-,-⟩:=hrow.shape;obtain⟨n,hn⟩:=ze xs.length;simp only[qM]at hrow hS;rw[hn]at hrow hrl hS;have BI:Hid (∀W,Only (fun k=>gp k=(1,ix+1)) w W->W.cell? ⟨X.px,2,none⟩=some (.map (some X.m1))/\(Instr.lookup 150 (.map (some X.m1)) (.agg #[.int .i64 (p:Int),.int .i64 (t:Int)]) false).run Tryz.prog W= .ok (.slice ao n cap) W):=hS;have qp:=zh hrow;have Xh:=zh hpu;have HN:=zh hn;have HAt:Hid (kC (gY p t)):=Ux hpI htI;have hS0:=BI.out w.drew (zr.drew);have HE:Hid (E.goes p t act=(((E.1.num (gY p t)).1,{E.2 with of:=dH E.2.of (p,t) act}),(E.1.num (gY p t)).2)):=rfl;rw[HE.out]at hz⊢;have HZ:Hid ((E.1.num (gY p t)).2=z):=hz;clear hrow hS hpu hxs hn H hP hpI htI hz HE;go_enter Tryz.func229,Tryz.ntmps229;go_wp2_with fail;refine aT (n:=19) (E:=fun j=>j==18) (S:=fun W=>W.cell? ⟨X.px,2,none⟩=some (.map (some X.m1))/\(Instr.lookup 150 (.map (some X.m1)) (.agg #[.int .i64 (p:Int),.int .i64 (t:Int)]) false).run Tryz.prog W= .ok (.slice ao n cap) W) zk rfl hS0 (fun hHeld=>?_);refine tW 0 ?_;refine tW 1 ?_;refine tW 2 ?_;refine tK 3 ?_;refine tW 4 ?_;refine tW 5 ?_;refine tW 6 ?_;refine tW 7 ?_;refine tW 8 ?_;refine tW 9 ?_;refine tK 10 ?_;refine tW 11 ?_;refine tW 12 ?_;refine tW 13 ?_;refine tK 14 ?_;refine tW 15 ?_;refine tO 16 fun K hK=>?_;go_simp;refine hK.out _ _ ?_ (fun hHeld=>?_);·exact zDy
 clear hK K;try simp only[Act.put,dL,dQ,dM,dN,dO,dP]
 refine tO 17 fun K hK=>?_;(refine Row.step (u:=.int .i64 act) kF (by rfl) (.tmp 23) (.tmp 25) (by rfl) zBT (by rfl) zBN rfl zBE zBW zAC ?_;intro bb5 cap5 w5 NI Ef);refine hK.out _ _ ?_ (fun hHeld=>?_);·exact zD3
 clear hK K;try simp only[Act.put,dL,dQ,dM,dN,dO,dP]
 refine eY (rs:=[18]) zk zAE ?_;refine bD.late (i:=18) rfl zk (fun K hK=>?_) ?_
 ·(obtain⟨w9,DI,AB⟩:=Xh.out _ w5 _ zBA Ef NI;refine YQ (by rfl) (.tmp 12) (.tmp 15) (.tmp 26) (by rfl) (by rfl) (by rfl) (by rfl) DI ?_);refine hK.out _ _ ?_;clear hK K;try simp only[Act.put,dL,dQ,dM,dN,dO,dP]
  refine aS zk ?_ _;have YS:=zh AB;clear AB DI NI Ef;obtain⟨gt9,gb9,gp9,H9,A1,A2,A3,O9⟩:=YS.out;obtain⟨q0,-,-,-,-⟩:=H9.cells;have pq:Hid (Calls Tryz.prog 75 #[.pointer (some ⟨X.c,0,none⟩),fH (gY p t)] w9 fun e w'=>e= .returned (.int .i64 z)/\aQ w gt gb gp X Bs D ((E.1.num (gY p t)).1,{E.2 with of:=dH E.2.of (p,t) act}) w'):=
   (xP H9.gx HAt.out z HZ.out).mono fun e w' ⟨he,h⟩=>⟨he,aQ.trans A1 A2 A3 O9 (H9.step h)⟩
  clear H9 A1 A2 A3 O9 YS;go_wp2_with fail;refine pq.out.mono ?_;rintro e w10 ⟨rfl,h10⟩;have Xi:=zh h10;clear h10 pq;go_wp2_with fail;go_ret;exact⟨rfl,Xi.out⟩
 exact bD.nil
end
end Go.Proofs.YtdmmebjjojimiaaGreatDoor
namespace Go.Proofs
theorem zAX{p:Prop}(h:p:=by exact qL _ _):p:=h
theorem zB2{p:Prop}(h:p:=by
 go_wp2_with fail
 go_roundw
 case rel=>exact⟨i+1,by first|rfl|go_num,by omega,HF⟩
 case measure=>simp[RowKit.intOf]<;>omega):p:=h
end Go.Proofs
namespace Go.Proofs.YtdmmebjjojimiaaGreatDoor
open Go.RowKit
section
variable {w wr:World} {g:Tag} {b:Nat} {V:Nu} {B:jf}
def CU(w:World)(g:Tag)(b:Nat)(B:jf)(wr:World)(v:Value)(xs:List Int):Prop:=
 ∃g' V',iE wr g' b V' B/\Agree w g g'/\Only (Mine g) w wr/\wr.ownsRow 0 3 1 v xs.length (xs.map cI)/\∀k,v.ownBlock=some k->¬Mine g' k/\w.heap.size<=k
theorem CU.G8{v:Value}{xs:List Int}(h:CU w g b B wr v xs):dV w g b B wr:=by obtain⟨g',V',H,A,O,-,-⟩:=h;exact⟨g',V',H,A,O⟩
theorem CU.add{v:Value}{xs:List Int}{g':Tag}{V':Nu}(H:iE wr g' b V' B)(A:Agree w g g')(O:Only (Mine g) w wr)(R:wr.ownsRow 0 3 1 v xs.length (xs.map cI))(N:∀k,v.ownBlock=some k->¬Mine g' k/\w.heap.size<=k){B2:jf}{w2 w3:World}(o:O0 wr w2)(h2:dV w2 g' b B2 w3):CU w g b B2 w3 v xs:=by obtain⟨g2,V2,H2,A2,O2⟩:=dV.after o h2;refine⟨g2,V2,H2,A.trans A2 O.size,O.mine A O2,aB R O2 (fun k hk=>(N k hk).1),fun k hk=>⟨?_,(N k hk).2⟩⟩;have hlt:=dn R hk;have:=(N k hk).1;unfold Mine at this⊢;rwa[A2 k hlt]
theorem CU.app{v v':Value}{xs:List Int}(h:CU w g b B wr v xs){w3 w4:World}(o3:O0 wr w3){z:Int}(r:w4.ownsRow 0 3 1 v' (xs.length+1) (xs.map cI++[cI z]))(o:Only (fun k=>v.ownBlock=some k) w3 w4)(a:vg w3 v v' (xs.length+1)):CU w g b B w4 v' (xs++[z]):=by
 obtain⟨g',V',H,A,O,R,N⟩:=h;have o4:Only (fun k=>v.ownBlock=some k) wr w4:=(o3.mono fun _ f=>f.elim).same o;refine⟨g',V',H.only o4 (fun k hk hv=>(N k hv).1 hk),A,O.trans o4 fun k hk=>.inr (N k hk).2,by simpa using r,fun k hk=>?_⟩;obtain⟨gg,cap,rfl,-,-,hg⟩:=a;simp[Value.ownBlock]at hk;subst hk;rcases hg with hg|hg;·exact N gg hg
 have h3:=o3.size;have h4:=O.size;exact⟨by unfold Mine;rw[H.fresh gg zBB];simp,by omega⟩
theorem aa4(H:iE w g b V B){v:Value}{xs:List Int}(hI:Ints w v xs)(hN:rF g v xs)(x:Int)(hx: -1000000<=x/\x<=1000000)(hs:∀z∈xs,-1000000<=z/\z<=1000000)(hl:xs.length<=1000000):Calls Tryz.prog 360 #[.pointer (some ⟨b,0,none⟩),.int .i64 x,v] w fun e w'=>e= .returned (.tuple #[])/\dV w g b (B.adds (DY x xs)) w':=by
 obtain⟨ao,cap,rfl,hc1,hc2⟩:=hI.shape;obtain⟨n,hn⟩:=ze xs.length;have HN:=zh hn;rw[hn]at hc1 hl hI hN⊢;have HI:=zh hI;have Kt:=zh hN;have HS:=zh hs;have H0:=zh H;have ewx:=zw (-x);have rM:Hid (∀W,O0 w W->∀ad,ao=some ad->∀j u,(xs.map cI)[j]? =some u->W.cell? (ad.add j)=some u):=fun W hW=>(HI.out.aF hW).news;have Ai:Hid (ao=none->n=0/\cap=0):=fun e=>HI.out.nil n cap (by rw[e]);have HLen:Hid ((xs.map cI).length=n):=by rw[qM,HN.out];exact rfl
 have lQ:Hid (∀W v2,O0 w W->W.ownsRow 0 3 1 v2 (1+n) ([cI (-x)]++xs.map cI)->Calls Tryz.prog 153 #[.pointer (some ⟨b,0,none⟩),v2] W fun e w'=>e= .returned (.tuple #[])/\dV w g b (B.add (-x::xs)) w'):=fun W v2 hW hown=>by
  have hI2:Ints W v2 (-x::xs):=by
   refine Ints.dF ?_ fun z hz=>?_
   ·have e1:1+n=(-x::xs).length:=by rw[qN,HN.out];omega
    rw[e1]at hown;simpa using hown
   exact zDm
  exact(wG (H0.out.aF hW) hI2 (by rw[qN,HN.out];omega)).mono fun e w' ⟨he,h⟩=>⟨he,dV.after hW h⟩
 clear hI hN hs hn H;go_enter Tryz.func360,Tryz.ntmps360;go_wp2_with (at_builtin;go_must (refine agb kF (v:=.slice (some ⟨w.heap.size,0,none⟩) 1 1) (n:=1) (xs:=[cI (-x)]) (ao:=ao) (m:=n) (c:=cap) (news:=xs.map cI) rfl (.tmp 11) (.tmp 12) rfl rfl (nT zBY) rfl HLen.out Ai.out (rM.out _ (zr.alloc _)) (MV _) zBB zBC ?_));intro v2 w2 r2 o2 n2;have O2:O0 w w2:=Only.trans (zr.alloc _) o2 (fun k hk=>.inr (by simp[Value.ownBlock]at hk;omega));have HA2:=zh (lQ.out w2 v2 O2 r2);obtain⟨a2,c2,rfl,-,-⟩:=aH r2;clear r2 o2 n2 O2 ewx;go_wp2_with fail;refine HA2.out.mono ?_;rintro e w3 ⟨rfl,h3⟩;have H3:Hid (dV w g b ((B.add (-x::xs)).adds ((xs.map fun y=>[-y,x]).take 0)) w3):=h3;clear h3 HA2 rM Ai HLen lQ;go_wp2_with fail;go_loopw [17] (fun vi wr=> ∃i:Nat,vi= .int .i64 i/\i<=n/\Hid (dV w g b ((B.add (-x::xs)).adds ((xs.map fun y=>[-y,x]).take i)) wr)) (fun v _=>n-(RowKit.intOf v).toNat);case atStart=>exact⟨0,rfl,qE _,H3⟩
 case round=>
  clear H3;obtain⟨i,rfl,hi,HR⟩:=hrel;by_cases ci:i<n
  ·obtain⟨g1,V1,H1,A1,O1⟩:=HR.out;have hI1:=HI.out.mine Kt.out O1;have hi2:i<xs.length:=zAS;obtain⟨bb,off,rfl,hcell⟩:=hI1.Ah hi2;obtain⟨y,hy⟩:=ze (xs.getD i 0);have hyb:=HS.out y (by rw[<-hy];exact jP 0 hi2);rw[hy]at hcell;have jg:=zw (i+1);have ewy:=zw (-y);have hpk:(xs.map fun y=>[-y,x]).take (i+1)=(xs.map fun y=>[-y,x]).take i++[[-y,x]]:=by
    rw[yL (by simpa using hi2),List.getElem_map];have hk2:xs[i]'hi2=y:=by rw[<-hy,qC,qA hi2];rfl
    rw[hk2]
   have HAdd:=zh (wG (H1.aF ((Only.refl (fun _=>False) wr).alloc (.cells #[.int .i64 (-y),.int .i64 x] 3))) (rC wr (-y) x ⟨by omega,by omega⟩ ⟨by omega,by omega⟩) zAE);have HFin:Hid (∀w',dV (wr.alloc (.cells #[.int .i64 (-y),.int .i64 x] 3)) g1 b (((B.add (-x::xs)).adds ((xs.map fun y=>[-y,x]).take i)).add [-y,x]) w'->dV w g b ((B.add (-x::xs)).adds ((xs.map fun y=>[-y,x]).take (i+1))) w'):=fun w' h=>by exact zDY
   have Eo:=zh jg;clear hpk hy H1 A1 O1 jg hI1;go_wp2_with fail;refine HAdd.out.mono ?_;rintro e w4 ⟨rfl,h4⟩;have HF:=zh (HFin.out w4 h4);have jg:=Eo.out;clear h4 ewy;exact zB2
  obtain rfl:n=i:=by omega
  go_wp2_with fail;go_end0;refine⟨rfl,?_⟩;have:=HR.out;rw[qI zA6]at this;exact this
theorem aa5(H:iE w g b V B){v:Value}{xs:List Int}(hI:Ints w v xs)(hN:rF g v xs)(x:Int)(hx: -1000000<=x/\x<=1000000)(hs:∀z∈xs,-1000000<=z/\z<=1000000)(hl:xs.length<=1000000):Calls Tryz.prog 228 #[.pointer (some ⟨b,0,none⟩),.int .i64 x,v] w fun e w'=>e= .returned (.tuple #[])/\dV w g b (B.adds (kL x xs)) w':=by
 obtain⟨ao,cap,rfl,hc1,hc2⟩:=hI.shape;obtain⟨n,hn⟩:=ze xs.length;have HN:=zh hn;rw[hn]at hc1 hl hI hN⊢;have HI:=zh hI;have Kt:=zh hN;have HS:=zh hs;have ewx:=zw (-x);have HW0:Hid (CU w g b (B.adds ((xs.map fun y=>[-x,y]).take 0)) (w.alloc (.cells #[.int .i64 x] 3)) (.slice (some ⟨w.heap.size,0,none⟩) 1 1) (x::(xs.take 0).map fun y=> -y)):=
  ⟨g,V,H.aF (zr.alloc _),Agree.refl _ _,zr.alloc _,nT zAX,fun k hk=>by
   simp[Value.ownBlock]at hk
   subst hk
   exact⟨by unfold Mine;rw[H.fresh _ (qH _)];simp,qH _⟩⟩
 clear hI hN hs hn H;go_enter Tryz.func228,Tryz.ntmps228;go_wp2_with fail;go_loopw [6,13] (fun v6 vi wr=> ∃i:Nat,vi= .int .i64 i/\i<=n/\Hid (CU w g b (B.adds ((xs.map fun y=>[-x,y]).take i)) wr v6 (x::(xs.take i).map fun y=> -y))) (fun _ v _=>n-(RowKit.intOf v).toNat);case atStart=>exact⟨0,rfl,qE _,HW0⟩
 case round=>
  clear HW0;obtain⟨i,rfl,hi,HR⟩:=hrel;by_cases ci:i<n
  ·obtain⟨g1,V1,H1,A1,O1,R1,N1⟩:=HR.out;have hI1:=HI.out.mine Kt.out O1;have hi2:i<xs.length:=zAS;obtain⟨bb,off,rfl,hcell⟩:=hI1.Ah hi2;obtain⟨y,hy⟩:=ze (xs.getD i 0);have hyb:=HS.out y (by rw[<-hy];exact jP 0 hi2);rw[hy]at hcell;have hk2:xs[i]'hi2=y:=by rw[<-hy,qC,qA hi2];rfl
   have jg:=zw (i+1);have ewy:=zw (-y);have hpk:(xs.map fun y=>[-x,y]).take (i+1)=(xs.map fun y=>[-x,y]).take i++[[-x,y]]:=by rw[yL (by simpa using hi2),List.getElem_map,hk2]
   obtain⟨m,hm⟩:∃m,(x::(xs.take i).map fun y=> -y).length=m:=⟨_,rfl⟩;have hmi:m=i+1:=by rw[<-hm];simp;omega
   have agY:Hid (x::(xs.take (i+1)).map (fun y=> -y)=(x::(xs.take i).map fun y=> -y)++[-y]):=by show _=_;rw[yL hi2,hk2,List.map_append];rfl
   obtain⟨L,hL⟩:∃L,(x::(xs.take i).map fun y=> -y)=L:=⟨_,rfl⟩;rw[hL]at R1 agY HR hm;have HAdd:=zh (wG (H1.aF ((Only.refl (fun _=>False) wr).alloc (.cells #[.int .i64 (-x),.int .i64 y] 3))) (rC wr (-x) y ⟨by omega,by omega⟩ ⟨by omega,by omega⟩) zAE);have HFin:Hid (∀w',dV (wr.alloc (.cells #[.int .i64 (-x),.int .i64 y] 3)) g1 b ((B.adds ((xs.map fun y=>[-x,y]).take i)).add [-x,y]) w'->CU w g b (B.adds ((xs.map fun y=>[-x,y]).take (i+1))) w' u6 L):=fun w' h=>by rw[hpk,jf.qg,jf.vH];exact CU.add H1 A1 O1 R1 N1 ((Only.refl _ wr).alloc _) h
   have Eo:=zh jg;have sF:=zh ewy;obtain⟨au,cu,hu,-,-⟩:=aH R1;subst hu;have HM:=zh hm;clear hpk hy H1 A1 O1 jg ewy hI1 R1 N1 hL hk2 hm;go_wp2_with fail;refine HAdd.out.mono ?_;rintro e w4 ⟨rfl,h4⟩;have HF:=zh (HFin.out w4 h4);have ewy:=sF.out;have hown:w4.ownsRow 0 3 1 (.slice au L.length cu) L.length (L.map cI):=by obtain⟨_,_,_,_,_,R,_⟩:=HF.out;exact R
   have l9:=zh hown;clear h4 HAdd HFin hown HR;go_wp2_with (at_builtin;go_must (refine zJ (u:=.int .i64 (-y)) kF rfl (.tmp 23) (.tmp 26) rfl rfl rfl (cell_new0 _ _ _) rfl (aB l9.out ((Only.refl (fun _=>False) _).alloc _) (fun _ _ f=>f)) (by have:=HM.out;omega) zAC ?_));intro v' w6 s1 s2 s3;have xG:Hid (CU w g b (B.adds ((xs.map fun y=>[-x,y]).take (i+1))) w6 v' (x::(xs.take (i+1)).map fun y=> -y)):=by rw[agY.out];exact CU.app HF.out ((Only.refl (fun _=>False) w4).alloc _) s1 s2 s3
   obtain⟨g6,c6',rfl,-,-,-⟩:=s3;have jg:=Eo.out;clear s1 s2 l9 HF ewy;go_wp2_with fail;go_roundw;case rel=>exact⟨i+1,by first|rfl|go_num,by omega,xG⟩
   case measure=>simp[RowKit.intOf]<;>omega
  obtain rfl:n=i:=by omega
  obtain⟨g1,V1,H1,A1,O1,R1,N1⟩:=HR.out;have hI6:Ints wr u6 (x::(xs.take n).map fun y=> -y):=Ints.dF R1 fun z hz=>by
   rcases qY.1 hz with rfl|hz;·exact zCC
   obtain⟨y,hy,rfl⟩:=yD.1 hz;have:=HS.out y (List.mem_of_mem_take hy);exact zCC
  have HAdd:=zh (wG H1 hI6 zAK);have HFin:Hid (∀w',dV wr g1 b ((B.adds ((xs.map fun y=>[-x,y]).take n)).add (x::(xs.take n).map fun y=> -y)) w'->dV w g b (B.adds (kL x xs)) w'):=fun w' h=>by
   have e1:B.adds (kL x xs)=(B.adds ((xs.map fun y=>[-x,y]).take n)).add (x::(xs.take n).map fun y=> -y):=by rw[qI zA6,qI (by rw[HN.out];exact qH _)];unfold kL;rw[jf.qg,jf.vH]
   rw[e1];exact dV.trans A1 O1 h
  obtain⟨au,cu,hu,-,-⟩:=aH R1;subst hu;obtain⟨m,hm⟩:∃m,(x::(xs.take n).map fun y=> -y).length=m:=⟨_,rfl⟩;rw[hm]at HAdd⊢;clear R1 N1 H1 A1 O1 hI6 HR hm;go_wp2_with fail;refine HAdd.out.mono ?_;rintro e w4 ⟨rfl,h4⟩;have HF:=zh (HFin.out w4 h4);clear h4;go_wp2_with fail;go_end0;exact⟨rfl,HF.out⟩
end
end Go.Proofs.YtdmmebjjojimiaaGreatDoor
