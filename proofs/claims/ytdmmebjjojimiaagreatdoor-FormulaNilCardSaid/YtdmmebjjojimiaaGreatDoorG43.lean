/- Package edge, plain: which atoms the second part asks for. No program in sight.; Law 14: which atoms of a ground's table are so, helps too. Printed by gen_so4.py. -/
import Derived.Test.YtdmmebjjojimiaaGreatDoorG42
import Derived.Test.YtdmmebjjojimiaaGreatDoorG39
set_option maxRecDepth 100000
set_option maxHeartbeats 8000000
set_option linter.all false
namespace Go.Proofs.YtdmmebjjojimiaaGreatDoor
open Go.RowKit
def gy(P:At->Prop)(T:Tab):Prop:= ∀a∈T.l,P a
section
variable {P:At->Prop}
theorem gy.num{T:Tab}(h:gy P T){a:At}(ha:P a):gy P (T.num a).1:=by
 unfold Tab.num;split;·exact h
 split;·exact h
 intro b hb;rcases qW.1 hb with hb|hb;·exact h b hb
 simp at hb;rw[hb];exact ha
theorem gy.nums:∀(l:List At) {T:Tab},gy P T->(∀a∈l,P a)->gy P (T.nums l).1
 | [],_,h,_=>h
 |a::r,T,h,ha=>gy.nums r (h.num (ha a qQ)) fun b hb=>ha b (yE _ hb)
theorem gy.aV{S:TB}(h:gy P S.1)(l:List Int):gy P (S.aV l).1:=by unfold TB.aV;split<;>exact h
theorem gy.help{S:TB}(h:gy P S.1)(hh:∀j:Nat,P (hA j)):gy P S.help.1.1:=gy.num (T:={S.1 with helps:=nX S.1}) h (hh _)
theorem gy.set{S:TB}(h:gy P S.1)(hh:∀j:Nat,P (hA j)){p:Nat}{aP:List jY}(hr:∀i,i<aP.length->P (iZ p i))(l:List iD):gy P (S.set p aP l).1.1:=by
 have h1:gy P (S.nums (mJ p aP l)).1.1:=gy.nums _ h fun a ha=>by unfold mJ at ha;obtain⟨i,hi,rfl⟩:=yD.1 ha;exact hr i (yI.1 (List.mem_filter.1 hi).1)
 have h2:=h1.help hh;unfold TB.set;dsimp only;split<;>exact h2
theorem abW{vars:List fE}{s:jv}{j:Nat}(h:Oz vars s=some j):j<vars.length/\(jk (fun t=>decide (t=s.value)) (vars.getD j default).values).toNat<=(vars.getD j default).values.length:=by
 unfold Oz at h;refine⟨yI.1 (List.mem_of_find?_eq_some h),?_⟩;rcases kR (fun t=>decide (t=s.value)) (vars.getD j default).values with h| ⟨k,h,hk,-⟩;·rw[h];exact qE _
 rw[h];omega
theorem gy.value{S:TB}(h:gy P S.1){p:Nat}{vars:List fE}(hv:∀j k,j<vars.length->k<=(vars.getD j default).values.length->P (jI p j k))(s:jv):gy P (S.value p vars s).1.1:=by
 unfold TB.value;split;·exact h
 rename_i j hj;obtain⟨h1,h2⟩:=abW hj;exact h.num (hv j _ h1 h2)
theorem gy.values{p:Nat}{vars:List fE}(hv:∀j k,j<vars.length->k<=(vars.getD j default).values.length->P (jI p j k)):∀(l:List jv) {S:TB},gy P S.1->gy P (S.values p vars l).1.1
 | [],_,h=>h
 |s::r,S,h=>gy.values hv r (h.value hv s)
theorem aC.Dn{x:aC}{s:Str}{t:Nat}(h:t∈x.bZ s):t<x.packs.length:=by unfold aC.bZ aC.jH at h;exact yI.1 (List.mem_filter.1 h).1
structure Z4 (P:At->Prop) (x:aC) (l:List Nat):Prop where
 lt:∀p∈l,p<x.packs.length
 help:∀j:Nat,P (hA j)
 node:∀p,p<x.packs.length->P (aG p)
 rel:∀p i,p<x.packs.length->i<(x.pack p).aP.length->P (iZ p i)
 val:∀p j k,p<x.packs.length->j<(x.pack p).vars.length->k<=((x.pack p).vars.getD j default).values.length->P (jI p j k)
 act:∀p k,p<x.packs.length->k<=1000000->P (jJ p k)
 edg:∀p t,p<x.packs.length->t<x.packs.length->P (gY p t)
 meet:∀p r c,p<x.packs.length->r<=1000000->c<=1->P (bM p r c)
 need:∀m,m<=1000000->P (eG m)
 rul:∀r,r<=1000000->P (eH r)
variable {x:aC} {l:List Nat}
theorem gy.meet(W:Z4 P x l){S:TB}(h:gy P S.1)(p:Nat){r c:Nat}(hr:r<=1000000)(hc:c<=1)(s:fQ):gy P (S.meet x l p r c s).1.1:=by
 unfold TB.meet;by_cases h1:p∉l;·rw[if_pos h1];exact h
 rw[if_neg h1];have hp:=W.lt p (Classical.not_not.1 h1);by_cases h2:bM p r c∈S.1.l;·rw[if_pos h2];exact h
 rw[if_neg h2];dsimp only;have hN:gy P (S.num (bM p r c)).1.1:=h.num (W.meet p r c hp hr hc);have hD:gy P ((S.num (bM p r c)).1.num (aG p)).1.1:=hN.num (W.node p hp);generalize ((S.num (bM p r c)).1.num (aG p))=D at hD⊢;have hE:gy P (if dI s.spans=true then ((D.1,[D.2]):TB×List Int)else ((D.1.set p (x.pack p).aP s.spans).1,[D.2,(D.1.set p (x.pack p).aP s.spans).2])).1.1:=by
  by_cases hc:dI s.spans=true;·rw[if_pos hc];exact hD
  rw[if_neg hc];exact hD.set W.help (fun i hi=>W.rel p i hp hi) _
 generalize (if dI s.spans=true then ((D.1,[D.2]):TB×List Int)else ((D.1.set p (x.pack p).aP s.spans).1,[D.2,(D.1.set p (x.pack p).aP s.spans).2]))=E at hE⊢;have hV:=gy.values (fun j k hj hk=>W.val p j k hp hj hk) s.sets hE;by_cases hc:0<(S.num (bM p r c)).2/\(E.2++(E.1.values p (x.pack p).vars s.sets).2).contains 0=false;·rw[if_pos hc];exact hV
 rw[if_neg hc];exact hV
theorem JX{names:List Str}(hn:names.length<=1000000)(s:Str):(bP names s).toNat<=1000000:=by
 unfold bP;rcases kR (fun t=>decide (t=s)) names with h| ⟨k,h,hk,-⟩;·rw[h];decide
 rw[h];omega
theorem gy.root(W:Z4 P x l){E:ES}(h:gy P E.1.1){names:List Str}(hn:names.length<=1000000){r:Nat}(hr:r<=1000000)(s:fQ):gy P (E.root x l names r s).1.1:=by
 have h0:gy P (E.1.num (eH r)).1.1:=h.num (W.rul r hr);unfold ES.root;dsimp only;by_cases h1:0<=x.find s.name;·rw[if_pos h1];exact(h0.meet W _ hr zBB s).aV _
 rw[if_neg h1];by_cases h2:bP names s.name<0;·rw[if_pos h2];exact h0.aV _
 rw[if_neg h2];exact gy.aV (S:=((E.1.num (eH r)).1.num (eG (bP names s.name).toNat)).1) (h0.num (W.need _ (JX hn _))) _
theorem gy.oJ{β:Type}(f:ES->β->ES):∀(l:List β) {E:ES},(∀E,∀b∈l,gy P E.1.1->gy P (f E b).1.1)->gy P E.1.1->gy P (l.foldl f E).1.1
 | [],_,_,h=>h
 |b::r,E,hf,h=>gy.oJ f r (fun E c hc=>hf E c (yE _ hc)) (hf E b qQ h)
theorem gy.fO{β:Type}(f:TB->β->TB):∀(l:List β) {S:TB},(∀S,∀b∈l,gy P S.1->gy P (f S b).1)->gy P S.1->gy P (l.foldl f S).1
 | [],_,_,h=>h
 |b::r,S,hf,h=>gy.fO f r (fun S c hc=>hf S c (yE _ hc)) (hf S b qQ h)
theorem gy.depend(W:Z4 P x l){E:ES}(h:gy P E.1.1){names:List Str}(hn:names.length<=1000000){r p k:Nat}(hr:r<=1000000)(hp:p<x.packs.length)(hk:k<=1000000)(d:oO):gy P (E.depend x l names r p k d).1.1:=by
 unfold ES.depend;dsimp only;have hA:gy P (E.1.num (jJ p k)).1.1:=h.num (W.act p k hp hk);have hR:gy P ((E.1.num (jJ p k)).1.num (eH r)).1.1:=hA.num (W.rul r hr);have hW:=hR.meet W p hr (by omega:0<=1) d.cond;generalize ((E.1.num (jJ p k)).1.num (eH r)).1.meet x l p r 0 d.cond=V at hW⊢;generalize ((E.1.num (jJ p k)).1.num (eH r)).2=R;generalize (E.1.num (jJ p k)).2=A;have hS:gy P (if [A,R,V.2].contains 0=true then V.1 else ((V.1.1,V.1.2.adds (kL A [R,V.2])):TB)).1:=by
  by_cases hc:[A,R,V.2].contains 0=true;·rw[if_pos hc];exact hW
  rw[if_neg hc];exact hW
 generalize (if [A,R,V.2].contains 0=true then V.1 else ((V.1.1,V.1.2.adds (kL A [R,V.2])):TB))=S at hS⊢;have hg:∀(E:ES) (t:Nat),t<x.packs.length->gy P E.1.1->gy P (E.goes p t A).1.1.1:=fun E t ht hE=>gy.num hE (W.edg p t hp ht);by_cases h1:0<=x.find d.on.name;·rw[if_pos h1];exact(hg (_,E.2) _ (by have:=x.rG d.on.name;omega) ((hS.meet W _ hr zBB d.on).aV _)).aV _
 rw[if_neg h1];by_cases h2:bP names d.on.name<0;·rw[if_pos h2];exact hS.aV _
 rw[if_neg h2];have hN:gy P (S.num (eG (bP names d.on.name).toNat)).1.1:=hS.num (W.need _ (JX hn _));exact gy.oJ _ _ (fun E b hb hE=>(hg ((E.1.num (aG b)).1,E.2) b (aC.Dn hb) (gy.num hE (W.node b (aC.Dn hb)))).aV _) (hN.aV _)
theorem gy.conflict(W:Z4 P x l){E:ES}(h:gy P E.1.1){r:Nat}(hr:r<=1000000)(p:Nat)(c:uh):gy P (E.conflict x l r p c).1.1:=by
 unfold ES.conflict;dsimp only;have hR:gy P (E.1.num (eH r)).1.1:=h.num (W.rul r hr);have hW:=hR.meet W p hr (by omega:0<=1) c.cond;by_cases h1:c.with'.name=ByteArray.empty;·rw[if_pos h1];exact hW.aV _
 rw[if_neg h1];by_cases h2:0<=x.find c.with'.name/\(x.find c.with'.name).toNat∈l;·rw[if_pos h2];exact(hW.meet W _ hr zBB c.with').aV _
 rw[if_neg h2];exact hW
def G6(x:aC)(y:bG):Prop:=y.kind=2->y.pack.toNat<x.packs.length/\y.idx.toNat<=1000000
theorem gy.rule(W:Z4 P x l){E:ES}(h:gy P E.1.1)(q:dG){names:List Str}(hn:names.length<=1000000){r:Nat}(hr:r<=1000000){y:bG}(hy:G6 x y):gy P (E.rule x q l names r y).1.1:=by
 unfold ES.rule;by_cases h1:y.kind=1;·rw[if_pos h1];exact h.root W hn hr _
 rw[if_neg h1];by_cases h2:y.kind=2;·rw[if_pos h2];exact h.depend W hn hr (hy h2).1 (hy h2).2 _
 rw[if_neg h2];by_cases h3:y.kind=3;·rw[if_pos h3];exact h.conflict W hr _ _
 rw[if_neg h3];exact h
theorem gy.rules(W:Z4 P x l){E:ES}(h:gy P E.1.1)(q:dG){names:List Str}(hn:names.length<=1000000){rs:List bG}(hy:∀y∈rs,G6 x y):∀r,r<=rs.length->r<=1000000->gy P (E.rules x q l names rs r).1.1
 |0,_,_=>h
 |r+1,h1,h2=>(gy.rules W h q hn hy r zBR zBL).rule W q hn zAB (hy _ (getD_in zBB))
theorem gy.edge(W:Z4 P x l){B:BS}(h:gy P B.1.1)(Q:dR){e:Nat×Nat}(he:e.1<x.packs.length/\e.2<x.packs.length):gy P (B.edge Q e).1.1:=by unfold BS.edge;dsimp only;have h1:gy P (B.1.num (gY e.1 e.2)).1.1:=h.num (W.edg _ _ he.1 he.2);have h2:gy P ((B.1.num (gY e.1 e.2)).1.num (aG e.1)).1.1:=h1.num (W.node _ he.1);have h3:=h2.aV [-(B.1.num (gY e.1 e.2)).2,((B.1.num (gY e.1 e.2)).1.num (aG e.1)).2];have h4:gy P ((((B.1.num (gY e.1 e.2)).1.num (aG e.1)).1.aV [-(B.1.num (gY e.1 e.2)).2,((B.1.num (gY e.1 e.2)).1.num (aG e.1)).2]).num (aG e.2)).1.1:=h3.num (W.node _ he.2);exact(h4.aV _).aV _
theorem gy.Z5(W:Z4 P x l)(Q:dR):∀(es:List (Nat×Nat)) {B:BS},(∀e∈es,e.1<x.packs.length/\e.2<x.packs.length)->gy P B.1.1->gy P (es.foldl (fun B e=>BS.edge B Q e) B).1.1
 | [],_,_,h=>h
 |e::r,B,he,h=>gy.Z5 W Q r (fun f hf=>he f (yE _ hf)) (h.edge W Q (he e qQ))
theorem gy.pairs{S:TB}(h:gy P S.1)(n:Int)(row:List Int):gy P (S.pairs n row).1:=gy.fO _ _ (fun _ _ _ hS=>gy.fO _ _ (fun _ _ _ hS=>hS.aV _) hS) h
theorem gy.name(W:Z4 P x l){S:TB}(h:gy P S.1)(Q:dR){i:Nat}(hi:i<=1000000)(s:Str):gy P (S.name x Q i s).1:=by
 unfold TB.name;dsimp only;have h1:gy P (S.num (eG i)).1.1:=h.num (W.need i hi);have h2:gy P (((S.num (eG i)).1.aV (-(S.num (eG i)).2::Q.needs.getD i [])).nums ((x.bZ s).map aG)).1.1:=gy.nums _ (h1.aV _) fun a ha=>by obtain⟨t,ht,rfl⟩:=yD.1 ha;exact W.node t (aC.Dn ht)
 exact(h2.aV _).pairs _ _
theorem gy.place(W:Z4 P x l){S:TB}(h:gy P S.1)(Q:dR)(into:List (Nat×List Int)){t:Nat}(ht:t<x.packs.length):gy P (S.place Q into t).1:=gy.aV (S:=(S.num (aG t)).1) (h.num (W.node t ht)) _
def acU(x:aC)(Q:dR):Prop:= ∀e∈Q.of.map Prod.fst,e.1<x.packs.length/\e.2<x.packs.length
theorem gy.edges(W:Z4 P x l){S:TB}(h:gy P S.1)(q:dG){names:List Str}(hn:names.length<=1000000){rs:List bG}(hy:∀y∈rs,G6 x y)(hr:rs.length<=1000000)(hk:acU x (S.kM x q l names rs).2):gy P (S.edges x q l names rs).1:=by have h1:gy P (S.kM x q l names rs).1.1:=gy.rules W (E:=(S,_)) h q hn hy rs.length (qH _) hr;unfold TB.edges;dsimp only;generalize S.kM x q l names rs=E at h1 hk⊢;refine gy.fO _ _ (fun S t ht hS=>hS.place W _ _ (W.lt t ht)) (gy.fO _ _ (fun S i hi hS=>hS.name W _ (by have:=yI.1 hi;omega) _) (gy.Z5 W _ _ (fun e he=>?_) h1));unfold dR.edges at he;exact hk e ((List.mergeSort_perm _ _).mem_iff.1 he)
end
section
variable {w w':World} {B:Nat}
structure G7 (T:Tab) (m0 m1:List Bool):Prop where
 len:m1.length=m0.length
 same:∀i,(T.l.getD i default).1≠9->m1.getD i false=m0.getD i false
 none:(∀i,m0.getD i false=false)->∀i,m1.getD i false=false
theorem G7.refl(T:Tab)(m:List Bool):G7 T m m:=⟨rfl,fun _ _=>rfl,fun h=>h⟩
theorem JY(m:List Bool)(i j:Nat)(b:Bool):(m.set i b).getD j false=if i=j/\j<m.length then b else m.getD j false:=by
 rw[qC,List.getElem?_set];by_cases h:i=j
 ·subst h;by_cases hi:i<m.length;·simp[hi]
  simp[hi,qC]
 simp[h,qC]
theorem G7.set{T:Tab}{m0 m:List Bool}(h:G7 T m0 m){i n:Nat}(hi:(T.l.getD i default).1=9){b:Bool}(hb:(∀i,m.getD i false=false)->b=false):G7 T m0 (m.set i b):=by
 refine⟨by rw[List.length_set];exact h.len,fun j hj=>?_,fun h0 j=>?_⟩
 ·rw[JY];by_cases e:i=j/\j<m.length;·rw[<-e.1]at hj;exact absurd hi hj
  rw[if_neg e];exact h.same j hj
 rw[JY];split;·exact hb (h.none h0)
 exact h.none h0 j
end
theorem WY(row:List Int):(mD row).length<=row.length*row.length:=by
 have h:∀k,(kD row k).length<=k*row.length:=fun k=>by
  induction k with
  |zero=>simp[kD]
  |succ k ih=>
   rw[vI,qK,Nat.succ_mul]
   have:(iY row k).length<=row.length:=by unfold iY;simp
   omega
 exact h row.length
theorem Z7(node:Int)(row:List Int):(sO node row).length<=row.length*row.length+row.length+1:=by have:=WY row;unfold sO;simp;omega
theorem Gr.ZX(S:TB)(node:Int)(ats:List At){n:Nat}(hn:ats.length<=n):Gr S (S.row node ats) n (n*n+n+1):=by
 have h1:=Gr.nums ats S;have e:(S.1.nums ats).2.length=ats.length:=iO ats S.1;unfold TB.row jf.one;have hm:=Nat.mul_le_mul hn hn;split;·exact h1.up hn (qE _)
 have h2:=h1.tr (Gr.adds (S.nums ats).1 (sO node (S.1.nums ats).2));have:=Z7 node (S.1.nums ats).2;rw[e]at this;exact h2.up zAB zBB
theorem Gr.vars(S:TB)(node:Int)(p:Nat){vs:List fE}(h:∀v∈vs,v.values.length<=10):∀j,Gr S (S.vars node p vs j) (10*j) (111*j)
 |0=>Gr.rfl'
 |j+1=>by
  have h0:(vs.getD j default).values.length<=10:=by
   rcases yK j vs.length with hj|hj
   ·exact h _ (getD_in hj)
   ·rw[qC,List.getElem?_eq_none hj];exact qE _
  exact((Gr.vars S node p h j).tr (Gr.ZX _ node (gV p j (vs.getD j default).values.length) (n:=10) (by rw[rZ.VE];exact h0))).up zAB zBB
theorem Gr.pack(S:TB)(p:Nat){pk:eP}(h1:pk.aP.length<=10)(h2:pk.vars.length<=4)(h3:∀v∈pk.vars,v.values.length<=10):Gr S (S.pack p pk) 51 555:=by unfold TB.pack;have g1:=(Gr.num S (aG p)).tr (Gr.ZX (S.num (aG p)).1 (S.1.num (aG p)).2 (gJ p pk.aP.length) (n:=10) (by rw[rZ.VD];exact h1));exact(g1.tr (Gr.vars _ (S.1.num (aG p)).2 p h3 pk.vars.length)).up zAB zBB
theorem Gr.choices(x:aC):∀(l:List Nat) (S:TB),(∀p∈l,(x.pack p).aP.length<=10/\(x.pack p).vars.length<=4/\∀v∈(x.pack p).vars,v.values.length<=10)->Gr S (S.choices x l) (51*l.length) (555*l.length)
 | [],_,_=>Gr.rfl'
 |p::r,S,h=>by
  obtain⟨h1,h2,h3⟩:=h p qQ
  exact((Gr.pack S p h1 h2 h3).tr (Gr.choices x r _ fun q hq=>h q (yE _ hq))).up (by rw[qN];omega) zAy
theorem dS.nums:∀(l:List At) {T:Tab},dS T->dS (T.nums l).1
 | [],_,h=>h
 |a::r,_,h=>dS.nums r (h.num a)
theorem dS.acV{S:TB}(h:dS S.1)(node:Int)(p:Nat)(vs:List fE):∀j,dS (S.vars node p vs j).1
 |0=>h
 |j+1=>dS.nums _ (dS.acV h node p vs j)
theorem dS.choices(x:aC):∀(l:List Nat) {S:TB},dS S.1->dS (S.choices x l).1
 | [],_,h=>h
 |p::r,S,h=>dS.choices x r (S:=S.pack p (x.pack p)) (dS.acV (S:=TB.row ((S.1.num (aG p)).1,S.2) (S.1.num (aG p)).2 (gJ p (x.pack p).aP.length)) (dS.nums _ (h.num _)) _ _ _ _)
structure fC (x:aC) (q:dG):Prop where
 sm:sQ x
 ch:Ue x q
 sp:∀z∈q.roots,mZ z.spec
variable {x:aC} {q:dG}
theorem fC.ae9(h:fC x q):∀p∈x.packs,Mc p:=fun p hp=>⟨(h.ch.all p hp).aP,fun d hd=>⟨((h.sm.all p hp).XV d hd).2.1,((h.sm.all p hp).XV d hd).1.1⟩,fun c hc=>⟨((h.sm.all p hp).XW c hc).1.1,((h.sm.all p hp).XW c hc).2.1⟩⟩
theorem fC.sizes(h:fC x q):Sizes x q 34 8:=ZY h.ch.packs h.ae9 fun r hr=>(h.sp r hr).1
theorem fC.mid(h:fC x q):Cj x:=⟨by have:=h.ch.packs;omega,fun p hp=>by have:=(h.ch.all p hp).aP;omega,fun p hp=>by have:=(h.ch.all p hp).vars.1;omega,fun p hp v hv=>by have:=((h.ch.all p hp).vars.2 v hv).2;omega⟩
theorem fC.lt(_:fC x q):∀p∈x.closure q.names,p<x.packs.length:=fun _ hp=>(aC.iJ.1 hp).lt
theorem fC.len(h:fC x q):(x.closure q.names).length<=8:=by have:=x.nM q.names;have:=h.ch.packs;omega
theorem sG{α β:Type}{f:α->List β}{M:Nat}:∀{l:List α},(∀y∈l,(f y).length<=M)->(l.flatMap f).length<=M*l.length
 | [],_=>qE _
 |a::r,h=>by
  rw[List.flatMap_cons,qK,qN,Nat.mul_succ]
  have h1:=h a qQ
  have h2:=sG (l:=r) fun y hy=>h y (yE _ hy)
  omega
theorem fC.rules(h:fC x q):(eF x q (x.closure q.names)).length<=200:=by
 unfold eF;rw[qK];have h1:(fZ q q.roots.length).length=q.roots.length:=by unfold fZ;simp
 have h2:=sG (f:=jo x) (M:=24) (l:=x.closure q.names) fun p hp=>by have ok:=h.ch.all _ (aC.gX (h.lt p hp));have a:=ok.deps;have b:=ok.cons;unfold jo kJ mG;simp;omega
 have:=h.len;have:=h.ch.roots;rw[h1];omega
theorem fC.names(h:fC x q):(x.names q).length<=136:=by
 refine qR (x.JH q) ?_;unfold aC.sees;refine qR (yO _ _) ?_;rw[qK];have h1:q.names.length=q.roots.length:=by unfold dG.names;simp
 have h2:=sG (f:=fun p=>(x.pack p).deps.map fun d=>d.on.name) (M:=16) (l:=x.closure q.names) fun p hp=>by have:=(h.ch.all _ (aC.gX (h.lt p hp))).deps;simp;omega
 have:=h.len;have:=h.ch.roots;omega
noncomputable def Md (x:aC) (q:dG):rU:=⟨x,q,x.closure q.names,eF x q (x.closure q.names),x.names q⟩
theorem fC.edq(h:fC x q)(hok:∀s∈x.names q,okS s):EdQ (Md x q):=by
 have hn:=h.names;have hr:=h.rules;have hl:=h.len;have sd:=fun p hp d hd=>(h.sm.all p hp).XV d hd;have sc:=fun p hp d hd=>(h.sm.all p hp).XW d hd;unfold mZ at sd sc;have sr:=h.sp;unfold mZ at sr;refine⟨⟨⟨h.lt,h.mid,?_⟩,rfl,?_,?_,fun p hp=>?_,fun p hp=>?_,fun r hr=>?_,fun p hp d hd=>?_,fun p hp d hd=>?_⟩,rfl,h.sm,hok,⟨34,fun i=>h.sizes.root i,fun p i=>h.sizes.dep p i,fun p i=>h.sizes.con p i,fun s=>qR (h.sizes.CQ s) zBB⟩,?_⟩;·show(x.names q).length<=_;omega
 ·show(eF x q (x.closure q.names)).length<=800;omega
 ·have:=h.ch.roots;show q.roots.length<=_;omega
 ·have:=(h.ch.all p hp).deps;omega
 ·have:=(h.ch.all p hp).cons;omega
 ·have:=(sr r hr).1;omega
 ·have:=sd p hp d hd;omega
 ·have:=sc p hp d hd;omega
 show(x.closure q.names).length<=_;omega
def T20:Tab:=⟨[],20000,0,false⟩
noncomputable def Me (x:aC) (q:dG):TB:=TB.edges (TB.choices (T20,rZ.B0) x (x.closure q.names)) x q (x.closure q.names) (x.names q) (eF x q (x.closure q.names))
theorem fC.gr(h:fC x q):Gr (T20,rZ.B0) (TB.choices (T20,rZ.B0) x (x.closure q.names)) 408 4440:=by
 have:=h.len;exact(Gr.choices x (x.closure q.names) (T20,rZ.B0) fun p hp=>by
  have ok:=h.ch.all _ (aC.gX (h.lt p hp))
  exact⟨ok.aP,ok.vars.1,fun v hv=>by have:=(ok.vars.2 v hv).2;omega⟩).up zAB zBB
theorem fC.place(h:fC x q){t:Nat}(ht:t∈x.closure q.names):∃f∈(Me x q).2.cls,zC (Me x q).1 t f:=by have g:=h.gr;have hn:=h.names;have hr:=h.rules;have hl:=h.len;obtain⟨ds,e1,e2⟩:=g.cls;have e3:(T20,rZ.B0).2.cls=([]:List (List Int)):=rfl;have e4:(T20,rZ.B0).1.l=([]:List At):=rfl;have e5:(T20,rZ.B0).1.limit=20000:=rfl;have hlen:=g.len;have hlim:=g.lim;rw[e4,List.length_nil]at hlen;rw[e5]at hlim;have hfl:=g.full (by rw[e4,e5,List.length_nil];omega);rw[e3,List.nil_append]at e1;refine Qj (K:=16640) (N:=60000) _ _ _ _ h.sizes (C:=77) (by omega) (by omega) zBR zBL zAB zBB hfl (by rw[e1];omega) ht
theorem fC.neg(_:fC x q):aI (Me x q).2:=(aI.choices U1 x _ (S:=(T20,rZ.B0)) (fun c hc=>by cases hc)).edges U1 _ _ _ _ _
theorem WZ{x:aC}{p:Nat}(hp:p<x.packs.length):x.pack p∈x.packs:=aC.gX hp
theorem JZ{E:ES}{n p t:Nat}(h:∀e∈E.2.of.map Prod.fst,e.1<n/\e.2<n)(hp:p<n)(ht:t<n)(a:Int):∀e∈(E.goes p t a).1.2.of.map Prod.fst,e.1<n/\e.2<n:=by exact zC3
theorem fC.afa(h:fC x q):∀y∈eF x q (x.closure q.names),G6 x y:=fun y hy=>by
 intro hk
 rcases uH hy with⟨k,hk',rfl⟩| ⟨p,k,hp,hk',rfl⟩| ⟨p,k,hp,hk',rfl⟩
 ·simp at hk
 ·have:=(h.ch.all _ (WZ (h.lt p hp))).deps
  exact⟨by have:=h.lt p hp;simpa using this,by simp;omega⟩
 ·simp at hk
theorem KI.depend{n:Nat}{E:ES}(h:∀e∈E.2.of.map Prod.fst,e.1<n/\e.2<n)(hx:n=x.packs.length)(l:List Nat)(names:List Str)(r:Nat){p:Nat}(k:Nat)(d:oO)(hp:p<n):∀e∈(E.depend x l names r p k d).2.of.map Prod.fst,e.1<n/\e.2<n:=by
 unfold ES.depend;dsimp only;split;·exact JZ (E:=(_,E.2)) h hp (by have:=x.rG d.on.name;omega) _
 split;·exact h
 have hpr:∀t∈x.bZ d.on.name,t<n:=fun t ht=>by have:=aC.Qi ht;omega
 generalize x.bZ d.on.name=ts at hpr⊢;have key:∀(ts:List Nat) (E:ES) (A:Int),(∀t∈ts,t<n)->(∀e∈E.2.of.map Prod.fst,e.1<n/\e.2<n)->∀e∈(ts.foldl (fun E t=>
   let D:=E.1.num (aG t)
   let G:=ES.goes (D.1,E.2) p t A
   (G.1.1.aV [-A,-D.2,G.2],G.1.2)) E).2.of.map Prod.fst,e.1<n/\e.2<n:=by
  intro ts
  induction ts with
  |nil=>exact fun E A _ h=>h
  |cons t r ih=>
   intro E A ht h
   rw[List.foldl_cons]
   exact ih _ A (fun u hu=>ht u (yE _ hu)) (JZ (E:=((E.1.num (aG t)).1,E.2)) h hp (ht t qQ) A)
 exact key ts _ _ hpr h
theorem fC.keys(h:fC x q)(S:TB):acU x (S.kM x q (x.closure q.names) (x.names q) (eF x q (x.closure q.names))).2:=by
 have key:∀(rs:List bG) (E:ES),(∀y∈rs,G6 x y)->(∀e∈E.2.of.map Prod.fst,e.1<x.packs.length/\e.2<x.packs.length)->∀r,r<=rs.length->∀e∈(E.rules x q (x.closure q.names) (x.names q) rs r).2.of.map Prod.fst,e.1<x.packs.length/\e.2<x.packs.length:=by
  intro rs E hy h0 r
  induction r with
  |zero=>exact fun _=>h0
  |succ r ih=>
   intro hr
   have h1:=ih zBB
   have hy1:=hy _ (getD_in (l:=rs) (i:=r) zBB)
   show∀e∈(ES.rule (E.rules x q (x.closure q.names) (x.names q) rs r) x q (x.closure q.names) (x.names q) r (rs.getD r default)).2.of.map Prod.fst,_
   generalize E.rules x q (x.closure q.names) (x.names q) rs r=E1 at h1⊢
   generalize rs.getD r default=y at hy1⊢
   unfold ES.rule
   by_cases c1:y.kind=1
   ·rw[if_pos c1,Em];exact h1
   ·rw[if_neg c1]
    by_cases c2:y.kind=2
    ·rw[if_pos c2];exact KI.depend h1 rfl _ _ _ _ _ (hy1 c2).1
    ·rw[if_neg c2]
     by_cases c3:y.kind=3
     ·rw[if_pos c3,rQ];exact h1
     ·rw[if_neg c3];exact h1
 exact key _ _ h.afa (fun e he=>by cases he) _ (qH _)
def acX:List iD:=[⟨bs [],bs []⟩]
def lC:dG:=⟨[⟨⟨bs [97],acX,[]⟩,0⟩]⟩
end Go.Proofs.YtdmmebjjojimiaaGreatDoor
namespace Go.Proofs
theorem zDf{p:Prop}(h:p:=by
 rcases qW.1 hy with h|h
 ·exact G.lit y h
 ·simp at h;subst h;exact hx):p:=h
end Go.Proofs
namespace Go.Proofs.YtdmmebjjojimiaaGreatDoor
open Go.RowKit
namespace fA
structure Xa (xs o:List Int):Prop where
 lit:∀x∈xs,Lit x
 ord:jR o
 mem:∀y,y∈o↔y∈xs
def Less(o:List Int)(x:Int)(k:Nat):Prop:=k<=o.length/\∀j,j<k->(o.getD j 0).natAbs<x.natAbs
theorem Xa.same{xs o:List Int}{x:Int}(G:Xa xs o)(hx:Lit x)(hm:x∈o):Xa (xs++[x]) o:=by
 refine⟨fun y hy=>?_,G.ord,fun y=>?_⟩;·exact zDf
 rw[G.mem,qW];simp only[yJ];exact⟨.inl,fun h=>h.elim id (fun e=>by subst e;exact(G.mem _).1 hm)⟩
theorem Xa.put{xs o:List Int}{x:Int}(G:Xa xs o)(hx:Lit x){k:Nat}(hL:Less o x k)(hk:k<o.length->x.natAbs<(o.getD k 0).natAbs):Xa (xs++[x]) (o.take k++[x]++o.drop k):=by
 have hsplit:∀y,y∈o↔y∈o.take k\/y∈o.drop k:=fun y=>by rw[<-qW,List.take_append_drop]
 refine⟨fun y hy=>?_,?_,fun y=>?_⟩;·exact zDf
 ·have hP:=G.ord;unfold jR at*;have h1:∀y∈o.take k,y.natAbs<x.natAbs:=by
   intro y hy;obtain⟨j,hj,rfl⟩:=List.getElem_of_mem hy;have hj':j<k:=by simp at hj;omega
   have:=hL.2 j hj';have hlen:=hL.1;simpa[qC,show j<o.length by omega]using this
  have h2:∀y∈o.drop k,x.natAbs<y.natAbs:=by
   intro y hy;obtain⟨j,hj,rfl⟩:=List.getElem_of_mem hy;simp at hj;have hk1:k<o.length:=zBB;have h3:=hk hk1;have e:o.getD k 0=o[k]:=by simp[qC,hk1]
   rw[e]at h3;rw[List.getElem_drop];rcases Nat.eq_zero_or_pos j with rfl|hj0;·simpa using h3
   have:=(List.pairwise_iff_getElem.1 hP) k (k+j) hk1 zAB zBB;omega
  rw[yW,List.pairwise_append];refine⟨hP.sublist (List.take_sublist _ _),?_,?_⟩;·rw[List.singleton_append,List.pairwise_cons];exact⟨h2,hP.sublist (List.drop_sublist _ _)⟩
  intro a ha b hb;rw[List.singleton_append,qY]at hb;rcases hb with rfl|hb;·exact h1 a ha
  have:=h1 a ha;have:=h2 b hb;omega
 rw[qW,qW,qW,yJ,<-G.mem,hsplit];constructor
 ·rintro((h|h)|h);·exact .inl (.inl h)
  ·exact .inr h
  exact .inl (.inr h)
 rintro((h|h)|h);·exact .inl (.inl h)
 ·exact .inr h
 exact .inl (.inr h)
end fA
section
variable {w w':World} {B:Nat}
theorem Z8{Hg csq:List Value}{x:aC}{q:dG}(hx:gG B w Hg x)(hq:lI B w csq q):∀s∈x.names q,okS s:=by
 intro s hs;have h:=aC.WB hs;unfold aC.sees at h;have h:=(List.mem_filter.1 h).1;rcases qW.1 h with h|h;·unfold dG.names at h;obtain⟨r,hr,rfl⟩:=yD.1 h;obtain⟨v3,-,h3⟩:=hq;obtain⟨cs,q1,-,hS,-⟩:=h3.all r hr;obtain⟨v1,v2,-,hk,-⟩:=hS;exact hk
 obtain⟨p,hp,h⟩:=List.mem_flatMap.1 h;obtain⟨d,hd,rfl⟩:=yD.1 h;obtain⟨v1,v2,-,h1,-⟩:=hx;have hm:=aC.gX ((aC.iJ.1 hp).lt);obtain⟨cs,u1,u2,u3,u4,u5,u6,-,-,-,-,-,-,h4,-⟩:=h1.all _ hm;obtain⟨cs2,c1,c2,-,hS,-⟩:=h4.all d hd;obtain⟨v3,v4,-,hk,-⟩:=hS;exact hk
end
end Go.Proofs.YtdmmebjjojimiaaGreatDoor
namespace Go.Proofs
theorem zDa{p:Prop}(h:p:=by
 go_wp2_with fail
 go_ret2
 exact⟨Aq.out,by rw[if_pos bH.out,if_pos hfl];rfl⟩):p:=h
end Go.Proofs
namespace Go.Proofs.YtdmmebjjojimiaaGreatDoor
open Go.RowKit
theorem Qk{w:World}{g:Tag}{b:Nat}{V:Nu}{B:jf}(H:iE w g b V B):Calls Tryz.prog 89 #[.pointer (some ⟨b,0,none⟩)] w fun e w'=>e= .returned (.bool B.full)/\w'=w:=by have q1:w.cell? ⟨b,2,none⟩=some (.bool B.full):=zAT;go_enter Tryz.func89,Tryz.ntmps89;exact zBd
theorem U3(u a:Value)(W:World):(Instr.field 43 (.agg #[u,a]) 0).run Tryz.prog W= .ok u W:=by unfold Instr.field;rw[Sem.run_bind,run_underlying Tryz.underlying43];simp[asAgg,part,isAgg]
noncomputable def MB (x:aC) (q:dG) (lim:Nat):TB:=((TB.choices ((⟨[],lim,0,false⟩:Tab),rZ.B0) x (x.closure q.names)).edges x q (x.closure q.names) (x.names q) (eF x q (x.closure q.names))).orders (x.closure q.names)
section
variable {w w':World} {B:Nat}
def Z9(x:aC)(q:dG)(S:TB)(w:World)(e:Ending)(w':World):Prop:=O0 w w'/\
 if x.okB=true/\q.okB x=true then (if S.1.full=true\/S.2.full=true then e= .returned (.tuple #[.pointer none,.int .i64 7])
  else∃(f c bt bb:Nat) (gt gb:Tag) (G:BJ) (Bs:Nat) (cv:Value),e= .returned (.tuple #[.pointer (some ⟨f,0,none⟩),.int .i64 0])/\Xk w' gt gb f c bt bb G Bs (Md x q) S cv S.2.cls)
 else e= .returned (.tuple #[.pointer none,.int .i64 3])
theorem abX{Hg csq:List Value}{x:aC}{q:dG}(hx:gG B w Hg x)(hq:lI B w csq q)(hBw:B<=w.heap.size)(hE:x.okB=true/\q.okB x=true->fC x q)(aiw:q.roots.length<=40)(UE:x.packs.length<=1000000)(hsm:∀p∈x.packs,p.aP.length<=1000000/\p.vars.length<=1000000)(hLd:Laid w)(n:Int)(hn:aO n)(lim:Nat)(hlim:min (max n 0) 65536=(lim:Int))(S:TB)(hS:MB x q lim=S):Calls Tryz.prog 32 #[.agg Hg.toArray,.agg csq.toArray,.int .i64 n] w (Z9 x q S w):=by
 obtain⟨dD,aY,bU,cZ,aZ,bF,rfl,pR,pU,jU,jV,aW,dU,JQ⟩:=open_rec hx;obtain⟨wO,jd,wP,rfl,WQ,WR,jW,F_q⟩:=Nl hq;obtain⟨W0,hW0,ig,DU,bJ⟩:=Xu w (.slice dD aY bU) (.slice cZ aZ bF) (.slice wO jd wP) 25 28;obtain⟨qB,-,-⟩:=JQ W0 ig.out;obtain⟨abN,-⟩:=F_q W0 ig.out;clear JQ F_q hx hq;obtain⟨o1,ho1⟩:=ze x.okB;obtain⟨o2,ho2⟩:=ze (q.okB x);have HCr:Hid (∀W,O0 W0 W->Calls Tryz.prog 50 #[.agg #[.slice dD aY bU,.slice cZ aZ bF]] W fun e w'=>kE o1 W w' e):=fun W hW=>by rw[<-ho1];exact ZF (qB.out W hW) UE hsm
 have HCq:Hid (∀W,O0 W0 W->Calls Tryz.prog 51 #[.agg #[.slice dD aY bU,.slice cZ aZ bF],.agg #[.slice wO jd wP]] W fun e w'=>kE o2 W w' e):=fun W hW=>by rw[<-ho2];exact WO (qB.out W hW) (abN.out W hW) UE
 have Iw:=zh (And.intro ho1 ho2);have HEs:=zh (And.intro hE (And.intro aiw (And.intro hn hlim)));have HS:=zh hS;clear ho1 ho2 UE hsm hE aiw hlim hS hn;obtain⟨k0,k1,k2⟩:=bJ.out W0 zr;have hW0':=hW0.symm;clear hW0;go_enter Tryz.func32,Tryz.ntmps32;go_wp2_with fail;refine(HCr.out W0 zr).mono ?_;rintro e w1 ⟨cr,lr,rfl,hcr,O1⟩;have hf1:=fun W:World=>U3 (.int .u8 cr) (.int .i64 lr) W;have bg:=zh O1;clear O1 k0 k1 k2 HCr;obtain⟨k0,k1,k2⟩:=bJ.out w1 bg.out;cases o1 with
 |false=>
  have hne:(cr != 0)=true:=by have h:cr≠0:=of_decide_eq_false hcr;simpa using h
  have hres:¬(x.okB=true/\q.okB x=true):=fun h=>by rw[Iw.out.1]at h;cases h.1
  clear hcr;go_wp2_with fail;go_ret2;exact⟨ig.out.same bg.out,by rw[if_neg hres];rfl⟩
 |true=>
  have hne:(cr != 0)=false:=by have h:cr=0:=of_decide_eq_true hcr;simp[h]
  clear hcr;go_wp2_with fail;refine(HCq.out w1 bg.out).mono ?_;rintro e w2 ⟨cq,lq,rfl,hcq,O2⟩;have hf2:=fun W:World=>U3 (.int .u8 cq) (.int .i64 lq) W;have jG:=zh (bg.out.same O2);clear O2 k0 k1 k2 HCq hne;obtain⟨k0,k1,k2⟩:=bJ.out w2 jG.out;cases o2 with
  |false=>
   have hne:(cq != 0)=true:=by have h:cq≠0:=of_decide_eq_false hcq;simpa using h
   have hres:¬(x.okB=true/\q.okB x=true):=fun h=>by rw[Iw.out.2]at h;cases h.2
   clear hcq;go_wp2_with fail;go_ret2;exact⟨ig.out.same jG.out,by rw[if_neg hres];rfl⟩
  |true=>
   have hne:(cq != 0)=false:=by have h:cq=0:=of_decide_eq_true hcq;simp[h]
   have bH:Hid (x.okB=true/\q.okB x=true):=Iw.out;clear hcq;have HE:Hid (fC x q):=HEs.out.1 bH.out;have al2:Hid (∀s∈x.names q,okS s):=Z8 (qB.out w2 jG.out) (abN.out w2 jG.out);have abY:Hid (O0 w w2):=ig.out.same jG.out;have Y3:=zh (adv (qB.out w2 jG.out) (abN.out w2 jG.out) (qR hBw abY.out.size) HE.out.sm HEs.out.2.1 n HEs.out.2.2.1 lim HEs.out.2.2.2);have al3:Hid (Laid w2):=hLd.only abY.out;clear HEs Iw hLd hBw;go_wp2_with fail;refine Y3.out.mono ?_;rintro e W1 ⟨ca,bta,bba,gta,gba,Ga,Bsa,rfl,hG,hx',hq',hI',hR',hM,hLb,hB3,hBc,hB5,O4⟩;have hX1:sD W1 gta gba ca bta bba Ga Bsa (Md x q) (⟨[],lim,0,false⟩,rZ.B0):=⟨hG,hx',hq',hI',hLb,hR',hM,hB5,((uS.of al3.out (qH _)).more hB3).keep (Kp.fU O4),fun j hj=>by have:j<0:=hj;omega⟩;have HX1:=zh hX1;have aiy:Hid (O0 w W1):=abY.out.same O4;have HCh:=zh (QU hG hx' hI' HE.out.lt HE.out.mid hM hB5 (by have:=HE.out.len;omega));have HMa:Hid (∀k,Mine gta k\/Mine gba k->w.heap.size<=k):=fun k hk=>by have:=hM k hk;have:=abY.out.size;omega
   clear hG hx' hq' hI' hR' hM hLb hB3 hBc hB5 O4 hX1 Y3 k0 k1 k2 hf1 hf2;go_wp2_with fail;refine HCh.out.mono ?_;rintro e w3 ⟨rfl,hG3⟩;have hX3:=HX1.out.step (S2:=TB.choices (⟨[],lim,0,false⟩,rZ.B0) x (x.closure q.names)) hG3 (dS.choices x _ (S:=(⟨[],lim,0,false⟩,rZ.B0)) (fun j hj=>by have:j<0:=hj;omega));clear hG3 HCh;obtain⟨gt3,gb3,aiz,hA3,hB3,O3⟩:=hX3;have HX3:=zh aiz;have uP:Hid (O0 w w3):=aiy.out.trans O3 fun k hk=>.inr (HMa.out k hk);have HMb:Hid (∀k,Mine gt3 k\/Mine gb3 k->w.heap.size<=k):=fun k hk=>by
    rcases yK k W1.heap.size with h|h;·refine HMa.out k ?_;unfold Mine at hk⊢;rwa[hA3 k h,hB3 k h]at hk
    exact qR aiy.out.size h
   clear aiz hA3 hB3 O3 HX1;have HEd:=zh (abT HX3.out (HE.out.edq al2.out));go_wp2_with fail;refine HEd.out.mono ?_;rintro e w4 ⟨rfl,pK,pO,hX4,hA4,hB4,O4⟩;have HX4:=zh hX4;have FQ:Hid (O0 w w4):=uP.out.trans O4 fun k hk=>.inr (HMb.out k hk);have HMc:Hid (∀k,Mine pK k\/Mine pO k->w.heap.size<=k):=fun k hk=>by
    rcases yK k w3.heap.size with h|h;·refine HMb.out k ?_;unfold Mine at hk⊢;rwa[hA4 k h,hB4 k h]at hk
    exact qR uP.out.size h
   clear hX4 hA4 hB4 O4 HEd HX3 HMa HMb;have HOr:=zh (Y2 HX4.out (fun t ht=>by have h1:=HE.out.lt t ht;have h2:=HE.out.ch.packs;omega) (by show(x.closure q.names).length<=1000000;have:=HE.out.len;omega));go_wp2_with fail;refine HOr.out.mono ?_;rintro e w5 ⟨rfl,DJ,DK,hX5,hA5,hB5,O5⟩;have aiB:sD w5 DJ DK ca bta bba Ga Bsa (Md x q) S:=by rw[<-HS.out];exact hX5
   have HX5:=zh aiB;have Aq:Hid (O0 w w5):=FQ.out.trans O5 fun k hk=>.inr (HMc.out k hk);clear hX5 aiB hA5 hB5 O5 HOr HX4 HMc HS;obtain⟨ft,hft⟩:=ze S.1.full;obtain⟨fb,hfb⟩:=ze S.2.full;have HTb:=zh (qc HX5.out.gr);have HBu:=zh (mX HX5.out.gr);have HTf:Hid (Calls Tryz.prog 88 #[.pointer (some ⟨bta,0,none⟩)] w5 fun e w'=>e= .returned (.bool ft)/\w'=w5):=by obtain⟨V,hV⟩:=HX5.out.gr.tab;rw[<-hft];exact Pm hV
   have HBf:Hid (Calls Tryz.prog 89 #[.pointer (some ⟨bba,0,none⟩)] w5 fun e w'=>e= .returned (.bool fb)/\w'=w5):=by obtain⟨V,hV⟩:=HX5.out.gr.G8;rw[<-hfb];exact Qk hV
   have HCl:Hid (Calls Tryz.prog 29 #[.pointer (some ⟨bba,0,none⟩)] w5 fun e w'=> ∃v us,e= .returned v/\uj w5 w' v us S.2.cls/\O0 w5 w'):=by obtain⟨V,hV⟩:=HX5.out.gr.G8;exact Nv hV
   have HFf:=zh (And.intro hft hfb);clear hft hfb;go_wp2_with fail;refine HTb.out.mono ?_;rintro e w6 ⟨rfl,e6⟩;have e6':=e6.symm;subst e6';go_wp2_with fail;refine HTf.out.mono ?_;rintro e w7 ⟨rfl,e7⟩;have e7':=e7.symm;subst e7';cases ft with
   |true=>have hfl:S.1.full=true\/S.2.full=true:=.inl HFf.out.1;exact zDa
   |false=>
    go_wp2_with fail;refine HBu.out.mono ?_;rintro e w8 ⟨rfl,e8⟩;have e8':=e8.symm;subst e8';go_wp2_with fail;refine HBf.out.mono ?_;rintro e w9 ⟨rfl,e9⟩;have e9':=e9.symm;subst e9';cases fb with
    |true=>have hfl:S.1.full=true\/S.2.full=true:=.inr HFf.out.2;exact zDa
    |false=>
     have hfl:¬(S.1.full=true\/S.2.full=true):=fun h=>by
      rcases h with h|h;·rw[HFf.out.1]at h;cases h
      rw[HFf.out.2]at h;cases h
     have HFl:=zh hfl;clear hfl;go_wp2_with fail;refine HBu.out.mono ?_;rintro e w10 ⟨rfl,e10⟩;have al6:=e10.symm;subst al6;go_wp2_with fail;refine HCl.out.mono ?_;rintro e RP ⟨cv,us,rfl,hOw,O11⟩;have hCs:=hOw.TN;obtain⟨acl,ccl,rfl,gc1,gc2⟩:=hCs.shape;have HCs:=zh hCs;have aiC:=zh O11;clear hOw hCs O11 HCl HBu HTb HTf HBf;go_wp2_with fail;go_ret2;refine⟨Aq.out.same (aiC.out.alloc _),?_⟩;rw[if_pos bH.out,if_neg HFl.out];exact⟨RP.heap.size,ca,bta,bba,DJ,DK,Ga,Bsa,_,rfl,(HX5.out.aF aiC.out).aF (zr.alloc _),qL _ _,HCs.out.aF (zr.alloc _)⟩
end
end Go.Proofs.YtdmmebjjojimiaaGreatDoor
