/- Package edge, plain: the table only grows; which atoms the rows of the roots and of the ed; Package edge, plain: how many atoms and clauses each function adds at most. No program in  -/
import Derived.Test.YtdmmebjjojimiaaGreatDoorG19
set_option maxRecDepth 100000
set_option maxHeartbeats 8000000
set_option linter.all false
namespace Go.Proofs.YtdmmebjjojimiaaGreatDoor
open Go.RowKit
def fD(T T':Tab):Prop:=(∃m,T'.l=T.l++m)/\(T.full=true->T'.full=true)
theorem fD.rfl'{T:Tab}:fD T T:=⟨⟨[],by simp⟩,id⟩
theorem fD.tr{a b c:Tab}(h:fD a b)(k:fD b c):fD a c:=by obtain⟨⟨m,hm⟩,h2⟩:=h;obtain⟨⟨n,hn⟩,k2⟩:=k;exact⟨⟨m++n,by rw[hn,hm,yW]⟩,fun e=>k2 (h2 e)⟩
theorem Lc(T:Tab)(a:At):fD T (T.num a).1:=by
 obtain⟨m,h,-⟩:=rJ.Bo T a;refine⟨⟨m,h⟩,fun e=>?_⟩;unfold Tab.num;by_cases hm:a∈T.l;·rw[if_pos hm];exact e
 rw[if_neg hm];by_cases hl:T.limit<=T.l.length;·rw[if_pos hl]
 rw[if_neg hl];exact e
theorem IX:∀(l:List At) (T:Tab),fD T (T.nums l).1
 | [],_=>fD.rfl'
 |a::r,T=>(Lc T a).tr (IX r _)
theorem TB.oJ(S:TB)(a:At):fD S.1 (S.num a).1.1:=Lc S.1 a
theorem TB.afD(S:TB)(l:List At):fD S.1 (S.nums l).1.1:=IX l S.1
theorem TB.Un(S:TB)(l:List Int):(S.bG l).1=S.1:=by unfold TB.bG;split<;>rfl
theorem TB.tC(S:TB)(l:List Int):fD S.1 (S.bG l).1:=by rw[TB.Un];exact fD.rfl'
theorem TB.YT(S:TB):fD S.1 S.help.1.1:=TB.oJ ({S.1 with helps:=qB S.1},S.2) (hA (qB S.1))
theorem TB.aia(S:TB)(p:Nat)(aX:List lV)(l:List jm):fD S.1 (S.set p aX l).1.1:=by have h:=(TB.afD S (ru p aX l)).tr (TB.YT (S.nums (ru p aX l)).1);unfold TB.set;dsimp only;split<;>exact h
theorem TB.acV(S:TB)(p:Nat)(vars:List eP)(s:kC):fD S.1 (S.value p vars s).1.1:=by
 unfold TB.value;split;·exact fD.rfl'
 exact TB.oJ _ _
theorem TB.Pg(p:Nat)(vars:List eP):∀(l:List kC) (S:TB),fD S.1 (S.values p vars l).1.1
 | [],S=>fD.rfl'
 |s::r,S=>(TB.acV S p vars s).tr (TB.Pg p vars r _)
theorem TB.QE(S:TB)(x:aF)(l:List Nat)(p rule c:Nat)(s:gZ):fD S.1 (S.meet x l p rule c s).1.1:=by
 unfold TB.meet;by_cases h1:p∉l;·rw[if_pos h1];exact fD.rfl'
 rw[if_neg h1];by_cases h2:dw p rule c∈S.1.l;·rw[if_pos h2];exact fD.rfl'
 rw[if_neg h2];dsimp only;have hD:=(TB.oJ S (dw p rule c)).tr (TB.oJ (S.num (dw p rule c)).1 (aI p));have hE:fD S.1 (if eU s.spans=true then ((((S.num (dw p rule c)).1.num (aI p)).1,[((S.num (dw p rule c)).1.num (aI p)).2]):TB×List Int)else ((((S.num (dw p rule c)).1.num (aI p)).1.set p (x.pack p).aX s.spans).1,[((S.num (dw p rule c)).1.num (aI p)).2,(((S.num (dw p rule c)).1.num (aI p)).1.set p (x.pack p).aX s.spans).2])).1.1:=by
  by_cases hc:eU s.spans=true;·rw[if_pos hc];exact hD
  rw[if_neg hc];exact hD.tr (TB.aia _ _ _ _)
 generalize (if eU s.spans=true then ((((S.num (dw p rule c)).1.num (aI p)).1,[((S.num (dw p rule c)).1.num (aI p)).2]):TB×List Int)else ((((S.num (dw p rule c)).1.num (aI p)).1.set p (x.pack p).aX s.spans).1,[((S.num (dw p rule c)).1.num (aI p)).2,(((S.num (dw p rule c)).1.num (aI p)).1.set p (x.pack p).aX s.spans).2]))=E at hE⊢;have hV:=hE.tr (TB.Pg p (x.pack p).vars s.sets E.1);by_cases hc:0<(S.num (dw p rule c)).2/\(E.2++(E.1.values p (x.pack p).vars s.sets).2).contains 0=false;·rw[if_pos hc];exact hV
 rw[if_neg hc];exact hV
def QF(K:At->Prop)(T:Tab)(z:Int):Prop:=z=0/\T.full=true\/ ∃a,K a/\rJ.fK T.l a z
theorem QF.gr{K:At->Prop}{l l':Tab}{z:Int}(h:QF K l z)(g:fD l l'):QF K l' z:=by
 obtain⟨⟨m,hm⟩,g2⟩:=g;rcases h with h| ⟨a,h1,h2⟩;·exact .inl ⟨h.1,g2 h.2⟩
 exact .inr ⟨a,h1,by rw[hm];exact h2.mono⟩
def kM{κ:Type}(K:At->Prop)(l:Tab)(m:List (κ×List Int)):Prop:= ∀e∈m,∀z∈e.2,QF K l z
theorem kM.gr{κ:Type}{K:At->Prop}{l l':Tab}{m:List (κ×List Int)}(h:kM K l m)(g:fD l l'):kM K l' m:=fun e he z hz=>(h e he z hz).gr g
theorem kM.push{κ:Type}[DecidableEq κ]{K:At->Prop}{l:Tab}{m:List (κ×List Int)}(h:kM K l m)(k:κ){v:Int}(hv:QF K l v):kM K l (dM m k v):=by
 unfold dM;split
 ·intro e he z hz;obtain⟨e0,h0,rfl⟩:=yD.1 he;by_cases hk:e0.1=k
  ·rw[if_pos hk]at hz;rcases qW.1 hz with hz|hz;·exact h e0 h0 z hz
   rw[yJ.1 hz];exact hv
  rw[if_neg hk]at hz;exact h e0 h0 z hz
 intro e he z hz;rcases qW.1 he with he|he;·exact h e he z hz
 rw[yJ.1 he]at hz;rw[yJ.1 hz];exact hv
theorem kM.get{κ:Type}[DecidableEq κ]{K:At->Prop}{l:Tab}{m:List (κ×List Int)}(h:kM K l m)(k:κ):∀z∈dD m k,QF K l z:=by
 intro z hz;unfold dD at hz;cases hf:m.find? (fun e=>decide (e.1=k))with
 |none=>rw[hf]at hz;simp at hz
 |some e=>rw[hf]at hz;exact h e (List.mem_of_find?_eq_some hf) z (by simpa using hz)
theorem afE(T:Tab)(a:At):((T.num a).2=0/\(T.num a).1.full=true)\/rJ.fK (T.num a).1.l a (T.num a).2:=by
 unfold Tab.num;by_cases hm:a∈T.l
 ·rw[if_pos hm];refine .inr ?_;have hlt:=List.idxOf_lt_length_of_mem hm;simp only[numOf,if_pos hm];refine⟨by omega,by omega,?_⟩;have e:(((List.idxOf a T.l+1:Nat):Int).natAbs-1)=List.idxOf a T.l:=zAB;have e':((((List.idxOf a T.l:Nat):Int)+1).natAbs-1)=List.idxOf a T.l:=zAB;rw[qC];first|rw[e,qA hlt]|rw[e',qA hlt]
  simp
 rw[if_neg hm];by_cases hl:T.limit<=T.l.length;·rw[if_pos hl];exact .inl ⟨rfl,rfl⟩
 rw[if_neg hl];refine .inr ⟨by show(0:Int)<(T.l.length:Int)+1;omega,?_,?_⟩;·show(((T.l.length:Int)+1).natAbs)<=(T.l++[a]).length;simp;omega
 exact zDe
theorem TB.Xu(S:TB)(a:At){K:At->Prop}(hK:K a):QF K (S.num a).1.1 (S.num a).2:=(afE S.1 a).imp id fun h=>⟨a,hK,h⟩
def DK(a:At):Prop:= ∃r:Nat,a=fG r
def BD(a:At):Prop:= ∃p t:Nat,a=iV p t
theorem Ld(r:Int):∀(ts:List Nat) (P:dO) {l:Tab},kM DK l P.roots->QF DK l r->kM DK l (ts.foldl (fun P t=>{P with roots:=dM P.roots t r}) P).roots
 | [],P,l,h,_=>h
 |t::ts,P,l,h,hr=>Ld r ts _ (h.push t hr) hr
structure yZ (l0:Tab) (E:ES):Prop where
 gr:fD l0 E.1.1
 rt:kM DK E.1.1 E.2.roots
theorem yZ.to{l0:Tab}{E E':ES}(h:yZ l0 E)(g:fD E.1.1 E'.1.1)(hr:E'.2.roots=E.2.roots):yZ l0 E':=⟨h.gr.tr g,by rw[hr];exact h.rt.gr g⟩
theorem yZ.root{l0:Tab}{E:ES}(h:yZ l0 E)(x:aF)(l:List Nat)(names:List Str)(r:Nat)(s:gZ):yZ l0 (E.root x l names r s):=by
 have g1:=TB.oJ E.1 (fG r);have hP:=Ld (E.1.num (fG r)).2 (x.targets s.name) E.2 (h.rt.gr g1) (TB.Xu E.1 (fG r) (K:=DK) ⟨r,rfl⟩);unfold ES.root;dsimp only;generalize (x.targets s.name).foldl (fun P t=>{P with roots:=dM P.roots t (E.1.num (fG r)).2}) E.2=P at hP⊢;by_cases h1:0<=x.find s.name;·rw[if_pos h1];have g:=(TB.QE (E.1.num (fG r)).1 x l (x.find s.name).toNat r 1 s).tr (TB.tC _ [-(E.1.num (fG r)).2,((E.1.num (fG r)).1.meet x l (x.find s.name).toNat r 1 s).2]);exact⟨h.gr.tr (g1.tr g),hP.gr g⟩
 rw[if_neg h1];by_cases h2:bY names s.name<0;·rw[if_pos h2];have g:=TB.tC (E.1.num (fG r)).1 [-(E.1.num (fG r)).2];exact⟨h.gr.tr (g1.tr g),hP.gr g⟩
 rw[if_neg h2];have g:=(TB.oJ (E.1.num (fG r)).1 (fU (bY names s.name).toNat)).tr (TB.tC _ [-(E.1.num (fG r)).2,((E.1.num (fG r)).1.num (fU (bY names s.name).toNat)).2]);exact⟨h.gr.tr (g1.tr g),hP.gr g⟩
theorem yZ.goes{l0:Tab}{E:ES}(h:yZ l0 E)(p t:Nat)(active:Int):yZ l0 (E.goes p t active).1:=h.to (TB.oJ _ _) rfl
theorem yZ.bG{l0:Tab}{E:ES}(h:yZ l0 E)(c:List Int):yZ l0 (E.1.bG c,E.2):=h.to (TB.tC _ _) rfl
theorem yZ.num{l0:Tab}{E:ES}(h:yZ l0 E)(a:At):yZ l0 ((E.1.num a).1,E.2):=h.to (TB.oJ _ _) rfl
theorem yZ.meet{l0:Tab}{E:ES}(h:yZ l0 E)(x:aF)(l:List Nat)(p rule c:Nat)(s:gZ):yZ l0 ((E.1.meet x l p rule c s).1,E.2):=h.to (TB.QE _ _ _ _ _ _ _) rfl
theorem yZ.uN{β:Type}{l0:Tab}(f:ES->β->ES)(hf:∀E b,yZ l0 E->yZ l0 (f E b)):∀(l:List β) {E:ES},yZ l0 E->yZ l0 (l.foldl f E)
 | [],_,h=>h
 |b::r,E,h=>yZ.uN f hf r (hf E b h)
theorem yZ.depend{l0:Tab}{E:ES}(h:yZ l0 E)(x:aF)(l:List Nat)(names:List Str)(r p k:Nat)(d:tJ):yZ l0 (E.depend x l names r p k d):=by
 unfold ES.depend;dsimp only;have hW:=((h.num (lX p k)).num (fG r)).meet x l p r 0 d.cond;dsimp only at hW;generalize ((E.1.num (lX p k)).1.num (fG r)).1.meet x l p r 0 d.cond=W at hW⊢;generalize ((E.1.num (lX p k)).1.num (fG r)).2=R;generalize (E.1.num (lX p k)).2=A;have hS:yZ l0 ((if [A,R,W.2].contains 0=true then W.1 else ((W.1.1,W.1.2.adds (nC A [R,W.2])):TB)),E.2):=by
  by_cases hc:[A,R,W.2].contains 0=true;·rw[if_pos hc];exact hW
  rw[if_neg hc];exact hW.to (E':=((W.1.1,W.1.2.adds (nC A [R,W.2])),E.2)) fD.rfl' rfl
 generalize (if [A,R,W.2].contains 0=true then W.1 else ((W.1.1,W.1.2.adds (nC A [R,W.2])):TB))=S at hS⊢;by_cases h1:0<=x.find d.on.name;·rw[if_pos h1];exact(((hS.meet x l _ r 1 d.on).bG _).goes _ _ _).bG _
 rw[if_neg h1];by_cases h2:bY names d.on.name<0;·rw[if_pos h2];exact hS.bG _
 rw[if_neg h2];exact yZ.uN _ (fun E b hE=>((hE.num (aI b)).goes p b A).bG _) _ (((hS.num _).bG _).to (E':=(_,{E.2 with needs:=_})) fD.rfl' rfl)
theorem yZ.conflict{l0:Tab}{E:ES}(h:yZ l0 E)(x:aF)(l:List Nat)(r p:Nat)(c:xX):yZ l0 (E.conflict x l r p c):=by
 unfold ES.conflict;dsimp only;have hW:=(h.num (fG r)).meet x l p r 0 c.cond;by_cases h1:c.with'.name=ByteArray.empty;·rw[if_pos h1];exact hW.bG _
 rw[if_neg h1];by_cases h2:0<=x.find c.with'.name/\(x.find c.with'.name).toNat∈l;·rw[if_pos h2];exact(hW.meet x l _ r 1 c.with').bG _
 rw[if_neg h2];exact hW
theorem yZ.rule{l0:Tab}{E:ES}(h:yZ l0 E)(x:aF)(q:dH)(l:List Nat)(names:List Str)(r:Nat)(y:bW):yZ l0 (E.rule x q l names r y):=by
 unfold ES.rule;by_cases h1:y.kind=1;·rw[if_pos h1];exact h.root x l names r _
 rw[if_neg h1];by_cases h2:y.kind=2;·rw[if_pos h2];exact h.depend x l names r _ _ _
 rw[if_neg h2];by_cases h3:y.kind=3;·rw[if_pos h3];exact h.conflict x l r _ _
 rw[if_neg h3];exact h
theorem yZ.rules{l0:Tab}{E:ES}(h:yZ l0 E)(x:aF)(q:dH)(l:List Nat)(names:List Str)(rs:List bW):∀r,yZ l0 (E.rules x q l names rs r)
 |0=>h
 |r+1=>(yZ.rules h x q l names rs r).rule x q l names r _
end Go.Proofs.YtdmmebjjojimiaaGreatDoor
namespace Go.Proofs
theorem zA8{p:Prop}(h:p:=by rw[qN,Nat.mul_add];omega):p:=h
theorem zBJ{p:Prop}(h:p:=by rw[qN];omega):p:=h
theorem zBg{p:Prop}(h:p:=by rw[List.length_drop];omega):p:=h
theorem zBi{p:Prop}(h:p:=by rw[Nat.succ_mul r];omega):p:=h
theorem zDc{p:Prop}(h:p:=by
 by_cases hc:[A,R,W.2].contains 0=true
 ·rw[if_pos hc];exact hW.up zBU zAB
 ·rw[if_neg hc];exact(hW.tr (Gr.adds _ _)).up zAB (by rw[Le];simp)):p:=h
end Go.Proofs
namespace Go.Proofs.YtdmmebjjojimiaaGreatDoor
open Go.RowKit
structure Gr (S S':TB) (k n:Nat):Prop where
 tab:fD S.1 S'.1
 len:S'.1.l.length<=S.1.l.length+k
 lim:S'.1.limit=S.1.limit
 full:S.1.l.length+k<=S.1.limit->S'.1.full=S.1.full
 cls:∃ds,S'.2.cls=S.2.cls++ds/\ds.length<=n
 Uo:S.2.cls.length+n<=262144->S'.2.full=S.2.full
theorem Gr.rfl'{S:TB}:Gr S S 0 0:=⟨fD.rfl',qH _,rfl,fun _=>rfl,⟨[],by simp,qH _⟩,fun _=>rfl⟩
theorem Gr.up{S S':TB}{k n k' n':Nat}(h:Gr S S' k n)(hk:k<=k')(hn:n<=n'):Gr S S' k' n':=by obtain⟨ds,h1,h2⟩:=h.cls;exact⟨h.tab,by have:=h.len;omega,h.lim,fun e=>h.full zBU,⟨ds,h1,by omega⟩,fun e=>h.Uo zAB⟩
theorem Gr.tr{A B C:TB}{k n k' n':Nat}(h:Gr A B k n)(g:Gr B C k' n'):Gr A C (k+k') (n+n'):=by
 obtain⟨ds,h1,h2⟩:=h.cls;obtain⟨es,g1,g2⟩:=g.cls;refine⟨h.tab.tr g.tab,by have:=h.len;have:=g.len;omega,g.lim.trans h.lim,fun e=>?_,⟨ds++es,by rw[g1,h1,yW],by rw[qK];omega⟩,fun e=>?_⟩;·rw[g.full (by rw[h.lim];have:=h.len;omega),h.full zAB]
 rw[g.Uo (by rw[h1,qK];omega),h.Uo zAB]
theorem Gr.num(S:TB)(a:At):Gr S (S.num a).1 1 0:=by
 refine⟨TB.oJ S a,?_,?_,?_,⟨[],by simp[TB.num],qH _⟩,fun _=>rfl⟩<;>(show _;unfold TB.num Tab.num;dsimp only;by_cases hm:a∈S.1.l);·rw[if_pos hm];exact Nat.le_succ _
 ·rw[if_neg hm];by_cases hl:S.1.limit<=S.1.l.length;·rw[if_pos hl];exact Nat.le_succ _
  rw[if_neg hl];simp
 ·rw[if_pos hm]
 ·rw[if_neg hm];by_cases hl:S.1.limit<=S.1.l.length;·rw[if_pos hl]
  rw[if_neg hl]
 ·rw[if_pos hm];exact fun _=>rfl
 rw[if_neg hm];intro e;rw[if_neg zAB]
theorem Gr.nums:∀(l:List At) (S:TB),Gr S (S.nums l).1 l.length 0
 | [],S=>Gr.rfl'
 |a::r,S=>((Gr.num S a).tr (Gr.nums r (S.num a).1)).up zAU (qH _)
theorem acW(B:kD)(xs:List Int):(∃ds,(B.add xs).cls=B.cls++ds/\ds.length<=1)/\(B.cls.length+1<=262144->(B.add xs).full=B.full):=by
 unfold kD.add;split;·exact⟨⟨[],by simp,by simp⟩,fun _=>rfl⟩
 cases ig.form xs with
 |none=>exact⟨⟨[],by simp,by simp⟩,fun _=>rfl⟩
 |some f=>
  dsimp only;by_cases hl:262144<=B.cls.length;·rw[if_pos hl];exact⟨⟨[],by simp,by simp⟩,fun e=>by omega⟩
  rw[if_neg hl];exact⟨⟨[f],rfl,by simp⟩,fun _=>rfl⟩
theorem JE:∀(cs:List (List Int)) (B:kD),(∃ds,(B.adds cs).cls=B.cls++ds/\ds.length<=cs.length)/\(B.cls.length+cs.length<=262144->(B.adds cs).full=B.full)
 | [],B=>⟨⟨[],by simp[kD.adds],by simp⟩,fun _=>rfl⟩
 |c::cs,B=>by
  obtain⟨⟨d1,h1,k1⟩,f1⟩:=acW B c
  obtain⟨⟨d2,h2,k2⟩,f2⟩:=JE cs (B.add c)
  refine⟨⟨d1++d2,?_,by rw[qK,qN];omega⟩,fun e=>?_⟩
  ·show((B.add c).adds cs).cls=_
   rw[h2,h1,yW]
  ·show((B.add c).adds cs).full=_
   rw[qN]at e
   rw[f2 (by rw[h1,qK];omega),f1 zAB]
theorem Gr.bG(S:TB)(l:List Int):Gr S (S.bG l) 0 1:=by
 unfold TB.bG;by_cases hc:l.contains 0=true;·rw[if_pos hc];exact Gr.rfl'.up (qH _) (qE _)
 rw[if_neg hc];obtain⟨h1,h2⟩:=acW S.2 l;exact⟨fD.rfl',qH _,rfl,fun _=>rfl,h1,h2⟩
theorem Gr.adds(S:TB)(cs:List (List Int)):Gr S (S.1,S.2.adds cs) 0 cs.length:=by obtain⟨h1,h2⟩:=JE cs S.2;exact⟨fD.rfl',qH _,rfl,fun _=>rfl,h1,h2⟩
theorem Gr.help(S:TB):Gr S S.help.1 1 0:=by have h:=Gr.num ({S.1 with helps:=qB S.1},S.2) (hA (qB S.1));exact⟨h.tab,h.len,h.lim,h.full,h.cls,h.Uo⟩
theorem acX(x:Int)(l:List Int):(Hw x l).length=l.length+1:=by simp[Hw]
theorem Le(x:Int)(l:List Int):(nC x l).length=l.length+1:=by simp[nC]
theorem jT:∀(l:List At) (T:Tab),(T.nums l).2.length=l.length
 | [],T=>rfl
 |a::r,T=>by
  show((T.num a).2::((T.num a).1.nums r).2).length=_
  rw[qN,jT r,qN]
theorem aaj(p:Nat)(aX:List lV)(l:List jm):(ru p aX l).length<=aX.length:=by unfold ru;rw[qM];exact qR (yO _ _) zAF
theorem Gr.set(S:TB)(p:Nat)(aX:List lV)(l:List jm):Gr S (S.set p aX l).1 (aX.length+1) (aX.length+1):=by
 have hl:=aaj p aX l;have h:=(Gr.nums (ru p aX l) S).tr (Gr.help (S.nums (ru p aX l)).1);have hn:(S.nums (ru p aX l)).2.length=(ru p aX l).length:=jT _ _;unfold TB.set;dsimp only;generalize (S.nums (ru p aX l)).1.help=H at h⊢;by_cases hc:0<H.2/\(S.nums (ru p aX l)).2.contains 0=false;·rw[if_pos hc];exact(h.tr (Gr.adds H.1 (Hw H.2 (S.nums (ru p aX l)).2))).up zAB (by rw[acX];omega)
 rw[if_neg hc];exact h.up zBU zAB
theorem Gr.value(S:TB)(p:Nat)(vars:List eP)(s:kC):Gr S (S.value p vars s).1 1 0:=by
 unfold TB.value;split;·exact Gr.rfl'.up (qE _) (qH _)
 exact Gr.num _ _
theorem Gr.values(p:Nat)(vars:List eP):∀(l:List kC) (S:TB),Gr S (S.values p vars l).1 l.length 0
 | [],S=>Gr.rfl'
 |s::r,S=>((Gr.value S p vars s).tr (Gr.values p vars r _)).up zBJ (qH _)
theorem sS(p:Nat)(vars:List eP):∀(l:List kC) (S:TB),(S.values p vars l).2.length=l.length
 | [],S=>rfl
 |s::r,S=>by
  show((S.value p vars s).2::((S.value p vars s).1.values p vars r).2).length=_
  rw[qN,sS p vars r,qN]
theorem Gr.meet(S:TB)(x:aF)(l:List Nat)(p rule c:Nat)(s:gZ):Gr S (S.meet x l p rule c s).1 ((x.pack p).aX.length+s.sets.length+3) ((x.pack p).aX.length+s.sets.length+4):=by
 unfold TB.meet;by_cases h1:p∉l;·rw[if_pos h1];exact Gr.rfl'.up (qE _) (qE _)
 rw[if_neg h1];by_cases h2:dw p rule c∈S.1.l;·rw[if_pos h2];exact Gr.rfl'.up (qE _) (qE _)
 rw[if_neg h2];dsimp only;have hD:=(Gr.num S (dw p rule c)).tr (Gr.num (S.num (dw p rule c)).1 (aI p));have hE:Gr S (if eU s.spans=true then ((((S.num (dw p rule c)).1.num (aI p)).1,[((S.num (dw p rule c)).1.num (aI p)).2]):TB×List Int)else ((((S.num (dw p rule c)).1.num (aI p)).1.set p (x.pack p).aX s.spans).1,[((S.num (dw p rule c)).1.num (aI p)).2,(((S.num (dw p rule c)).1.num (aI p)).1.set p (x.pack p).aX s.spans).2])).1 ((x.pack p).aX.length+3) ((x.pack p).aX.length+1)/\(if eU s.spans=true then ((((S.num (dw p rule c)).1.num (aI p)).1,[((S.num (dw p rule c)).1.num (aI p)).2]):TB×List Int)else ((((S.num (dw p rule c)).1.num (aI p)).1.set p (x.pack p).aX s.spans).1,[((S.num (dw p rule c)).1.num (aI p)).2,(((S.num (dw p rule c)).1.num (aI p)).1.set p (x.pack p).aX s.spans).2])).2.length<=2:=by
  by_cases hc:eU s.spans=true;·rw[if_pos hc];exact⟨hD.up zBU zAB,by simp⟩
  rw[if_neg hc];exact⟨(hD.tr (Gr.set _ _ _ _)).up zBU zAB,by simp⟩
 generalize (if eU s.spans=true then ((((S.num (dw p rule c)).1.num (aI p)).1,[((S.num (dw p rule c)).1.num (aI p)).2]):TB×List Int)else ((((S.num (dw p rule c)).1.num (aI p)).1.set p (x.pack p).aX s.spans).1,[((S.num (dw p rule c)).1.num (aI p)).2,(((S.num (dw p rule c)).1.num (aI p)).1.set p (x.pack p).aX s.spans).2]))=E at hE⊢;have hV:=hE.1.tr (Gr.values p (x.pack p).vars s.sets E.1);have hl:=sS p (x.pack p).vars s.sets E.1;by_cases hc:0<(S.num (dw p rule c)).2/\(E.2++(E.1.values p (x.pack p).vars s.sets).2).contains 0=false;·rw[if_pos hc];exact(hV.tr (Gr.adds (E.1.values p (x.pack p).vars s.sets).1 (nC (S.num (dw p rule c)).2 (E.2++(E.1.values p (x.pack p).vars s.sets).2)))).up zAB (by rw[Le,qK,hl];omega)
 rw[if_neg hc];exact hV.up zBU zAB
def rC(x:aF)(M:Nat)(s:gZ):Prop:= ∀p,(x.pack p).aX.length+s.sets.length+4<=M
theorem Gr.Lh(S:TB)(x:aF)(l:List Nat)(p rule c:Nat){s:gZ}{M:Nat}(h:rC x M s):Gr S (S.meet x l p rule c s).1 M M:=(Gr.meet S x l p rule c s).up (by have:=h p;omega) (by have:=h p;omega)
theorem Gr.root(E:ES)(x:aF)(l:List Nat)(names:List Str)(r:Nat){s:gZ}{M:Nat}(h:rC x M s):Gr E.1 (E.root x l names r s).1 (M+2) (M+2):=by
 have g1:=Gr.num E.1 (fG r);unfold ES.root;dsimp only;by_cases h1:0<=x.find s.name;·rw[if_pos h1];exact((g1.tr (Gr.Lh _ x l (x.find s.name).toNat r 1 h)).tr (Gr.bG _ _)).up zBU zAB
 rw[if_neg h1];by_cases h2:bY names s.name<0;·rw[if_pos h2];exact(g1.tr (Gr.bG _ _)).up zBU zAB
 rw[if_neg h2];exact((g1.tr (Gr.num _ _)).tr (Gr.bG _ _)).up zBU zAB
theorem Gr.uN{β:Type}(f:ES->β->ES)(k n:Nat)(hf:∀E b,Gr E.1 (f E b).1 k n):∀(l:List β) (E:ES),Gr E.1 (l.foldl f E).1 (k*l.length) (n*l.length)
 | [],_=>Gr.rfl'
 |b::r,E=>((hf E b).tr (Gr.uN f k n hf r (f E b))).up (by rw[qN,Nat.mul_add];omega) zA8
theorem Gr.iW{β:Type}(f:TB->β->TB)(k n:Nat)(hf:∀S b,Gr S (f S b) k n):∀(l:List β) (S:TB),Gr S (l.foldl f S) (k*l.length) (n*l.length)
 | [],_=>Gr.rfl'
 |b::r,S=>((hf S b).tr (Gr.iW f k n hf r (f S b))).up (by rw[qN,Nat.mul_add];omega) zA8
theorem Gr.depend(E:ES)(x:aF)(l:List Nat)(names:List Str)(r p k:Nat){d:tJ}{M V:Nat}(hc:rC x M d.cond)(ho:rC x M d.on)(hV:(x.dh d.on.name).length<=V):Gr E.1 (E.depend x l names r p k d).1 (2*M+2*V+8) (2*M+2*V+8):=by
 unfold ES.depend;dsimp only;have hW:=((Gr.num E.1 (lX p k)).tr (Gr.num (E.1.num (lX p k)).1 (fG r))).tr (Gr.Lh ((E.1.num (lX p k)).1.num (fG r)).1 x l p r 0 hc);generalize ((E.1.num (lX p k)).1.num (fG r)).1.meet x l p r 0 d.cond=W at hW⊢;generalize ((E.1.num (lX p k)).1.num (fG r)).2=R;generalize (E.1.num (lX p k)).2=A;have hS:Gr E.1 (if [A,R,W.2].contains 0=true then W.1 else ((W.1.1,W.1.2.adds (nC A [R,W.2])):TB)) (M+2) (M+3):=by exact zDc
 generalize (if [A,R,W.2].contains 0=true then W.1 else ((W.1.1,W.1.2.adds (nC A [R,W.2])):TB))=S at hS⊢;by_cases h1:0<=x.find d.on.name;·rw[if_pos h1];exact((((hS.tr (Gr.Lh S x l (x.find d.on.name).toNat r 1 ho)).tr (Gr.bG _ [-A,(S.meet x l (x.find d.on.name).toNat r 1 d.on).2])).tr (Gr.num _ (iV p (x.find d.on.name).toNat))).tr (Gr.bG _ _)).up zBU zAB
 rw[if_neg h1];by_cases h2:bY names d.on.name<0;·rw[if_pos h2];exact(hS.tr (Gr.bG _ _)).up zBU zAB
 rw[if_neg h2];have hF:=Gr.uN (fun(E:ES) (t:Nat)=>((ES.goes ((E.1.num (aI t)).1,E.2) p t A).1.1.bG [-A,-(E.1.num (aI t)).2,(ES.goes ((E.1.num (aI t)).1,E.2) p t A).2],(ES.goes ((E.1.num (aI t)).1,E.2) p t A).1.2)) 2 1 (fun E b=>(((Gr.num E.1 (aI b)).tr (Gr.num (E.1.num (aI b)).1 (iV p b))).tr (Gr.bG _ _)).up zBU zAB) (x.dh d.on.name) ((S.num (fU (bY names d.on.name).toNat)).1.bG [-A,(S.num (fU (bY names d.on.name).toNat)).2],{E.2 with needs:=kZ E.2.needs (bY names d.on.name).toNat A});exact(((hS.tr (Gr.num S (fU (bY names d.on.name).toNat))).tr (Gr.bG _ _)).tr hF).up zBU zAB
theorem Gr.conflict(E:ES)(x:aF)(l:List Nat)(r p:Nat){c:xX}{M:Nat}(hc:rC x M c.cond)(ho:rC x M c.with'):Gr E.1 (E.conflict x l r p c).1 (2*M+1) (2*M+1):=by
 unfold ES.conflict;dsimp only;have hW:=(Gr.num E.1 (fG r)).tr (Gr.Lh (E.1.num (fG r)).1 x l p r 0 hc);by_cases h1:c.with'.name=ByteArray.empty;·rw[if_pos h1];exact(hW.tr (Gr.bG _ _)).up zBU zAB
 rw[if_neg h1];by_cases h2:0<=x.find c.with'.name/\(x.find c.with'.name).toNat∈l;·rw[if_pos h2];exact((hW.tr (Gr.Lh _ x l (x.find c.with'.name).toNat r 1 ho)).tr (Gr.bG _ _)).up zBU zAB
 rw[if_neg h2];exact hW.up zBU zAB
structure Sizes (x:aF) (q:dH) (M V:Nat):Prop where
 root:∀i,rC x M (q.roots.getD i default).spec
 dep:∀p i,rC x M ((x.pack p).deps.getD i default).cond/\rC x M ((x.pack p).deps.getD i default).on
 con:∀p i,rC x M ((x.pack p).cons.getD i default).cond/\rC x M ((x.pack p).cons.getD i default).with'
 Hz:∀s,(x.dh s).length<=V
theorem Gr.rule(E:ES){x:aF}{q:dH}(l:List Nat)(names:List Str)(r:Nat)(y:bW){M V:Nat}(z:Sizes x q M V):Gr E.1 (E.rule x q l names r y).1 (2*M+2*V+8) (2*M+2*V+8):=by
 unfold ES.rule;by_cases h1:y.kind=1;·rw[if_pos h1];exact(Gr.root E x l names r (z.root _)).up zBU zAB
 rw[if_neg h1];by_cases h2:y.kind=2;·rw[if_pos h2];exact Gr.depend E x l names r _ _ (z.dep _ _).1 (z.dep _ _).2 (z.Hz _)
 rw[if_neg h2];by_cases h3:y.kind=3;·rw[if_pos h3];exact(Gr.conflict E x l r _ (z.con _ _).1 (z.con _ _).2).up zBU zAB
 rw[if_neg h3];exact Gr.rfl'.up (qE _) (qE _)
theorem Gr.rules(E:ES){x:aF}{q:dH}(l:List Nat)(names:List Str)(rs:List bW){M V:Nat}(z:Sizes x q M V):∀r,Gr E.1 (E.rules x q l names rs r).1 (r*(2*M+2*V+8)) (r*(2*M+2*V+8))
 |0=>Gr.rfl'.up (qE _) (qE _)
 |r+1=>((Gr.rules E l names rs z r).tr (Gr.rule _ l names r _ z)).up (by rw[Nat.succ_mul r];omega) zBi
theorem Gr.edge(E:BS)(P:dO)(e:Nat×Nat):Gr E.1 (E.edge P e).1 3 3:=by unfold BS.edge;dsimp only;exact(((((Gr.num E.1 (iV e.1 e.2)).tr (Gr.num _ (aI e.1))).tr (Gr.bG _ _)).tr (Gr.num _ (aI e.2))).tr (Gr.bG _ _)).tr (Gr.bG _ _)
theorem Gr.pairs(S:TB)(n:Int)(row:List Int):Gr S (S.pairs n row) 0 (row.length*row.length):=by have h:=Gr.iW (fun S k=>(row.drop (k+1)).foldl (fun S b=>TB.bG S [-n,-(row.getD k 0),-b]) S) 0 row.length (fun S k=>(Gr.iW (fun S b=>TB.bG S [-n,-(row.getD k 0),-b]) 0 1 (fun S b=>Gr.bG _ _) (row.drop (k+1)) S).up zAB zBg) (List.range row.length) S;exact h.up zAB (by rw[List.length_range];exact qH _)
theorem Gr.name(S:TB)(x:aF)(P:dO)(i:Nat)(s:Str){V:Nat}(hV:(x.dh s).length<=V):Gr S (S.name x P i s) (V+1) (V*V+2):=by
 unfold TB.name;dsimp only;have h1:=((Gr.num S (fU i)).tr (Gr.bG _ (-(S.num (fU i)).2::P.needs.getD i []))).tr (Gr.nums ((x.dh s).map aI) _);have hl:(((S.num (fU i)).1.bG (-(S.num (fU i)).2::P.needs.getD i [])).nums ((x.dh s).map aI)).2.length<=V:=by show(Tab.nums _ _).2.length<=V;rw[jT,qM];exact hV
 refine((h1.tr (Gr.bG _ _)).tr (Gr.pairs _ _ _)).up (by rw[qM];omega) ?_;have:=Nat.mul_le_mul hl hl;omega
theorem Gr.place(S:TB)(P:dO)(into:List (Nat×List Int))(t:Nat):Gr S (S.place P into t) 1 1:=(Gr.num S (aI t)).tr (Gr.bG _ _)
theorem zW{κ:Type}[DecidableEq κ](m:List (κ×List Int))(k:κ)(v:Int):(dM m k v).length<=m.length+1:=by
 unfold dM;split;·rw[qM];exact Nat.le_succ _
 simp
theorem Ur(r:Int):∀(ts:List Nat) (P:dO),(ts.foldl (fun P t=>{P with roots:=dM P.roots t r}) P).of=P.of
 | [],_=>rfl
 |_::ts,_=>Ur r ts _
theorem JF(E:ES)(x:aF)(l:List Nat)(names:List Str)(r:Nat)(s:gZ):(E.root x l names r s).2.of=E.2.of:=by
 have h:=Ur (E.1.num (fG r)).2 (x.targets s.name) E.2;unfold ES.root;dsimp only;by_cases h1:0<=x.find s.name;·rw[if_pos h1];exact h
 rw[if_neg h1];by_cases h2:bY names s.name<0;·rw[if_pos h2];exact h
 rw[if_neg h2];exact h
theorem Ia{β:Type}(f:ES->β->ES)(hf:∀E b,(f E b).2.of.length<=E.2.of.length+1):∀(l:List β) (E:ES),(l.foldl f E).2.of.length<=E.2.of.length+l.length
 | [],_=>qH _
 |b::r,E=>by
  have h1:=Ia f hf r (f E b)
  have h2:=hf E b
  rw[List.foldl_cons,qN]
  omega
theorem aak(E:ES)(x:aF)(l:List Nat)(names:List Str)(r p k:Nat)(d:tJ){V:Nat}(hV:(x.dh d.on.name).length<=V):(E.depend x l names r p k d).2.of.length<=E.2.of.length+(V+1):=by
 unfold ES.depend;dsimp only;by_cases h1:0<=x.find d.on.name;·rw[if_pos h1];exact qR (zW E.2.of _ _) zAB
 rw[if_neg h1];by_cases h2:bY names d.on.name<0;·rw[if_pos h2];exact Nat.le_add_right _ _
 rw[if_neg h2];refine qR (Ia _ (fun E b=>?_) _ _) (by show E.2.of.length+_<=_;omega);exact zW E.2.of _ _
theorem xB(E:ES)(x:aF)(l:List Nat)(r p:Nat)(c:xX):(E.conflict x l r p c).2.of=E.2.of:=by
 unfold ES.conflict;dsimp only;by_cases h1:c.with'.name=ByteArray.empty;·rw[if_pos h1]
 rw[if_neg h1];by_cases h2:0<=x.find c.with'.name/\(x.find c.with'.name).toNat∈l;·rw[if_pos h2]
 rw[if_neg h2]
theorem Us(E:ES){x:aF}{q:dH}(l:List Nat)(names:List Str)(rs:List bW){M V:Nat}(z:Sizes x q M V):∀r,(E.rules x q l names rs r).2.of.length<=E.2.of.length+r*(V+1)
 |0=>by simp[ES.rules]
 |r+1=>by
  have h:=Us E l names rs z r
  have h2:∀E y,(ES.rule E x q l names r y).2.of.length<=E.2.of.length+(V+1):=fun E y=>by
   unfold ES.rule
   by_cases h1:y.kind=1
   ·rw[if_pos h1,JF];exact Nat.le_add_right _ _
   ·rw[if_neg h1]
    by_cases h2:y.kind=2
    ·rw[if_pos h2];exact aak E x l names r _ _ _ (z.Hz _)
    ·rw[if_neg h2]
     by_cases h3:y.kind=3
     ·rw[if_pos h3,xB];exact Nat.le_add_right _ _
     ·rw[if_neg h3];exact Nat.le_add_right _ _
  have h3:=h2 (E.rules x q l names rs r) (rs.getD r default)
  show(ES.rule _ x q l names r _).2.of.length<=_
  rw[Nat.succ_mul r]
  omega
theorem aal(E:ES)(x:aF)(l:List Nat)(names:List Str)(r p k:Nat){d:tJ}{M V C:Nat}(hc:rC x M d.cond)(ho:rC x M d.on)(hV:(x.dh d.on.name).length<=V)(h1C:2*M+6<=C)(h2C:M+5*V+3<=C):∃k' o,Gr E.1 (E.depend x l names r p k d).1 k' (2*M+2*V+8)/\(E.depend x l names r p k d).2.of.length<=E.2.of.length+o/\k'+3*o<=C:=by
 unfold ES.depend;dsimp only;have hW:=((Gr.num E.1 (lX p k)).tr (Gr.num (E.1.num (lX p k)).1 (fG r))).tr (Gr.Lh ((E.1.num (lX p k)).1.num (fG r)).1 x l p r 0 hc);generalize ((E.1.num (lX p k)).1.num (fG r)).1.meet x l p r 0 d.cond=W at hW⊢;generalize ((E.1.num (lX p k)).1.num (fG r)).2=R;generalize (E.1.num (lX p k)).2=A;have hS:Gr E.1 (if [A,R,W.2].contains 0=true then W.1 else ((W.1.1,W.1.2.adds (nC A [R,W.2])):TB)) (M+2) (M+3):=by exact zDc
 generalize (if [A,R,W.2].contains 0=true then W.1 else ((W.1.1,W.1.2.adds (nC A [R,W.2])):TB))=S at hS⊢;by_cases h1:0<=x.find d.on.name;·rw[if_pos h1];exact⟨2*M+3,1,((((hS.tr (Gr.Lh S x l (x.find d.on.name).toNat r 1 ho)).tr (Gr.bG _ [-A,(S.meet x l (x.find d.on.name).toNat r 1 d.on).2])).tr (Gr.num _ (iV p (x.find d.on.name).toNat))).tr (Gr.bG _ _)).up zBU zAB,zW E.2.of _ _,by omega⟩
 rw[if_neg h1];by_cases h2:bY names d.on.name<0;·rw[if_pos h2];exact⟨M+2,0,(hS.tr (Gr.bG _ _)).up zBU zAB,qH _,by omega⟩
 rw[if_neg h2];have hF:=Gr.uN (fun(E:ES) (t:Nat)=>((ES.goes ((E.1.num (aI t)).1,E.2) p t A).1.1.bG [-A,-(E.1.num (aI t)).2,(ES.goes ((E.1.num (aI t)).1,E.2) p t A).2],(ES.goes ((E.1.num (aI t)).1,E.2) p t A).1.2)) 2 1 (fun E b=>(((Gr.num E.1 (aI b)).tr (Gr.num (E.1.num (aI b)).1 (iV p b))).tr (Gr.bG _ _)).up zBU zAB) (x.dh d.on.name) ((S.num (fU (bY names d.on.name).toNat)).1.bG [-A,(S.num (fU (bY names d.on.name).toNat)).2],{E.2 with needs:=kZ E.2.needs (bY names d.on.name).toNat A});refine⟨M+3+2*V,V,(((hS.tr (Gr.num S (fU (bY names d.on.name).toNat))).tr (Gr.bG _ _)).tr hF).up zBU zAB,?_,by omega⟩;refine qR (Ia _ (fun E b=>zW E.2.of _ _) _ _) (by show E.2.of.length+_<=_;omega)
theorem afH(E:ES){x:aF}{q:dH}(l:List Nat)(names:List Str)(r:Nat)(y:bW){M V C:Nat}(z:Sizes x q M V)(h1C:2*M+6<=C)(h2C:M+5*V+3<=C):∃k' o,Gr E.1 (E.rule x q l names r y).1 k' (2*M+2*V+8)/\(E.rule x q l names r y).2.of.length<=E.2.of.length+o/\k'+3*o<=C:=by
 unfold ES.rule;by_cases h1:y.kind=1;·rw[if_pos h1];exact⟨M+2,0,(Gr.root E x l names r (z.root _)).up zBU zAB,by rw[JF];exact qH _,by omega⟩
 rw[if_neg h1];by_cases h2:y.kind=2;·rw[if_pos h2];exact aal E x l names r _ _ (z.dep _ _).1 (z.dep _ _).2 (z.Hz _) h1C h2C
 rw[if_neg h2];by_cases h3:y.kind=3;·rw[if_pos h3];exact⟨2*M+1,0,(Gr.conflict E x l r _ (z.con _ _).1 (z.con _ _).2).up zBU zAB,by rw[xB];exact qH _,by omega⟩
 rw[if_neg h3];exact⟨0,0,Gr.rfl'.up (qE _) (qE _),qH _,by omega⟩
theorem Ut(E:ES){x:aF}{q:dH}(l:List Nat)(names:List Str)(rs:List bW){M V C:Nat}(z:Sizes x q M V)(h1C:2*M+6<=C)(h2C:M+5*V+3<=C):∀r,∃k o,Gr E.1 (E.rules x q l names rs r).1 k (r*(2*M+2*V+8))/\(E.rules x q l names rs r).2.of.length<=E.2.of.length+o/\k+3*o<=r*C
 |0=>⟨0,0,Gr.rfl'.up (qE _) (qE _),qH _,by omega⟩
 |r+1=>by
  obtain⟨k,o,g1,g2,g3⟩:=Ut E l names rs z h1C h2C r
  obtain⟨k',o',f1,f2,f3⟩:=afH (E.rules x q l names rs r) l names r (rs.getD r default) z h1C h2C
  exact⟨k+k',o+o',(g1.tr f1).up (qH _) zBi,qR f2 zAB,by rw[Nat.succ_mul r];omega⟩
theorem Gr.edges(S:TB){x:aF}{q:dH}(l:List Nat)(names:List Str)(rs:List bW){M V C:Nat}(z:Sizes x q M V)(h1C:2*M+6<=C)(h2C:M+5*V+3<=C):Gr S (S.edges x q l names rs) (rs.length*C+names.length*(V+1)+l.length) (rs.length*(2*M+2*V+8)+rs.length*C+names.length*(V*V+2)+l.length):=by
 unfold TB.edges;dsimp only;obtain⟨k,o,h1,ho,hC⟩:=Ut (S,⟨[],List.replicate names.length [],[]⟩) l names rs z h1C h2C rs.length;change Gr S (S.lg x q l names rs).1 _ _ at h1;change (S.lg x q l names rs).2.of.length<=_ at ho;generalize S.lg x q l names rs=E at h1 ho⊢;have hk:E.2.edges.length<=o:=by unfold dO.edges;rw[List.length_mergeSort,qM];simpa using ho
 have h2:∀(es:List (Nat×Nat)) (B:BS),Gr B.1 (es.foldl (fun B e=>BS.edge B E.2 e) B).1 (3*es.length) (3*es.length):=fun es=>by
  induction es with
  |nil=>exact fun B=>Gr.rfl'
  |cons e r ih=>exact fun B=>((Gr.edge B E.2 e).tr (ih _)).up (by rw[qN];omega) zBJ
 have h3:=h1.tr (h2 E.2.edges (E.1,[]));generalize E.2.edges.foldl (fun B e=>BS.edge B E.2 e) (E.1,[])=B at h3⊢;have h4:=h3.tr (Gr.iW (fun S i=>TB.name S x E.2 i (names.getD i ByteArray.empty)) (V+1) (V*V+2) (fun S i=>Gr.name S x E.2 i _ (z.Hz _)) (List.range names.length) B.1);have h5:=h4.tr (Gr.iW (fun S t=>TB.place S E.2 B.2 t) 1 1 (fun S t=>Gr.place S E.2 B.2 t) l _);have e2:(V*V+2)*(List.range names.length).length=names.length*(V*V+2):=by rw[List.length_range,Nat.mul_comm]
 have e3:(V+1)*(List.range names.length).length=names.length*(V+1):=by rw[List.length_range,Nat.mul_comm]
 rw[e2,e3]at h5;exact h5.up zBU zAB
def TB.Ej(S:TB)(p t:Nat):TB:=
 if iV p t∈S.1.l then
  (if p=t then S.bG [-(numOf S.1.l (iV p t):Int)]else (S.num (oI p t)).1.bG [-(numOf S.1.l (iV p t):Int),(S.num (oI p t)).2])
 else S
def TB.QG(S:TB)(l:List Nat):TB:=l.foldl (fun S p=>l.foldl (fun S t=>S.Ej p t) S) S
def TB.FT(S:TB)(p t:Nat):TB:=
 let A:=S.num (oI p t)
 let B:=A.1.num (oI t p)
 B.1.bG [-A.2,-B.2]
def TB.Xv(S:TB)(l:List Nat):TB:=(List.range l.length).foldl (fun S i=>(l.drop (i+1)).foldl (fun S t=>S.FT (l.getD i 0) t) S) S
def TB.FU(S:TB)(p t u:Nat):TB:=
 if u≠p/\u≠t then
  let A:=S.num (oI p t)
  let B:=A.1.num (oI t u)
  let C:=B.1.num (oI p u)
  C.1.bG [-A.2,-B.2,C.2]
 else S
def TB.through(S:TB)(l:List Nat)(p t:Nat):TB:=l.foldl (fun S u=>S.FU p t u) S
def TB.Xw(S:TB)(l:List Nat):TB:=l.foldl (fun S p=>l.foldl (fun S t=>if p≠t then S.through l p t else S) S) S
def TB.orders(S:TB)(l:List Nat):TB:=((S.QG l).Xv l).Xw l
theorem Gr.Ej(S:TB)(p t:Nat):Gr S (S.Ej p t) 1 1:=by
 unfold TB.Ej;split
 ·split;·exact(Gr.bG _ _).up zBU zAB
  exact(Gr.num _ _).tr (Gr.bG _ _)
 exact Gr.rfl'.up zBU zAB
theorem Gr.QG(S:TB)(l:List Nat):Gr S (S.QG l) (l.length*l.length) (l.length*l.length):=Gr.iW _ l.length l.length (fun S p=>(Gr.iW (fun S t=>TB.Ej S p t) 1 1 (fun S t=>Gr.Ej S p t) l S).up zBU zAB) l S
theorem Gr.FT(S:TB)(p t:Nat):Gr S (S.FT p t) 2 1:=by unfold TB.FT;dsimp only;exact(((Gr.num _ _).tr (Gr.num _ _)).tr (Gr.bG _ _)).up zBU zAB
theorem Gr.Xv(S:TB)(l:List Nat):Gr S (S.Xv l) (2*l.length*l.length) (l.length*l.length):=by have h:=Gr.iW (fun S i=>(l.drop (i+1)).foldl (fun S t=>TB.FT S (l.getD i 0) t) S) (2*l.length) l.length (fun S i=>(Gr.iW (fun S t=>TB.FT S (l.getD i 0) t) 2 1 (fun S t=>Gr.FT S _ t) (l.drop (i+1)) S).up (by rw[List.length_drop];omega) zBg) (List.range l.length) S;rw[List.length_range]at h;exact h
theorem Gr.FU(S:TB)(p t u:Nat):Gr S (S.FU p t u) 3 1:=by
 unfold TB.FU;split;·dsimp only;exact((((Gr.num _ _).tr (Gr.num _ _)).tr (Gr.num _ _)).tr (Gr.bG _ _)).up zBU zAB
 exact Gr.rfl'.up zBU zAB
theorem Gr.through(S:TB)(l:List Nat)(p t:Nat):Gr S (S.through l p t) (3*l.length) l.length:=(Gr.iW _ 3 1 (fun S u=>Gr.FU S p t u) l S).up zBU zAB
theorem Gr.Xw(S:TB)(l:List Nat):Gr S (S.Xw l) (3*l.length*l.length*l.length) (l.length*l.length*l.length):=by
 refine Gr.iW _ (3*l.length*l.length) (l.length*l.length) (fun S p=>?_) l S;refine(Gr.iW (fun S t=>if p≠t then S.through l p t else S) (3*l.length) l.length (fun S t=>?_) l S);split;·exact Gr.through S l p t
 exact Gr.rfl'.up zBU zAB
theorem Gr.orders(S:TB)(l:List Nat):Gr S (S.orders l) (3*l.length*l.length+3*l.length*l.length*l.length) (2*l.length*l.length+l.length*l.length*l.length):=by
 refine(((Gr.QG S l).tr (Gr.Xv _ l)).tr (Gr.Xw _ l)).up (yG ?_) (yG ?_);·simp only[Nat.mul_assoc,<-Nat.add_mul];omega
 simp only[Nat.mul_assoc];omega
end Go.Proofs.YtdmmebjjojimiaaGreatDoor
