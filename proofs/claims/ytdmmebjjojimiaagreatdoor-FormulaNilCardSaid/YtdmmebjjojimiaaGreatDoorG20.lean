/- Package edge, plain: the table only grows; which atoms the rows of the roots and of the ed; Package edge, plain: how many atoms and clauses each function adds at most. No program in  -/
import Derived.Test.YtdmmebjjojimiaaGreatDoorG19
set_option maxRecDepth 100000
set_option maxHeartbeats 8000000
set_option linter.all false
namespace Go.Proofs.YtdmmebjjojimiaaGreatDoor
open Go.RowKit
def fG(T T':Tab):Prop:=(∃m,T'.l=T.l++m)/\(T.full=true->T'.full=true)
theorem fG.rfl'{T:Tab}:fG T T:=⟨⟨[],by simp⟩,id⟩
theorem fG.tr{a b c:Tab}(h:fG a b)(k:fG b c):fG a c:=by obtain⟨⟨m,hm⟩,h2⟩:=h;obtain⟨⟨n,hn⟩,k2⟩:=k;exact⟨⟨m++n,by rw[hn,hm,yW]⟩,fun e=>k2 (h2 e)⟩
theorem FU(T:Tab)(a:At):fG T (T.num a).1:=by
 obtain⟨m,h,-⟩:=rZ.vN T a;refine⟨⟨m,h⟩,fun e=>?_⟩;unfold Tab.num;by_cases hm:a∈T.l;·rw[if_pos hm];exact e
 rw[if_neg hm];by_cases hl:T.limit<=T.l.length;·rw[if_pos hl]
 rw[if_neg hl];exact e
theorem DC:∀(l:List At) (T:Tab),fG T (T.nums l).1
 | [],_=>fG.rfl'
 |a::r,T=>(FU T a).tr (DC r _)
theorem TB.ng(S:TB)(a:At):fG S.1 (S.num a).1.1:=FU S.1 a
theorem TB.aaW(S:TB)(l:List At):fG S.1 (S.nums l).1.1:=DC l S.1
theorem TB.OB(S:TB)(l:List Int):(S.aV l).1=S.1:=by unfold TB.aV;split<;>rfl
theorem TB.uz(S:TB)(l:List Int):fG S.1 (S.aV l).1:=by rw[TB.OB];exact fG.rfl'
theorem TB.aaX(S:TB):fG S.1 S.help.1.1:=TB.ng ({S.1 with helps:=nX S.1},S.2) (hA (nX S.1))
theorem TB.adG(S:TB)(p:Nat)(aP:List jY)(l:List iD):fG S.1 (S.set p aP l).1.1:=by have h:=(TB.aaW S (mJ p aP l)).tr (TB.aaX (S.nums (mJ p aP l)).1);unfold TB.set;dsimp only;split<;>exact h
theorem TB.Yq(S:TB)(p:Nat)(vars:List fE)(s:jv):fG S.1 (S.value p vars s).1.1:=by
 unfold TB.value;split;·exact fG.rfl'
 exact TB.ng _ _
theorem TB.Jt(p:Nat)(vars:List fE):∀(l:List jv) (S:TB),fG S.1 (S.values p vars l).1.1
 | [],S=>fG.rfl'
 |s::r,S=>(TB.Yq S p vars s).tr (TB.Jt p vars r _)
theorem TB.Us(S:TB)(x:aC)(l:List Nat)(p rule c:Nat)(s:fQ):fG S.1 (S.meet x l p rule c s).1.1:=by
 unfold TB.meet;by_cases h1:p∉l;·rw[if_pos h1];exact fG.rfl'
 rw[if_neg h1];by_cases h2:bM p rule c∈S.1.l;·rw[if_pos h2];exact fG.rfl'
 rw[if_neg h2];dsimp only;have hD:=(TB.ng S (bM p rule c)).tr (TB.ng (S.num (bM p rule c)).1 (aG p));have hE:fG S.1 (if dI s.spans=true then ((((S.num (bM p rule c)).1.num (aG p)).1,[((S.num (bM p rule c)).1.num (aG p)).2]):TB×List Int)else ((((S.num (bM p rule c)).1.num (aG p)).1.set p (x.pack p).aP s.spans).1,[((S.num (bM p rule c)).1.num (aG p)).2,(((S.num (bM p rule c)).1.num (aG p)).1.set p (x.pack p).aP s.spans).2])).1.1:=by
  by_cases hc:dI s.spans=true;·rw[if_pos hc];exact hD
  rw[if_neg hc];exact hD.tr (TB.adG _ _ _ _)
 generalize (if dI s.spans=true then ((((S.num (bM p rule c)).1.num (aG p)).1,[((S.num (bM p rule c)).1.num (aG p)).2]):TB×List Int)else ((((S.num (bM p rule c)).1.num (aG p)).1.set p (x.pack p).aP s.spans).1,[((S.num (bM p rule c)).1.num (aG p)).2,(((S.num (bM p rule c)).1.num (aG p)).1.set p (x.pack p).aP s.spans).2]))=E at hE⊢;have hV:=hE.tr (TB.Jt p (x.pack p).vars s.sets E.1);by_cases hc:0<(S.num (bM p rule c)).2/\(E.2++(E.1.values p (x.pack p).vars s.sets).2).contains 0=false;·rw[if_pos hc];exact hV
 rw[if_neg hc];exact hV
def KW(K:At->Prop)(T:Tab)(z:Int):Prop:=z=0/\T.full=true\/ ∃a,K a/\rZ.dJ T.l a z
theorem KW.gr{K:At->Prop}{l l':Tab}{z:Int}(h:KW K l z)(g:fG l l'):KW K l' z:=by
 obtain⟨⟨m,hm⟩,g2⟩:=g;rcases h with h| ⟨a,h1,h2⟩;·exact .inl ⟨h.1,g2 h.2⟩
 exact .inr ⟨a,h1,by rw[hm];exact h2.mono⟩
def jc{κ:Type}(K:At->Prop)(l:Tab)(m:List (κ×List Int)):Prop:= ∀e∈m,∀z∈e.2,KW K l z
theorem jc.gr{κ:Type}{K:At->Prop}{l l':Tab}{m:List (κ×List Int)}(h:jc K l m)(g:fG l l'):jc K l' m:=fun e he z hz=>(h e he z hz).gr g
theorem jc.push{κ:Type}[DecidableEq κ]{K:At->Prop}{l:Tab}{m:List (κ×List Int)}(h:jc K l m)(k:κ){v:Int}(hv:KW K l v):jc K l (dH m k v):=by
 unfold dH;split
 ·intro e he z hz;obtain⟨e0,h0,rfl⟩:=yD.1 he;by_cases hk:e0.1=k
  ·rw[if_pos hk]at hz;rcases qW.1 hz with hz|hz;·exact h e0 h0 z hz
   rw[yJ.1 hz];exact hv
  rw[if_neg hk]at hz;exact h e0 h0 z hz
 intro e he z hz;rcases qW.1 he with he|he;·exact h e he z hz
 rw[yJ.1 he]at hz;rw[yJ.1 hz];exact hv
theorem jc.get{κ:Type}[DecidableEq κ]{K:At->Prop}{l:Tab}{m:List (κ×List Int)}(h:jc K l m)(k:κ):∀z∈bT m k,KW K l z:=by
 intro z hz;unfold bT at hz;cases hf:m.find? (fun e=>decide (e.1=k))with
 |none=>rw[hf]at hz;simp at hz
 |some e=>rw[hf]at hz;exact h e (List.mem_of_find?_eq_some hf) z (by simpa using hz)
theorem aaY(T:Tab)(a:At):((T.num a).2=0/\(T.num a).1.full=true)\/rZ.dJ (T.num a).1.l a (T.num a).2:=by
 unfold Tab.num;by_cases hm:a∈T.l
 ·rw[if_pos hm];refine .inr ?_;have hlt:=List.idxOf_lt_length_of_mem hm;simp only[numOf,if_pos hm];refine⟨by omega,by omega,?_⟩;have e:(((List.idxOf a T.l+1:Nat):Int).natAbs-1)=List.idxOf a T.l:=zBB;have e':((((List.idxOf a T.l:Nat):Int)+1).natAbs-1)=List.idxOf a T.l:=zBB;rw[qC];first|rw[e,qA hlt]|rw[e',qA hlt]
  simp
 rw[if_neg hm];by_cases hl:T.limit<=T.l.length;·rw[if_pos hl];exact .inl ⟨rfl,rfl⟩
 rw[if_neg hl];refine .inr ⟨by show(0:Int)<(T.l.length:Int)+1;omega,?_,?_⟩;·show(((T.l.length:Int)+1).natAbs)<=(T.l++[a]).length;simp;omega
 exact zD2
theorem TB.Rz(S:TB)(a:At){K:At->Prop}(hK:K a):KW K (S.num a).1.1 (S.num a).2:=(aaY S.1 a).imp id fun h=>⟨a,hK,h⟩
def xM(a:At):Prop:= ∃r:Nat,a=eH r
def vS(a:At):Prop:= ∃p t:Nat,a=gY p t
theorem FV(r:Int):∀(ts:List Nat) (P:dR) {l:Tab},jc xM l P.roots->KW xM l r->jc xM l (ts.foldl (fun P t=>{P with roots:=dH P.roots t r}) P).roots
 | [],P,l,h,_=>h
 |t::ts,P,l,h,hr=>FV r ts _ (h.push t hr) hr
structure sU (l0:Tab) (E:ES):Prop where
 gr:fG l0 E.1.1
 rt:jc xM E.1.1 E.2.roots
theorem sU.to{l0:Tab}{E E':ES}(h:sU l0 E)(g:fG E.1.1 E'.1.1)(hr:E'.2.roots=E.2.roots):sU l0 E':=⟨h.gr.tr g,by rw[hr];exact h.rt.gr g⟩
theorem sU.root{l0:Tab}{E:ES}(h:sU l0 E)(x:aC)(l:List Nat)(names:List Str)(r:Nat)(s:fQ):sU l0 (E.root x l names r s):=by
 have g1:=TB.ng E.1 (eH r);have hP:=FV (E.1.num (eH r)).2 (x.targets s.name) E.2 (h.rt.gr g1) (TB.Rz E.1 (eH r) (K:=xM) ⟨r,rfl⟩);unfold ES.root;dsimp only;generalize (x.targets s.name).foldl (fun P t=>{P with roots:=dH P.roots t (E.1.num (eH r)).2}) E.2=P at hP⊢;by_cases h1:0<=x.find s.name;·rw[if_pos h1];have g:=(TB.Us (E.1.num (eH r)).1 x l (x.find s.name).toNat r 1 s).tr (TB.uz _ [-(E.1.num (eH r)).2,((E.1.num (eH r)).1.meet x l (x.find s.name).toNat r 1 s).2]);exact⟨h.gr.tr (g1.tr g),hP.gr g⟩
 rw[if_neg h1];by_cases h2:bP names s.name<0;·rw[if_pos h2];have g:=TB.uz (E.1.num (eH r)).1 [-(E.1.num (eH r)).2];exact⟨h.gr.tr (g1.tr g),hP.gr g⟩
 rw[if_neg h2];have g:=(TB.ng (E.1.num (eH r)).1 (eG (bP names s.name).toNat)).tr (TB.uz _ [-(E.1.num (eH r)).2,((E.1.num (eH r)).1.num (eG (bP names s.name).toNat)).2]);exact⟨h.gr.tr (g1.tr g),hP.gr g⟩
theorem sU.goes{l0:Tab}{E:ES}(h:sU l0 E)(p t:Nat)(active:Int):sU l0 (E.goes p t active).1:=h.to (TB.ng _ _) rfl
theorem sU.aV{l0:Tab}{E:ES}(h:sU l0 E)(c:List Int):sU l0 (E.1.aV c,E.2):=h.to (TB.uz _ _) rfl
theorem sU.num{l0:Tab}{E:ES}(h:sU l0 E)(a:At):sU l0 ((E.1.num a).1,E.2):=h.to (TB.ng _ _) rfl
theorem sU.meet{l0:Tab}{E:ES}(h:sU l0 E)(x:aC)(l:List Nat)(p rule c:Nat)(s:fQ):sU l0 ((E.1.meet x l p rule c s).1,E.2):=h.to (TB.Us _ _ _ _ _ _ _) rfl
theorem sU.oJ{β:Type}{l0:Tab}(f:ES->β->ES)(hf:∀E b,sU l0 E->sU l0 (f E b)):∀(l:List β) {E:ES},sU l0 E->sU l0 (l.foldl f E)
 | [],_,h=>h
 |b::r,E,h=>sU.oJ f hf r (hf E b h)
theorem sU.depend{l0:Tab}{E:ES}(h:sU l0 E)(x:aC)(l:List Nat)(names:List Str)(r p k:Nat)(d:oO):sU l0 (E.depend x l names r p k d):=by
 unfold ES.depend;dsimp only;have hW:=((h.num (jJ p k)).num (eH r)).meet x l p r 0 d.cond;dsimp only at hW;generalize ((E.1.num (jJ p k)).1.num (eH r)).1.meet x l p r 0 d.cond=W at hW⊢;generalize ((E.1.num (jJ p k)).1.num (eH r)).2=R;generalize (E.1.num (jJ p k)).2=A;have hS:sU l0 ((if [A,R,W.2].contains 0=true then W.1 else ((W.1.1,W.1.2.adds (kL A [R,W.2])):TB)),E.2):=by
  by_cases hc:[A,R,W.2].contains 0=true;·rw[if_pos hc];exact hW
  rw[if_neg hc];exact hW.to (E':=((W.1.1,W.1.2.adds (kL A [R,W.2])),E.2)) fG.rfl' rfl
 generalize (if [A,R,W.2].contains 0=true then W.1 else ((W.1.1,W.1.2.adds (kL A [R,W.2])):TB))=S at hS⊢;by_cases h1:0<=x.find d.on.name;·rw[if_pos h1];exact(((hS.meet x l _ r 1 d.on).aV _).goes _ _ _).aV _
 rw[if_neg h1];by_cases h2:bP names d.on.name<0;·rw[if_pos h2];exact hS.aV _
 rw[if_neg h2];exact sU.oJ _ (fun E b hE=>((hE.num (aG b)).goes p b A).aV _) _ (((hS.num _).aV _).to (E':=(_,{E.2 with needs:=_})) fG.rfl' rfl)
theorem sU.conflict{l0:Tab}{E:ES}(h:sU l0 E)(x:aC)(l:List Nat)(r p:Nat)(c:uh):sU l0 (E.conflict x l r p c):=by
 unfold ES.conflict;dsimp only;have hW:=(h.num (eH r)).meet x l p r 0 c.cond;by_cases h1:c.with'.name=ByteArray.empty;·rw[if_pos h1];exact hW.aV _
 rw[if_neg h1];by_cases h2:0<=x.find c.with'.name/\(x.find c.with'.name).toNat∈l;·rw[if_pos h2];exact(hW.meet x l _ r 1 c.with').aV _
 rw[if_neg h2];exact hW
theorem sU.rule{l0:Tab}{E:ES}(h:sU l0 E)(x:aC)(q:dG)(l:List Nat)(names:List Str)(r:Nat)(y:bG):sU l0 (E.rule x q l names r y):=by
 unfold ES.rule;by_cases h1:y.kind=1;·rw[if_pos h1];exact h.root x l names r _
 rw[if_neg h1];by_cases h2:y.kind=2;·rw[if_pos h2];exact h.depend x l names r _ _ _
 rw[if_neg h2];by_cases h3:y.kind=3;·rw[if_pos h3];exact h.conflict x l r _ _
 rw[if_neg h3];exact h
theorem sU.rules{l0:Tab}{E:ES}(h:sU l0 E)(x:aC)(q:dG)(l:List Nat)(names:List Str)(rs:List bG):∀r,sU l0 (E.rules x q l names rs r)
 |0=>h
 |r+1=>(sU.rules h x q l names rs r).rule x q l names r _
end Go.Proofs.YtdmmebjjojimiaaGreatDoor
namespace Go.Proofs
theorem zAo{p:Prop}(h:p:=by rw[qN,Nat.mul_add];omega):p:=h
theorem zAy{p:Prop}(h:p:=by rw[qN];omega):p:=h
theorem zBJ{p:Prop}(h:p:=by rw[List.length_drop];omega):p:=h
theorem zBK{p:Prop}(h:p:=by rw[Nat.succ_mul r];omega):p:=h
theorem zD1{p:Prop}(h:p:=by
 by_cases hc:[A,R,W.2].contains 0=true
 ·rw[if_pos hc];exact hW.up zAB zBB
 ·rw[if_neg hc];exact(hW.tr (Gr.adds _ _)).up zBB (by rw[FW];simp)):p:=h
end Go.Proofs
namespace Go.Proofs.YtdmmebjjojimiaaGreatDoor
open Go.RowKit
structure Gr (S S':TB) (k n:Nat):Prop where
 tab:fG S.1 S'.1
 len:S'.1.l.length<=S.1.l.length+k
 lim:S'.1.limit=S.1.limit
 full:S.1.l.length+k<=S.1.limit->S'.1.full=S.1.full
 cls:∃ds,S'.2.cls=S.2.cls++ds/\ds.length<=n
 Ut:S.2.cls.length+n<=262144->S'.2.full=S.2.full
theorem Gr.rfl'{S:TB}:Gr S S 0 0:=⟨fG.rfl',qH _,rfl,fun _=>rfl,⟨[],by simp,qH _⟩,fun _=>rfl⟩
theorem Gr.up{S S':TB}{k n k' n':Nat}(h:Gr S S' k n)(hk:k<=k')(hn:n<=n'):Gr S S' k' n':=by obtain⟨ds,h1,h2⟩:=h.cls;exact⟨h.tab,by have:=h.len;omega,h.lim,fun e=>h.full zAB,⟨ds,h1,by omega⟩,fun e=>h.Ut zBB⟩
theorem Gr.tr{A B C:TB}{k n k' n':Nat}(h:Gr A B k n)(g:Gr B C k' n'):Gr A C (k+k') (n+n'):=by
 obtain⟨ds,h1,h2⟩:=h.cls;obtain⟨es,g1,g2⟩:=g.cls;refine⟨h.tab.tr g.tab,by have:=h.len;have:=g.len;omega,g.lim.trans h.lim,fun e=>?_,⟨ds++es,by rw[g1,h1,yW],by rw[qK];omega⟩,fun e=>?_⟩;·rw[g.full (by rw[h.lim];have:=h.len;omega),h.full zBB]
 rw[g.Ut (by rw[h1,qK];omega),h.Ut zBB]
theorem Gr.num(S:TB)(a:At):Gr S (S.num a).1 1 0:=by
 refine⟨TB.ng S a,?_,?_,?_,⟨[],by simp[TB.num],qH _⟩,fun _=>rfl⟩<;>(show _;unfold TB.num Tab.num;dsimp only;by_cases hm:a∈S.1.l);·rw[if_pos hm];exact Nat.le_succ _
 ·rw[if_neg hm];by_cases hl:S.1.limit<=S.1.l.length;·rw[if_pos hl];exact Nat.le_succ _
  rw[if_neg hl];simp
 ·rw[if_pos hm]
 ·rw[if_neg hm];by_cases hl:S.1.limit<=S.1.l.length;·rw[if_pos hl]
  rw[if_neg hl]
 ·rw[if_pos hm];exact fun _=>rfl
 rw[if_neg hm];intro e;rw[if_neg zBB]
theorem Gr.nums:∀(l:List At) (S:TB),Gr S (S.nums l).1 l.length 0
 | [],S=>Gr.rfl'
 |a::r,S=>((Gr.num S a).tr (Gr.nums r (S.num a).1)).up zAK (qH _)
theorem Yr(B:jf)(xs:List Int):(∃ds,(B.add xs).cls=B.cls++ds/\ds.length<=1)/\(B.cls.length+1<=262144->(B.add xs).full=B.full):=by
 unfold jf.add;split;·exact⟨⟨[],by simp,by simp⟩,fun _=>rfl⟩
 cases fA.form xs with
 |none=>exact⟨⟨[],by simp,by simp⟩,fun _=>rfl⟩
 |some f=>
  dsimp only;by_cases hl:262144<=B.cls.length;·rw[if_pos hl];exact⟨⟨[],by simp,by simp⟩,fun e=>by omega⟩
  rw[if_neg hl];exact⟨⟨[f],rfl,by simp⟩,fun _=>rfl⟩
theorem Ej:∀(cs:List (List Int)) (B:jf),(∃ds,(B.adds cs).cls=B.cls++ds/\ds.length<=cs.length)/\(B.cls.length+cs.length<=262144->(B.adds cs).full=B.full)
 | [],B=>⟨⟨[],by simp[jf.adds],by simp⟩,fun _=>rfl⟩
 |c::cs,B=>by
  obtain⟨⟨d1,h1,k1⟩,f1⟩:=Yr B c
  obtain⟨⟨d2,h2,k2⟩,f2⟩:=Ej cs (B.add c)
  refine⟨⟨d1++d2,?_,by rw[qK,qN];omega⟩,fun e=>?_⟩
  ·show((B.add c).adds cs).cls=_
   rw[h2,h1,yW]
  ·show((B.add c).adds cs).full=_
   rw[qN]at e
   rw[f2 (by rw[h1,qK];omega),f1 zBB]
theorem Gr.aV(S:TB)(l:List Int):Gr S (S.aV l) 0 1:=by
 unfold TB.aV;by_cases hc:l.contains 0=true;·rw[if_pos hc];exact Gr.rfl'.up (qH _) (qE _)
 rw[if_neg hc];obtain⟨h1,h2⟩:=Yr S.2 l;exact⟨fG.rfl',qH _,rfl,fun _=>rfl,h1,h2⟩
theorem Gr.adds(S:TB)(cs:List (List Int)):Gr S (S.1,S.2.adds cs) 0 cs.length:=by obtain⟨h1,h2⟩:=Ej cs S.2;exact⟨fG.rfl',qH _,rfl,fun _=>rfl,h1,h2⟩
theorem Gr.help(S:TB):Gr S S.help.1 1 0:=by have h:=Gr.num ({S.1 with helps:=nX S.1},S.2) (hA (nX S.1));exact⟨h.tab,h.len,h.lim,h.full,h.cls,h.Ut⟩
theorem Yt(x:Int)(l:List Int):(DY x l).length=l.length+1:=by simp[DY]
theorem FW(x:Int)(l:List Int):(kL x l).length=l.length+1:=by simp[kL]
theorem iO:∀(l:List At) (T:Tab),(T.nums l).2.length=l.length
 | [],T=>rfl
 |a::r,T=>by
  show((T.num a).2::((T.num a).1.nums r).2).length=_
  rw[qN,iO r,qN]
theorem VP(p:Nat)(aP:List jY)(l:List iD):(mJ p aP l).length<=aP.length:=by unfold mJ;rw[qM];exact qR (yO _ _) zAE
theorem Gr.set(S:TB)(p:Nat)(aP:List jY)(l:List iD):Gr S (S.set p aP l).1 (aP.length+1) (aP.length+1):=by
 have hl:=VP p aP l;have h:=(Gr.nums (mJ p aP l) S).tr (Gr.help (S.nums (mJ p aP l)).1);have hn:(S.nums (mJ p aP l)).2.length=(mJ p aP l).length:=iO _ _;unfold TB.set;dsimp only;generalize (S.nums (mJ p aP l)).1.help=H at h⊢;by_cases hc:0<H.2/\(S.nums (mJ p aP l)).2.contains 0=false;·rw[if_pos hc];exact(h.tr (Gr.adds H.1 (DY H.2 (S.nums (mJ p aP l)).2))).up zBB (by rw[Yt];omega)
 rw[if_neg hc];exact h.up zAB zBB
theorem Gr.value(S:TB)(p:Nat)(vars:List fE)(s:jv):Gr S (S.value p vars s).1 1 0:=by
 unfold TB.value;split;·exact Gr.rfl'.up (qE _) (qH _)
 exact Gr.num _ _
theorem Gr.values(p:Nat)(vars:List fE):∀(l:List jv) (S:TB),Gr S (S.values p vars l).1 l.length 0
 | [],S=>Gr.rfl'
 |s::r,S=>((Gr.value S p vars s).tr (Gr.values p vars r _)).up zAy (qH _)
theorem ny(p:Nat)(vars:List fE):∀(l:List jv) (S:TB),(S.values p vars l).2.length=l.length
 | [],S=>rfl
 |s::r,S=>by
  show((S.value p vars s).2::((S.value p vars s).1.values p vars r).2).length=_
  rw[qN,ny p vars r,qN]
theorem Gr.meet(S:TB)(x:aC)(l:List Nat)(p rule c:Nat)(s:fQ):Gr S (S.meet x l p rule c s).1 ((x.pack p).aP.length+s.sets.length+3) ((x.pack p).aP.length+s.sets.length+4):=by
 unfold TB.meet;by_cases h1:p∉l;·rw[if_pos h1];exact Gr.rfl'.up (qE _) (qE _)
 rw[if_neg h1];by_cases h2:bM p rule c∈S.1.l;·rw[if_pos h2];exact Gr.rfl'.up (qE _) (qE _)
 rw[if_neg h2];dsimp only;have hD:=(Gr.num S (bM p rule c)).tr (Gr.num (S.num (bM p rule c)).1 (aG p));have hE:Gr S (if dI s.spans=true then ((((S.num (bM p rule c)).1.num (aG p)).1,[((S.num (bM p rule c)).1.num (aG p)).2]):TB×List Int)else ((((S.num (bM p rule c)).1.num (aG p)).1.set p (x.pack p).aP s.spans).1,[((S.num (bM p rule c)).1.num (aG p)).2,(((S.num (bM p rule c)).1.num (aG p)).1.set p (x.pack p).aP s.spans).2])).1 ((x.pack p).aP.length+3) ((x.pack p).aP.length+1)/\(if dI s.spans=true then ((((S.num (bM p rule c)).1.num (aG p)).1,[((S.num (bM p rule c)).1.num (aG p)).2]):TB×List Int)else ((((S.num (bM p rule c)).1.num (aG p)).1.set p (x.pack p).aP s.spans).1,[((S.num (bM p rule c)).1.num (aG p)).2,(((S.num (bM p rule c)).1.num (aG p)).1.set p (x.pack p).aP s.spans).2])).2.length<=2:=by
  by_cases hc:dI s.spans=true;·rw[if_pos hc];exact⟨hD.up zAB zBB,by simp⟩
  rw[if_neg hc];exact⟨(hD.tr (Gr.set _ _ _ _)).up zAB zBB,by simp⟩
 generalize (if dI s.spans=true then ((((S.num (bM p rule c)).1.num (aG p)).1,[((S.num (bM p rule c)).1.num (aG p)).2]):TB×List Int)else ((((S.num (bM p rule c)).1.num (aG p)).1.set p (x.pack p).aP s.spans).1,[((S.num (bM p rule c)).1.num (aG p)).2,(((S.num (bM p rule c)).1.num (aG p)).1.set p (x.pack p).aP s.spans).2]))=E at hE⊢;have hV:=hE.1.tr (Gr.values p (x.pack p).vars s.sets E.1);have hl:=ny p (x.pack p).vars s.sets E.1;by_cases hc:0<(S.num (bM p rule c)).2/\(E.2++(E.1.values p (x.pack p).vars s.sets).2).contains 0=false;·rw[if_pos hc];exact(hV.tr (Gr.adds (E.1.values p (x.pack p).vars s.sets).1 (kL (S.num (bM p rule c)).2 (E.2++(E.1.values p (x.pack p).vars s.sets).2)))).up zBB (by rw[FW,qK,hl];omega)
 rw[if_neg hc];exact hV.up zAB zBB
def lT(x:aC)(M:Nat)(s:fQ):Prop:= ∀p,(x.pack p).aP.length+s.sets.length+4<=M
theorem Gr.FX(S:TB)(x:aC)(l:List Nat)(p rule c:Nat){s:fQ}{M:Nat}(h:lT x M s):Gr S (S.meet x l p rule c s).1 M M:=(Gr.meet S x l p rule c s).up (by have:=h p;omega) (by have:=h p;omega)
theorem Gr.root(E:ES)(x:aC)(l:List Nat)(names:List Str)(r:Nat){s:fQ}{M:Nat}(h:lT x M s):Gr E.1 (E.root x l names r s).1 (M+2) (M+2):=by
 have g1:=Gr.num E.1 (eH r);unfold ES.root;dsimp only;by_cases h1:0<=x.find s.name;·rw[if_pos h1];exact((g1.tr (Gr.FX _ x l (x.find s.name).toNat r 1 h)).tr (Gr.aV _ _)).up zAB zBB
 rw[if_neg h1];by_cases h2:bP names s.name<0;·rw[if_pos h2];exact(g1.tr (Gr.aV _ _)).up zAB zBB
 rw[if_neg h2];exact((g1.tr (Gr.num _ _)).tr (Gr.aV _ _)).up zAB zBB
theorem Gr.oJ{β:Type}(f:ES->β->ES)(k n:Nat)(hf:∀E b,Gr E.1 (f E b).1 k n):∀(l:List β) (E:ES),Gr E.1 (l.foldl f E).1 (k*l.length) (n*l.length)
 | [],_=>Gr.rfl'
 |b::r,E=>((hf E b).tr (Gr.oJ f k n hf r (f E b))).up (by rw[qN,Nat.mul_add];omega) zAo
theorem Gr.fO{β:Type}(f:TB->β->TB)(k n:Nat)(hf:∀S b,Gr S (f S b) k n):∀(l:List β) (S:TB),Gr S (l.foldl f S) (k*l.length) (n*l.length)
 | [],_=>Gr.rfl'
 |b::r,S=>((hf S b).tr (Gr.fO f k n hf r (f S b))).up (by rw[qN,Nat.mul_add];omega) zAo
theorem Gr.depend(E:ES)(x:aC)(l:List Nat)(names:List Str)(r p k:Nat){d:oO}{M V:Nat}(hc:lT x M d.cond)(ho:lT x M d.on)(hV:(x.bZ d.on.name).length<=V):Gr E.1 (E.depend x l names r p k d).1 (2*M+2*V+8) (2*M+2*V+8):=by
 unfold ES.depend;dsimp only;have hW:=((Gr.num E.1 (jJ p k)).tr (Gr.num (E.1.num (jJ p k)).1 (eH r))).tr (Gr.FX ((E.1.num (jJ p k)).1.num (eH r)).1 x l p r 0 hc);generalize ((E.1.num (jJ p k)).1.num (eH r)).1.meet x l p r 0 d.cond=W at hW⊢;generalize ((E.1.num (jJ p k)).1.num (eH r)).2=R;generalize (E.1.num (jJ p k)).2=A;have hS:Gr E.1 (if [A,R,W.2].contains 0=true then W.1 else ((W.1.1,W.1.2.adds (kL A [R,W.2])):TB)) (M+2) (M+3):=by exact zD1
 generalize (if [A,R,W.2].contains 0=true then W.1 else ((W.1.1,W.1.2.adds (kL A [R,W.2])):TB))=S at hS⊢;by_cases h1:0<=x.find d.on.name;·rw[if_pos h1];exact((((hS.tr (Gr.FX S x l (x.find d.on.name).toNat r 1 ho)).tr (Gr.aV _ [-A,(S.meet x l (x.find d.on.name).toNat r 1 d.on).2])).tr (Gr.num _ (gY p (x.find d.on.name).toNat))).tr (Gr.aV _ _)).up zAB zBB
 rw[if_neg h1];by_cases h2:bP names d.on.name<0;·rw[if_pos h2];exact(hS.tr (Gr.aV _ _)).up zAB zBB
 rw[if_neg h2];have hF:=Gr.oJ (fun(E:ES) (t:Nat)=>((ES.goes ((E.1.num (aG t)).1,E.2) p t A).1.1.aV [-A,-(E.1.num (aG t)).2,(ES.goes ((E.1.num (aG t)).1,E.2) p t A).2],(ES.goes ((E.1.num (aG t)).1,E.2) p t A).1.2)) 2 1 (fun E b=>(((Gr.num E.1 (aG b)).tr (Gr.num (E.1.num (aG b)).1 (gY p b))).tr (Gr.aV _ _)).up zAB zBB) (x.bZ d.on.name) ((S.num (eG (bP names d.on.name).toNat)).1.aV [-A,(S.num (eG (bP names d.on.name).toNat)).2],{E.2 with needs:=jK E.2.needs (bP names d.on.name).toNat A});exact(((hS.tr (Gr.num S (eG (bP names d.on.name).toNat))).tr (Gr.aV _ _)).tr hF).up zAB zBB
theorem Gr.conflict(E:ES)(x:aC)(l:List Nat)(r p:Nat){c:uh}{M:Nat}(hc:lT x M c.cond)(ho:lT x M c.with'):Gr E.1 (E.conflict x l r p c).1 (2*M+1) (2*M+1):=by
 unfold ES.conflict;dsimp only;have hW:=(Gr.num E.1 (eH r)).tr (Gr.FX (E.1.num (eH r)).1 x l p r 0 hc);by_cases h1:c.with'.name=ByteArray.empty;·rw[if_pos h1];exact(hW.tr (Gr.aV _ _)).up zAB zBB
 rw[if_neg h1];by_cases h2:0<=x.find c.with'.name/\(x.find c.with'.name).toNat∈l;·rw[if_pos h2];exact((hW.tr (Gr.FX _ x l (x.find c.with'.name).toNat r 1 ho)).tr (Gr.aV _ _)).up zAB zBB
 rw[if_neg h2];exact hW.up zAB zBB
structure Sizes (x:aC) (q:dG) (M V:Nat):Prop where
 root:∀i,lT x M (q.roots.getD i default).spec
 dep:∀p i,lT x M ((x.pack p).deps.getD i default).cond/\lT x M ((x.pack p).deps.getD i default).on
 con:∀p i,lT x M ((x.pack p).cons.getD i default).cond/\lT x M ((x.pack p).cons.getD i default).with'
 CQ:∀s,(x.bZ s).length<=V
theorem Gr.rule(E:ES){x:aC}{q:dG}(l:List Nat)(names:List Str)(r:Nat)(y:bG){M V:Nat}(z:Sizes x q M V):Gr E.1 (E.rule x q l names r y).1 (2*M+2*V+8) (2*M+2*V+8):=by
 unfold ES.rule;by_cases h1:y.kind=1;·rw[if_pos h1];exact(Gr.root E x l names r (z.root _)).up zAB zBB
 rw[if_neg h1];by_cases h2:y.kind=2;·rw[if_pos h2];exact Gr.depend E x l names r _ _ (z.dep _ _).1 (z.dep _ _).2 (z.CQ _)
 rw[if_neg h2];by_cases h3:y.kind=3;·rw[if_pos h3];exact(Gr.conflict E x l r _ (z.con _ _).1 (z.con _ _).2).up zAB zBB
 rw[if_neg h3];exact Gr.rfl'.up (qE _) (qE _)
theorem Gr.rules(E:ES){x:aC}{q:dG}(l:List Nat)(names:List Str)(rs:List bG){M V:Nat}(z:Sizes x q M V):∀r,Gr E.1 (E.rules x q l names rs r).1 (r*(2*M+2*V+8)) (r*(2*M+2*V+8))
 |0=>Gr.rfl'.up (qE _) (qE _)
 |r+1=>((Gr.rules E l names rs z r).tr (Gr.rule _ l names r _ z)).up (by rw[Nat.succ_mul r];omega) zBK
theorem Gr.edge(E:BS)(P:dR)(e:Nat×Nat):Gr E.1 (E.edge P e).1 3 3:=by unfold BS.edge;dsimp only;exact(((((Gr.num E.1 (gY e.1 e.2)).tr (Gr.num _ (aG e.1))).tr (Gr.aV _ _)).tr (Gr.num _ (aG e.2))).tr (Gr.aV _ _)).tr (Gr.aV _ _)
theorem Gr.pairs(S:TB)(n:Int)(row:List Int):Gr S (S.pairs n row) 0 (row.length*row.length):=by have h:=Gr.fO (fun S k=>(row.drop (k+1)).foldl (fun S b=>TB.aV S [-n,-(row.getD k 0),-b]) S) 0 row.length (fun S k=>(Gr.fO (fun S b=>TB.aV S [-n,-(row.getD k 0),-b]) 0 1 (fun S b=>Gr.aV _ _) (row.drop (k+1)) S).up zBB zBJ) (List.range row.length) S;exact h.up zBB (by rw[List.length_range];exact qH _)
theorem Gr.name(S:TB)(x:aC)(P:dR)(i:Nat)(s:Str){V:Nat}(hV:(x.bZ s).length<=V):Gr S (S.name x P i s) (V+1) (V*V+2):=by
 unfold TB.name;dsimp only;have h1:=((Gr.num S (eG i)).tr (Gr.aV _ (-(S.num (eG i)).2::P.needs.getD i []))).tr (Gr.nums ((x.bZ s).map aG) _);have hl:(((S.num (eG i)).1.aV (-(S.num (eG i)).2::P.needs.getD i [])).nums ((x.bZ s).map aG)).2.length<=V:=by show(Tab.nums _ _).2.length<=V;rw[iO,qM];exact hV
 refine((h1.tr (Gr.aV _ _)).tr (Gr.pairs _ _ _)).up (by rw[qM];omega) ?_;have:=Nat.mul_le_mul hl hl;omega
theorem Gr.place(S:TB)(P:dR)(into:List (Nat×List Int))(t:Nat):Gr S (S.place P into t) 1 1:=(Gr.num S (aG t)).tr (Gr.aV _ _)
theorem uD{κ:Type}[DecidableEq κ](m:List (κ×List Int))(k:κ)(v:Int):(dH m k v).length<=m.length+1:=by
 unfold dH;split;·rw[qM];exact Nat.le_succ _
 simp
theorem OC(r:Int):∀(ts:List Nat) (P:dR),(ts.foldl (fun P t=>{P with roots:=dH P.roots t r}) P).of=P.of
 | [],_=>rfl
 |_::ts,_=>OC r ts _
theorem Em(E:ES)(x:aC)(l:List Nat)(names:List Str)(r:Nat)(s:fQ):(E.root x l names r s).2.of=E.2.of:=by
 have h:=OC (E.1.num (eH r)).2 (x.targets s.name) E.2;unfold ES.root;dsimp only;by_cases h1:0<=x.find s.name;·rw[if_pos h1];exact h
 rw[if_neg h1];by_cases h2:bP names s.name<0;·rw[if_pos h2];exact h
 rw[if_neg h2];exact h
theorem CS{β:Type}(f:ES->β->ES)(hf:∀E b,(f E b).2.of.length<=E.2.of.length+1):∀(l:List β) (E:ES),(l.foldl f E).2.of.length<=E.2.of.length+l.length
 | [],_=>qH _
 |b::r,E=>by
  have h1:=CS f hf r (f E b)
  have h2:=hf E b
  rw[List.foldl_cons,qN]
  omega
theorem VQ(E:ES)(x:aC)(l:List Nat)(names:List Str)(r p k:Nat)(d:oO){V:Nat}(hV:(x.bZ d.on.name).length<=V):(E.depend x l names r p k d).2.of.length<=E.2.of.length+(V+1):=by
 unfold ES.depend;dsimp only;by_cases h1:0<=x.find d.on.name;·rw[if_pos h1];exact qR (uD E.2.of _ _) zBB
 rw[if_neg h1];by_cases h2:bP names d.on.name<0;·rw[if_pos h2];exact Nat.le_add_right _ _
 rw[if_neg h2];refine qR (CS _ (fun E b=>?_) _ _) (by show E.2.of.length+_<=_;omega);exact uD E.2.of _ _
theorem rQ(E:ES)(x:aC)(l:List Nat)(r p:Nat)(c:uh):(E.conflict x l r p c).2.of=E.2.of:=by
 unfold ES.conflict;dsimp only;by_cases h1:c.with'.name=ByteArray.empty;·rw[if_pos h1]
 rw[if_neg h1];by_cases h2:0<=x.find c.with'.name/\(x.find c.with'.name).toNat∈l;·rw[if_pos h2]
 rw[if_neg h2]
theorem OD(E:ES){x:aC}{q:dG}(l:List Nat)(names:List Str)(rs:List bG){M V:Nat}(z:Sizes x q M V):∀r,(E.rules x q l names rs r).2.of.length<=E.2.of.length+r*(V+1)
 |0=>by simp[ES.rules]
 |r+1=>by
  have h:=OD E l names rs z r
  have h2:∀E y,(ES.rule E x q l names r y).2.of.length<=E.2.of.length+(V+1):=fun E y=>by
   unfold ES.rule
   by_cases h1:y.kind=1
   ·rw[if_pos h1,Em];exact Nat.le_add_right _ _
   ·rw[if_neg h1]
    by_cases h2:y.kind=2
    ·rw[if_pos h2];exact VQ E x l names r _ _ _ (z.CQ _)
    ·rw[if_neg h2]
     by_cases h3:y.kind=3
     ·rw[if_pos h3,rQ];exact Nat.le_add_right _ _
     ·rw[if_neg h3];exact Nat.le_add_right _ _
  have h3:=h2 (E.rules x q l names rs r) (rs.getD r default)
  show(ES.rule _ x q l names r _).2.of.length<=_
  rw[Nat.succ_mul r]
  omega
theorem VR(E:ES)(x:aC)(l:List Nat)(names:List Str)(r p k:Nat){d:oO}{M V C:Nat}(hc:lT x M d.cond)(ho:lT x M d.on)(hV:(x.bZ d.on.name).length<=V)(h1C:2*M+6<=C)(h2C:M+5*V+3<=C):∃k' o,Gr E.1 (E.depend x l names r p k d).1 k' (2*M+2*V+8)/\(E.depend x l names r p k d).2.of.length<=E.2.of.length+o/\k'+3*o<=C:=by
 unfold ES.depend;dsimp only;have hW:=((Gr.num E.1 (jJ p k)).tr (Gr.num (E.1.num (jJ p k)).1 (eH r))).tr (Gr.FX ((E.1.num (jJ p k)).1.num (eH r)).1 x l p r 0 hc);generalize ((E.1.num (jJ p k)).1.num (eH r)).1.meet x l p r 0 d.cond=W at hW⊢;generalize ((E.1.num (jJ p k)).1.num (eH r)).2=R;generalize (E.1.num (jJ p k)).2=A;have hS:Gr E.1 (if [A,R,W.2].contains 0=true then W.1 else ((W.1.1,W.1.2.adds (kL A [R,W.2])):TB)) (M+2) (M+3):=by exact zD1
 generalize (if [A,R,W.2].contains 0=true then W.1 else ((W.1.1,W.1.2.adds (kL A [R,W.2])):TB))=S at hS⊢;by_cases h1:0<=x.find d.on.name;·rw[if_pos h1];exact⟨2*M+3,1,((((hS.tr (Gr.FX S x l (x.find d.on.name).toNat r 1 ho)).tr (Gr.aV _ [-A,(S.meet x l (x.find d.on.name).toNat r 1 d.on).2])).tr (Gr.num _ (gY p (x.find d.on.name).toNat))).tr (Gr.aV _ _)).up zAB zBB,uD E.2.of _ _,by omega⟩
 rw[if_neg h1];by_cases h2:bP names d.on.name<0;·rw[if_pos h2];exact⟨M+2,0,(hS.tr (Gr.aV _ _)).up zAB zBB,qH _,by omega⟩
 rw[if_neg h2];have hF:=Gr.oJ (fun(E:ES) (t:Nat)=>((ES.goes ((E.1.num (aG t)).1,E.2) p t A).1.1.aV [-A,-(E.1.num (aG t)).2,(ES.goes ((E.1.num (aG t)).1,E.2) p t A).2],(ES.goes ((E.1.num (aG t)).1,E.2) p t A).1.2)) 2 1 (fun E b=>(((Gr.num E.1 (aG b)).tr (Gr.num (E.1.num (aG b)).1 (gY p b))).tr (Gr.aV _ _)).up zAB zBB) (x.bZ d.on.name) ((S.num (eG (bP names d.on.name).toNat)).1.aV [-A,(S.num (eG (bP names d.on.name).toNat)).2],{E.2 with needs:=jK E.2.needs (bP names d.on.name).toNat A});refine⟨M+3+2*V,V,(((hS.tr (Gr.num S (eG (bP names d.on.name).toNat))).tr (Gr.aV _ _)).tr hF).up zAB zBB,?_,by omega⟩;refine qR (CS _ (fun E b=>uD E.2.of _ _) _ _) (by show E.2.of.length+_<=_;omega)
theorem aa1(E:ES){x:aC}{q:dG}(l:List Nat)(names:List Str)(r:Nat)(y:bG){M V C:Nat}(z:Sizes x q M V)(h1C:2*M+6<=C)(h2C:M+5*V+3<=C):∃k' o,Gr E.1 (E.rule x q l names r y).1 k' (2*M+2*V+8)/\(E.rule x q l names r y).2.of.length<=E.2.of.length+o/\k'+3*o<=C:=by
 unfold ES.rule;by_cases h1:y.kind=1;·rw[if_pos h1];exact⟨M+2,0,(Gr.root E x l names r (z.root _)).up zAB zBB,by rw[Em];exact qH _,by omega⟩
 rw[if_neg h1];by_cases h2:y.kind=2;·rw[if_pos h2];exact VR E x l names r _ _ (z.dep _ _).1 (z.dep _ _).2 (z.CQ _) h1C h2C
 rw[if_neg h2];by_cases h3:y.kind=3;·rw[if_pos h3];exact⟨2*M+1,0,(Gr.conflict E x l r _ (z.con _ _).1 (z.con _ _).2).up zAB zBB,by rw[rQ];exact qH _,by omega⟩
 rw[if_neg h3];exact⟨0,0,Gr.rfl'.up (qE _) (qE _),qH _,by omega⟩
theorem OE(E:ES){x:aC}{q:dG}(l:List Nat)(names:List Str)(rs:List bG){M V C:Nat}(z:Sizes x q M V)(h1C:2*M+6<=C)(h2C:M+5*V+3<=C):∀r,∃k o,Gr E.1 (E.rules x q l names rs r).1 k (r*(2*M+2*V+8))/\(E.rules x q l names rs r).2.of.length<=E.2.of.length+o/\k+3*o<=r*C
 |0=>⟨0,0,Gr.rfl'.up (qE _) (qE _),qH _,by omega⟩
 |r+1=>by
  obtain⟨k,o,g1,g2,g3⟩:=OE E l names rs z h1C h2C r
  obtain⟨k',o',f1,f2,f3⟩:=aa1 (E.rules x q l names rs r) l names r (rs.getD r default) z h1C h2C
  exact⟨k+k',o+o',(g1.tr f1).up (qH _) zBK,qR f2 zBB,by rw[Nat.succ_mul r];omega⟩
theorem Gr.edges(S:TB){x:aC}{q:dG}(l:List Nat)(names:List Str)(rs:List bG){M V C:Nat}(z:Sizes x q M V)(h1C:2*M+6<=C)(h2C:M+5*V+3<=C):Gr S (S.edges x q l names rs) (rs.length*C+names.length*(V+1)+l.length) (rs.length*(2*M+2*V+8)+rs.length*C+names.length*(V*V+2)+l.length):=by
 unfold TB.edges;dsimp only;obtain⟨k,o,h1,ho,hC⟩:=OE (S,⟨[],List.replicate names.length [],[]⟩) l names rs z h1C h2C rs.length;change Gr S (S.kM x q l names rs).1 _ _ at h1;change (S.kM x q l names rs).2.of.length<=_ at ho;generalize S.kM x q l names rs=E at h1 ho⊢;have hk:E.2.edges.length<=o:=by unfold dR.edges;rw[List.length_mergeSort,qM];simpa using ho
 have h2:∀(es:List (Nat×Nat)) (B:BS),Gr B.1 (es.foldl (fun B e=>BS.edge B E.2 e) B).1 (3*es.length) (3*es.length):=fun es=>by
  induction es with
  |nil=>exact fun B=>Gr.rfl'
  |cons e r ih=>exact fun B=>((Gr.edge B E.2 e).tr (ih _)).up (by rw[qN];omega) zAy
 have h3:=h1.tr (h2 E.2.edges (E.1,[]));generalize E.2.edges.foldl (fun B e=>BS.edge B E.2 e) (E.1,[])=B at h3⊢;have h4:=h3.tr (Gr.fO (fun S i=>TB.name S x E.2 i (names.getD i ByteArray.empty)) (V+1) (V*V+2) (fun S i=>Gr.name S x E.2 i _ (z.CQ _)) (List.range names.length) B.1);have h5:=h4.tr (Gr.fO (fun S t=>TB.place S E.2 B.2 t) 1 1 (fun S t=>Gr.place S E.2 B.2 t) l _);have e2:(V*V+2)*(List.range names.length).length=names.length*(V*V+2):=by rw[List.length_range,Nat.mul_comm]
 have e3:(V+1)*(List.range names.length).length=names.length*(V+1):=by rw[List.length_range,Nat.mul_comm]
 rw[e2,e3]at h5;exact h5.up zAB zBB
def TB.DZ(S:TB)(p t:Nat):TB:=
 if gY p t∈S.1.l then
  (if p=t then S.aV [-(numOf S.1.l (gY p t):Int)]else (S.num (oI p t)).1.aV [-(numOf S.1.l (gY p t):Int),(S.num (oI p t)).2])
 else S
def TB.OG(S:TB)(l:List Nat):TB:=l.foldl (fun S p=>l.foldl (fun S t=>S.DZ p t) S) S
def TB.FY(S:TB)(p t:Nat):TB:=
 let A:=S.num (oI p t)
 let B:=A.1.num (oI t p)
 B.1.aV [-A.2,-B.2]
def TB.VT(S:TB)(l:List Nat):TB:=(List.range l.length).foldl (fun S i=>(l.drop (i+1)).foldl (fun S t=>S.FY (l.getD i 0) t) S) S
def TB.Iy(S:TB)(p t u:Nat):TB:=
 if u≠p/\u≠t then
  let A:=S.num (oI p t)
  let B:=A.1.num (oI t u)
  let C:=B.1.num (oI p u)
  C.1.aV [-A.2,-B.2,C.2]
 else S
def TB.through(S:TB)(l:List Nat)(p t:Nat):TB:=l.foldl (fun S u=>S.Iy p t u) S
def TB.VU(S:TB)(l:List Nat):TB:=l.foldl (fun S p=>l.foldl (fun S t=>if p≠t then S.through l p t else S) S) S
def TB.orders(S:TB)(l:List Nat):TB:=((S.OG l).VT l).VU l
theorem Gr.DZ(S:TB)(p t:Nat):Gr S (S.DZ p t) 1 1:=by
 unfold TB.DZ;split
 ·split;·exact(Gr.aV _ _).up zAB zBB
  exact(Gr.num _ _).tr (Gr.aV _ _)
 exact Gr.rfl'.up zAB zBB
theorem Gr.OG(S:TB)(l:List Nat):Gr S (S.OG l) (l.length*l.length) (l.length*l.length):=Gr.fO _ l.length l.length (fun S p=>(Gr.fO (fun S t=>TB.DZ S p t) 1 1 (fun S t=>Gr.DZ S p t) l S).up zAB zBB) l S
theorem Gr.FY(S:TB)(p t:Nat):Gr S (S.FY p t) 2 1:=by unfold TB.FY;dsimp only;exact(((Gr.num _ _).tr (Gr.num _ _)).tr (Gr.aV _ _)).up zAB zBB
theorem Gr.VT(S:TB)(l:List Nat):Gr S (S.VT l) (2*l.length*l.length) (l.length*l.length):=by have h:=Gr.fO (fun S i=>(l.drop (i+1)).foldl (fun S t=>TB.FY S (l.getD i 0) t) S) (2*l.length) l.length (fun S i=>(Gr.fO (fun S t=>TB.FY S (l.getD i 0) t) 2 1 (fun S t=>Gr.FY S _ t) (l.drop (i+1)) S).up (by rw[List.length_drop];omega) zBJ) (List.range l.length) S;rw[List.length_range]at h;exact h
theorem Gr.Iy(S:TB)(p t u:Nat):Gr S (S.Iy p t u) 3 1:=by
 unfold TB.Iy;split;·dsimp only;exact((((Gr.num _ _).tr (Gr.num _ _)).tr (Gr.num _ _)).tr (Gr.aV _ _)).up zAB zBB
 exact Gr.rfl'.up zAB zBB
theorem Gr.through(S:TB)(l:List Nat)(p t:Nat):Gr S (S.through l p t) (3*l.length) l.length:=(Gr.fO _ 3 1 (fun S u=>Gr.Iy S p t u) l S).up zAB zBB
theorem Gr.VU(S:TB)(l:List Nat):Gr S (S.VU l) (3*l.length*l.length*l.length) (l.length*l.length*l.length):=by
 refine Gr.fO _ (3*l.length*l.length) (l.length*l.length) (fun S p=>?_) l S;refine(Gr.fO (fun S t=>if p≠t then S.through l p t else S) (3*l.length) l.length (fun S t=>?_) l S);split;·exact Gr.through S l p t
 exact Gr.rfl'.up zAB zBB
theorem Gr.orders(S:TB)(l:List Nat):Gr S (S.orders l) (3*l.length*l.length+3*l.length*l.length*l.length) (2*l.length*l.length+l.length*l.length*l.length):=by
 refine(((Gr.OG S l).tr (Gr.VT _ l)).tr (Gr.VU _ l)).up (yG ?_) (yG ?_);·simp only[Nat.mul_assoc,<-Nat.add_mul];omega
 simp only[Nat.mul_assoc];omega
end Go.Proofs.YtdmmebjjojimiaaGreatDoor
