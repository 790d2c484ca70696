/- Law 14: which atoms of a ground's table are so, helps too. Printed by gen_so4.py.; Package edge, plain: the first two parts where no rule counts. No program in sight. -/
import Derived.Test.YtdmmebjjojimiaaGreatDoorG41
set_option maxRecDepth 100000
set_option maxHeartbeats 8000000
set_option linter.all false
namespace Go.Proofs.YtdmmebjjojimiaaGreatDoor
open Go.RowKit
section
variable {w w':World} {B:Nat}
structure MI (T:Tab) (m0 m1:List Bool):Prop where
 len:m1.length=m0.length
 same:∀i,(T.l.getD i default).1≠9->m1.getD i false=m0.getD i false
 none:(∀i,m0.getD i false=false)->∀i,m1.getD i false=false
theorem MI.refl(T:Tab)(m:List Bool):MI T m m:=⟨rfl,fun _ _=>rfl,fun h=>h⟩
theorem PV(m:List Bool)(i j:Nat)(b:Bool):(m.set i b).getD j false=if i=j/\j<m.length then b else m.getD j false:=by
 rw[qC,List.getElem?_set];by_cases h:i=j
 ·subst h;by_cases hi:i<m.length;·simp[hi]
  simp[hi,qC]
 simp[h,qC]
theorem MI.set{T:Tab}{m0 m:List Bool}(h:MI T m0 m){i n:Nat}(hi:(T.l.getD i default).1=9){b:Bool}(hb:(∀i,m.getD i false=false)->b=false):MI T m0 (m.set i b):=by
 refine⟨by rw[List.length_set];exact h.len,fun j hj=>?_,fun h0 j=>?_⟩
 ·rw[PV];by_cases e:i=j/\j<m.length;·rw[<-e.1]at hj;exact absurd hi hj
  rw[if_neg e];exact h.same j hj
 rw[PV];split;·exact hb (h.none h0)
 exact h.none h0 j
end
theorem aaY(row:List Int):(rO row).length<=row.length*row.length:=by
 have h:∀k,(nM row k).length<=k*row.length:=fun k=>by
  induction k with
  |zero=>simp[nM]
  |succ k ih=>
   rw[AZ,qK,Nat.succ_mul]
   have:(kE row k).length<=row.length:=by unfold kE;simp
   omega
 exact h row.length
theorem aen(node:Int)(row:List Int):(yc node row).length<=row.length*row.length+row.length+1:=by have:=aaY row;unfold yc;simp;omega
theorem Gr.aej(S:TB)(node:Int)(ats:List At){n:Nat}(hn:ats.length<=n):Gr S (S.row node ats) n (n*n+n+1):=by
 have h1:=Gr.nums ats S;have e:(S.1.nums ats).2.length=ats.length:=jT ats S.1;unfold TB.row kD.one;have hm:=Nat.mul_le_mul hn hn;split;·exact h1.up hn (qE _)
 have h2:=h1.tr (Gr.adds (S.nums ats).1 (yc node (S.1.nums ats).2));have:=aen node (S.1.nums ats).2;rw[e]at this;exact h2.up zBU zAB
theorem Gr.vars(S:TB)(node:Int)(p:Nat){vs:List eP}(h:∀v∈vs,v.values.length<=10):∀j,Gr S (S.vars node p vs j) (10*j) (111*j)
 |0=>Gr.rfl'
 |j+1=>by
  have h0:(vs.getD j default).values.length<=10:=by
   rcases yK j vs.length with hj|hj
   ·exact h _ (getD_in hj)
   ·rw[qC,List.getElem?_eq_none hj];exact qE _
  exact((Gr.vars S node p h j).tr (Gr.aej _ node (jo p j (vs.getD j default).values.length) (n:=10) (by rw[rJ.Z7];exact h0))).up zBU zAB
theorem Gr.pack(S:TB)(p:Nat){pk:fP}(h1:pk.aX.length<=10)(h2:pk.vars.length<=4)(h3:∀v∈pk.vars,v.values.length<=10):Gr S (S.pack p pk) 51 555:=by unfold TB.pack;have g1:=(Gr.num S (aI p)).tr (Gr.aej (S.num (aI p)).1 (S.1.num (aI p)).2 (je p pk.aX.length) (n:=10) (by rw[rJ.Z5];exact h1));exact(g1.tr (Gr.vars _ (S.1.num (aI p)).2 p h3 pk.vars.length)).up zBU zAB
theorem Gr.choices(x:aF):∀(l:List Nat) (S:TB),(∀p∈l,(x.pack p).aX.length<=10/\(x.pack p).vars.length<=4/\∀v∈(x.pack p).vars,v.values.length<=10)->Gr S (S.choices x l) (51*l.length) (555*l.length)
 | [],_,_=>Gr.rfl'
 |p::r,S,h=>by
  obtain⟨h1,h2,h3⟩:=h p qQ
  exact((Gr.pack S p h1 h2 h3).tr (Gr.choices x r _ fun q hq=>h q (yE _ hq))).up (by rw[qN];omega) zBJ
theorem gu.nums:∀(l:List At) {T:Tab},gu T->gu (T.nums l).1
 | [],_,h=>h
 |a::r,_,h=>gu.nums r (h.num a)
theorem gu.ahm{S:TB}(h:gu S.1)(node:Int)(p:Nat)(vs:List eP):∀j,gu (S.vars node p vs j).1
 |0=>h
 |j+1=>gu.nums _ (gu.ahm h node p vs j)
theorem gu.choices(x:aF):∀(l:List Nat) {S:TB},gu S.1->gu (S.choices x l).1
 | [],_,h=>h
 |p::r,S,h=>gu.choices x r (S:=S.pack p (x.pack p)) (gu.ahm (S:=TB.row ((S.1.num (aI p)).1,S.2) (S.1.num (aI p)).2 (je p (x.pack p).aX.length)) (gu.nums _ (h.num _)) _ _ _ _)
structure eH (x:aF) (q:dH):Prop where
 sm:uj x
 ch:YH x q
 sp:∀z∈q.roots,gU z.spec
variable {x:aF} {q:dH}
theorem eH.ajt(h:eH x q):∀p∈x.packs,RN p:=fun p hp=>⟨(h.ch.all p hp).aX,fun d hd=>⟨((h.sm.all p hp).ab5 d hd).2.1,((h.sm.all p hp).ab5 d hd).1.1⟩,fun c hc=>⟨((h.sm.all p hp).ab6 c hc).1.1,((h.sm.all p hp).ab6 c hc).2.1⟩⟩
theorem eH.sizes(h:eH x q):Sizes x q 34 8:=aek h.ch.packs h.ajt fun r hr=>(h.sp r hr).1
theorem eH.mid(h:eH x q):He x:=⟨by have:=h.ch.packs;omega,fun p hp=>by have:=(h.ch.all p hp).aX;omega,fun p hp=>by have:=(h.ch.all p hp).vars.1;omega,fun p hp v hv=>by have:=((h.ch.all p hp).vars.2 v hv).2;omega⟩
theorem eH.lt(_:eH x q):∀p∈x.closure q.names,p<x.packs.length:=fun _ hp=>(aF.jA.1 hp).lt
theorem eH.len(h:eH x q):(x.closure q.names).length<=8:=by have:=x.tV q.names;have:=h.ch.packs;omega
theorem xR{α β:Type}{f:α->List β}{M:Nat}:∀{l:List α},(∀y∈l,(f y).length<=M)->(l.flatMap f).length<=M*l.length
 | [],_=>qE _
 |a::r,h=>by
  rw[List.flatMap_cons,qK,qN,Nat.mul_succ]
  have h1:=h a qQ
  have h2:=xR (l:=r) fun y hy=>h y (yE _ hy)
  omega
theorem eH.rules(h:eH x q):(dZ x q (x.closure q.names)).length<=200:=by
 unfold dZ;rw[qK];have h1:(iK q q.roots.length).length=q.roots.length:=by unfold iK;simp
 have h2:=xR (f:=kK x) (M:=24) (l:=x.closure q.names) fun p hp=>by have ok:=h.ch.all _ (aF.iQ (h.lt p hp));have a:=ok.deps;have b:=ok.cons;unfold kK nV rU;simp;omega
 have:=h.len;have:=h.ch.roots;rw[h1];omega
theorem eH.names(h:eH x q):(x.names q).length<=136:=by
 refine qR (x.PN q) ?_;unfold aF.sees;refine qR (yO _ _) ?_;rw[qK];have h1:q.names.length=q.roots.length:=by unfold dH.names;simp
 have h2:=xR (f:=fun p=>(x.pack p).deps.map fun d=>d.on.name) (M:=16) (l:=x.closure q.names) fun p hp=>by have:=(h.ch.all _ (aF.iQ (h.lt p hp))).deps;simp;omega
 have:=h.len;have:=h.ch.roots;omega
noncomputable def Dk (x:aF) (q:dH):xC:=⟨x,q,x.closure q.names,dZ x q (x.closure q.names),x.names q⟩
theorem eH.edq(h:eH x q)(hok:∀s∈x.names q,okS s):EdQ (Dk x q):=by
 have hn:=h.names;have hr:=h.rules;have hl:=h.len;have sd:=fun p hp d hd=>(h.sm.all p hp).ab5 d hd;have sc:=fun p hp d hd=>(h.sm.all p hp).ab6 d hd;unfold gU at sd sc;have sr:=h.sp;unfold gU at sr;refine⟨⟨⟨h.lt,h.mid,?_⟩,rfl,?_,?_,fun p hp=>?_,fun p hp=>?_,fun r hr=>?_,fun p hp d hd=>?_,fun p hp d hd=>?_⟩,rfl,h.sm,hok,⟨34,fun i=>h.sizes.root i,fun p i=>h.sizes.dep p i,fun p i=>h.sizes.con p i,fun s=>qR (h.sizes.Hz s) zAB⟩,?_⟩;·show(x.names q).length<=_;omega
 ·show(dZ x q (x.closure q.names)).length<=800;omega
 ·have:=h.ch.roots;show q.roots.length<=_;omega
 ·have:=(h.ch.all p hp).deps;omega
 ·have:=(h.ch.all p hp).cons;omega
 ·have:=(sr r hr).1;omega
 ·have:=sd p hp d hd;omega
 ·have:=sc p hp d hd;omega
 show(x.closure q.names).length<=_;omega
def T20:Tab:=⟨[],20000,0,false⟩
noncomputable def RP (x:aF) (q:dH):TB:=TB.edges (TB.choices (T20,rJ.B0) x (x.closure q.names)) x q (x.closure q.names) (x.names q) (dZ x q (x.closure q.names))
theorem eH.gr(h:eH x q):Gr (T20,rJ.B0) (TB.choices (T20,rJ.B0) x (x.closure q.names)) 408 4440:=by
 have:=h.len;exact(Gr.choices x (x.closure q.names) (T20,rJ.B0) fun p hp=>by
  have ok:=h.ch.all _ (aF.iQ (h.lt p hp))
  exact⟨ok.aX,ok.vars.1,fun v hv=>by have:=(ok.vars.2 v hv).2;omega⟩).up zBU zAB
theorem eH.place(h:eH x q){t:Nat}(ht:t∈x.closure q.names):∃f∈(RP x q).2.cls,Ey (RP x q).1 t f:=by have g:=h.gr;have hn:=h.names;have hr:=h.rules;have hl:=h.len;obtain⟨ds,e1,e2⟩:=g.cls;have e3:(T20,rJ.B0).2.cls=([]:List (List Int)):=rfl;have e4:(T20,rJ.B0).1.l=([]:List At):=rfl;have e5:(T20,rJ.B0).1.limit=20000:=rfl;have hlen:=g.len;have hlim:=g.lim;rw[e4,List.length_nil]at hlen;rw[e5]at hlim;have hfl:=g.full (by rw[e4,e5,List.length_nil];omega);rw[e3,List.nil_append]at e1;refine VB (K:=16640) (N:=60000) _ _ _ _ h.sizes (C:=77) (by omega) (by omega) zBt zBl zBU zAB hfl (by rw[e1];omega) ht
theorem eH.neg(_:eH x q):aN (RP x q).2:=(aN.choices Zt x _ (S:=(T20,rJ.B0)) (fun c hc=>by cases hc)).edges Zt _ _ _ _ _
theorem aaZ{x:aF}{p:Nat}(hp:p<x.packs.length):x.pack p∈x.packs:=aF.iQ hp
theorem PW{E:ES}{n p t:Nat}(h:∀e∈E.2.of.map Prod.fst,e.1<n/\e.2<n)(hp:p<n)(ht:t<n)(a:Int):∀e∈(E.goes p t a).1.2.of.map Prod.fst,e.1<n/\e.2<n:=by exact zD9
theorem eH.aju(h:eH x q):∀y∈dZ x q (x.closure q.names),MH x y:=fun y hy=>by
 intro hk
 rcases zZ hy with⟨k,hk',rfl⟩| ⟨p,k,hp,hk',rfl⟩| ⟨p,k,hp,hk',rfl⟩
 ·simp at hk
 ·have:=(h.ch.all _ (aaZ (h.lt p hp))).deps
  exact⟨by have:=h.lt p hp;simpa using this,by simp;omega⟩
 ·simp at hk
theorem KI.depend{n:Nat}{E:ES}(h:∀e∈E.2.of.map Prod.fst,e.1<n/\e.2<n)(hx:n=x.packs.length)(l:List Nat)(names:List Str)(r:Nat){p:Nat}(k:Nat)(d:tJ)(hp:p<n):∀e∈(E.depend x l names r p k d).2.of.map Prod.fst,e.1<n/\e.2<n:=by
 unfold ES.depend;dsimp only;split;·exact PW (E:=(_,E.2)) h hp (by have:=x.pY d.on.name;omega) _
 split;·exact h
 have hpr:∀t∈x.dh d.on.name,t<n:=fun t ht=>by have:=aF.VA ht;omega
 generalize x.dh d.on.name=ts at hpr⊢;have key:∀(ts:List Nat) (E:ES) (A:Int),(∀t∈ts,t<n)->(∀e∈E.2.of.map Prod.fst,e.1<n/\e.2<n)->∀e∈(ts.foldl (fun E t=>
   let D:=E.1.num (aI t)
   let G:=ES.goes (D.1,E.2) p t A
   (G.1.1.bG [-A,-D.2,G.2],G.1.2)) E).2.of.map Prod.fst,e.1<n/\e.2<n:=by
  intro ts
  induction ts with
  |nil=>exact fun E A _ h=>h
  |cons t r ih=>
   intro E A ht h
   rw[List.foldl_cons]
   exact ih _ A (fun u hu=>ht u (yE _ hu)) (PW (E:=((E.1.num (aI t)).1,E.2)) h hp (ht t qQ) A)
 exact key ts _ _ hpr h
theorem eH.keys(h:eH x q)(S:TB):ahl x (S.lg x q (x.closure q.names) (x.names q) (dZ x q (x.closure q.names))).2:=by
 have key:∀(rs:List bW) (E:ES),(∀y∈rs,MH x y)->(∀e∈E.2.of.map Prod.fst,e.1<x.packs.length/\e.2<x.packs.length)->∀r,r<=rs.length->∀e∈(E.rules x q (x.closure q.names) (x.names q) rs r).2.of.map Prod.fst,e.1<x.packs.length/\e.2<x.packs.length:=by
  intro rs E hy h0 r
  induction r with
  |zero=>exact fun _=>h0
  |succ r ih=>
   intro hr
   have h1:=ih zAB
   have hy1:=hy _ (getD_in (l:=rs) (i:=r) zAB)
   show∀e∈(ES.rule (E.rules x q (x.closure q.names) (x.names q) rs r) x q (x.closure q.names) (x.names q) r (rs.getD r default)).2.of.map Prod.fst,_
   generalize E.rules x q (x.closure q.names) (x.names q) rs r=E1 at h1⊢
   generalize rs.getD r default=y at hy1⊢
   unfold ES.rule
   by_cases c1:y.kind=1
   ·rw[if_pos c1,JF];exact h1
   ·rw[if_neg c1]
    by_cases c2:y.kind=2
    ·rw[if_pos c2];exact KI.depend h1 rfl _ _ _ _ _ (hy1 c2).1
    ·rw[if_neg c2]
     by_cases c3:y.kind=3
     ·rw[if_pos c3,xB];exact h1
     ·rw[if_neg c3];exact h1
 exact key _ _ h.aju (fun e he=>by cases he) _ (qH _)
def aho:List jm:=[⟨bs [],bs []⟩]
def pI:dH:=⟨[⟨⟨bs [97],aho,[]⟩,0⟩]⟩
end Go.Proofs.YtdmmebjjojimiaaGreatDoor
namespace Go.Proofs
theorem zE2{p:Prop}(h:p:=by
 rcases qW.1 hy with h|h
 ·exact G.lit y h
 ·simp at h;subst h;exact hx):p:=h
end Go.Proofs
namespace Go.Proofs.YtdmmebjjojimiaaGreatDoor
open Go.RowKit
namespace ig
structure aa0 (xs o:List Int):Prop where
 lit:∀x∈xs,Lit x
 ord:mX o
 mem:∀y,y∈o↔y∈xs
def Less(o:List Int)(x:Int)(k:Nat):Prop:=k<=o.length/\∀j,j<k->(o.getD j 0).natAbs<x.natAbs
theorem aa0.same{xs o:List Int}{x:Int}(G:aa0 xs o)(hx:Lit x)(hm:x∈o):aa0 (xs++[x]) o:=by
 refine⟨fun y hy=>?_,G.ord,fun y=>?_⟩;·exact zE2
 rw[G.mem,qW];simp only[yJ];exact⟨.inl,fun h=>h.elim id (fun e=>by subst e;exact(G.mem _).1 hm)⟩
theorem aa0.put{xs o:List Int}{x:Int}(G:aa0 xs o)(hx:Lit x){k:Nat}(hL:Less o x k)(hk:k<o.length->x.natAbs<(o.getD k 0).natAbs):aa0 (xs++[x]) (o.take k++[x]++o.drop k):=by
 have hsplit:∀y,y∈o↔y∈o.take k\/y∈o.drop k:=fun y=>by rw[<-qW,List.take_append_drop]
 refine⟨fun y hy=>?_,?_,fun y=>?_⟩;·exact zE2
 ·have hP:=G.ord;unfold mX at*;have h1:∀y∈o.take k,y.natAbs<x.natAbs:=by
   intro y hy;obtain⟨j,hj,rfl⟩:=List.getElem_of_mem hy;have hj':j<k:=by simp at hj;omega
   have:=hL.2 j hj';have hlen:=hL.1;simpa[qC,show j<o.length by omega]using this
  have h2:∀y∈o.drop k,x.natAbs<y.natAbs:=by
   intro y hy;obtain⟨j,hj,rfl⟩:=List.getElem_of_mem hy;simp at hj;have hk1:k<o.length:=zAB;have h3:=hk hk1;have e:o.getD k 0=o[k]:=by simp[qC,hk1]
   rw[e]at h3;rw[List.getElem_drop];rcases Nat.eq_zero_or_pos j with rfl|hj0;·simpa using h3
   have:=(List.pairwise_iff_getElem.1 hP) k (k+j) hk1 zBU zAB;omega
  rw[yW,List.pairwise_append];refine⟨hP.sublist (List.take_sublist _ _),?_,?_⟩;·rw[List.singleton_append,List.pairwise_cons];exact⟨h2,hP.sublist (List.drop_sublist _ _)⟩
  intro a ha b hb;rw[List.singleton_append,qY]at hb;rcases hb with rfl|hb;·exact h1 a ha
  have:=h1 a ha;have:=h2 b hb;omega
 rw[qW,qW,qW,yJ,<-G.mem,hsplit];constructor
 ·rintro((h|h)|h);·exact .inl (.inl h)
  ·exact .inr h
  exact .inl (.inr h)
 rintro((h|h)|h);·exact .inl (.inl h)
 ·exact .inr h
 exact .inl (.inr h)
end ig
section
variable {w w':World} {B:Nat}
theorem aeo{pR Rz:List Value}{x:aF}{q:dH}(hx:gy B w pR x)(hq:lW B w Rz q):∀s∈x.names q,okS s:=by
 intro s hs;have h:=aF.aaJ hs;unfold aF.sees at h;have h:=(List.mem_filter.1 h).1;rcases qW.1 h with h|h;·unfold dH.names at h;obtain⟨r,hr,rfl⟩:=yD.1 h;obtain⟨v3,-,h3⟩:=hq;obtain⟨cs,q1,-,hS,-⟩:=h3.all r hr;obtain⟨v1,v2,-,hk,-⟩:=hS;exact hk
 obtain⟨p,hp,h⟩:=List.mem_flatMap.1 h;obtain⟨d,hd,rfl⟩:=yD.1 h;obtain⟨v1,v2,-,h1,-⟩:=hx;have hm:=aF.iQ ((aF.jA.1 hp).lt);obtain⟨cs,u1,u2,u3,u4,u5,u6,-,-,-,-,-,-,h4,-⟩:=h1.all _ hm;obtain⟨cs2,c1,c2,-,hS,-⟩:=h4.all d hd;obtain⟨v3,v4,-,hk,-⟩:=hS;exact hk
end
end Go.Proofs.YtdmmebjjojimiaaGreatDoor
namespace Go.Proofs
theorem zBD{p:Prop}(h:p:=by show(x.closure q.names).length<=1000000;have:=HE.out.len;omega):p:=h
theorem zEt{p:Prop}(h:p:=by
 go_wp2_with fail
 go_ret2
 exact⟨Ar.out,by rw[if_pos bD.out,if_pos hfl];rfl⟩):p:=h
end Go.Proofs
namespace Go.Proofs.YtdmmebjjojimiaaGreatDoor
open Go.RowKit
theorem VD{w:World}{g:Tag}{b:Nat}{V:Tj}{B:kD}(H:jL w g b V B):Calls Tryz.prog 89 #[.pointer (some ⟨b,0,none⟩)] w fun e w'=>e= .returned (.bool B.full)/\w'=w:=by have q1:w.cell? ⟨b,2,none⟩=some (.bool B.full):=zAf;go_enter Tryz.func89,Tryz.ntmps89;exact zCG
theorem xJ(u a:Value)(W:World):(Instr.field 43 (.agg #[u,a]) 0).run Tryz.prog W= .ok u W:=by unfold Instr.field;rw[Sem.run_bind,run_underlying Tryz.underlying43];simp[asAgg,part,isAgg]
noncomputable def jK (x:aF) (q:dH) (lim:Nat):TB:=((TB.choices ((⟨[],lim,0,false⟩:Tab),rJ.B0) x (x.closure q.names)).edges x q (x.closure q.names) (x.names q) (dZ x q (x.closure q.names))).orders (x.closure q.names)
section
variable {w w':World} {B:Nat}
def aep(x:aF)(q:dH)(S:TB)(w:World)(e:Ending)(w':World):Prop:=O0 w w'/\
 if x.okB=true/\q.okB x=true then (if S.1.full=true\/S.2.full=true then e= .returned (.tuple #[.pointer none,.int .i64 7])
  else∃(f c bt bb:Nat) (gt gb:Tag) (G:GL) (Bs:Nat) (cv:Value),e= .returned (.tuple #[.pointer (some ⟨f,0,none⟩),.int .i64 0])/\Y8 w' gt gb f c bt bb G Bs (Dk x q) S cv S.2.cls)
 else e= .returned (.tuple #[.pointer none,.int .i64 3])
theorem JQ{pR Rz:List Value}{x:aF}{q:dH}(hx:gy B w pR x)(hq:lW B w Rz q)(hBw:B<=w.heap.size)(hE:x.okB=true/\q.okB x=true->eH x q)(amJ:q.roots.length<=40)(Y5:x.packs.length<=1000000)(hsm:∀p∈x.packs,p.aX.length<=1000000/\p.vars.length<=1000000)(hLd:Laid w)(n:Int)(hn:bg n)(lim:Nat)(hlim:min (max n 0) 65536=(lim:Int))(S:TB)(hS:jK x q lim=S):Calls Tryz.prog 32 #[.agg pR.toArray,.agg Rz.toArray,.int .i64 n] w (aep x q S w):=by
 obtain⟨aV,ak,aS,aT,aK,aO,rfl,fV,fZ,dQ,dR,aB,bJ,qo⟩:=open_rec hx;obtain⟨jD,bZ,jE,rfl,zA,zC,dK,Vg⟩:=xY hq;obtain⟨W0,hW0,bM,vC,aU⟩:=GY w (.slice aV ak aS) (.slice aT aK aO) (.slice jD bZ jE) 25 28;obtain⟨gI,-,-⟩:=qo W0 bM.out;obtain⟨BK,-⟩:=Vg W0 bM.out;clear qo Vg hx hq;obtain⟨o1,ho1⟩:=ze x.okB;obtain⟨o2,ho2⟩:=ze (q.okB x);have HCr:Hid (∀W,O0 W0 W->Calls Tryz.prog 50 #[.agg #[.slice aV ak aS,.slice aT aK aO]] W fun e w'=>iE o1 W w' e):=fun W hW=>by rw[<-ho1];exact adU (gI.out W hW) Y5 hsm
 have HCq:Hid (∀W,O0 W0 W->Calls Tryz.prog 51 #[.agg #[.slice aV ak aS,.slice aT aK aO],.agg #[.slice jD bZ jE]] W fun e w'=>iE o2 W w' e):=fun W hW=>by rw[<-ho2];exact aaR (gI.out W hW) (BK.out W hW) Y5
 have FQ:=zh (And.intro ho1 ho2);have Ea:=zh (And.intro hE (And.intro amJ (And.intro hn hlim)));have HS:=zh hS;clear ho1 ho2 Y5 hsm hE amJ hlim hS hn;obtain⟨k0,k1,k2⟩:=aU.out W0 zr;have hW0':=hW0.symm;clear hW0;go_enter Tryz.func32,Tryz.ntmps32;go_wp2_with fail;refine(HCr.out W0 zr).mono ?_;rintro e w1 ⟨cr,lr,rfl,hcr,O1⟩;have hf1:=fun W:World=>xJ (.int .u8 cr) (.int .i64 lr) W;have aW:=zh O1;clear O1 k0 k1 k2 HCr;obtain⟨k0,k1,k2⟩:=aU.out w1 aW.out;cases o1 with
 |false=>
  have hne:(cr != 0)=true:=by have h:cr≠0:=of_decide_eq_false hcr;simpa using h
  have hres:¬(x.okB=true/\q.okB x=true):=fun h=>by rw[FQ.out.1]at h;cases h.1
  clear hcr;go_wp2_with fail;go_ret2;exact⟨bM.out.same aW.out,by rw[if_neg hres];rfl⟩
 |true=>
  have hne:(cr != 0)=false:=by have h:cr=0:=of_decide_eq_true hcr;simp[h]
  clear hcr;go_wp2_with fail;refine(HCq.out w1 aW.out).mono ?_;rintro e w2 ⟨cq,lq,rfl,hcq,O2⟩;have hf2:=fun W:World=>xJ (.int .u8 cq) (.int .i64 lq) W;have iO:=zh (aW.out.same O2);clear O2 k0 k1 k2 HCq hne;obtain⟨k0,k1,k2⟩:=aU.out w2 iO.out;cases o2 with
  |false=>
   have hne:(cq != 0)=true:=by have h:cq≠0:=of_decide_eq_false hcq;simpa using h
   have hres:¬(x.okB=true/\q.okB x=true):=fun h=>by rw[FQ.out.2]at h;cases h.2
   clear hcq;go_wp2_with fail;go_ret2;exact⟨bM.out.same iO.out,by rw[if_neg hres];rfl⟩
  |true=>
   have hne:(cq != 0)=false:=by have h:cq=0:=of_decide_eq_true hcq;simp[h]
   have bD:Hid (x.okB=true/\q.okB x=true):=FQ.out;clear hcq;have HE:Hid (eH x q):=Ea.out.1 bD.out;have aqC:Hid (∀s∈x.names q,okS s):=aeo (gI.out w2 iO.out) (BK.out w2 iO.out);have agr:Hid (O0 w w2):=bM.out.same iO.out;have adw:=zh (ahZ (gI.out w2 iO.out) (BK.out w2 iO.out) (qR hBw agr.out.size) HE.out.sm Ea.out.2.1 n Ea.out.2.2.1 lim Ea.out.2.2.2);have aqD:Hid (Laid w2):=hLd.only agr.out;clear Ea FQ hLd hBw;go_wp2_with fail;refine adw.out.mono ?_;rintro e W1 ⟨ca,bta,bba,gta,gba,Ga,Bsa,rfl,hG,hx',hq',hI',hR',hM,hLb,hB3,hBc,hB5,O4⟩;have hX1:xP W1 gta gba ca bta bba Ga Bsa (Dk x q) (⟨[],lim,0,false⟩,rJ.B0):=⟨hG,hx',hq',hI',hLb,hR',hM,hB5,((Aj.of aqD.out (qH _)).more hB3).keep (Kp.gV O4),fun j hj=>by have:j<0:=hj;omega⟩;have HX1:=zh hX1;have amN:Hid (O0 w W1):=agr.out.same O4;have HCh:=zh (WI hG hx' hI' HE.out.lt HE.out.mid hM hB5 (by have:=HE.out.len;omega));have HMa:Hid (∀k,Mine gta k\/Mine gba k->w.heap.size<=k):=fun k hk=>by have:=hM k hk;have:=agr.out.size;omega
   clear hG hx' hq' hI' hR' hM hLb hB3 hBc hB5 O4 hX1 adw k0 k1 k2 hf1 hf2;go_wp2_with fail;refine HCh.out.mono ?_;rintro e w3 ⟨rfl,hG3⟩;have hX3:=HX1.out.step (S2:=TB.choices (⟨[],lim,0,false⟩,rJ.B0) x (x.closure q.names)) hG3 (gu.choices x _ (S:=(⟨[],lim,0,false⟩,rJ.B0)) (fun j hj=>by have:j<0:=hj;omega));clear hG3 HCh;obtain⟨gt3,gb3,amO,hA3,hB3,O3⟩:=hX3;have HX3:=zh amO;have uw:Hid (O0 w w3):=amN.out.trans O3 fun k hk=>.inr (HMa.out k hk);have HMb:Hid (∀k,Mine gt3 k\/Mine gb3 k->w.heap.size<=k):=fun k hk=>by
    rcases yK k W1.heap.size with h|h;·refine HMa.out k ?_;unfold Mine at hk⊢;rwa[hA3 k h,hB3 k h]at hk
    exact qR amN.out.size h
   clear amO hA3 hB3 O3 HX1;have HEd:=zh (agm HX3.out (HE.out.edq aqC.out));go_wp2_with fail;refine HEd.out.mono ?_;rintro e w4 ⟨rfl,vS,vT,hX4,hA4,hB4,O4⟩;have HX4:=zh hX4;have KY:Hid (O0 w w4):=uw.out.trans O4 fun k hk=>.inr (HMb.out k hk);have HMc:Hid (∀k,Mine vS k\/Mine vT k->w.heap.size<=k):=fun k hk=>by
    rcases yK k w3.heap.size with h|h;·refine HMb.out k ?_;unfold Mine at hk⊢;rwa[hA4 k h,hB4 k h]at hk
    exact qR uw.out.size h
   clear hX4 hA4 hB4 O4 HEd HX3 HMa HMb;have HOr:=zh (adv HX4.out (fun t ht=>by have h1:=HE.out.lt t ht;have h2:=HE.out.ch.packs;omega) zBD);go_wp2_with fail;refine HOr.out.mono ?_;rintro e w5 ⟨rfl,I7,I8,hX5,hA5,hB5,O5⟩;have amQ:xP w5 I7 I8 ca bta bba Ga Bsa (Dk x q) S:=by rw[<-HS.out];exact hX5
   have HX5:=zh amQ;have Ar:Hid (O0 w w5):=KY.out.trans O5 fun k hk=>.inr (HMc.out k hk);clear hX5 amQ hA5 hB5 O5 HOr HX4 HMc HS;obtain⟨ft,hft⟩:=ze S.1.full;obtain⟨fb,hfb⟩:=ze S.2.full;have HTb:=zh (vX HX5.out.gr);have HBu:=zh (sD HX5.out.gr);have HTf:Hid (Calls Tryz.prog 88 #[.pointer (some ⟨bta,0,none⟩)] w5 fun e w'=>e= .returned (.bool ft)/\w'=w5):=by obtain⟨V,hV⟩:=HX5.out.gr.tab;rw[<-hft];exact UO hV
   have HBf:Hid (Calls Tryz.prog 89 #[.pointer (some ⟨bba,0,none⟩)] w5 fun e w'=>e= .returned (.bool fb)/\w'=w5):=by obtain⟨V,hV⟩:=HX5.out.gr.Fb;rw[<-hfb];exact VD hV
   have HCl:Hid (Calls Tryz.prog 29 #[.pointer (some ⟨bba,0,none⟩)] w5 fun e w'=> ∃v us,e= .returned v/\zK w5 w' v us S.2.cls/\O0 w5 w'):=by obtain⟨V,hV⟩:=HX5.out.gr.Fb;exact Tn hV
   have HFf:=zh (And.intro hft hfb);clear hft hfb;go_wp2_with fail;refine HTb.out.mono ?_;rintro e w6 ⟨rfl,e6⟩;have e6':=e6.symm;subst e6';go_wp2_with fail;refine HTf.out.mono ?_;rintro e w7 ⟨rfl,e7⟩;have e7':=e7.symm;subst e7';cases ft with
   |true=>have hfl:S.1.full=true\/S.2.full=true:=.inl HFf.out.1;exact zEt
   |false=>
    go_wp2_with fail;refine HBu.out.mono ?_;rintro e w8 ⟨rfl,e8⟩;have e8':=e8.symm;subst e8';go_wp2_with fail;refine HBf.out.mono ?_;rintro e w9 ⟨rfl,e9⟩;have e9':=e9.symm;subst e9';cases fb with
    |true=>have hfl:S.1.full=true\/S.2.full=true:=.inr HFf.out.2;exact zEt
    |false=>
     have hfl:¬(S.1.full=true\/S.2.full=true):=fun h=>by
      rcases h with h|h;·rw[HFf.out.1]at h;cases h
      rw[HFf.out.2]at h;cases h
     have HFl:=zh hfl;clear hfl;go_wp2_with fail;refine HBu.out.mono ?_;rintro e w10 ⟨rfl,e10⟩;have ajw:=e10.symm;subst ajw;go_wp2_with fail;refine HCl.out.mono ?_;rintro e V4 ⟨cv,us,rfl,hOw,O11⟩;have hCs:=hOw.Oy;obtain⟨acl,ccl,rfl,gc1,gc2⟩:=hCs.shape;have HCs:=zh hCs;have amS:=zh O11;clear hOw hCs O11 HCl HBu HTb HTf HBf;go_wp2_with fail;go_ret2;refine⟨Ar.out.same (amS.out.alloc _),?_⟩;rw[if_pos bD.out,if_neg HFl.out];exact⟨V4.heap.size,ca,bta,bba,I7,I8,Ga,Bsa,_,rfl,(HX5.out.aH amS.out).aH (zr.alloc _),qL _ _,HCs.out.aH (zr.alloc _)⟩
end
def og:aF:=⟨[⟨bs [97],0,[⟨bs [49],false⟩],[],[],[],[],[]⟩],[]⟩
theorem ajx:og.targets (bs [97])=[0]:=by decide
theorem uZ:og.closure pI.names=[0]:=by have h0:og.Reach pI.names 0:=.root (s:=bs [97]) (by simp[dH.names,pI]) (by rw[ajx];simp);unfold aF.closure;rw[show List.range og.packs.length=[0] from rfl];simp[h0]
theorem Yc:og.names pI=[]:=by
 have h:og.sees pI=[]:=by unfold aF.sees;rw[uZ];decide
 have h2:=og.PN pI;rw[h]at h2;exact yF (by simpa using h2)
def ags:List bW:=[⟨1,-1,0,0⟩]
theorem Yd:dZ og pI [0]=ags:=by rfl
def T16:Tab:=⟨[],100,0,false⟩
theorem aa1:(TB.lg (TB.choices (T16,rJ.B0) og [0]) og pI [0] [] ags).2.of=[]:=by rfl
theorem RQ:(TB.lg (TB.choices (T16,rJ.B0) og [0]) og pI [0] [] ags).2.edges=[]:=by unfold dO.edges;rw[aa1];exact List.mergeSort_nil
def PX:List At:=[aI 0,kF 0 0,fG 0,dw 0 0 1]
def zF:List (List Int):=[[-1,2],[-2,1],[-4,1],[4,-1],[-3,4],[-1,3]]
theorem RS:jK og pI 100=(⟨PX,100,0,false⟩,rJ.B0.adds zF):=by unfold jK;rw[uZ,Yc,Yd];show TB.orders (TB.edges (TB.choices (T16,rJ.B0) og [0]) og pI [0] [] ags) [0]=_;unfold TB.edges;dsimp only;rw[RQ];kernel_rfl
theorem ok16:og.okB=true/\pI.okB og=true:=⟨by kernel_rfl,by kernel_rfl⟩
theorem agt:eH og pI:=by
 refine⟨⟨by decide,by decide,fun p hp=>?_⟩,⟨by decide,fun p hp=>?_,by decide⟩,by decide⟩;·simp only[og,qY,List.not_mem_nil,or_false]at hp;rcases hp with rfl;exact⟨by decide,by decide,by decide,by decide,by decide,by decide,by decide⟩
 simp only[og,qY,List.not_mem_nil,or_false]at hp;rcases hp with rfl;exact⟨by decide,by decide,⟨by decide,fun v hv=>by cases hv⟩,by decide,by decide,by decide⟩
theorem Iu:∀(cs:List (List Int)) (B:kD),∀f∈(B.adds cs).cls,f∈B.cls\/ ∃c∈cs,ig.form c=some f
 | [],_,_,h=>.inl h
 |c::r,B,f,h=>by
  rcases Iu r (B.add c) f h with h| ⟨d,hd,h⟩
  ·unfold kD.add at h
   split at h
   ·exact .inl h
   ·split at h
    ·exact .inl h
    ·rename_i g hg
     split at h
     ·exact .inl h
     ·rcases qW.1 h with h|h
      ·exact .inl h
      ·rw[yJ]at h
       exact .inr ⟨c,qQ,by rw[hg,h]⟩
  ·exact .inr ⟨d,yE _ hd,h⟩
theorem aer{c f:List Int}(h:ig.form c=some f){z:Int}(hz:z∈c):z∈f:=by
 unfold ig.form at h;split at h;·cases h
 split at h;·cases h
 cases h;exact(ig.oU c z).2 hz
theorem agu:ig.holdsB (jK og pI 100).2.cls [true,true,true,true]=true:=by
 unfold ig.holdsB;refine List.all_eq_true.2 fun f hf=>?_;rw[RS]at hf;rcases Iu zF rJ.B0 f hf with h| ⟨c,hc,hfm⟩;·cases h
 have hm:∀z,z∈c->z∈f:=fun z hz=>aer hfm hz;have key:∀z:Int,0<z->z<=4->ig.WL z [true,true,true,true]=true:=fun z h1 h2=>by
  obtain rfl|rfl|rfl|rfl:z=1\/z=2\/z=3\/z=4:=by omega
  all_goals decide
 simp only[zF,qY,List.not_mem_nil,or_false]at hc;rcases hc with rfl|rfl|rfl|rfl|rfl|rfl;·exact yU.2 ⟨2,hm 2 zBo,key 2 zBV zAD⟩
 ·exact yU.2 ⟨1,hm 1 zBo,key 1 zBV zAD⟩
 ·exact yU.2 ⟨1,hm 1 zBo,key 1 zBV zAD⟩
 ·exact yU.2 ⟨4,hm 4 zBo,key 4 zBV zAD⟩
 ·exact yU.2 ⟨4,hm 4 zBo,key 4 zBV zAD⟩
 exact yU.2 ⟨3,hm 3 zBo,key 3 zBV zAD⟩
theorem ajy:Ak PX (Dk og pI) [true,true,true,true] (Dk og pI).l.length=[(bs [97],bs [49])]:=by have e:(Dk og pI).l=[0]:=uZ;unfold Ak;rw[e];show((([0]:List Nat).take 1).filter fun p=>Gj (numOf PX (aI p)) [true,true,true,true]).map (fun p=>((og.pack p).name,L8 PX (og.pack p).aX [true,true,true,true] p))=_;rfl
section
variable {w w':World} {B:Nat}
def FnC(_:Nat)(_:World)(cs:List Value)(y:FN):Prop:=cs=y.cells
theorem FnC.keep:Keeps FnC:=fun _ _ _ _ _ h _=>h
theorem VH(hLd:Laid w):Calls Tryz.prog 31 #[] w fun e w'=>e= .returned (.bool true)/\O0 w w':=by
 have HLd:=zh hLd;clear hLd;go_enter Tryz.func31,Tryz.ntmps31;go_wp2_with fail;generalize hW:World.alloc _ _=W;have hsz:W.heap.size=w.heap.size+5:=by rw[<-hW];simp
 have b0:W.heap[w.heap.size]? =some (.cells #[.string (bs [49]),.bool false] 130):=by rw[<-hW];exact cZ (cZ (cZ (cZ (alloc_at rfl) _) _) _) _
 have b1:W.heap[w.heap.size+1]? =some (.cells #[.string (bs [97]),.int .i64 0,.slice (some ⟨w.heap.size,0,none⟩) 1 1,dF,dF,dF,dF,dF] 101):=by rw[<-hW];exact cZ (cZ (cZ (alloc_at zAF) _) _) _
 have b2:W.heap[w.heap.size+1+1]? =some (.cells #[.slice (some ⟨w.heap.size+1,0,none⟩) 1 1,dF] 25):=by rw[<-hW];exact cZ (cZ (alloc_at zAF) _) _
 have b3:W.heap[w.heap.size+1+1+1]? =some (.cells #[.string (bs []),.string (bs [])] 128):=by rw[<-hW];exact cZ (alloc_at zAF) _
 have b4:W.heap[w.heap.size+1+1+1+1]? =some (.cells #[.string (bs [97]),.slice (some ⟨w.heap.size+1+1+1,0,none⟩) 1 1,dF,.int .i64 0] 110):=by rw[<-hW];exact alloc_at zAF
 have hO:O0 w W:=by rw[<-hW];exact((((zr.alloc _).alloc _).alloc _).alloc _).alloc _
 have hsp:aQ 2 eY W.heap.size W (.slice (some ⟨w.heap.size+1+1+1,0,none⟩) 1 1) aho:=
  aQ.lit b3 zAB (qH _) rfl zBp zBV fun i hi=>by
   match i,hi with
   |0,_=>exact⟨[.string (bs []),.string (bs [])],rfl,rfl,rfl,acs _ zBV,acs _ zAD⟩
 have ahq:aQ 2 oh W.heap.size W (.slice (some ⟨w.heap.size,0,none⟩) 1 1) [⟨bs [49],false⟩]:=
  aQ.lit b0 zAB (qH _) rfl zBp zBV fun i hi=>by
   match i,hi with
   |0,_=>exact⟨[.string (bs [49]),.bool false],rfl,rfl,rfl,acs _ zAD⟩
 have hrec:gy W.heap.size W [.slice (some ⟨w.heap.size+1,0,none⟩) 1 1,dF] og:=by
  refine⟨_,_,rfl,aQ.lit b1 zAB (qH _) rfl zBp zBV fun i hi=>?_,aQ.nilRow⟩
  match i,hi with
  |0,_=>exact⟨[.string (bs [97]),.int .i64 0,.slice (some ⟨w.heap.size,0,none⟩) 1 1,dF,dF,dF,dF,dF],rfl,rfl,_,_,_,_,_,_,rfl,acs _ zAD,z64,ahq,aQ.nilRow,aQ.nilRow,aQ.nilRow,aQ.nilRow,aQ.nilRow⟩
 have am4:lW W.heap.size W [.slice (some ⟨w.heap.size+1+1+1+1,0,none⟩) 1 1] pI:=by
  refine⟨_,rfl,aQ.lit b4 zAB (qH _) rfl zBp zBV fun i hi=>?_⟩
  match i,hi with
  |0,_=>exact⟨[.string (bs [97]),.slice (some ⟨w.heap.size+1+1+1,0,none⟩) 1 1,dF,.int .i64 0],rfl,rfl,[.string (bs [97]),.slice (some ⟨w.heap.size+1+1+1,0,none⟩) 1 1,dF],rfl,⟨_,_,rfl,acs _ zAD,hsp,aQ.nilRow⟩,z64⟩
 have am5:Hid (Laid W):=HLd.out.only hO;have HO:=zh hO;clear hW b0 b1 b2 b3 b4 hsp ahq hO;refine(JQ hrec am4 (qH _) (fun _=>agt) zBp zBV (fun p hp=>?_) am5.out 100 ⟨by decide,by decide⟩ 100 zAD _ rfl).mono ?_;·simp only[og,qY,List.not_mem_nil,or_false]at hp;rw[hp];exact⟨by decide,by decide⟩
 clear hrec am4 hsz am5 HLd;rintro e w1 ⟨O1,h1⟩;have hnf:¬((⟨PX,100,0,false⟩:Tab).full=true\/(rJ.B0.adds zF).full=true):=by
  rintro(h|h);·cases h
  rw[(JE zF rJ.B0).2 zAD]at h;cases h
 have hfew:(rJ.B0.adds zF).cls.length<=262144:=by obtain⟨⟨ds,h,h2⟩,-⟩:=JE zF rJ.B0;rw[h];have h3:zF.length=6:=rfl;rw[qK];show 0+ds.length<=262144;omega
 have hsh:∀c∈(rJ.B0.adds zF).cls,c.length<=1099511627:=fun c hc=>by
  rcases Iu zF rJ.B0 c hc with h| ⟨d,hd,hfm⟩;·cases h
  have h1:=Tq hfm;have h2:d.length<=2:=by simp only[zF,qY,List.not_mem_nil,or_false]at hd;rcases hd with rfl|rfl|rfl|rfl|rfl|rfl<;>exact qH _
  omega
 have hh:=agu;rw[RS]at hh;obtain⟨cls,hcls⟩:=ze ((rJ.B0.adds zF).cls);rw[if_pos ok16,RS,if_neg hnf]at h1;dsimp only at h1 hh;rw[hcls]at h1 hh hfew hsh;obtain⟨f,c,bt,bb,gt,gb,G,Bs,cv,rfl,hF⟩:=h1;have HF:=zh hF;have aW:=zh (HO.out.same O1);have HH:=zh hh;have HFs:=zh (And.intro hfew hsh);have HA:Hid (Calls Tryz.prog 33 #[.pointer (some ⟨f,0,none⟩)] w1 fun e w'=>e= .returned (.int .i64 4)/\w'=w1):=Gi hF 4 rfl;clear hF O1 HO hnf hh hcls hfew hsh;go_wp2_with fail;refine HA.out.mono ?_;rintro e w2 ⟨rfl,e2⟩;have e2':=e2.symm;subst e2';go_wp2_with (at_make;go_must (refine wpM (bytes:=1) (z:=.bool false) Tryz.underlying58 zk rfl rfl _ _ rfl 4 rfl rfl rfl rfl zAB zBV ?_));intro w3 t1 t2 t3;obtain⟨mb,hmb⟩:=ze w1.heap.size;rw[hmb]at t1⊢;have HMb:Hid (w1.heap.size<=mb):=yG hmb;have HB0:Hid (Na w3 mb 4 [false,false,false,false]):=⟨rfl,t1⟩;have uw:Hid (O0 w1 w3):=t2;clear t1 t2 t3 hmb HA;go_wp2_with fail;go_loopw [30] (fun vi wr=>Hid (O0 w1 wr)/\∃i:Nat,vi= .int .i64 i/\i<=4/\∃m:List Bool,Hid (Na wr mb 4 m)/\Hid (∀j,j<i->m[j]? =some true)) (fun v _=>4-(RowKit.intOf v).toNat);case atStart=>exact⟨uw,0,rfl,qE _,[false,false,false,false],HB0,fun j hj=>by omega⟩
 case round=>
  obtain⟨fM,rfl⟩:=zB wr;clear HB0 uw;obtain⟨xK,i,rfl,hi,m,Zh,HT⟩:=hrel;by_cases ci:i<4
  ·have iG:=zw (i+1);have gin:=Zh.out.cell ci;have hfr:=Zh.out.2.frozenAt i;have HB2:Hid (Na (fM.setCell ⟨mb,i,none⟩ (.bool true)) mb 4 (m.set i true)):=Zh.out.set i;have HT2:Hid (∀j,j<i+1->(m.set i true)[j]? =some true):=fun j hj=>by
    have hl:=Zh.out.1;rcases yK j i with h|h;·rw[List.getElem?_set_ne zAB];exact HT.out j h
    obtain rfl:j=i:=by omega
    rw[List.getElem?_set_self zAB]
   have iO:Hid (O0 w1 (fM.setCell ⟨mb,i,none⟩ (.bool true))):=xK.out.setCell (p:=⟨mb,i,none⟩) (.inr HMb.out) _;go_wp2_with fail;go_roundw;case rel=>exact⟨iO,i+1,by first|rfl|go_num,by omega,_,HB2,HT2⟩
   case measure=>simp[RowKit.intOf]<;>omega
  obtain rfl:4=i:=by omega
  have hm:m=[true,true,true,true]:=by
   refine List.ext_getElem? fun j=>?_;have hl:=Zh.out.1;rcases yK j 4 with h|h
   ·rw[HT.out j h];match j,h with
    |0,_=>rfl
    |1,_=>rfl
    |2,_=>rfl
    |3,_=>rfl
   rw[List.getElem?_eq_none zAB,List.getElem?_eq_none (by simpa using h)]
  subst hm;have HBo:Hid (∀W,O0 fM W->Bools W (.slice (some ⟨mb,0,none⟩) 4 4) [true,true,true,true]):=fun W hW=>Bools.dV (Zh.out.aH hW).2;have HFw:Hid (∀W,O0 fM W->Y8 W gt gb f c bt bb G Bs (Dk og pI) (⟨PX,100,0,false⟩,rJ.B0.adds zF) cv cls):=fun W hW=>HF.out.aH (xK.out.same hW);have hsm:∀y∈og.packs,y.aX.length<=1000000/\y.vars.length<=1000000/\∀u∈y.vars,u.values.length<=1000000:=fun y hy=>by simp only[og,qY,List.not_mem_nil,or_false]at hy;subst hy;exact⟨by decide,by decide,fun u hu=>by cases hu⟩
  have el:(Dk og pI).l=[0]:=uZ;have HRd:Hid (Calls Tryz.prog 36 #[.pointer (some ⟨f,0,none⟩),.slice (some ⟨mb,0,none⟩) 4 4] fM fun e w'=> ∃(a1:Option Addr) (cp:Nat) (y:FN),e= .returned (.agg #[.slice a1 1 cp])/\w'.ownsRow 0 83 4 (.slice a1 1 cp) 1 (jZ [y])/\y.name=bs [97]/\y.ver=bs [49]/\O0 fM w'):=
   (adI (HFw.out fM zr) (HBo.out fM zr) (by show(1:Nat)<=1000000;decide) hsm (fun t ht=>by rw[el,yJ]at ht;subst ht;show(0:Nat)<1;decide) (by rw[el];decide)).mono fun e w' ⟨ao,n,cp,ys,he,ho,hl,hp,_,hO⟩=>by
    rw[ajy]at hp
    have h1:ys.length=1:=by simpa using hp.length_eq
    obtain⟨y,rfl⟩:=List.length_eq_one_iff.1 h1
    have h2:y.nv=(bs [97],bs [49]):=by simpa using hp
    rw[<-hl]at he ho
    exact⟨ao,cp,y,he,ho,congrArg Prod.fst h2,congrArg Prod.snd h2,hO⟩
  have HCl:Hid (∀W,O0 fM W->Calls Tryz.prog 35 #[.pointer (some ⟨f,0,none⟩)] W fun e w'=> ∃ac cc,e= .returned (.slice ac cls.length cc)/\tH w' (.slice ac cls.length cc) cls/\O0 W w'):=fun W hW=>(Eu (HFw.out W hW) HFs.out.1 HFs.out.2).mono fun e w' ⟨v,us,he,hw,ho⟩=>by have hi:=hw.Oy;obtain⟨ac,cc,rfl,-,-⟩:=hi.shape;exact⟨ac,cc,he,hi,ho⟩
  have HHd:Hid (∀W ac cc,O0 fM W->tH W (.slice ac cls.length cc) cls->Calls Tryz.prog 27 #[.slice ac cls.length cc,.slice (some ⟨mb,0,none⟩) 4 4] W fun e w'=>e= .returned (.bool true)/\O0 W w'):=fun W ac cc hW hI=>(ZK hI (HBo.out W hW) true HH.out).mono fun e w' ⟨he,ho⟩=>⟨he,ho▸Only.refl _ _⟩;clear hsm el HF Zh HT HFs HH;go_wp2_with fail;refine HRd.out.mono ?_;rintro e w4 ⟨a1,cp,y,rfl,hy,y1,y2,O4⟩;have KY:=zh O4;have hyr:aQ 4 FnC w4.heap.size w4 (.slice a1 1 cp) [y]:=aQ.dV hy fun i hi=>⟨[y][i].cells,rfl,fun j u hu=>CB [y] i [y][i] (qA hi) j u hu,rfl⟩;obtain⟨b,off,rfl,-,-⟩:=hyr.at (Nat.zero_lt_one);have HYc:Hid (∀W,O0 w4 W->W.cell? ⟨b,off,none⟩=some (.string (bs [97]))/\W.cell? ⟨b,off+1,none⟩=some (.string (bs [49]))):=fun W hW=>by obtain⟨cs,-,hr,hC⟩:=(hyr.keep FnC.keep (Kp.gV hW)).get (show[y][0]? =some y from rfl);have hC':cs=y.cells:=hC;subst hC';have h0:=hr 0 _ rfl;have h1:=hr 1 _ rfl;rw[y1]at h0;rw[y2]at h1;exact⟨h0,h1⟩
  have H4z:Hid ((w4.alloc (.cells #[dF] 31)).heap[w4.heap.size]? =some (.cells #[dF] 31)):=qL w4 _;obtain⟨W5,hW5⟩:=ze ((w4.alloc (.cells #[dF] 31)).setRow w4.heap.size #[.slice (some ⟨b,off,none⟩) 1 cp]);have HB5:Hid (W5.heap[w4.heap.size]? =some (.cells #[.slice (some ⟨b,off,none⟩) 1 cp] 31 (0,0))):=by rw[<-hW5];exact setRow_heap _ _ _ _ _ _ H4z.out
  have Ar:Hid (O0 w4 W5):=by rw[<-hW5];exact(zr.alloc _).trans (aP _ _ _) fun k hk=>.inr (yG hk.symm)
  clear O4 hy hyr y1 y2 HRd;go_wp2_with (refine wpList_store_row rfl 31 (.tmp 6) (.tmp 39) rfl w4.heap.size #[.slice (some ⟨b,off,none⟩) 1 cp] rfl rfl 31 #[dF] H4z.out zk rfl zk ?_);clear hW5 H4z;refine(HCl.out W5 (KY.out.same Ar.out)).mono ?_;rintro e w6 ⟨ac,cc,rfl,hI,O6⟩;have aqT:=zh O6;have JD:=zh (Ar.out.same O6);have HHw:=zh (HHd.out w6 ac cc (KY.out.same JD.out) hI);clear O6 hI HCl HHd;go_wp2_with fail;refine HHw.out.mono ?_;rintro e w7 ⟨rfl,O7⟩;have pG:=zh (JD.out.same O7);have b7:=aC HB5.out (aqT.out.same O7) (fun f=>f);have q7:w7.cell? ⟨w4.heap.size,0,none⟩=some (.slice (some ⟨b,off,none⟩) 1 cp):=by rw[aj b7];rfl
  obtain⟨s0,s1⟩:=HYc.out w7 pG.out;have e97:(ByteArray.toList (bs [97])==[97])=true:=zBL;have e49:(ByteArray.toList (bs [49])==[49])=true:=zBL;clear O7 b7 HHw;go_wp2_with fail;go_ret;exact⟨rfl,aW.out.same (xK.out.same (KY.out.same pG.out))⟩
end
end Go.Proofs.YtdmmebjjojimiaaGreatDoor
