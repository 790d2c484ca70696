/- A lesser limit of atoms, plain: what is built is the same, or the table is full, and witho; Maps from a key to a row of numbers that a call makes: what they hold, in plain words. -/
import Derived.Test.YtdmmebjjojimiaaGreatDoorG20
import Derived.DeepKeys5
set_option maxRecDepth 100000
set_option maxHeartbeats 8000000
set_option linter.all false
namespace Go.Proofs
theorem zEq{p:Prop}(h:p:=by
 by_cases h:c
 ·simpa only[if_pos h]using hf
 ·simpa only[if_neg h]using hg):p:=h
end Go.Proofs
namespace Go.Proofs.YtdmmebjjojimiaaGreatDoor
open Go.RowKit
def FV(L:Nat)(S:TB):TB:=({S.1 with limit:=L},S.2)
def ali(L:Nat)(S:TB):Prop:=S.1.full=false/\L<=S.1.limit/\S.1.l.length<=L
def afI(L:Nat)(S S':TB):Prop:=S'.1.full=true/\(S.1.full=true\/L<S.1.l.length)
theorem afI.grow{L:Nat}{S S' T T':TB}(h:afI L S S')(g:fD S.1 T.1)(g':fD S'.1 T'.1):afI L T T':=by obtain⟨⟨m,hm⟩,g2⟩:=g;refine⟨g'.2 h.1,h.2.imp g2 fun hl=>?_⟩;rw[hm,qK];omega
def SmV{α:Type}(L:Nat)(a b:TB×α):Prop:=afI L a.1 b.1\/(ali L a.1/\b=(FV L a.1,a.2))
structure Pr {α:Type} (f:TB->TB×α):Prop where
 gr:∀S,fD S.1 (f S).1.1
 sm:∀L S,ali L S->SmV L (f S) (f (FV L S))
section
variable {α β:Type}
theorem Pr.pure(v:α):Pr (fun S:TB=>(S,v)):=⟨fun _=>fD.rfl',fun _ _ h=>.inr ⟨h,rfl⟩⟩
theorem Pr.bind{f:TB->TB×α}{g:α->TB->TB×β}(hf:Pr f)(hg:∀v,Pr (g v)):Pr (fun S=>g (f S).2 (f S).1):=by
 refine⟨fun S=>(hf.gr S).tr ((hg _).gr _),fun L S h=>?_⟩;rcases hf.sm L S h with hb| ⟨h1,e1⟩;·exact .inl (hb.grow ((hg _).gr _) ((hg _).gr _))
 show SmV L _ (g (f (FV L S)).2 (f (FV L S)).1);rw[e1];exact(hg _).sm L _ h1
theorem Pr.ite{c:Prop}[Decidable c]{f g:TB->TB×α}(hf:Pr f)(hg:Pr g):Pr (fun S=>if c then f S else g S):=by exact zEq
theorem Pr.Uu{c:Prop}[Decidable c]{f g:TB->TB}{v:α}(hf:Pr fun S=>(f S,v))(hg:Pr fun S=>(g S,v)):Pr (fun S=>(if c then f S else g S,v)):=by exact zEq
theorem Pr.look{g:List At->TB->TB×α}(hg:∀l,Pr (g l)):Pr (fun S=>g S.1.l S):=⟨fun S=>(hg _).gr S,fun L S h=>(hg S.1.l).sm L S h⟩
theorem Pr.Fb(h:kD->kD)(v:α):Pr (fun S:TB=>((S.1,h S.2),v)):=⟨fun _=>fD.rfl',fun _ _ hn=>.inr ⟨hn,rfl⟩⟩
theorem Pr.bG(l:List Int)(v:α):Pr (fun S:TB=>(S.bG l,v)):=by unfold TB.bG;exact Pr.Uu (Pr.pure v) (Pr.Fb (fun B=>B.add l) v)
theorem Pr.num(a:At):Pr (fun S:TB=>S.num a):=by
 refine⟨fun S=>TB.oJ S a,fun L S h=>?_⟩;obtain⟨h1,h2,h3⟩:=h;show SmV L (S.num a) ((FV L S).num a);unfold TB.num Tab.num;have hl:(FV L S).1.l=S.1.l:=rfl;have hL:(FV L S).1.limit=L:=rfl;have hB:(FV L S).2=S.2:=rfl;rw[hl,hL,hB];by_cases hm:a∈S.1.l;·rw[if_pos hm,if_pos hm];exact .inr ⟨⟨h1,h2,h3⟩,rfl⟩
 rw[if_neg hm,if_neg hm];by_cases hc:L<=S.1.l.length
 ·rw[if_pos hc];by_cases hd:S.1.limit<=S.1.l.length;·rw[if_pos hd];exact .inl ⟨rfl,.inl rfl⟩
  rw[if_neg hd];exact .inl ⟨rfl,.inr (by show L<(S.1.l++[a]).length;rw[qK,List.length_singleton];omega)⟩
 rw[if_neg hc,if_neg (show¬S.1.limit<=S.1.l.length by omega)];exact .inr ⟨⟨h1,h2,by show(S.1.l++[a]).length<=L;rw[qK,List.length_singleton];omega⟩,rfl⟩
theorem Pr.nums:∀l:List At,Pr (fun S:TB=>S.nums l)
 | []=>Pr.pure []
 |a::r=>by
  have h:=Pr.bind (Pr.num a) fun n=>Pr.bind (Pr.nums r) fun ns=>Pr.pure (n::ns)
  exact h
theorem Pr.help:Pr (fun S:TB=>S.help):=⟨TB.YT,fun L S h=>(Pr.num (hA (qB S.1))).sm L ({S.1 with helps:=qB S.1},S.2) h⟩
theorem Pr.foldl{γ:Type}{f:TB×α->γ->TB×α}(hf:∀v b,Pr fun S=>f (S,v) b):∀(l:List γ) (v:α),Pr fun S=>l.foldl f (S,v)
 | [],v=>Pr.pure v
 |b::r,v=>by
  have h:=Pr.bind (hf v b) fun u=>Pr.foldl hf r u
  exact h
theorem Pr.wL{γ:Type}{f:TB->γ->TB}(hf:∀b,Pr fun S=>(f S b,())):∀(l:List γ),Pr fun S=>(l.foldl f S,())
 | []=>Pr.pure ()
 |b::r=>by
  have h:=Pr.bind (hf b) fun _=>Pr.wL hf r
  exact h
theorem Pr.val{f:TB->TB}{v:α}(h:Pr fun S=>(f S,())):Pr fun S=>(f S,v):=by have h:=Pr.bind h fun _=>Pr.pure v;exact h
end
theorem Pr.row(node:Int)(ats:List At):Pr fun S=>(TB.row S node ats,()):=by have h:=Pr.bind (Pr.nums ats) fun ns=>Pr.Fb (fun B=>B.one node ns) ();exact h
theorem Pr.vars(node:Int)(p:Nat)(vs:List eP):∀j,Pr fun S=>(TB.vars S node p vs j,())
 |0=>Pr.pure ()
 |j+1=>by
  have h:=Pr.bind (Pr.vars node p vs j) fun _=>Pr.row node (jo p j (vs.getD j default).values.length)
  exact h
theorem Pr.pack(p:Nat)(pk:fP):Pr fun S=>(TB.pack S p pk,()):=by have h:=Pr.bind (Pr.num (aI p)) fun n=>Pr.bind (Pr.row n (je p pk.aX.length)) fun _=>Pr.vars n p pk.vars pk.vars.length;exact h
theorem Pr.choices(x:aF)(l:List Nat):Pr fun S=>(TB.choices S x l,()):=Pr.wL (fun p=>Pr.pack p (x.pack p)) l
theorem Pr.set(p:Nat)(aX:List lV)(l:List jm):Pr fun S=>TB.set S p aX l:=by have h:=Pr.bind (Pr.nums (ru p aX l)) fun R=>Pr.bind Pr.help fun H=>Pr.Uu (c:=0<H/\R.contains 0=false) (Pr.Fb (fun B=>B.adds (Hw H R)) H) (Pr.pure H);exact h
theorem Pr.value(p:Nat)(vars:List eP)(s:kC):Pr fun S=>TB.value S p vars s:=by
 unfold TB.value;cases QC vars s with
 |none=>exact Pr.pure 0
 |some j=>exact Pr.num _
theorem Pr.values(p:Nat)(vars:List eP):∀l:List kC,Pr fun S=>TB.values S p vars l
 | []=>Pr.pure []
 |s::r=>by
  have h:=Pr.bind (Pr.value p vars s) fun n=>Pr.bind (Pr.values p vars r) fun ns=>Pr.pure (n::ns)
  exact h
theorem Pr.meet(x:aF)(l:List Nat)(p rule c:Nat)(s:gZ):Pr fun S=>TB.meet S x l p rule c s:=by
 have h:=Pr.ite (c:=p∉l) (Pr.pure (0:Int)) (Pr.look fun L=>Pr.ite (c:=dw p rule c∈L) (Pr.pure (numOf L (dw p rule c):Int))
  (Pr.bind (Pr.num (dw p rule c)) fun N=>Pr.bind (Pr.num (aI p)) fun D=>Pr.bind (Pr.ite (c:=eU s.spans=true) (Pr.pure [D]) (Pr.bind (Pr.set p (x.pack p).aX s.spans) fun m=>Pr.pure [D,m])) fun E=>
   Pr.bind (Pr.values p (x.pack p).vars s.sets) fun V=>Pr.Uu (c:=0<N/\(E++V).contains 0=false) (Pr.Fb (fun B=>B.adds (nC N (E++V))) N) (Pr.pure N)))
 refine Eq.mp (congrArg Pr (funext fun S=>?_)) h;unfold TB.meet;by_cases hs:eU s.spans=true;·simp only[if_pos hs]
 simp only[if_neg hs]
theorem Pr.root(P:dO)(x:aF)(l:List Nat)(names:List Str)(r:Nat)(s:gZ):Pr fun S=>ES.root (S,P) x l names r s:=by
 have h:=Pr.bind (Pr.num (fG r)) fun R=>
  Pr.ite (c:=0<=x.find s.name) (Pr.bind (Pr.meet x l (x.find s.name).toNat r 1 s) fun M=>Pr.bG [-R,M] ((x.targets s.name).foldl (fun P t=>{P with roots:=dM P.roots t R}) P))
  (Pr.ite (c:=bY names s.name<0) (Pr.bG [-R] ((x.targets s.name).foldl (fun P t=>{P with roots:=dM P.roots t R}) P))
   (Pr.bind (Pr.num (fU (bY names s.name).toNat)) fun N=>Pr.bG [-R,N] {(x.targets s.name).foldl (fun P t=>{P with roots:=dM P.roots t R}) P with needs:=kZ ((x.targets s.name).foldl (fun P t=>{P with roots:=dM P.roots t R}) P).needs (bY names s.name).toNat R}))
 exact h
theorem Pr.agS(P:dO)(p t:Nat)(A:Int)(c:Int->List Int):Pr fun S=>((ES.goes (S,P) p t A).1.1.bG (c (ES.goes (S,P) p t A).2),(ES.goes (S,P) p t A).1.2):=by have h:=Pr.bind (Pr.num (iV p t)) fun n=>Pr.bG (c n) ({P with of:=dM P.of (p,t) A}:dO);exact h
theorem Pr.depend(P:dO)(x:aF)(l:List Nat)(names:List Str)(r p k:Nat)(d:tJ):Pr fun S=>ES.depend (S,P) x l names r p k d:=by
 have hf:∀(A:Int) (v:dO) (t:Nat),Pr fun S=>(fun(E:ES) t=>
   let D:=E.1.num (aI t)
   let G:=ES.goes (D.1,E.2) p t A
   ((G.1.1.bG [-A,-D.2,G.2],G.1.2):ES)) (S,v) t:=fun A v t=>by
  have h:=Pr.bind (Pr.num (aI t)) fun D=>Pr.agS v p t A fun G=>[-A,-D,G]
  exact h
 have h:=Pr.bind (Pr.num (lX p k)) fun A=>Pr.bind (Pr.num (fG r)) fun R=>Pr.bind (Pr.meet x l p r 0 d.cond) fun W=>
  Pr.bind (Pr.Uu (c:=[A,R,W].contains 0=true) (Pr.pure ()) (Pr.Fb (fun B=>B.adds (nC A [R,W])) ())) fun _=>
  Pr.ite (c:=0<=x.find d.on.name) (Pr.bind (Pr.meet x l (x.find d.on.name).toNat r 1 d.on) fun M=>Pr.bind (Pr.bG [-A,M] ()) fun _=>Pr.agS P p (x.find d.on.name).toNat A fun G=>[-A,G])
  (Pr.ite (c:=bY names d.on.name<0) (Pr.bG [-A] P)
   (Pr.bind (Pr.num (fU (bY names d.on.name).toNat)) fun N=>Pr.bind (Pr.bG [-A,N] ()) fun _=>Pr.foldl (f:=fun(E:ES) t=>
   let D:=E.1.num (aI t)
   let G:=ES.goes (D.1,E.2) p t A
   ((G.1.1.bG [-A,-D.2,G.2],G.1.2):ES)) (hf A) (x.dh d.on.name) {P with needs:=kZ P.needs (bY names d.on.name).toNat A}))
 exact h
theorem Pr.conflict(P:dO)(x:aF)(l:List Nat)(r p:Nat)(c:xX):Pr fun S=>ES.conflict (S,P) x l r p c:=by
 have h:=Pr.bind (Pr.num (fG r)) fun R=>Pr.bind (Pr.meet x l p r 0 c.cond) fun W=>
  Pr.ite (c:=c.with'.name=ByteArray.empty) (Pr.bG [-R,-W] P)
   (Pr.ite (c:=0<=x.find c.with'.name/\(x.find c.with'.name).toNat∈l) (Pr.bind (Pr.meet x l (x.find c.with'.name).toNat r 1 c.with') fun M=>Pr.bG [-R,-W,-M] P) (Pr.pure P))
 exact h
theorem Pr.rule(P:dO)(x:aF)(q:dH)(l:List Nat)(names:List Str)(r:Nat)(y:bW):Pr fun S=>ES.rule (S,P) x q l names r y:=by unfold ES.rule;exact Pr.ite (Pr.root P x l names r _) (Pr.ite (Pr.depend P x l names r _ _ _) (Pr.ite (Pr.conflict P x l r _ _) (Pr.pure P)))
theorem Pr.rules(P:dO)(x:aF)(q:dH)(l:List Nat)(names:List Str)(rs:List bW):∀r,Pr fun S=>ES.rules (S,P) x q l names rs r
 |0=>Pr.pure P
 |r+1=>by
  have h:=Pr.bind (Pr.rules P x q l names rs r) fun v=>Pr.rule v x q l names r (rs.getD r default)
  exact h
theorem Pr.edge(P:dO)(v:List (Nat×List Int))(e:Nat×Nat):Pr fun S=>BS.edge (S,v) P e:=by have h:=Pr.bind (Pr.num (iV e.1 e.2)) fun N=>Pr.bind (Pr.num (aI e.1)) fun A=>Pr.bind (Pr.bG [-N,A] ()) fun _=>Pr.bind (Pr.num (aI e.2)) fun D=>Pr.bind (Pr.bG [-N,D] ()) fun _=>Pr.bG (-N::dD P.of e) (dM v e.2 N);exact h
theorem Pr.pairs(n:Int)(row:List Int):Pr fun S=>(TB.pairs S n row,()):=Pr.wL (fun k=>Pr.wL (fun b=>Pr.bG _ ()) _) _
theorem Pr.name(x:aF)(P:dO)(i:Nat)(s:Str):Pr fun S=>(TB.name S x P i s,()):=by have h:=Pr.bind (Pr.num (fU i)) fun N=>Pr.bind (Pr.bG (-N::P.needs.getD i []) ()) fun _=>Pr.bind (Pr.nums ((x.dh s).map aI)) fun R=>Pr.bind (Pr.bG (-N::R) ()) fun _=>Pr.pairs N R;exact h
theorem Pr.place(P:dO)(into:List (Nat×List Int))(t:Nat):Pr fun S=>(TB.place S P into t,()):=by have h:=Pr.bind (Pr.num (aI t)) fun N=>Pr.bG (-N::(dD P.roots t++dD into t)) ();exact h
theorem Pr.edges(x:aF)(q:dH)(l:List Nat)(names:List Str)(rs:List bW):Pr fun S=>(TB.edges S x q l names rs,()):=by
 have h:=Pr.bind (Pr.rules ⟨[],List.replicate names.length [],[]⟩ x q l names rs rs.length) fun P=>Pr.bind (Pr.foldl (f:=fun B e=>BS.edge B P e) (fun v e=>Pr.edge P v e) P.edges []) fun into=>
  Pr.bind (Pr.wL (f:=fun S i=>S.name x P i (names.getD i ByteArray.empty)) (fun i=>Pr.name x P i _) (List.range names.length)) fun _=>Pr.wL (f:=fun S t=>S.place P into t) (fun t=>Pr.place P into t) l
 exact h
theorem Pr.Ej(p t:Nat):Pr fun S=>(TB.Ej S p t,()):=by have h:=Pr.look fun L=>Pr.Uu (c:=iV p t∈L) (Pr.Uu (c:=p=t) (Pr.bG [-(numOf L (iV p t):Int)] ()) (Pr.bind (Pr.num (oI p t)) fun n=>Pr.bG [-(numOf L (iV p t):Int),n] ())) (Pr.pure ());exact h
theorem Pr.FT(p t:Nat):Pr fun S=>(TB.FT S p t,()):=by have h:=Pr.bind (Pr.num (oI p t)) fun A=>Pr.bind (Pr.num (oI t p)) fun B=>Pr.bG [-A,-B] ();exact h
theorem Pr.FU(p t u:Nat):Pr fun S=>(TB.FU S p t u,()):=by have h:=Pr.bind (Pr.num (oI p t)) fun A=>Pr.bind (Pr.num (oI t u)) fun B=>Pr.bind (Pr.num (oI p u)) fun C=>Pr.bG [-A,-B,C] ();unfold TB.FU;exact Pr.Uu h (Pr.pure ())
theorem Pr.through(l:List Nat)(p t:Nat):Pr fun S=>(TB.through S l p t,()):=Pr.wL (fun u=>Pr.FU p t u) l
theorem Pr.orders(l:List Nat):Pr fun S=>(TB.orders S l,()):=by have h1:Pr fun S=>(TB.QG S l,()):=Pr.wL (fun p=>Pr.wL (fun t=>Pr.Ej p t) l) l;have h2:Pr fun S=>(TB.Xv S l,()):=Pr.wL (fun i=>Pr.wL (fun t=>Pr.FT (l.getD i 0) t) _) _;have h3:Pr fun S=>(TB.Xw S l,()):=Pr.wL (fun p=>Pr.wL (fun t=>Pr.Uu (c:=p≠t) (Pr.through l p t) (Pr.pure ())) l) l;have h:=Pr.bind h1 fun _=>Pr.bind h2 fun _=>h3;exact h
theorem YU{x:aF}{q:dH}{l:List Nat}{names:List Str}{rs:List bW}(L M:Nat)(hL:L<=M)(B:kD)(S S':TB)(hS:((TB.choices ((⟨[],M,0,false⟩:Tab),B) x l).edges x q l names rs).orders l=S)(hS':((TB.choices ((⟨[],L,0,false⟩:Tab),B) x l).edges x q l names rs).orders l=S')(hf:S.1.full=false):(S'.1.full=true/\L<S.1.l.length)\/(S'=FV L S/\S.1.l.length<=L):=by
 have h:=Pr.bind (Pr.choices x l) fun _=>Pr.bind (Pr.edges x q l names rs) fun _=>Pr.orders l;rcases h.sm L ((⟨[],M,0,false⟩:Tab),B) ⟨rfl,hL,qE _⟩with⟨h1,h2⟩| ⟨h1,h2⟩
 ·refine .inl ⟨by rw[<-hS'];exact h1,?_⟩;rcases h2 with h2|h2
  ·have h3:S.1.full=true:=by rw[<-hS];exact h2
   rw[hf]at h3;cases h3
  rw[<-hS];exact h2
 refine .inr ?_;have h3:=congrArg Prod.fst h2;rw[<-hS,<-hS'];exact⟨h3,h1.2.2⟩
end Go.Proofs.YtdmmebjjojimiaaGreatDoor
namespace Go.Proofs
theorem zEH{p:Prop}(h:p:=by
 rw[h2 x hx]at hat
 have:v=val x:=by
  unfold FW at hat
  simp at hat
  exact hat.1
 rw[<-this];exact hrun):p:=h
end Go.Proofs
namespace Go.Proofs.YtdmmebjjojimiaaGreatDoor
open Go.RowKit
def FW(v:Value):Option (DataW Value×List MemPlace):=some (.held v,[])
structure CU (κ:Type) (t k:TypeId) where
 enc:κ->Value
 lit:κ->Lit
 ok:κ->Prop
 law:Maps.Keyed Tryz.prog k
 und:Tryz.prog.underlying t=some (.map k 78)
 key:∀x,ok x->keyOf Tryz.prog k (enc x)=some (lit x)
 inj:∀x y,ok x->ok y->enc x=enc y->x=y
theorem YV(w:World):(zeroValue 78).run Tryz.prog w= .ok dF w:=by kernel_rfl
section
variable {κ:Type} [DecidableEq κ] {t k:TypeId} {K:CU κ t k}
theorem CU.isKey(K:CU κ t k){x:κ}(hx:K.ok x):WideAt.IsKeyLit (K.lit x):=K.law.key (K.key x hx)
theorem CU.ne(K:CU κ t k){x y:κ}(hx:K.ok x)(hy:K.ok y)(h:y≠x):K.lit y≠K.lit x:=fun e=>h (K.inj y x hy hx (K.law.inj (K.key y hy) (by rw[e];exact K.key x hx)))
abbrev keysOf(m:List (κ×List Int)):List κ:=m.map Prod.fst
def oK(m:List (κ×List Int))(x:κ):Nat:=(keysOf m).idxOf x
structure rD (K:CU κ t k) (w:World) (g:Tag) (τ B:Nat) (m:List (κ×List Int)) (val:κ->Value):Prop where
 own:∃D:DataW Value,w.ownsMap Tryz.prog k FW B m.length D/\(∀x,K.ok x->D.atKey (K.lit x) (.held dF)= .held (val x))/\(∀x,K.ok x->Maps.has D (K.lit x)=decide (x∈keysOf m))/\Maps.size D=m.length
 row:∀x,x∈keysOf m->Row w g (τ,oK m x+1) 3 (val x) ((dD m x).map cI)
 out:∀x,x∉keysOf m->val x=dF
 tb:g B=(τ,0)
 nd:(keysOf m).Nodup
 ok:∀x∈keysOf m,K.ok x
 rng:∀e∈m,∀z∈e.2,bg z
theorem Ph{m:List (κ×List Int)}{x:κ}(h:x∉keysOf m):dD m x=[]:=by unfold dD;rw[List.find?_eq_none.2 (fun e he=>by simp;rintro rfl;exact h (List.mem_map_of_mem he))];rfl
theorem y7(m:List (κ×List Int))(x:κ)(z:Int):keysOf (dM m x z)=if x∈keysOf m then keysOf m else keysOf m++[x]:=by
 unfold dM keysOf;split
 ·rw[List.map_map];refine List.map_congr_left fun e _=>?_;simp only[Function.comp];split;·rename_i h;exact h.symm
  rfl
 simp
theorem mem_push{m:List (κ×List Int)}{x y:κ}{z:Int}:y∈keysOf (dM m x z)↔y∈keysOf m\/y=x:=by
 rw[y7];split;·rename_i h;exact⟨.inl,fun h2=>h2.elim id (fun e=>e▸h)⟩
 simp
theorem Uw(m:List (κ×List Int))(x:κ)(z:Int):(dM m x z).length=if x∈keysOf m then m.length else m.length+1:=by have h:=congrArg List.length (y7 m x z);unfold keysOf at h;rw[qM]at h;rw[h];split<;>simp
theorem DL(m:List (κ×List Int))(x y:κ)(z:Int):((m.map fun e=>if e.1=x then (x,e.2++[z])else e).find? fun e=>decide (e.1=y))=((m.find? fun e=>decide (e.1=y)).map fun e=>if e.1=x then (x,e.2++[z])else e):=by
 induction m with
 |nil=>rfl
 |cons e r ih=>
  simp only[List.map_cons,List.find?_cons];have e1:(if e.1=x then (x,e.2++[z])else e).1=e.1:=by split<;>simp_all
  rw[e1];by_cases h:e.1=y;·simp[h]
  simp[h,ih]
theorem Ai{m:List (κ×List Int)}{x:κ}{z:Int}:dD (dM m x z) x=dD m x++[z]:=by
 by_cases h:x∈keysOf m
 ·unfold dD dM;rw[if_pos h,DL];obtain⟨e,he⟩:∃e,(m.find? fun e=>decide (e.1=x))=some e:=by rw[<-Option.isSome_iff_exists,List.find?_isSome];obtain⟨e,he,rfl⟩:=yD.1 h;exact⟨e,he,by simp⟩
  have h2:=List.find?_some he;rw[he];simp only[yP]at h2;simp[h2]
 rw[Ph h];unfold dD dM;rw[if_neg h,List.find?_append,List.find?_eq_none.2 (fun e he=>by simp;rintro rfl;exact h (List.mem_map_of_mem he))];simp
theorem y8{m:List (κ×List Int)}{x y:κ}{z:Int}(h:y≠x):dD (dM m x z) y=dD m y:=by
 by_cases hx:x∈keysOf m
 ·unfold dD dM;rw[if_pos hx,DL];cases he:(m.find? fun e=>decide (e.1=y))with
  |none=>rfl
  |some e=>have h2:=List.find?_some he;simp only[yP]at h2;simp[h2,h]
 unfold dD dM;rw[if_neg hx,List.find?_append];simp[Ne.symm h]
section
variable {w w':World} {g g':Tag} {τ B:Nat} {m:List (κ×List Int)} {val:κ->Value}
theorem rD.lt(h:rD K w g τ B m val):B<w.heap.size:=by obtain⟨D,h1,_⟩:=h.own;exact h1.lt
theorem zX{kk:TypeId}{R:Value->Option (DataW Value×List MemPlace)}{b n:Nat}{D:DataW Value}(h:w.ownsMap Tryz.prog kk R b n D){F:Nat->Prop}(ho:Only F w w')(hF:¬F b):w'.ownsMap Tryz.prog kk R b n D:=by have hlt:=h.lt;obtain⟨es,clock,hb,Ft,hs,hD⟩:=h;exact⟨es,clock,(ho.block b hlt hF).trans hb,Ft,hs,hD⟩
theorem rD.keep(h:rD K w g τ B m val){F:Nat->Prop}(ho:Only F w w')(hF:∀k,(g k).1=τ->¬F k)(hg:Agree w g g'):rD K w' g' τ B m val:=by obtain⟨D,h1,h2,h3,h4⟩:=h.own;exact⟨⟨D,zX h1 ho (hF B (by rw[h.tb])),h2,h3,h4⟩,fun x hx=>(h.row x hx).keep ho (fun k hk=>hF k (by rw[hk])) hg,h.out,(hg B h.lt).trans h.tb,h.nd,h.ok,h.rng⟩
theorem rD.made(K:CU κ t k)(w:World)(g:Tag){τ:Nat}(hg:g w.heap.size=(τ,0)):rD K (w.alloc (.map #[] 0)) g τ w.heap.size [] (fun _=>dF):=
 ⟨⟨.map [],World.ownsMap_made _ _ _ _,fun x _=>rfl,fun x _=>by simp[Maps.has,keysOf],rfl⟩,fun x hx=>by simp[keysOf]at hx,fun _ _=>rfl,hg,by simp[keysOf],fun x hx=>by simp[keysOf]at hx,fun e he=>by cases he⟩
theorem rD.rowAt(h:rD K w g τ B m val)(x:κ):Row w g (τ,oK m x+1) 3 (val x) ((dD m x).map cI):=by
 by_cases hx:x∈keysOf m;·exact h.row x hx
 rw[h.out x hx,Ph hx];exact Row.nil _ _ _ _
theorem rD.look(h:rD K w g τ B m val){x:κ}(hx:K.ok x):(Instr.lookup t (.map (some B)) (K.enc x) false).run Tryz.prog w= .ok (val x) w:=by obtain⟨D,h1,h2,h3,h4⟩:=h.own;obtain⟨v,ps,hrun,hat⟩:=h1.lookup K.law K.und (YV w) (zd:=.held dF) (zp:=[]) rfl (K.key x hx);exact zEH
theorem Ux{x y:κ}{z:Int}(hy:y∈keysOf m):oK (dM m x z) y=oK m y:=by
 unfold oK;rw[y7];split;·rfl
 rw[List.idxOf_append,if_pos hy]
theorem NS{x:κ}{z:Int}:oK (dM m x z) x=oK m x:=by
 by_cases hx:x∈keysOf m;·exact Ux hx
 unfold oK;rw[y7,if_neg hx,List.idxOf_append,if_neg hx,List.idxOf_eq_length hx];simp
theorem aib{x y:κ}(hy:y∈keysOf m)(h:y≠x):oK m y≠oK m x:=fun e=>by
 unfold oK at e
 have h1:(keysOf m).idxOf y<(keysOf m).length:=List.idxOf_lt_length_of_mem hy
 have h2:=List.getElem_idxOf (xs:=keysOf m) h1
 have h3:(keysOf m).idxOf x<(keysOf m).length:=by rw[<-e];exact h1
 have h4:=List.getElem_idxOf (xs:=keysOf m) h3
 refine h ?_
 rw[<-h2,<-h4]
 simp only[e]
theorem rD.push(h:rD K w g τ B m val){x:κ}(hx:K.ok x){w1:World}{g1:Tag}(hA:Agree w g g1)(ho:Only (fun k=>g k=(τ,oK m x+1)) w w1){v':Value}{z:Int}(hz:bg z)(hr:Row w1 g1 (τ,oK m x+1) 3 v' ((dD m x).map cI++[cI z]))(hl:m.length<maxLen):∃w2,(Instr.mapUpdate t (.map (some B)) (K.enc x) v').run Tryz.prog w1= .ok () w2/\rD K w2 g1 τ B (dM m x z) (fun y=>if y=x then v' else val y)/\Only (fun k=>k=B) w1 w2:=by
 obtain⟨D,h1,h2,h3,h4⟩:=h.own;have hB:¬g B=(τ,oK m x+1):=by rw[h.tb];simp
 have h1':=zX h1 ho hB;obtain⟨w2,hrun,r1,r2⟩:=h1'.store K.law K.und hl (K.key x hx) (d:=.held v') (ps:=[]) (val:=v') rfl;have hkl:=K.isKey hx;have hsz:Maps.size (D.put (K.lit x) (.held v'))=(dM m x z).length:=by
  rw[Maps.size_put (h1.tidy K.law),h3 x hx,h4,Uw];by_cases hm:x∈keysOf m;·simp[hm]
  simp[hm]
 have O2:Only (fun k=>k=B) w1 w2:=(Only.refl _ w1).grown r2.grown fun k hk=>.inl (Option.some.inj hk).symm;have gB:g1 B=(τ,0):=(hA B h1.lt).trans h.tb;have hF2:∀(i:Nat) (k:Nat),g1 k=(τ,i+1)->¬k=B:=fun i k hk e=>by rw[e,gB]at hk;simp at hk
 refine⟨w2,hrun,⟨⟨_,?_,fun y hy=>?_,fun y hy=>?_,hsz⟩,fun y hy=>?_,fun y hy=>?_,gB,?_,fun y hy=>?_,?_⟩,O2⟩;·exact zCt
 ·show _=DataW.held (if y=x then v' else val y);by_cases e:y=x;·subst e;rw[if_pos rfl,Maps.atKey_put_same h1.isMap hkl]
  rw[if_neg e,Maps.atKey_put_other (K.ne hx hy e),h2 y hy]
 ·by_cases e:y=x;·subst e;rw[Maps.has_put_same h1.isMap hkl,qX (mem_push.2 (.inr rfl))]
  rw[Maps.has_put_other (K.ne hx hy e),h3 y hy];exact decide_eq_decide.2 (by rw[mem_push];simp[e])
 ·show Row w2 g1 _ _ (if y=x then v' else val y) _;by_cases e:y=x;·subst e;rw[if_pos rfl,NS,Ai,List.map_append];exact hr.only O2 (hF2 _)
  have hy':y∈keysOf m:=(mem_push.1 hy).resolve_right e;rw[if_neg e,Ux hy',y8 e];exact((h.row y hy').keep ho (fun k hk hk2=>aib hy' e (by rw[hk]at hk2;simpa using hk2)) hA).only O2 (hF2 _)
 ·rw[mem_push,not_or]at hy;show(if y=x then v' else val y)=dF;rw[if_neg hy.2];exact h.out y hy.1
 ·rw[y7];exact zDd
 ·rcases mem_push.1 hy with h5|rfl;·exact h.ok y h5
  exact hx
 intro e he;unfold dM at he;split at he
 ·obtain⟨e0,h0,rfl⟩:=yD.1 he;split
  ·intro u hu;rcases qW.1 hu with hu|hu;·exact h.rng e0 h0 u hu
   simp at hu;subst hu;exact hz
  exact h.rng e0 h0
 rcases qW.1 he with he|he;·exact h.rng e he
 simp at he;subst he;intro u hu;simp at hu;subst hu;exact hz
end
end
theorem afJ:Maps.Keyed Tryz.prog 3:=Maps.int_keyed Tryz.underlying3
def KI:CU Nat 151 3 where
 enc x:=.int .i64 x
 lit x:=.int .i64 x
 ok x:=bg (x:Int)
 law:=afJ
 und:=Tryz.underlying151
 key x hx:=Maps.keyOf_int_mk Tryz.underlying3 (WalkArith.wf_i64 hx)
 inj x y _ _ h:=by simp at h;omega
theorem FX:Maps.Keyed Tryz.prog 226:=Maps.Keyed.of_law (deep_law_laid zk (m:=3) zAB (of_decide_eq_true zk) zk (by rw[Tryz.underlying226]))
abbrev CV(x:Nat×Nat):Value:=.agg #[.int .i64 x.1,.int .i64 x.2]
theorem aam(x:Nat×Nat)(h1:bg (x.1:Int))(h2:bg (x.2:Int)):∃l,keyOf Tryz.prog 226 (CV x)=some l:=by
 have a1:=WalkArith.wf_i64 h1;have a2:=WalkArith.wf_i64 h2;unfold keyOf;rw[Tryz.underlying226];have hk:(Tryz.prog.keyType 226&&(CV x).formed Tryz.prog 226)=true:=by
  have e1:Tryz.prog.keyType 226=true:=zBL;have e2:(CV x).formed Tryz.prog 226=true:=by have e3:Tryz.prog.cellsOf 226=2:=zBL;simp[Value.formed,Tryz.underlying226,e3]
  rw[e1,e2];rfl
 dsimp only;rw[if_pos hk];have hl:∃ls,Tryz.prog.keyLits (Tryz.prog.types.size+1) 226 (CV x).cells.toList=some ls:=by
  obtain⟨n,hn⟩:∃n,Tryz.prog.types.size=n+1:=⟨Tryz.prog.types.size-1,by
   have:0<Tryz.prog.types.size:=of_decide_eq_true zk
   omega⟩
  rw[hn];have e3:Tryz.prog.cellsOf 226=2:=zBL;have e4:Tryz.prog.cellsOf 3=1:=zBL;simp[Program.keyLits,Tryz.underlying226,Value.cells,e3,e4,Tryz.underlying3,a1,a2]
 obtain⟨ls,hls⟩:=hl;rw[hls];exact⟨_,rfl⟩
noncomputable def KE:CU (Nat×Nat) 150 226 where
 enc:=CV
 lit x:=(keyOf Tryz.prog 226 (CV x)).getD (.bool false)
 ok x:=bg (x.1:Int)/\bg (x.2:Int)
 law:=FX
 und:=Tryz.underlying150
 key x hx:=by obtain⟨l,hl⟩:=aam x hx.1 hx.2;rw[hl];rfl
 inj x y _ _ h:=by
  simp only[CV,Value.agg.injEq,Array.mk.injEq,List.cons.injEq,Value.int.injEq,true_and,and_true]at h
  exact Prod.ext zBU zAB
end Go.Proofs.YtdmmebjjojimiaaGreatDoor
namespace Go.Proofs
theorem zAz{p:Prop}(h:p:=by(intro w hSw;(try dsimp only at hSw);obtain⟨hc1,hc2⟩:=HC.out w hSw;go_simp<;>(try with_reducible rfl))):p:=h
theorem zBf{p:Prop}(h:p:=by rw[HM.out];exact ci):p:=h
end Go.Proofs
namespace Go.Proofs.YtdmmebjjojimiaaGreatDoor
open Go.RowKit
section
variable {w w':World} {B:Nat}
theorem Lj{α:Type}(xs:List α)(d:α){k:Nat}(h:k<xs.length):xs.take (k+1)=xs.take k++[xs.getD k d]:=by rw[yL h];simp[qC,h]
theorem Uy{va vb:Value}{as_ bs_:List (List Int)}(ha:tH w va as_)(hb:tH w vb bs_)(res:Bool)(hres:(as_==bs_)=res):Calls Tryz.prog 34 #[va,vb] w fun e w'=>e= .returned (.bool res)/\O0 w w':=by
 obtain⟨ao,ca,rfl,g1,g2⟩:=ha.shape;obtain⟨bo,cb,rfl,-,-⟩:=hb.shape;obtain⟨n,hn⟩:=ze as_.length;obtain⟨m,hm⟩:=ze bs_.length;rw[hn]at ha g1⊢;rw[hm]at hb⊢;have HA:=zh ha;have HB:=zh hb;have HN:=zh hn;have HM:=zh hm;have bD:=zh hres;clear ha hb hn hm hres;go_enter Tryz.func34,Tryz.ntmps34;by_cases hl:n=m
 ·subst hl;go_wp2_with fail;go_loopw [13] (fun vi wr=>Hid (O0 w wr)/\∃i:Nat,vi= .int .i64 i/\i<=n/\Hid (as_.take i=bs_.take i)) (fun v _=>n-(RowKit.intOf v).toNat);case atStart=>exact⟨show Hid _ from Only.refl _ _,0,rfl,qE _,show Hid (as_.take 0=bs_.take 0) from rfl⟩
  case round=>
   obtain⟨HO,i,rfl,hi,HT⟩:=hrel;by_cases ci:i<n
   ·obtain⟨b1,f1,ua,rfl,hb1,hc1,hIa⟩:=(HA.out.aH HO.out).at (k:=i) zAT;obtain⟨b2,f2,ub,rfl,hb2,hc2,hIb⟩:=(HB.out.aH HO.out).at (k:=i) zBf;obtain⟨r,hr⟩:∃r,(as_.getD i []==bs_.getD i [])=r:=⟨_,rfl⟩;have HC:Hid (∀W,O0 wr W->W.cell? ⟨b1,f1+i,none⟩=some ua/\W.cell? ⟨b2,f2+i,none⟩=some ub):=fun W hW=>
     ⟨by rw[World.cell?_of_block (w:=wr) (hW.block b1 hb1 (fun f=>f))];exact hc1,by rw[World.cell?_of_block (w:=wr) (hW.block b2 hb2 (fun f=>f))];exact hc2⟩
    have HSm:Hid (∀W,O0 wr W->Calls Tryz.prog 69 #[ua,ub] W fun e w'=>e= .returned (.bool r)/\O0 wr w'):=fun W hW=>
     (abL (hIa.aH hW) (hIb.aH hW)).mono fun e w' ⟨he,ho⟩=>⟨by rw[he,hr],hW.same ho⟩
    have iG:=zw (i+1);have HR:=zh hr;have o0:O0 wr wr.drew:=zr.drew;have hE:as_.getD i []=bs_.getD i []->as_.take (i+1)=bs_.take (i+1):=fun h=>by rw[Lj as_ [] zAT,Lj bs_ [] zBf,HT.out,h]
    have HE:=zh hE;clear hE hr hc1 hc2 hIa hIb hb1 hb2;go_wp2_with fail;refine fO (fun w'=>O0 wr w') zk zk zAW ?_;iterate 8 refine qV ?_ (hy:=zAz)
    refine gY (v:=.bool r) (f:=69) (args:= #[ua,ub]) (by rfl) ?_ ?_ ?_;·(intro w;go_simp<;>(try with_reducible rfl))
    ·(intro w hSw;exact HSm.out w hSw)
    try simp only[Act.put,dW,dX,dY]
    refine qV ?_ (hy:=zAz);refine wpQuiet_nil ?_;(intro w9 FD;have BZ:=zh (HO.out.same FD);clear FD);cases r with
    |true=>
     have HT2:Hid (as_.take (i+1)=bs_.take (i+1)):=HE.out (by simpa using HR.out);go_wp2_with fail;go_roundw;case rel=>exact⟨BZ,i+1,by first|rfl|go_num,by omega,HT2⟩
     case measure=>simp[RowKit.intOf]<;>omega
    |false=>
     have hne:res=false:=by rw[<-bD.out,yC];intro e;have:=HR.out;rw[e]at this;simp at this
     subst hne;go_wp2_with fail;go_ret;exact⟨rfl,BZ.out⟩
   obtain rfl:n=i:=by omega
   go_wp2_with fail;go_ret;refine⟨?_,HO.out⟩;have h1:=HT.out;rw[qI (yG HN.out),qI (yG HM.out)]at h1;have h2:(as_==bs_)=true:=by rw[h1];simp
   rw[<-bD.out,h2];rfl
 have hne:(as_==bs_)=false:=by rw[yC];intro e;apply hl;rw[<-HN.out,<-HM.out,e]
 rw[<-bD.out,hne]at*;go_wp2_with fail;go_ret;exact⟨rfl,Only.refl _ _⟩
end
theorem Uz:∀(L:List bW) (F:Nat->List Value),(∀i (hi:i<L.length),F i=L[i].cells)->(List.range L.length).flatMap F=rQ L
 | [],_,_=>rfl
 |a::r,F,h=>by
  rw[qN,List.range_succ_eq_map,List.flatMap_cons,List.flatMap_map]
  have h0:=h 0 zAF
  have hr:=Uz r (fun i=>F (i+1)) fun i hi=>by
   have:=h (i+1) zAv
   simpa using this
  rw[hr,h0]
  rfl
section
variable {w w':World} {B:Nat}
theorem Xx{v:Value}{L:List bW}(h:aQ 4 xw B w v L)(hn:L.length<=1000000):Calls Tryz.prog 176 #[v] w fun e w'=> ∃v',e= .returned v'/\jB w w' v' L/\O0 w w':=by
 obtain⟨ao,cap,rfl,g1,g2⟩:=h.shape;cases ao with
 |none=>obtain⟨hz,rfl⟩:=h.nil _ _ rfl;obtain rfl:L=[]:=yF hz;clear h;have eqn:=fun(W:World)=>Go.Lib.run_eql_slice_nil (P:=Tryz.prog) W 62 158 none 0 0 0 0 Tryz.underlying62;go_enter Tryz.func176,Tryz.ntmps176;go_wp2_with fail;go_ret;exact⟨_,rfl,jB.nil _ _,Only.refl _ _⟩
 |some ad=>
  obtain⟨F,hF,hl,hc⟩:=h.flat zAD;have hfl:=Uz L F fun i hi=>(hF i hi).2.1;rw[hfl]at hl hc;obtain⟨n,hnn⟩:=ze L.length;have HN:=zh hnn;rw[hnn]at hn hl g1⊢;have HL:=zh hl;have Cj:=zh (show∀u∈rQ L,u.oneCell'=true from fun u hu=>by
   unfold rQ at hu
   obtain⟨x,-,hx⟩:=List.mem_flatMap.1 hu
   exact x.one u hx)
  have HC:Hid (∀W,O0 w W->∀j u,(rQ L)[j]? =some u->W.cell? (ad.add j)=some u):=fun W ho j u hj=>by have h1:=hc ad rfl j u hj;have hb:=World.block_lt_of_cell? _ _ h1;rw[World.cell?_of_block (w:=w) (ho.block _ hb (fun f=>f))];exact h1
  clear h hnn hF hl hc hfl;have eqn:=fun(W:World)=>Go.Lib.run_eql_slice_nil (P:=Tryz.prog) W 62 158 (some ad) n cap 0 0 Tryz.underlying62;go_enter Tryz.func176,Tryz.ntmps176;go_wp2_with (at_builtin;go_must (refine wpA Qo rfl (.tmp 5) (.tmp 6) rfl (n:=0) (xs:=[]) rfl (show World.ownsRow _ 0 158 4 (.slice (some ⟨w.heap.size,0,none⟩) 0 0) 0 [] from⟨rfl,.inr ⟨w.heap.size,0,#[],rfl,qE _,qL _ _,qH _,by decide,rfl,rfl⟩⟩) (ad:=ad) (m:=n) (c:=cap) (news:=rQ L) rfl HL.out (HC.out _ (zr.alloc _)) Cj.out zBY zAB ?_));intro v' w1 r1 r2 r3 r4;have hres:jB w w1 v' L/\O0 w w1:=by
   refine⟨⟨?_,fun k hk=>?_⟩,?_⟩;·rw[HN.out];simpa using r1
   ·rcases r3 k hk with h|h;·simp[Value.ownBlock]at h;omega
    omega
   exact((Only.refl (fun _=>False) w).alloc _).grown r2 fun k hk=>.inr (by simp[Value.ownBlock]at hk;omega)
  have bD:=zh hres;obtain⟨ao,cap',rfl,-,-⟩:=aJ r1;clear r1 r2 r3 r4 hres;go_wp2_with fail;go_ret;exact⟨_,rfl,bD.out⟩
end
section
variable {w:World} {gt gb:Tag} {c bt bb:Nat} {G:GL} {T:Tab} {B:kD} {Bs:Nat}
theorem acY(H:nP w gt gb c bt bb G T B){l:List bW}(hl:aQ 4 xw Bs w G.r l)(hn:l.length<=1000000):Calls Tryz.prog 99 #[.pointer (some ⟨c,0,none⟩)] w fun e w'=> ∃v',e= .returned v'/\jB w w' v' l/\O0 w w':=by have q1:w.cell? ⟨c,4,none⟩=some G.r:=zAf;have hC:=zh (Xx hl hn);obtain⟨ao,cap,e,-,-⟩:=hl.shape;rw[e]at q1 hC;clear hl;go_enter Tryz.func99,Tryz.ntmps99;go_wp2_with fail;refine hC.out.mono ?_;rintro e w1 ⟨v,rfl,r1,r2⟩;have HR:=zh (And.intro r1 r2);obtain⟨av,cv,rfl,-,-⟩:=aJ r1.1;clear r1 r2;go_wp2_with fail;go_ret;exact⟨_,rfl,HR.out⟩
theorem acZ(H:nP w gt gb c bt bb G T B){l:List Int}(hl:Ints w G.l l)(n:Int):Calls Tryz.prog 230 #[.pointer (some ⟨c,0,none⟩),.int .i64 n] w fun e w'=>e= .returned (.bool (l.contains n))/\O0 w w':=by have q1:w.cell? ⟨c,3,none⟩=some G.l:=zAf;have hC:=zh (uU hl n _ rfl);obtain⟨ao,cap,e,-,-⟩:=hl.shape;rw[e]at q1 hC;clear hl;obtain⟨b,hb⟩:=ze (l.contains n);rw[hb]at hC⊢;clear hb;go_enter Tryz.func230,Tryz.ntmps230;go_wp2_with fail;refine hC.out.mono ?_;rintro e w1 ⟨rfl,rfl⟩;go_wp2_with fail;go_ret;exact⟨rfl,Only.refl _ _⟩
theorem jQ(H:nP w gt gb c bt bb G T B){a1 a2:Option Addr}{n1 n2 c1 c2:Nat}(h1:G.x1= .slice a1 n1 c1)(h2:G.x2= .slice a2 n2 c2):Calls Tryz.prog 78 #[.pointer (some ⟨c,0,none⟩)] w fun e w'=>e= .returned (.agg #[.slice a1 n1 c1,.slice a2 n2 c2])/\O0 w w':=by
 have ho:O0 w (w.alloc (.cells #[dF,dF] 25)):=zr.alloc _;have q1:(w.alloc (.cells #[dF,dF] 25)).cell? ⟨c,0,none⟩=some (.slice a1 n1 c1):=by rw[aj (aC H.blk ho (fun f=>f)),h1];rfl
 have q2:(w.alloc (.cells #[dF,dF] 25)).cell? ⟨c,1,none⟩=some (.slice a2 n2 c2):=by rw[aj (aC H.blk ho (fun f=>f)),h2];rfl
 clear ho;go_enter Tryz.func78,Tryz.ntmps78;go_wp2_with fail;(try simp only[Exit.inBlock,Exit.then]);refine bodyPost_ret (results_cell_row rfl _ _ w.heap.size 25 #[.slice a1 n1 c1,.slice a2 n2 c2] (0,0) _ rfl (qL w _) Tryz.underlying25 rfl zk) rfl ?_;exact⟨rfl,zr.alloc _⟩
theorem Ll(H:nP w gt gb c bt bb G T B){a1:Option Addr}{n1 c1:Nat}(h1:G.q= .slice a1 n1 c1):Calls Tryz.prog 79 #[.pointer (some ⟨c,0,none⟩)] w fun e w'=>e= .returned (.agg #[.slice a1 n1 c1])/\O0 w w':=by
 have ho:O0 w (w.alloc (.cells #[dF] 28)):=zr.alloc _;have q1:(w.alloc (.cells #[dF] 28)).cell? ⟨c,2,none⟩=some (.slice a1 n1 c1):=by rw[aj (aC H.blk ho (fun f=>f)),h1];rfl
 clear ho;go_enter Tryz.func79,Tryz.ntmps79;go_wp2_with fail;(try simp only[Exit.inBlock,Exit.then]);refine bodyPost_ret (results_cell_row rfl _ _ w.heap.size 28 #[.slice a1 n1 c1] (0,0) _ rfl (qL w _) Tryz.underlying28 rfl zk) rfl ?_;exact⟨rfl,zr.alloc _⟩
end
end Go.Proofs.YtdmmebjjojimiaaGreatDoor
