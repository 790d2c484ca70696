/- What may be needed, plain: names, what they may be, what is reached; the invariant of the ; What may be needed, by rounds: the document's way, plain: it ends with what is reached. -/
import Derived.Test.YtdmmebjjojimiaaGreatDoorG00
import Derived.Shelf.Slices.Turned
import Derived.Deep.RegionHeld3
set_option maxRecDepth 100000
set_option maxHeartbeats 8000000
set_option linter.all false
namespace Go.Proofs
theorem zBy{p:Prop}(h:p:=by simpa using h):p:=h
end Go.Proofs
namespace Go.Proofs.YtdmmebjjojimiaaGreatDoor
def iK{α:Type}(p:α->Bool)(xs:List α):Int:=if xs.any p then (xs.findIdx p:Int)else -1
theorem kW{α:Type}{p:α->Bool}{xs:List α}{k:Nat}{x:α}(hk:xs[k]? =some x)(hp:p x=true)(hn:∀y∈xs.take k,p y=false):iK p xs=k:=by obtain⟨hlt,rfl⟩:=qJ.1 hk;unfold iK;rw[if_pos (yU.2 ⟨xs[k],qZ hlt,hp⟩)];congr 1;rw[List.findIdx_eq hlt];refine⟨hp,fun j hj=>hn _ ?_⟩;rw[List.mem_take_iff_getElem];exact⟨j,by omega,rfl⟩
theorem jR{α:Type}{p:α->Bool}{xs:List α}(hn:∀y∈xs,p y=false):iK p xs= -1:=by unfold iK;rw[if_neg];rw[yU];rintro⟨x,hx,hp⟩;rw[hn x hx]at hp;cases hp
theorem Nj{α:Type}(p:α->Bool)(xs:List α):iK p xs= -1\/ ∃k:Nat,iK p xs=k/\k<xs.length/\∃x,xs[k]? =some x/\p x=true:=by
 unfold iK;split;·rename_i h;have hl:=List.findIdx_lt_length_of_exists (p:=p) (xs:=xs) zBy;exact .inr ⟨_,rfl,hl,_,qA hl,List.findIdx_getElem⟩
 exact .inl rfl
def intsOf(l:List Nat):List Int:=l.map fun i:Nat=>(i:Int)
def iC(l:List Str)(s:Str):Bool:=l.any fun t=>decide (t=s)
theorem EH{l:List Str}{s:Str}:iC l s=true↔s∈l:=by
 unfold iC;rw[yU];constructor;·rintro⟨t,ht,h⟩;rw[of_decide_eq_true h]at ht;exact ht
 intro h;exact⟨s,h,qX rfl⟩
def aQ.find(x:aQ)(s:Str):Int:=iK (fun p=>decide (p.name=s)) x.packs
def aQ.pack(x:aQ)(i:Nat):iI:=x.packs.getD i default
def aQ.kE(x:aQ)(s:Str)(k:Nat):List Nat:=(List.range k).filter fun i=>iC (x.pack i).provides s
def aQ.oH(x:aQ)(s:Str):List Nat:=x.kE s x.packs.length
def aQ.targets(x:aQ)(s:Str):List Nat:=if 0<=x.find s then [(x.find s).toNat]else x.oH s
theorem aQ.KR(x:aQ)(s:Str)(k:Nat):x.kE s (k+1)=if iC (x.pack k).provides s=true then x.kE s k++[k]else x.kE s k:=by unfold aQ.kE;rw[List.range_succ,List.filter_append];by_cases h:iC (x.pack k).provides s=true<;>simp[h]
theorem aQ.uM(x:aQ)(s:Str):x.find s<x.packs.length:=by
 rcases Nj (fun p=>decide (p.name=s)) x.packs with h| ⟨k,h,hk,_⟩;·unfold aQ.find;rw[h];omega
 unfold aQ.find;rw[h];omega
theorem aQ.mD{x:aQ}{s:Str}{i:Nat}(h:i∈x.targets s):i<x.packs.length:=by
 unfold aQ.targets at h;split at h;·have:=x.uM s;simp at h;omega
 unfold aQ.oH aQ.kE at h;simp at h;exact h.1
theorem aQ.nX(x:aQ)(s:Str):(x.targets s).length<=x.packs.length:=by
 unfold aQ.targets;split;·have:=x.uM s;simp;omega
 unfold aQ.oH aQ.kE;have:=yO (fun i=>iC (x.pack i).provides s) (List.range x.packs.length);simpa using this
inductive aQ.Reach (x:aQ) (names:List Str):Nat->Prop where
 |root {s i}:s∈names->i∈x.targets s->Reach x names i
 |step {k d i}:Reach x names k->d∈(x.pack k).deps->i∈x.targets d.on.name->Reach x names i
theorem aQ.Reach.lt{x:aQ}{names:List Str}{i:Nat}(h:x.Reach names i):i<x.packs.length:=by
 cases h with
 |root _ h=>exact mD h
 |step _ _ h=>exact mD h
theorem aQ.Reach.mono{x:aQ}{a b:List Str}(hab:∀s∈a,s∈b){i:Nat}(h:x.Reach a i):x.Reach b i:=by
 induction h with
 |root h1 h2=>exact .root (hab _ h1) h2
 |step _ h2 h3 ih=>exact .step ih h2 h3
theorem aQ.Reach.append{x:aQ}{a b:List Str}{i:Nat}:x.Reach (a++b) i↔x.Reach a i\/x.Reach b i:=by
 constructor
 ·intro h;induction h with
  |root h1 h2=>
   rcases qW.1 h1 with h|h;·exact .inl (.root h h2)
   exact .inr (.root h h2)
  |step _ h2 h3 ih=>
   rcases ih with h|h;·exact .inl (.step h h2 h3)
   exact .inr (.step h h2 h3)
 rintro(h|h);·exact h.mono fun s hs=>List.mem_append_left _ hs
 exact h.mono fun s hs=>List.mem_append_right _ hs
open Classical in
noncomputable def aQ.closure (x:aQ) (names:List Str):List Nat:=(List.range x.packs.length).filter fun i=>decide (x.Reach names i)
theorem aQ.tX{x:aQ}{names:List Str}{i:Nat}:i∈x.closure names↔x.Reach names i:=by unfold aQ.closure;rw[List.mem_filter];simp only[yI,yP];exact⟨fun h=>h.2,fun h=>⟨h.lt,h⟩⟩
theorem aQ.Nk(x:aQ)(names:List Str):(x.closure names).Pairwise (· < ·):=by unfold aQ.closure;exact List.Pairwise.filter _ List.pairwise_lt_range
theorem aQ.Ap(x:aQ)(names:List Str):(x.closure names).length<=x.packs.length:=by unfold aQ.closure;have:=yO (fun i=> @decide (x.Reach names i) (Classical.propDecidable _)) (List.range x.packs.length);simpa using this
def iI.names(p:iI):List Str:=p.deps.map fun d=>d.on.name
def Met(x:aQ)(roots:List Str)(ks:List Int)(s:Str):Prop:=s∈roots\/ ∃k:Nat,(k:Int)∈ks/\s∈(x.pack k).names
structure uF (x:aQ) (roots:List Str) (ks:List Int) (A R:List Str):Prop where
 keys:∀z∈ks,∃i:Nat,z=i/\x.Reach roots i
 names:∀s,s∈A\/s∈R->∀i∈x.targets s,x.Reach roots i
 done:∀s,Met x roots ks s->s∈A\/s∈R\/ ∀i∈x.targets s,(i:Int)∈ks
theorem uF.start(x:aQ)(roots:List Str):uF x roots [] roots []:=
 ⟨fun z hz=>(by cases hz),fun s hs i hi=>.root (by simpa using hs) hi,fun s hs=>by
  rcases hs with h| ⟨k,h,_⟩
  ·exact .inl h
  ·cases h⟩
theorem uF.pop{x:aQ}{roots:List Str}{ks:List Int}{A:List Str}{s:Str}(h:uF x roots ks (s::A) []):uF x roots ks A [s]:=
 ⟨h.keys,fun t ht=>h.names t (by simp at ht⊢;rcases ht with h|h;exact .inr h;exact .inl h),fun t ht=>by
  have:=h.done t ht
  simp at this⊢
  rcases this with(h|h)|h
  ·exact .inr (.inl h)
  ·exact .inl h
  ·exact .inr (.inr h)⟩
theorem uF.key{x:aQ}{roots:List Str}{ks ks':List Int}{A R:List Str}{s:Str}{i:Nat}(h:uF x roots ks A (R++[s]))(hi:i∈x.targets s)(hk:∀z,z∈ks'↔z∈ks\/z=i):uF x roots ks' A ((x.pack i).names++(R++[s])):=by
 have hr:x.Reach roots i:=h.names s (.inr zAP) i hi;refine⟨fun z hz=>?_,fun t ht j hj=>?_,fun t ht=>?_⟩
 ·rcases(hk z).1 hz with hz|rfl;·exact h.keys z hz
  exact⟨i,rfl,hr⟩
 ·rcases ht with ht|ht;·exact h.names t (.inl ht) j hj
  rcases qW.1 ht with ht|ht;·obtain⟨d,hd,rfl⟩:=yD.1 ht;exact .step hr hd hj
  exact h.names t (.inr ht) j hj
 have old:Met x roots ks t->t∈A\/t∈(x.pack i).names++(R++[s])\/ ∀j∈x.targets t,(j:Int)∈ks':=fun hm=>by
  rcases h.done t hm with h1|h1|h1;·exact .inl h1
  ·exact .inr (.inl (List.mem_append_right _ h1))
  exact .inr (.inr fun j hj=>(hk _).2 (.inl (h1 j hj)))
 rcases ht with ht| ⟨k,hkk,ht⟩;·exact old (.inl ht)
 rcases(hk _).1 hkk with h2|h2;·exact old (.inr ⟨k,h2,ht⟩)
 obtain rfl:k=i:=by omega
 exact .inr (.inl (List.mem_append_left _ ht))
theorem uF.push{x:aQ}{roots:List Str}{ks:List Int}{A R:List Str}{s:Str}(h:uF x roots ks A (s::R)):uF x roots ks (A++[s]) R:=
 ⟨h.keys,fun t ht=>h.names t (by simp at ht⊢;rcases ht with(h|h)|h;exact .inl h;exact .inr (.inl h);exact .inr (.inr h)),fun t ht=>by
  have:=h.done t ht
  simp at this⊢
  rcases this with h| (h|h)|h
  ·exact .inl (.inl h)
  ·exact .inl (.inr h)
  ·exact .inr (.inl h)
  ·exact .inr (.inr h)⟩
theorem uF.drop{x:aQ}{roots:List Str}{ks:List Int}{A:List Str}{s:Str}(h:uF x roots ks A [s])(hi:∀i∈x.targets s,(i:Int)∈ks):uF x roots ks A []:=
 ⟨h.keys,fun t ht=>h.names t (by simp at ht⊢;exact .inl ht),fun t ht=>by
  have:=h.done t ht
  simp at this⊢
  rcases this with h|rfl|h
  ·exact .inl h
  ·exact .inr hi
  ·exact .inr h⟩
theorem uF.fin{x:aQ}{roots:List Str}{ks:List Int}(h:uF x roots ks [] [])(z:Int):z∈ks↔ ∃i:Nat,z=i/\i∈x.closure roots:=by
 constructor;·intro hz;obtain⟨i,rfl,hi⟩:=h.keys z hz;exact⟨i,rfl,aQ.tX.2 hi⟩
 rintro⟨i,rfl,hi⟩;have hr:=aQ.tX.1 hi;clear hi;induction hr with
 |root h1 h2=>
  rcases h.done _ (.inl h1)with h3|h3|h3;·cases h3
  ·cases h3
  exact h3 _ h2
 |step _ h2 h3 ih=>
  rename_i k d i _;rcases h.done d.on.name (.inr ⟨_,ih,yD.2 ⟨d,h2,rfl⟩⟩)with h4|h4|h4;·cases h4
  ·cases h4
  exact h4 _ h3
def aQ.JH(x:aQ)(ks:List Int):Nat:=((List.range x.packs.length).map fun i:Nat=>if (i:Int)∈ks then 0 else (x.pack i).deps.length).sum
theorem GN(f g:Nat->Nat)(i c:Nat):∀l:List Nat,l.Nodup->i∈l->g i+c=f i->(∀j∈l,j≠i->g j=f j)->(l.map g).sum+c=(l.map f).sum
 | [],_,h,_,_=>by cases h
 |a::l,hn,hi,hc,ho=>by
  rw[List.nodup_cons]at hn
  rcases qY.1 hi with rfl|hi
  ·have:l.map g=l.map f:=List.map_congr_left fun j hj=>ho j (yE _ hj) fun e=>hn.1 (e▸hj)
   simp only[List.map_cons,List.sum_cons,this];omega
  ·have:=GN f g i c l hn.2 hi hc fun j hj=>ho j (yE _ hj)
   have h2:=ho a qQ fun e=>hn.1 (e▸hi)
   simp only[List.map_cons,List.sum_cons,h2];omega
theorem aQ.agt{x:aQ}{ks ks':List Int}{i:Nat}(hi:i<x.packs.length)(hn:(i:Int)∉ks)(hk:∀z,z∈ks'↔z∈ks\/z=i):x.JH ks'+(x.pack i).deps.length=x.JH ks:=by
 unfold aQ.JH;refine GN _ _ i _ _ List.nodup_range (yI.2 hi) ?_ fun j _ hj=>?_;·rw[if_pos ((hk _).2 (.inr rfl)),if_neg hn];omega
 have:((j:Int)∈ks')↔(j:Int)∈ks:=by
  rw[hk];constructor
  ·rintro(h|h);·exact h
   omega
  exact .inl
 by_cases h:(j:Int)∈ks;·rw[if_pos h,if_pos (this.2 h)]
 rw[if_neg h,if_neg (fun e=>h (this.1 e))]
theorem aQ.ait{x:aQ}{M:Nat}(h:∀p∈x.packs,p.deps.length<=M)(ks:List Int):x.JH ks<=x.packs.length*M:=by
 have gen:∀l:List Nat,(∀i∈l,i<x.packs.length)->(l.map fun i:Nat=>if (i:Int)∈ks then 0 else (x.pack i).deps.length).sum<=l.length*M:=by
  intro l
  induction l with
  |nil=>intro _;simp
  |cons a l ih=>
   intro hl
   have h1:=ih fun i hi=>hl i (yE _ hi)
   have h2:(x.pack a).deps.length<=M:=by
    have ha:=hl a qQ
    unfold aQ.pack
    rw[qC,qA ha]
    exact h _ (qZ ha)
   simp only[List.map_cons,List.sum_cons,qN,Nat.add_mul,Nat.one_mul]
   split<;>omega
 have:=gen (List.range x.packs.length) fun i hi=>yI.1 hi;simpa[aQ.JH]using this
def L6(x:aQ)(names:List Str)(i:Nat):Bool:=names.any fun s=>decide (i∈x.targets s)
def UA(x:aQ)(f:List Bool)(i:Nat)(k:Nat):Bool:=f.getD k false&&L6 x ((x.pack k).deps.map fun d=>d.on.name) i
def xP(x:aQ)(names:List Str)(f:List Bool)(i:Nat):Bool:=L6 x names i||(List.range x.packs.length).any (UA x f i)
def stepD(x:aQ)(names:List Str)(f:List Bool)(i:Nat):List Bool:=if (!f.getD i false&&xP x names f i)=true then f.set i true else f
def jI(x:aQ)(names:List Str)(f:List Bool)(k:Nat):List Bool:=(List.range k).foldl (stepD x names) f
def gG(x:aQ)(names:List Str):Nat->List Bool
 |0=>List.replicate x.packs.length false
 |n+1=>jI x names (gG x names n) x.packs.length
theorem vF(x:aQ)(names:List Str)(f:List Bool)(k:Nat):jI x names f (k+1)=stepD x names (jI x names f k) k:=by unfold jI;rw[List.range_succ,List.foldl_append];rfl
theorem abv(x:aQ)(names:List Str)(f:List Bool)(i:Nat):(stepD x names f i).length=f.length:=by unfold stepD;split<;>simp
theorem WL(x:aQ)(names:List Str)(f:List Bool)(k:Nat):(jI x names f k).length=f.length:=by
 induction k with
 |zero=>rfl
 |succ k ih=>rw[vF,abv,ih]
theorem Ll(x:aQ)(names:List Str)(n:Nat):(gG x names n).length=x.packs.length:=by
 induction n with
 |zero=>simp[gG]
 |succ n ih=>rw[gG,WL,ih]
def UC(f g:List Bool):Prop:=f.length=g.length/\∀i,f.getD i false=true->g.getD i false=true
theorem UC.refl(f:List Bool):UC f f:=⟨rfl,fun _ h=>h⟩
theorem UC.trans{f g h:List Bool}(a:UC f g)(b:UC g h):UC f h:=⟨a.1.trans b.1,fun i hi=>b.2 i (a.2 i hi)⟩
theorem UC.anti{f g:List Bool}(a:UC f g)(b:UC g f):f=g:=by refine List.ext_getElem a.1 fun i h1 h2=>?_;have h3:=a.2 i;have h4:=b.2 i;simp only[qC,qA h1,qA h2,Option.getD_some]at h3 h4;cases hf:f[i]<;>cases hg:g[i]<;>simp_all
theorem Oh{f:List Bool}{i j:Nat}(hi:i<f.length):(f.set i true).getD j false=if j=i then true else f.getD j false:=by
 simp only[qC,List.getElem?_set];by_cases h:i=j;·subst h;simp[hi]
 rw[if_neg h,if_neg (fun e=>h e.symm)]
theorem adX(x:aQ)(names:List Str)(f:List Bool)(i:Nat):UC f (stepD x names f i):=by
 unfold stepD;split
 ·refine⟨by simp,fun j hj=>?_⟩;by_cases hi:i<f.length
  ·rw[Oh hi];split;·rfl
   exact hj
  rw[List.set_eq_of_length_le zAA];exact hj
 exact UC.refl f
theorem Du(x:aQ)(names:List Str)(f:List Bool)(j k:Nat)(h:j<=k):UC (jI x names f j) (jI x names f k):=by
 induction k with
 |zero=>
  obtain rfl:j=0:=by omega
  exact UC.refl _
 |succ k ih=>
  by_cases hj:j=k+1;·subst hj;exact UC.refl _
  rw[vF];exact(ih zAA).trans (adX _ _ _ _)
def QD(f:List Bool):Nat:=f.countP id
theorem aav:∀{f g:List Bool},UC f g->f≠g->QD f<QD g
 | [],[],_,h=>absurd rfl h
 | [],b::g,h,_=>by have:=h.1;simp at this
 |a::f,[],h,_=>by have:=h.1;simp at this
 |a::f,b::g,h,hn=>by
  have ht:UC f g:=⟨by simpa using h.1,fun i hi=>by have:=h.2 (i+1);simp only[List.getD_cons_succ]at this;exact this hi⟩
  have hd:a=true->b=true:=by have:=h.2 0;simpa using this
  unfold QD
  rw[List.countP_cons,List.countP_cons]
  by_cases hfg:f=g
  ·subst hfg
   cases a<;>cases b<;>simp_all
  ·have:=aav ht hfg
   unfold QD at this
   cases a<;>cases b<;>simp_all<;>omega
def aaw(x:aQ)(names:List Str)(f:List Bool):Prop:=jI x names f x.packs.length=f
theorem aaw.asked{x:aQ}{names:List Str}{f:List Bool}(h:aaw x names f)(hl:f.length=x.packs.length){i:Nat}(hi:i<x.packs.length)(ha:xP x names f i=true):f.getD i false=true:=by
 have h0:UC f (jI x names f i):=Du x names f 0 i zAA;have h1:UC (jI x names f i) f:=by have:=Du x names f i _ (Nat.le_of_lt hi);rw[h]at this;exact this
 have e1:=h1.anti h0;have h2:UC (jI x names f (i+1)) f:=by have:=Du x names f (i+1) _ hi;rw[h]at this;exact this
 rw[vF,e1]at h2;by_cases hf:f.getD i false=true;·exact hf
 refine h2.2 i ?_;unfold stepD;rw[if_pos (by rw[ha];simp only[Bool.not_eq_true]at hf;rw[hf];rfl),Oh zAA,if_pos rfl]
theorem WM(x:aQ)(names:List Str)(n:Nat):aaw x names (gG x names n)\/n<=QD (gG x names n):=by
 induction n with
 |zero=>exact .inr (qE _)
 |succ n ih=>
  rcases ih with h|h;·refine .inl ?_;have:gG x names (n+1)=gG x names n:=h;rw[this];exact h
  by_cases hs:gG x names (n+1)=gG x names n;·refine .inl ?_;rw[hs];exact hs
  refine .inr ?_;have:=aav (Du x names (gG x names n) 0 x.packs.length (qE _)) (fun e=>hs e.symm);have h2:QD (jI x names (gG x names n) 0)=QD (gG x names n):=rfl;rw[h2]at this;have h3:QD (jI x names (gG x names n) x.packs.length)=QD (gG x names (n+1)):=rfl;rw[h3]at this;omega
theorem L8(x:aQ)(names:List Str):aaw x names (gG x names (x.packs.length+1)):=by
 rcases WM x names (x.packs.length+1)with h|h;·exact h
 exfalso;have:QD (gG x names (x.packs.length+1))<=(gG x names (x.packs.length+1)).length:=List.countP_le_length;rw[Ll]at this;omega
def J7(x:aQ)(names:List Str)(f:List Bool):Prop:= ∀i,f.getD i false=true->x.Reach names i
theorem BP{x:aQ}{names:List Str}{i:Nat}:L6 x names i=true↔ ∃s∈names,i∈x.targets s:=by unfold L6;rw[yU];simp only[yP]
theorem WO{x:aQ}{names:List Str}{f:List Bool}(hs:J7 x names f){i:Nat}(h:xP x names f i=true):x.Reach names i:=by
 unfold xP at h;rw[Bool.or_eq_true]at h;rcases h with h|h;·obtain⟨s,h1,h2⟩:=BP.1 h;exact .root h1 h2
 obtain⟨k,hk,h2⟩:=yU.1 h;unfold UA at h2;rw[Bool.and_eq_true]at h2;obtain⟨s,h3,h4⟩:=BP.1 h2.2;obtain⟨d,hd,rfl⟩:=yD.1 h3;exact .step (hs k h2.1) hd h4
theorem WQ{x:aQ}{names:List Str}{f:List Bool}(hs:J7 x names f)(i:Nat):J7 x names (stepD x names f i):=by
 unfold stepD;split
 ·rename_i h;rw[Bool.and_eq_true]at h;intro j hj;by_cases hi:i<f.length
  ·rw[Oh hi]at hj;split at hj;·next e=>subst e;exact WO hs h.2
   exact hs j hj
  rw[List.set_eq_of_length_le zAA]at hj;exact hs j hj
 exact hs
theorem QE{x:aQ}{names:List Str}{f:List Bool}(hs:J7 x names f)(k:Nat):J7 x names (jI x names f k):=by
 induction k with
 |zero=>exact hs
 |succ k ih=>rw[vF];exact WQ ih k
theorem UD(x:aQ)(names:List Str)(n:Nat):J7 x names (gG x names n):=by
 induction n with
 |zero=>intro i hi;exfalso;simp only[gG,qC,List.getElem?_replicate]at hi;split at hi<;>cases hi
 |succ n ih=>exact QE ih _
theorem UE(x:aQ)(names:List Str)(i:Nat):(gG x names (x.packs.length+1)).getD i false=true↔x.Reach names i:=by
 refine⟨UD x names _ i,fun h=>?_⟩;have hs:=L8 x names;have hl:=Ll x names (x.packs.length+1);generalize gG x names (x.packs.length+1)=f at hs hl;induction h with
 |root h1 h2=>refine hs.asked hl (aQ.mD h2) ?_;unfold xP;rw[Bool.or_eq_true];exact .inl (BP.2 ⟨_,h1,h2⟩)
 |step h1 h2 h3 ih=>refine hs.asked hl (aQ.mD h3) ?_;unfold xP;rw[Bool.or_eq_true];refine .inr (yU.2 ⟨_,yI.2 (h1.lt),?_⟩);unfold UA;rw[Bool.and_eq_true];exact⟨ih,BP.2 ⟨_,yD.2 ⟨_,h2,rfl⟩,h3⟩⟩
def EZ(f:List Bool)(k:Nat):List Nat:=(List.range k).filter fun i=>f.getD i false
theorem RU(f:List Bool)(k:Nat):EZ f (k+1)=if f.getD k false=true then EZ f k++[k]else EZ f k:=by
 unfold EZ;rw[List.range_succ,List.filter_append];by_cases h:f.getD k false=true;·rw[if_pos h];simp only[List.filter_cons,h,if_true,List.filter_nil]
 rw[if_neg h];simp only[List.filter_cons,if_neg h,List.filter_nil,List.append_nil]
theorem E5(x:aQ)(names:List Str):EZ (gG x names (x.packs.length+1)) x.packs.length=x.closure names:=by unfold EZ aQ.closure;refine List.filter_congr fun i _=>?_;rw[Bool.eq_iff_iff,UE];simp
def Tryz.VI:Go.Shelf.Ren:=⟨fun |110=>191|109=>272|n=>n,fun |0=>0|3=>3|4=>4|9=>9|31=>81|n=>n,fun |n=>n⟩
theorem Tryz.ZW:Go.Proofs.Lays.n110 Tryz.prog Tryz.VI:={
 mixed:=by kernel_rfl
 f110:=Tryz.func191.trans (congrArg some zk)
 f109:=Tryz.func272.trans (congrArg some zk)
 t0:=Tryz.underlying0
 a0:=Tryz.isAgg0
 z0:=Tryz.sizeOf0
 v0:=Tryz.zeroValue0
 t3:=Tryz.underlying3
 a3:=Tryz.isAgg3
 z3:=Tryz.sizeOf3
 v3:=Tryz.zeroValue3
 t4:=Tryz.underlying4
 a4:=Tryz.isAgg4
 z4:=Tryz.sizeOf4
 v4:=Tryz.zeroValue4
 t9:=Tryz.underlying9
 a9:=Tryz.isAgg9
 z9:=Tryz.sizeOf9
 v9:=Tryz.zeroValue9
 t31:=Tryz.underlying81
 a31:=Tryz.isAgg81
 z31:=Tryz.sizeOf81
 v31:=Tryz.zeroValue81}
theorem Tryz.slices_Contains_string(b off n c:Nat)(zs:List ByteArray)(x:ByteArray)(w:World)(hz:n<=zs.length)(hbig:n<=9223372036854775807)(hc:∀j,j<zs.length->w.cell? ⟨b,off+j,none⟩=some (.string (zs.getD j ByteArray.empty))):Calls Tryz.prog 191 #[.slice (some ⟨b,off,none⟩) n c,.string x] w fun e w'=>e= .returned (.bool (Lib.containsS (zs.take n) x))/\w'=w:=Any.slices_Contains_string Tryz.ZW b off n c zs x w hz hbig hc
theorem Tryz.slices_Contains_string_empty(a:Option Addr)(c:Nat)(x:ByteArray)(w:World):Calls Tryz.prog 191 #[.slice a 0 c,.string x] w fun e w'=>e= .returned (.bool false)/\w'=w:=Any.slices_Contains_string_empty Tryz.ZW a c x w
section
variable {P:Program} {ops:Array Oper} {Q:Exit->Act->World->Prop} {md:Region.Mode} {S:World->Prop} {E:Nat->Bool}
def Gives(P:Program)(ops:Array Oper)(S:World->Prop)(o:Oper)(v:Value)(a:Act):Prop:=
 (Region.wanted o (yielded ops a.tmps)=true/\∀w,S w->(execOp a.eval o).run P w= .ok (.value v) w\/ ∃f args,(execOp a.eval o).run P w= .ok (.enter f args) w/\Calls P f args w fun e w'=>e= .returned v/\w=w')\/
 (Region.wanted o (yielded ops a.tmps)=false/\v=undef)
theorem Gives.of_same{o:Oper}{v:Value}{a a':Act}(hy:Gives P ops S o v a)(he:execOp a'.eval o=execOp a.eval o)(hw:Region.wanted o (yielded ops a'.tmps)=Region.wanted o (yielded ops a.tmps)):Gives P ops S o v a':=by
 rcases hy with⟨h1,h2⟩| ⟨h1,h2⟩;·exact .inl ⟨by rw[hw];exact h1,fun w hS=>by rw[he];exact h2 w hS⟩
 exact .inr ⟨by rw[hw];exact h1,h2⟩
theorem Gives.wpOp{i:Nat}{o:Oper}{v:Value}{a:Act}(hi:ops[i]? =some o)(hy:Gives P ops S o v a){K:Act->World->Prop}{w:World}(hS:S w)(h:K (a.put o.dst v) w):wpOp P ops Q i K a w:=by
 unfold Go.wpOp;rcases hy with⟨want,run⟩| ⟨want,rfl⟩
 ·simp only[hi,want,if_true];refine .inl ?_;unfold Oper.wp;rcases run w hS with hr| ⟨f,args,hr,hc⟩;·rw[hr];simp only[Oper.upon];exact h
  rw[hr];simp only[Oper.upon];refine hc.mono fun e w' he=>?_;obtain⟨rfl,rfl⟩:=he;exact h
 simp only[hi,want,Bool.false_eq_true,if_false];exact h
theorem aaV{j:Nat}{oi oj:Oper}{v:Value}(hj:ops[j]? =some oj)(hap:oi.apart ops oj=true)(hsi:∀cs b,oi.op≠ .select cs b)(hsj:∀cs b,oj.op≠ .select cs b)(hQ:∀c a w,Q (.panic c) (a.put oi.dst v) w->Q (.panic c) a w){K:Act->World->Prop}{a:Act}{w:World}(hy:Gives P ops S oi v a)(h:wpOp P ops Q j K (a.put oi.dst v) w):wpOp P ops Q j (fun a' w'=>Gives P ops S oi v a'/\K (a'.put oi.dst v) w') a w:=by
 obtain⟨h1,h2,h3⟩:=Oper.apart_spec hap;have keep:∀(a:Act),Gives P ops S oi v a->∀u,Gives P ops S oi v (a.put oj.dst u):=fun a hy u=>
  hy.of_same (execOp_put oi hsi a oj.dst u h3) (wanted_put oi a oj.dst u h3)
 have keepD:∀d,Gives P ops S oi v {a with defers:=d::a.defers}:=fun d=>hy.of_same rfl rfl;unfold wpOp at*;simp only[hj]at*;rw[wanted_put oj a oi.dst v h1]at h;split
 ·rename_i hw;simp only[hw,if_true]at h;rcases h with h| ⟨hasks,hlets⟩;case inr=>exact .inr ⟨by unfold Oper.asks at*;rw[execOp_put oj hsj a oi.dst v h1]at hasks;exact hasks,hlets⟩
  refine .inl ?_;unfold Oper.wp at*;rw[execOp_put oj hsj a oi.dst v h1]at h;generalize (execOp a.eval oj).run P w=r at*;cases r with
  |ok n w'=>
   cases n<;>simp only[Oper.upon]at h⊢;case value u=>exact⟨keep a hy u,by rw[<-Act.put_comm a v u h2];exact h⟩
   case skip=>exact⟨keep a hy _,by rw[<-Act.put_comm a v undef h2];exact h⟩
   case defer d=>refine⟨keep _ (keepD d) _,?_⟩;rw[<-Act.put_comm _ v undef h2,<-Act.put_defers];exact h
   case enter f args=>
    refine Calls.mono h fun e w'' he=>?_
    cases e with
    |returned u=>exact⟨keep a hy u,by rw[<-Act.put_comm a v u h2];exact he⟩
    |panicked c=>exact hQ _ _ _ he
    |outgrown=>exact he
   case row row args=>exact Rows.mono h fun u w'' he=>⟨keep a hy u,by rw[<-Act.put_comm a v u h2];exact he⟩
  |halt x w'=>cases x<;>simp only[Oper.upon]at h⊢;case panic u=>exact hQ _ _ _ h
 rename_i hw;simp only[hw]at h;exact⟨keep a hy _,by rw[<-Act.put_comm a v undef h2];exact h⟩
def kX(ops:Array Oper)(E:Nat->Bool)(listed:Array Bool):Bool:=(List.range ops.size).any fun j=>E j&&listed.getD j false
theorem Nl{listed:Array Bool}{i:Nat}(h:E i=false):kX ops E (listed.setIfInBounds i true)=kX ops E listed:=by
 unfold kX;congr 1;funext j;by_cases e:j=i;·subst e;rw[h];simp
 rw[getD_set_ne false (Ne.symm e)]
theorem KT{listed:Array Bool}{i:Nat}(h:kX ops E (listed.setIfInBounds i true)=false):kX ops E listed=false:=by unfold kX at*;rw[List.any_eq_false]at*;intro j hj hc;refine h j hj ?_;simp only[Bool.and_eq_true]at hc⊢;exact⟨hc.1,getD_set_true hc.2⟩
def iT(P:Program)(md:Region.Mode)(ops:Array Oper)(Q:Exit->Act->World->Prop)(S:World->Prop)(E:Nat->Bool):Nat->Array Bool->Act->World->Prop
 |0,listed,a,w=>Region.ready md ops listed=[]/\Q .normal a w
 |fuel+1,listed,a,w=>
  (Region.ready md ops listed=[]->Q .normal a w)/\
  ∀i∈Region.ready md ops listed,wpOp P ops Q i (fun a' w'=>(kX ops E (listed.setIfInBounds i true)=false->S w')/\iT P md ops Q S E fuel (listed.setIfInBounds i true) a' w') a w
theorem Np:∀(fuel:Nat) (listed:Array Bool) (a:Act) (w:World),iT P md ops Q S E fuel listed a w->wpAny P md ops Q fuel listed a w
 |0,_,_,_,h=>h
 |fuel+1,_,_,_,h=>⟨h.1,fun i hi=>wpOp_mono (fun a' w' h'=>Np fuel _ a' w' h'.2) (h.2 i hi)⟩
def Bz(ops:Array Oper)(md:Region.Mode)(E:Nat->Bool)(i:Nat):Bool:=
 (List.range ops.size).all fun j=> !E j||((ops[j]?).map fun o=>o.after.any fun e=>Region.binds md e&&e.on==i).getD true
theorem GR{i:Nat}(h:Bz ops md E i=true):∀j oj,ops[j]? =some oj->E j=true->∃e∈oj.after,Region.binds md e=true/\e.on=i:=by intro j oj hj hE;unfold Bz at h;rw[List.all_eq_true]at h;have:=h j (by rw[yI];exact(yA.1 hj).1);rw[hE,hj]at this;simp only[Bool.not_true,Bool.false_or,Option.map_some,Option.getD_some,Array.any_eq_true]at this;obtain⟨k,hk,h2⟩:=this;simp only[Bool.and_eq_true,beq_iff_eq]at h2;exact⟨_,Array.getElem_mem hk,h2.1,h2.2⟩
theorem xX{SS:World->Prop}{i:Nat}{oi:Oper}{v:Value}(hi:ops[i]? =some oi)(hsel:∀(j:Nat) (o:Oper) cs b,ops[j]? =some o->o.op≠ .select cs b)(hQ:∀c a w,Q (.panic c) (a.put oi.dst v) w->Q (.panic c) a w)(hEi:E i=false)(hc:(∀w,SS w)\/((∀w,S w->SS w)/\∀j oj,ops[j]? =some oj->E j=true->∃e∈oj.after,Region.binds md e=true/\e.on=i)):∀(fuel:Nat) (listed:Array Bool) (a:Act) (w:World),(∀j oj,ops[j]? =some oj->j≠i->listed.getD j true=false->(∀e∈oj.after,Region.binds md e=true->e.on≠i)->oi.apart ops oj=true)->i∈Region.ready md ops listed->Gives P ops SS oi v a->SS w->(kX ops E listed=false->S w)->((∀w,SS w)\/kX ops E listed=false)->iT P md ops Q S E fuel (listed.setIfInBounds i true) (a.put oi.dst v) w->iT P md ops Q S E (fuel+1) listed a w:=by
 intro fuel;induction fuel with
 |zero=>
  intro listed a w _ hr hy hS hS2 _ H;refine⟨fun h=>(by rw[h]at hr;cases hr),fun j hj=>?_⟩;by_cases hji:j=i;·subst hji;exact hy.wpOp hi hS ⟨fun h=>hS2 (KT h),H⟩
  have:=ready_mono hj hji;rw[H.1]at this;cases this
 |succ fuel ih=>
  intro listed a w hfree hr hy hS hS2 hD H;refine⟨fun h=>(by rw[h]at hr;cases hr),fun j hj=>?_⟩;by_cases hji:j=i;·subst hji;exact hy.wpOp hi hS ⟨fun h=>hS2 (KT h),H⟩
  have h1:=H.2 j (ready_mono hj hji);obtain⟨hjun,oj,hoj,hall⟩:=mem_ready.1 hj;have hnot:∀e∈oj.after,Region.binds md e=true->e.on≠i:=fun e he hb heq=>by
   have h1:=hall e he hb;have h0:=(mem_ready.1 hr).1;rw[heq]at h1;rcases yK i listed.size with h'|h';·simp[h']at h0 h1;rw[h0]at h1;cases h1
   simp[Array.getElem?_eq_none h']at h1
  have h2:=aaV hoj (hfree j oj hoj hji hjun hnot) (fun cs b=>hsel i oi cs b hi) (fun cs b=>hsel j oj cs b hoj) hQ hy h1;have hfree':∀k ok,ops[k]? =some ok->k≠i->(listed.setIfInBounds j true).getD k true=false->
    (∀e∈ok.after,Region.binds md e=true->e.on≠i)->oi.apart ops ok=true:=fun k ok hk hki hun hno=>by
   refine hfree k ok hk hki ?_ hno
   by_cases hjk:j=k
   ·subst hjk;exact hjun
   ·rw[getD_set_ne true hjk]at hun;exact hun
  refine wpOp_mono (fun a' w' h3=>?_) h2;have hS':kX ops E (listed.setIfInBounds j true)=false->S w':=by have h4:=h3.2.1;rw[Array.setIfInBounds_comm _ _ (Ne.symm hji),Nl hEi]at h4;exact h4
  have hw':SS w'/\((∀w,SS w)\/kX ops E (listed.setIfInBounds j true)=false):=by
   rcases hc with h| ⟨hSS,hw⟩;·exact⟨h w',.inl h⟩
   rcases hD with h|hD;·exact⟨h w',.inl h⟩
   cases hEj:E j
   ·have h4:kX ops E (listed.setIfInBounds j true)=false:=by rw[Nl hEj];exact hD
    exact⟨hSS w' (hS' h4),.inr h4⟩
   obtain⟨e,he,hb,heq⟩:=hw j oj hoj hEj;exact absurd heq (hnot e he hb)
  refine⟨hS',ih (listed.setIfInBounds j true) a' w' hfree' (ready_mono hr (Ne.symm hji)) h3.1 hw'.1 hS' hw'.2 ?_⟩;rw[Array.setIfInBounds_comm _ _ hji];exact h3.2.2
theorem KU{i:Nat}{oi:Oper}{v:Value}{fuel:Nat}{listed:Array Bool}{a:Act}{w:World}(hi:ops[i]? =some oi)
  (hs:Region.noSelect ops=true) (hf:Region.free md ops listed i=true) (hr:(Region.ready md ops listed).contains i=true) (hEi:E i=false) (hE:Bz ops md E i=true) (hD:kX ops E listed=false)
  (hQ:∀c a w,Q (.panic c) (a.put oi.dst v) w->Q (.panic c) a w) (hS:S w) (hw:Region.wanted oi (yielded ops a.tmps)=true) (hy:∀w,S w->(execOp a.eval oi).run P w= .ok (.value v) w)
  (h:iT P md ops Q S E fuel (listed.setIfInBounds i true) (a.put oi.dst v) w):iT P md ops Q S E (fuel+1) listed a w:=
 xX (SS:=S) hi (Region.noSelect_spec hs) hQ hEi (.inr ⟨fun _ h=>h,GR hE⟩) fuel listed a w (Region.free_spec hi hf) (by simpa using hr) (.inl ⟨hw,fun w hS=>.inl (hy w hS)⟩) hS (fun _=>hS) (.inr hD) h
theorem xY{i:Nat}{oi:Oper}{v:Value}{fuel:Nat}{listed:Array Bool}{a:Act}{w:World}(hi:ops[i]? =some oi)
  (hs:Region.noSelect ops=true) (hf:Region.free md ops listed i=true) (hr:(Region.ready md ops listed).contains i=true) (hEi:E i=false) (hE:Bz ops md E i=true) (hD:kX ops E listed=false)
  (hQ:∀c a w,Q (.panic c) (a.put oi.dst v) w->Q (.panic c) a w) (hS:S w) (hw:Region.wanted oi (yielded ops a.tmps)=true) {f:FuncId} {args:Array Value} (hy:∀w,(execOp a.eval oi).run P w= .ok (.enter f args) w) (hcall:∀w,S w->Calls P f args w fun e w'=>e= .returned v/\w=w')
  (h:iT P md ops Q S E fuel (listed.setIfInBounds i true) (a.put oi.dst v) w):iT P md ops Q S E (fuel+1) listed a w:=
 xX (SS:=S) hi (Region.noSelect_spec hs) hQ hEi (.inr ⟨fun _ h=>h,GR hE⟩) fuel listed a w (Region.free_spec hi hf) (by simpa using hr) (.inl ⟨hw,fun w hS=>.inr ⟨f,args,hy w,hcall w hS⟩⟩) hS (fun _=>hS) (.inr hD) h
theorem Iu{i:Nat}{oi:Oper}{v:Value}{fuel:Nat}{listed:Array Bool}{a:Act}{w:World}(hi:ops[i]? =some oi)
  (hs:Region.noSelect ops=true) (hf:Region.free md ops listed i=true) (hr:(Region.ready md ops listed).contains i=true) (hEi:E i=false)
  (hQ:∀c a w,Q (.panic c) (a.put oi.dst v) w->Q (.panic c) a w) (hS:kX ops E listed=true\/S w) (hw:Region.wanted oi (yielded ops a.tmps)=true) (hy:∀w,(execOp a.eval oi).run P w= .ok (.value v) w)
  (h:iT P md ops Q S E fuel (listed.setIfInBounds i true) (a.put oi.dst v) w):iT P md ops Q S E (fuel+1) listed a w:=
 xX (SS:=fun _=>True) hi (Region.noSelect_spec hs) hQ hEi (.inl fun _=>trivial) fuel listed a w (Region.free_spec hi hf) (by simpa using hr) (.inl ⟨hw,fun w _=>.inl (hy w)⟩) trivial (fun e=>hS.elim (fun h=>by rw[h]at e;cases e) id) (.inl fun _=>trivial) h
theorem VJ{i:Nat}{oi:Oper}{fuel:Nat}{listed:Array Bool}{a:Act}{w:World}(hi:ops[i]? =some oi)
  (hs:Region.noSelect ops=true) (hf:Region.free md ops listed i=true) (hr:(Region.ready md ops listed).contains i=true) (hEi:E i=false)
  (hQ:∀c a w,Q (.panic c) (a.put oi.dst undef) w->Q (.panic c) a w) (hS:kX ops E listed=true\/S w) (hw:Region.wanted oi (yielded ops a.tmps)=false)
  (h:iT P md ops Q S E fuel (listed.setIfInBounds i true) (a.put oi.dst undef) w):iT P md ops Q S E (fuel+1) listed a w:=
 xX (SS:=fun _=>True) hi (Region.noSelect_spec hs) hQ hEi (.inl fun _=>trivial) fuel listed a w (Region.free_spec hi hf) (by simpa using hr) (.inr ⟨hw,rfl⟩) trivial (fun e=>hS.elim (fun h=>by rw[h]at e;cases e) id) (.inl fun _=>trivial) h
theorem tqW{i:Nat}{oi:Oper}{v:Value}{fuel:Nat}{listed:Array Bool}{a:Act}{w:World}(hi:ops[i]? =some oi)
  (hS:kX ops E listed=true\/S w) (hy:∀w,(execOp a.eval oi).run P w= .ok (.value v) w)
  (h:iT P md ops Q S E fuel (listed.setIfInBounds i true) (a.put oi.dst v) w)
  (hs:Region.noSelect ops=true:=by kernel_rfl) (hf:Region.free md ops listed i=true:=by kernel_rfl) (hr:(Region.ready md ops listed).contains i=true:=by kernel_rfl) (hEi:E i=false:=by exact rfl)
  (hQ:∀c a w,Q (.panic c) (a.put oi.dst v) w->Q (.panic c) a w:=by exact fun _ _ _ h=>h) (hw:Region.wanted oi (yielded ops a.tmps)=true:=by rfl):iT P md ops Q S E (fuel+1) listed a w:=
 Iu hi hs hf hr hEi hQ hS hw hy h
theorem tqK{i:Nat}{oi:Oper}{v:Value}{fuel:Nat}{listed:Array Bool}{a:Act}{w:World}(hi:ops[i]? =some oi)
  (hy:∀w,S w->(execOp a.eval oi).run P w= .ok (.value v) w)
  (h:iT P md ops Q S E fuel (listed.setIfInBounds i true) (a.put oi.dst v) w)
  (hs:Region.noSelect ops=true:=by kernel_rfl) (hf:Region.free md ops listed i=true:=by kernel_rfl) (hr:(Region.ready md ops listed).contains i=true:=by kernel_rfl) (hEi:E i=false:=by exact rfl) (hE:Bz ops md E i=true:=by kernel_rfl) (hD:kX ops E listed=false:=by kernel_rfl)
  (hQ:∀c a w,Q (.panic c) (a.put oi.dst v) w->Q (.panic c) a w:=by exact fun _ _ _ h=>h) (hS:S w:=by assumption) (hw:Region.wanted oi (yielded ops a.tmps)=true:=by rfl):iT P md ops Q S E (fuel+1) listed a w:=
 KU hi hs hf hr hEi hE hD hQ hS hw hy h
def bI(P:Program)(md:Region.Mode)(ops:Array Oper)(Q:Exit->Act->World->Prop)(S:World->Prop)(E:Nat->Bool)(fuel:Nat)(listed:Array Bool)(a:Act)(w:World)(rs:List Nat):Prop:=
 ∀i∈rs,wpOp P ops Q i (fun a' w'=>(kX ops E (listed.setIfInBounds i true)=false->S w')/\iT P md ops Q S E fuel (listed.setIfInBounds i true) a' w') a w
theorem dN{rs:List Nat}{fuel:Nat}{listed:Array Bool}{a:Act}{w:World}(hr:Region.ready md ops listed=rs)(hne:rs≠[])(h:bI P md ops Q S E fuel listed a w rs):iT P md ops Q S E (fuel+1) listed a w:=⟨fun h0=>absurd (hr▸h0) hne,hr▸h⟩
theorem bI.nil{fuel:Nat}{listed:Array Bool}{a:Act}{w:World}:bI P md ops Q S E fuel listed a w []:=fun _ h=>by cases h
theorem bI.cons{i:Nat}{o:Oper}{rs:List Nat}{fuel:Nat}{listed:Array Bool}{a:Act}{w:World}(ho:ops[i]? =some o)(h:∀K':Act->World->Prop,Shut (∀a w,S w->(S w->iT P md ops Q S E fuel (listed.setIfInBounds i true) a w)->K' a w)->if Region.wanted o (yielded ops a.tmps)=true then Oper.wp P o a w K' Q else K' (a.put o.dst undef) w)(hrs:bI P md ops Q S E fuel listed a w rs):bI P md ops Q S E fuel listed a w (i::rs):=by
 intro j hj;rcases qY.1 hj with rfl|hj;·exact wpOp_step ho (fun K' hK=>h K' (fun a w hS hW=>hK a w ⟨fun _=>hS,hW hS⟩))
 exact hrs j hj
theorem bI.late{i:Nat}{o:Oper}{rs:List Nat}{fuel:Nat}{listed:Array Bool}{a:Act}{w:World}(ho:ops[i]? =some o)(hE:kX ops E (listed.setIfInBounds i true)=true)(h:∀K':Act->World->Prop,Shut (∀a w,iT P md ops Q S E fuel (listed.setIfInBounds i true) a w->K' a w)->if Region.wanted o (yielded ops a.tmps)=true then Oper.wp P o a w K' Q else K' (a.put o.dst undef) w)(hrs:bI P md ops Q S E fuel listed a w rs):bI P md ops Q S E fuel listed a w (i::rs):=by
 intro j hj;rcases qY.1 hj with rfl|hj;·exact wpOp_step ho (fun K' hK=>h K' (fun a w hW=>hK a w ⟨fun e=>(by rw[hE]at e;cases e),hW⟩))
 exact hrs j hj
theorem bV{listed:Array Bool}{a:Act}{w:World}(hr:Region.ready md ops listed=[])(h:Q .normal a w):
  ∀fuel,iT P md ops Q S E fuel listed a w
 |0=>⟨hr,h⟩
 |_+1=>⟨fun _=>h,by rw[hr];simp⟩
theorem dn{id n:Nat}{a:Act}{w:World}{S:World->Prop}{E:Nat->Bool}(hm:P.follows .mixedOrders=true)(hn:ops.size=n)(hS:S w.drew)(h:S w.drew->iT P .any ops Q S E n (Array.replicate n false) a w.drew):(Code.region id ops true).wp P Q a w:=by refine wp_region_any hm ?_;rw[hn];exact Np _ _ _ _ (h hS)
end
end Go.Proofs.YtdmmebjjojimiaaGreatDoor
namespace Go.Proofs.YtdmmebjjojimiaaGreatDoor
open Go.RowKit
end Go.Proofs.YtdmmebjjojimiaaGreatDoor
