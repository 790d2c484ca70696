/- LkP1 LkP2 LkP3 LkP4, in one text.; What a recipe, and a request over it, must be: one plain predicate for package check and f -/
import Derived.Test.YtdmmebjjojimiaaGreatDoorG08
import Derived.Lib.SplitLaws
set_option maxRecDepth 100000
set_option maxHeartbeats 8000000
set_option linter.all false
namespace Go.Proofs.YtdmmebjjojimiaaGreatDoor.Lk
open Go.RowKit
open Vn (GZ xJ ku isLt gI wW)
abbrev By:=List UInt8
structure NB where
 name:By
 version:By
 sets:List (By×By)
 needs:List By
def pF(c:UInt8):Bool:=isLt c||ku c||decide (c.toNat=45)
def nameB(l:By):Bool:=decide (0<l.length)&&decide (l.length<=24)&&l.head?.any isLt&&l.all pF
def gW(l:By):Bool:=nameB l||GZ l&&decide (l.length<=3)
def wX:List By->Bool
 |a::b::r=>decide (a<b)&&wX (b::r)
 |_=>true
def kY(n:NB):Bool:=nameB n.name&&iV n.version&&decide (n.sets.length<=4)&&decide (n.needs.length<=24)&&n.sets.all (fun s=>nameB s.1&&gW s.2)&&(n.needs.all nameB&&wX n.needs)
def dL(G:List NB):Bool:=G.all kY&&wX (G.map NB.name)&&decide (G.length<=24)
def mO:By:=[108,111,99,107,32,49]
def sG:By:=[110,111,100,101,32]
def uZ:By:=[32,32,110,101,101,100,115,32]
def Df(s:By×By):By:=s.1++61::s.2
def rG(n:NB):By:=sG++n.name++32::n.version++n.sets.flatMap fun s=>32::Df s
def BL(s:By):By:=uZ++s
def tq(n:NB):List By:=rG n::n.needs.map BL
def sH(G:List NB):List By:=G.flatMap tq
def joinL(L:List By):By:=L.flatMap fun l=>l++[10]
def Aw(G:List NB):By:=joinL (mO::sH G)
def cutAt(c:UInt8):By->Option (By×By)
 | []=>none
 |b::r=>if b=c then some ([],r)else (cutAt c r).map fun p=>(b::p.1,p.2)
def iH:List By->Option (List (By×By))
 | []=>some []
 |w::r=>match cutAt 61 w with
  |none=>none
  |some p=>(iH r).map fun l=>p::l
def newNode(l:By):Option NB:=match dZ 32 l with
 |a::b::r=>(iH r).map fun s=>⟨a,b,s,[]⟩
 |_=>none
def kC(G:List NB)(line:By):Option (List NB):=
 if sG.isPrefixOf line=true then (newNode (line.drop 5)).map fun n=>G++[n]
 else if uZ.isPrefixOf line=true then (G.getLast?).map fun n=>G.dropLast++[{n with needs:=n.needs++[line.drop 8]}]
 else none
def iy(G:List NB)(line:By):Option (List NB):=(kC G line).filter dL
def goB:List By->Nat->List NB->Except Nat (List NB)
 | [],_,G=>.ok G
 | [l],i,G=>
  if 0<i/\l=[]then .ok G
  else if i=0 then (if l=mO then .error 2 else .error 1)
  else match iy G l with
   |none=>.error (i+1)
   |some _=>.error (i+2)
 |l::m::r,i,G=>
  if i=0 then (if l=mO then goB (m::r) 1 G else .error 1)
  else match iy G l with
   |none=>.error (i+1)
   |some G'=>goB (m::r) (i+1) G'
def eG(s:By):Except Nat (List NB):=goB (dZ 10 s) 0 []
theorem Ry:∀{L:List By},(∀l∈L,∀b∈l,b≠10)->dZ 10 (joinL L)=L++[[]]
 | [],_=>rfl
 |l::L,h=>by
  have ih:=Ry (L:=L) fun x hx=>h x (yE _ hx)
  have e:joinL (l::L)=l++10::joinL L:=by simp[joinL]
  rw[e,IG (h l qQ),ih];rfl
theorem Lc:∀(L:List By),DZ 10 (L++[[]])=joinL L
 | []=>rfl
 | [l]=>by simp[DZ,joinL]
 |l::m::r=>by
  have ih:=Lc (m::r)
  have e:joinL (l::m::r)=l++10::joinL (m::r):=by simp[joinL]
  rw[e,<-ih];rfl
theorem aiH{s:By}{L:List By}(h:dZ 10 s=L++[[]]):s=joinL L:=by rw[<-Lc,<-h,IK]
theorem NJ(c:UInt8)(a:By):∀(r:List By),DZ c (a::r)=a++r.flatMap fun x=>c::x
 | []=>by simp[DZ]
 |b::r=>by
  have ih:=NJ c b r
  show a++c::DZ c (b::r)=_
  rw[ih];simp
theorem V3{c:UInt8}:∀(r:List By) (a:By),(∀b∈a,b≠c)->(∀x∈r,∀b∈x,b≠c)->dZ c (a++r.flatMap fun x=>c::x)=a::r
 | [],a,ha,_=>by simp;exact F5 ha
 |x::r,a,ha,hr=>by
  have ih:=V3 r x (hr x qQ) fun y hy=>hr y (yE _ hy)
  have e:(a++(x::r).flatMap fun x=>c::x)=a++c::(x++r.flatMap fun x=>c::x):=zAP
  rw[e,IG ha,ih]
theorem Dh{c:UInt8}:∀{l:By} {p:By×By},cutAt c l=some p->l=p.1++c::p.2
 | [],p,h=>by cases h
 |b::r,p,h=>by
  unfold cutAt at h
  by_cases e:b=c
  ·rw[if_pos e]at h
   cases h
   simp[e]
  ·rw[if_neg e]at h
   cases hc:cutAt c r with
   |none=>rw[hc]at h;cases h
   |some q=>
    rw[hc]at h
    cases h
    simp[Dh hc]
theorem NK{c:UInt8}:∀{l r:By},(∀b∈l,b≠c)->cutAt c (l++c::r)=some (l,r)
 | [],r,_=>by simp[cutAt]
 |x::l,r,h=>by
  have ih:=NK (r:=r) fun b hb=>h b (yE _ hb)
  show cutAt c (x::(l++c::r))=_
  unfold cutAt
  rw[if_neg (h x qQ),ih];rfl
theorem ES:∀{r:List By} {s:List (By×By)},iH r=some s->r=s.map Df
 | [],s,h=>by cases h;rfl
 |w::r,s,h=>by
  unfold iH at h
  cases hc:cutAt 61 w with
  |none=>rw[hc]at h;cases h
  |some p=>
   rw[hc]at h
   cases hs:iH r with
   |none=>simp[hs]at h
   |some l=>
    simp only[hs,Option.map_some,qG]at h
    subst h
    rw[List.map_cons,<-ES hs,Df,<-Dh hc]
theorem Rz:∀{s:List (By×By)},(∀p∈s,∀b∈p.1,b≠61)->iH (s.map Df)=some s
 | [],_=>rfl
 |p::s,h=>by
  have ih:=Rz (s:=s) fun q hq=>h q (yE _ hq)
  rw[List.map_cons]
  unfold iH
  rw[Df,NK (h p qQ)]
  simp[ih]
theorem TY{c:UInt8}(h:pF c=true):c≠10/\c≠32/\c≠61:=by unfold pF isLt ku at h;simp only[Bool.or_eq_true,yP]at h;refine⟨?_,?_,?_⟩<;>rintro rfl<;>revert h<;>decide
theorem Az{l:By}(h:nameB l=true):∀b∈l,b≠10/\b≠32/\b≠61:=fun b hb=>by
 unfold nameB at h
 simp only[Bool.and_eq_true,List.all_eq_true]at h
 exact TY (h.2 b hb)
theorem Ua{l:By}(h:GZ l=true):∀b∈l,b≠10/\b≠32/\b≠61:=fun b hb=>by
 unfold GZ at h
 simp only[Bool.and_eq_true,List.all_eq_true]at h
 exact TY (by unfold pF;rw[h.1 b hb];simp)
theorem adx{l:By}(h:xJ l=true):∀b∈l,b≠10/\b≠32/\b≠61:=fun b hb=>by
 unfold xJ at h
 simp only[Bool.and_eq_true,List.all_eq_true]at h
 exact TY (by unfold pF;rw[h.1 b hb];simp)
theorem V4{l:By}(h:gW l=true):∀b∈l,b≠10/\b≠32:=fun b hb=>by
 unfold gW at h
 simp only[Bool.or_eq_true,Bool.and_eq_true]at h
 rcases h with h|h
 ·exact⟨(Az h b hb).1,(Az h b hb).2.1⟩
 ·exact⟨(Ua h.1 b hb).1,(Ua h.1 b hb).2.1⟩
theorem aa6{l:By}(h:gI l=true):∀b∈l,b≠10/\b≠32:=fun b hb=>by
 unfold gI wW at h
 simp only[Bool.or_eq_true,Bool.and_eq_true]at h
 rcases h with h|h
 ·exact⟨(adx h b hb).1,(adx h b hb).2.1⟩
 ·exact⟨(Ua h.1.1 b hb).1,(Ua h.1.1 b hb).2.1⟩
theorem RD{c:UInt8}:∀{L:List By} {b:UInt8},b∈DZ c L->b=c\/ ∃a∈L,b∈a
 | [],b,h=>by cases h
 | [a],b,h=>.inr ⟨a,qQ,h⟩
 |a::a'::r,b,h=>by
  have h':b∈a++c::DZ c (a'::r):=h
  rcases qW.1 h' with h|h
  ·exact .inr ⟨a,qQ,h⟩
  ·rcases qY.1 h with h|h
   ·exact .inl h
   ·rcases RD h with h| ⟨x,hx,h⟩
    ·exact .inl h
    ·exact .inr ⟨x,yE _ hx,h⟩
theorem ady{l:By}(h:iV l=true):∀b∈l,b≠10/\b≠32:=fun b hb=>by
 have hp:=BK h
 rw[<-IK 46 l]at hb
 rcases RD hb with rfl| ⟨a,ha,hba⟩
 ·decide
 ·exact aa6 (hp a ha) b hba
structure Fine (n:NB):Prop where
 name:nameB n.name=true
 ver:iV n.version=true
 s4:n.sets.length<=4
 n24:n.needs.length<=24
 sets:∀s∈n.sets,nameB s.1=true/\gW s.2=true
 needs:∀s∈n.needs,nameB s=true
 ris:wX n.needs=true
theorem F6{n:NB}:kY n=true↔Fine n:=by unfold kY;simp only[Bool.and_eq_true,yP,List.all_eq_true];exact⟨fun⟨⟨⟨⟨⟨a,b⟩,c⟩,d⟩,e⟩,f,g⟩=>⟨a,b,c,d,e,f,g⟩,fun⟨a,b,c,d,e,f,g⟩=>⟨⟨⟨⟨⟨a,b⟩,c⟩,d⟩,e⟩,f,g⟩⟩
theorem YA{G:List NB}:dL G=true↔(∀n∈G,Fine n)/\wX (G.map NB.name)=true/\G.length<=24:=by unfold dL;simp only[Bool.and_eq_true,yP,List.all_eq_true,F6];exact⟨fun⟨⟨a,b⟩,c⟩=>⟨a,b,c⟩,fun⟨a,b,c⟩=>⟨⟨a,b⟩,c⟩⟩
def lastB(l:List By)(x:By):Bool:=match l.getLast? with
 |none=>true
 |some a=>decide (a<x)
theorem zF:∀{l:List By} {x:By},wX (l++[x])=(wX l&&lastB l x)
 | [],x=>rfl
 | [a],x=>by simp[wX,lastB]
 |a::b::r,x=>by
  have ih:=zF (l:=b::r) (x:=x)
  have e:wX (a::b::r++[x])=(decide (a<b)&&wX (b::r++[x])):=rfl
  have e2:wX (a::b::r)=(decide (a<b)&&wX (b::r)):=rfl
  have e3:lastB (a::b::r) x=lastB (b::r) x:=by
   unfold lastB
   rw[show(a::b::r).getLast?=(b::r).getLast? by simp[List.getLast?_cons]]
  rw[e,ih,e2,e3,Bool.and_assoc]
theorem zH{G:List NB}{n:NB}:dL (G++[n])=(dL G&&kY n&&lastB (G.map NB.name) n.name&&decide (G.length<24)):=by
 unfold dL;rw[List.all_append,List.map_append,List.map_cons,List.map_nil,zF];have e2:decide ((G++[n]).length<=24)=(decide (G.length<=24)&&decide (G.length<24)):=by rw[qK,List.length_singleton,<-Bool.decide_and];exact decide_eq_decide.2 zAA
 rw[e2];have e3:[n].all kY=kY n:=zAP;rw[e3];generalize lastB (G.map NB.name) n.name=m;generalize G.all kY=p1;generalize wX (G.map NB.name)=p2;generalize decide (G.length<=24)=p3;generalize decide (G.length<24)=p4;generalize kY n=p5;cases p1<;>cases p2<;>cases p3<;>cases p4<;>cases p5<;>cases m<;>rfl
end Go.Proofs.YtdmmebjjojimiaaGreatDoor.Lk
namespace Go.Proofs.YtdmmebjjojimiaaGreatDoor.Lk
open Go.RowKit
open Vn (GZ xJ ku isLt gI wW)
theorem NM{α:Type}{G:List α}{n:α}(h:G.getLast?=some n):G=G.dropLast++[n]:=by obtain⟨ys,rfl⟩:=List.getLast?_eq_some_iff.1 h;rw[List.dropLast_concat]
theorem qh{G:List NB}(h:dL G=true):(∀n∈G,Fine n)/\wX (G.map NB.name)=true/\G.length<=24:=YA.1 h
theorem YB{G:List NB}{n:NB}(h:dL (G++[n])=true):dL G=true:=by rw[zH]at h;simp only[Bool.and_eq_true]at h;exact h.1.1.1
theorem NP{G:List NB}{n m:NB}(h:dL (G++[n])=true)(hm:kY m=true)(hn:m.name=n.name):dL (G++[m])=true:=by rw[zH]at h⊢;rw[hm,hn];simp only[Bool.and_eq_true]at h;simp[h.1.1.1,h.1.2,h.2]
theorem JY(G:List NB)(n:NB):sH (G++[n])=sH G++tq n:=by simp[sH]
theorem adz(l:By):sG.isPrefixOf (sG++l)=true:=by rw[List.isPrefixOf_iff_prefix];exact⟨l,rfl⟩
theorem adA(l:By):uZ.isPrefixOf (uZ++l)=true:=by rw[List.isPrefixOf_iff_prefix];exact⟨l,rfl⟩
theorem adB(l:By):sG.isPrefixOf (uZ++l)=false:=rfl
theorem Ub{p l:By}(h:p.isPrefixOf l=true):l=p++l.drop p.length:=by obtain⟨r,rfl⟩:=List.isPrefixOf_iff_prefix.1 h;simp
theorem Uc{l:By}{n:NB}(h:newNode l=some n):sG++l=rG n/\n.needs=[]:=by
 unfold newNode at h;split at h
 ·rename_i a b r hc;cases hs:iH r with
  |none=>rw[hs]at h;cases h
  |some s=>rw[hs]at h;cases h;refine⟨?_,rfl⟩;have e:=IK 32 l;rw[hc,NJ,ES hs]at e;rw[<-e];simp[rG,List.flatMap_map]
 cases h
theorem YC{n:NB}(h:Fine n)(hn:n.needs=[]):newNode (n.name++32::n.version++n.sets.flatMap fun s=>32::Df s)=some n:=by
 have e:(n.name++32::n.version++n.sets.flatMap fun s=>32::Df s)=n.name++(n.version::n.sets.map Df).flatMap fun x=>32::x:=by simp[List.flatMap_map]
 unfold newNode;rw[e,V3 _ _ (fun b hb=>(Az h.name b hb).2.1)];·simp only;rw[Rz fun p hp b hb=>(Az (h.sets p hp).1 b hb).2.2];obtain⟨a,b,c,d⟩:=n;cases hn;rfl
 intro x hx b hb;rcases qY.1 hx with rfl|hx;·exact(ady h.ver b hb).2
 obtain⟨s,hs,rfl⟩:=yD.1 hx;have hs':=h.sets s hs;rcases qW.1 hb with hb|hb;·exact(Az hs'.1 b hb).2.1
 rcases qY.1 hb with rfl|hb;·decide
 exact(V4 hs'.2 b hb).2
theorem step_some{G G':List NB}{l:By}(h:iy G l=some G'):dL G'=true/\sH G'=sH G++[l]:=by
 unfold iy at h;rw[Option.filter_eq_some_iff]at h;obtain⟨h,hg⟩:=h;refine⟨hg,?_⟩;unfold kC at h;split at h
 ·rename_i hp;cases hn:newNode (l.drop 5)with
  |none=>rw[hn]at h;cases h
  |some n=>
   rw[hn]at h;cases h;obtain⟨e1,e2⟩:=Uc hn;have e3:l=rG n:=by rw[<-e1];exact Ub hp
   rw[JY,tq,e2,<-e3];rfl
 split at h
 ·rename_i hp;cases hn:G.getLast? with
  |none=>rw[hn]at h;cases h
  |some n=>
   rw[hn]at h;cases h;have e1:G=G.dropLast++[n]:=NM hn;have e2:l=BL (l.drop 8):=Ub hp;rw[JY];conv=>rhs;rw[e1,JY]
   rw[yW];congr 1;simp only[tq,List.map_append,List.map_cons,List.map_nil,<-e2];rfl
 cases h
theorem aa7{G:List NB}{n:NB}(h:dL (G++[n])=true)(hn:n.needs=[]):iy G (rG n)=some (G++[n]):=by
 have hf:Fine n:=(qh h).1 n zAP;have e:rG n=sG++(n.name++32::n.version++n.sets.flatMap fun s=>32::Df s):=by simp[rG]
 unfold iy kC;rw[e,if_pos (adz _)];have e2:(sG++(n.name++32::n.version++n.sets.flatMap fun s=>32::Df s)).drop 5=n.name++32::n.version++n.sets.flatMap fun s=>32::Df s:=List.drop_left' rfl;rw[e2,YC hf hn,Option.map_some,Option.filter_some,if_pos h]
theorem aa8{G:List NB}{n:NB}{x:By}(h:dL (G++[{n with needs:=n.needs++[x]}])=true):iy (G++[n]) (BL x)=some (G++[{n with needs:=n.needs++[x]}]):=by unfold iy kC BL;rw[adB,if_neg zAP,if_pos (adA _)];have e2:(uZ++x).drop 8=x:=List.drop_left' rfl;rw[e2,List.getLast?_concat,Option.map_some,List.dropLast_concat,Option.filter_some,if_pos h]
theorem NQ{l:List By}:∀{m:List By},wX (l++m)=true->wX l=true:=by
 induction l with
 |nil=>intro _ _;rfl
 |cons a r ih=>
  intro m h;cases r with
  |nil=>rfl
  |cons b r=>have e:wX (a::b::r++m)=(decide (a<b)&&wX (b::r++m)):=rfl;rw[e,Bool.and_eq_true]at h;show(decide (a<b)&&wX (b::r))=true;rw[h.1,ih h.2];rfl
theorem RF{n:NB}{a b:List By}(h:kY {n with needs:=a++b}=true):kY {n with needs:=a}=true:=by rw[F6]at h⊢;exact⟨h.name,h.ver,h.s4,by have:=h.n24;simp at this;show a.length<=24;omega,h.sets,fun s hs=>h.needs s (List.mem_append_left _ hs),NQ h.ris⟩
def GH(G:List NB)(L:List By):Option (List NB):=L.foldlM iy G
theorem Ud(G:List NB):GH G []=some G:=rfl
theorem ET(G:List NB)(l:By)(L:List By):GH G (l::L)=(iy G l).bind fun G'=>GH G' L:=rfl
theorem YD(G:List NB)(L M:List By):GH G (L++M)=(GH G L).bind fun G'=>GH G' M:=by unfold GH;rw[List.foldlM_append];rfl
theorem RG{G:List NB}{n:NB}:∀(r:List By) (a:List By),dL (G++[{n with needs:=a++r}])=true->GH (G++[{n with needs:=a}]) (r.map BL)=some (G++[{n with needs:=a++r}])
 | [],a,_=>by simp[Ud]
 |x::r,a,h=>by
  have e:a++x::r=(a++[x])++r:=zAP
  rw[e]at h⊢
  have hg:dL (G++[{n with needs:=a++[x]}])=true:=NP h (RF (n:=n) (b:=r) (F6.2 ((qh h).1 {n with needs:=(a++[x])++r} zAP))) rfl
  have hs:=aa8 (G:=G) (n:={n with needs:=a}) (x:=x) hg
  rw[List.map_cons,ET,hs,Option.bind_some]
  exact RG r (a++[x]) h
theorem adC{G:List NB}{n:NB}(h:dL (G++[n])=true):GH G (tq n)=some (G++[n]):=by obtain⟨a,b,c,d⟩:=n;have hg:dL (G++[⟨a,b,c,[]⟩])=true:=NP h (RF (n:=⟨a,b,c,d⟩) (a:=[]) (b:=d) (F6.2 ((qh h).1 _ zAP))) rfl;have h1:=aa7 hg rfl;have h2:=RG (G:=G) (n:=⟨a,b,c,d⟩) d [] h;unfold tq;rw[ET];have e:rG ⟨a,b,c,d⟩=rG ⟨a,b,c,[]⟩:=rfl;rw[e,h1,Option.bind_some];exact h2
theorem V5:∀(r G:List NB),dL (G++r)=true->GH G (sH r)=some (G++r)
 | [],G,_=>by simp[sH,Ud]
 |n::r,G,h=>by
  have e:G++n::r=(G++[n])++r:=zAP
  rw[e]at h⊢
  have hp:∀(r H:List NB),dL (H++r)=true->dL H=true:=by
   intro r
   induction r with
   |nil=>intro H h;simpa using h
   |cons m r ih=>
    intro H h
    have e:H++m::r=(H++[m])++r:=zAP
    rw[e]at h
    exact YB (ih _ h)
  have e2:sH (n::r)=tq n++sH r:=by simp[sH]
  rw[e2,YD,adC (hp r _ h),Option.bind_some]
  exact V5 r _ h
theorem aa9:dL []=true:=rfl
theorem V6:∀{L:List By} {G G':List NB},dL G=true->GH G L=some G'->dL G'=true/\sH G'=sH G++L
 | [],G,G',hg,h=>by
  cases h
  exact⟨hg,by simp⟩
 |l::L,G,G',hg,h=>by
  rw[ET]at h
  cases hs:iy G l with
  |none=>rw[hs]at h;cases h
  |some G1=>
   rw[hs,Option.bind_some]at h
   obtain⟨h1,h2⟩:=step_some hs
   obtain⟨h3,h4⟩:=V6 h1 h
   exact⟨h3,by rw[h4,h2];simp⟩
theorem agE{G:List NB}(h:dL G=true):∀l∈mO::sH G,∀b∈l,b≠10:=by
 intro l hl b hb;rcases qY.1 hl with rfl|hl;·rintro rfl;exact absurd hb zAH
 obtain⟨n,hn,hl⟩:=List.mem_flatMap.1 hl;have hf:=(qh h).1 n hn;rcases qY.1 hl with rfl|hl
 ·simp only[rG,qW,qY,List.mem_flatMap]at hb;rcases hb with((hb|hb)|hb|hb)| ⟨s,hs,hb⟩;·rintro rfl;exact absurd hb zAH
  ·exact(Az hf.name b hb).1
  ·subst hb;decide
  ·exact(ady hf.ver b hb).1
  have hs':=hf.sets s hs;simp only[Df,qW,qY]at hb;rcases hb with hb|hb|hb|hb;·subst hb;decide
  ·exact(Az hs'.1 b hb).1
  ·subst hb;decide
  exact(V4 hs'.2 b hb).1
 obtain⟨s,hs,rfl⟩:=yD.1 hl;simp only[BL,qW]at hb;rcases hb with hb|hb;·rintro rfl;exact absurd hb zAH
 exact(Az (hf.needs s hs) b hb).1
theorem adD:∀(L:List By) (i:Nat) (G:List NB),0<i->(goB (L++[[]]) i G=match GH G L with|some G'=>.ok G'|none=>goB (L++[[]]) i G)
 | [],i,G,hi=>by simp[goB,Ud,hi]
 |l::L,i,G,hi=>by
  rw[ET]
  have hne:∃m r,L++[[]]=m::r:=by cases L with
   |nil=>exact⟨_,_,rfl⟩
   |cons a t=>exact⟨_,_,rfl⟩
  obtain⟨m,r,hm⟩:=hne
  have e:goB (l::L++[[]]) i G=match iy G l with|none=>.error (i+1)|some G'=>goB (L++[[]]) (i+1) G':=by
   show goB (l::(L++[[]])) i G=_
   rw[hm]
   show(if i=0 then _ else _)=_
   rw[if_neg zAA]
   try (cases iy G l<;>rfl)
  cases hs:iy G l with
  |none=>rfl
  |some G1=>
   rw[hs]at e
   simp only at e
   rw[Option.bind_some]
   cases hr:GH G1 L with
   |none=>rfl
   |some G2=>
    rw[e,adD L (i+1) G1 zAA,hr]
theorem adE{L:List By}{G:List NB}(h:GH [] L=some G):goB (mO::L++[[]]) 0 []= .ok G:=by
 have hne:∃m r,L++[[]]=m::r:=by cases L with
  |nil=>exact⟨_,_,rfl⟩
  |cons a t=>exact⟨_,_,rfl⟩
 obtain⟨m,r,hm⟩:=hne;have e:goB (mO::L++[[]]) 0 []=goB (L++[[]]) 1 []:=by show goB (mO::(L++[[]])) 0 []=_;rw[hm];rfl
 rw[e,adD L 1 [] zAA,h]
theorem V7{L:List By}{G:List NB}(h:GH [] L=some G)(hne:∀l∈L,∀b∈l,b≠10):eG (joinL (mO::L))= .ok G:=by
 unfold eG;rw[Ry];·exact adE h
 intro l hl b hb;rcases qY.1 hl with rfl|hl;·rintro rfl;exact absurd hb zAH
 exact hne l hl b hb
theorem Di{G:List NB}(h:dL G=true):eG (Aw G)= .ok G:=V7 (V5 G [] h) fun l hl=>agE h l (yE _ hl)
theorem go_ok:∀{L:List By} {i:Nat} {G G':List NB},0<i->L≠[]->goB L i G= .ok G'->∃M,L=M++[[]]/\GH G M=some G'
 | [],i,G,G',hi,hne,h=>absurd rfl hne
 | [l],i,G,G',hi,hne,h=>by
  unfold goB at h
  split at h
  ·rename_i c
   cases h
   exact⟨[],by rw[c.2];rfl,rfl⟩
  ·rw[if_neg zAA]at h
   split at h<;>cases h
 |l::m::r,i,G,G',hi,hne,h=>by
  unfold goB at h
  rw[if_neg zAA]at h
  cases hs:iy G l with
  |none=>rw[hs]at h;cases h
  |some G1=>
   rw[hs]at h
   obtain⟨M,e,hr⟩:=go_ok zAA zCt h
   exact⟨l::M,by rw[e];rfl,by rw[ET,hs,Option.bind_some,hr]⟩
theorem NR{s:By}{G:List NB}(h:eG s= .ok G):dL G=true/\Aw G=s:=by
 unfold eG at h;cases hc:dZ 10 s with
 |nil=>exact absurd hc (Au 10 s)
 |cons l L=>
  rw[hc]at h;cases L with
  |nil=>unfold goB at h;rw[if_neg zAP,if_pos rfl]at h;split at h<;>cases h
  |cons m r=>
   unfold goB at h;rw[if_pos rfl]at h;split at h
   ·rename_i hl;subst hl;obtain⟨M,e,hr⟩:=go_ok zAA zCt h;obtain⟨g1,g2⟩:=V6 aa9 hr;have g3:sH G=M:=by rw[g2];rfl
    refine⟨g1,?_⟩;unfold Aw;rw[g3];have:dZ 10 s=(mO::M)++[[]]:=by rw[hc,e];rfl
    exact(aiH this).symm
   cases h
end Go.Proofs.YtdmmebjjojimiaaGreatDoor.Lk
namespace Go.Proofs.YtdmmebjjojimiaaGreatDoor.Lk
open Go.RowKit
open Vn (GZ xJ ku isLt gI wW)
def AA(p:By×By):Bool:=nameB p.1&&gW p.2
def nG:List By->Option (List (By×By))
 | []=>some []
 |w::r=>match cutAt 61 w with
  |none=>none
  |some p=>if AA p=true then (nG r).map fun l=>p::l else none
def Dj(G:List NB)(a:By):Bool:=lastB (G.map NB.name) a
def vg(n:NB)(x:By):Bool:=lastB n.needs x
def kG(G:List NB)(l:By):Option (List NB):=match dZ 32 l with
 |a::b::r=>if r.length<=4/\G.length≠24/\nameB a=true/\iV b=true/\Dj G a=true then (nG r).map fun s=>G++[⟨a,b,s,[]⟩]else none
 |_=>none
def xM(G:List NB)(x:By):Option (List NB):=match G.getLast? with
 |none=>none
 |some n=>if nameB x=true/\n.needs.length≠24/\vg n x=true then some (G.dropLast++[{n with needs:=n.needs++[x]}])else none
def Em(G:List NB)(line:By):Option (List NB):=
 if sG.isPrefixOf line=true then kG G (line.drop 5)
 else if uZ.isPrefixOf line=true then xM G (line.drop 8)
 else none
theorem V8:∀(r:List By),nG r=(iH r).filter fun s=>s.all AA
 | []=>rfl
 |w::r=>by
  have ih:=V8 r
  unfold nG iH
  cases cutAt 61 w with
  |none=>rfl
  |some p=>
   simp only
   cases hs:iH r with
   |none=>rw[ih,hs];by_cases h:AA p=true<;>simp[h]
   |some s=>
    rw[ih,hs]
    by_cases h:AA p=true
    ·by_cases h2:s.all AA=true<;>simp[h,h2,Option.filter_some]
    ·simp[h,Option.filter_some]
theorem YE{r:List By}{s:List (By×By)}(h:iH r=some s):s.length=r.length:=by rw[ES h];simp
theorem adF(a b:By)(s:List (By×By)):kY ⟨a,b,s,[]⟩=(nameB a&&iV b&&decide (s.length<=4)&&s.all AA):=by unfold kY;have e:(s.all fun s=>nameB s.1&&gW s.2)=s.all AA:=rfl;simp[e,wX]
theorem abb{G:List NB}(h:dL G=true)(l:By):kG G l=((newNode l).map fun n=>G++[n]).filter dL:=by
 have hG:=(qh h).2.2;unfold kG newNode;cases dZ 32 l with
 |nil=>rfl
 |cons a r=>cases r with
  |nil=>rfl
  |cons b r=>
   simp only
   rw[V8]
   cases hs:iH r with
   |none=>simp
   |some s=>
    have hl:=YE hs
    simp only[Option.map_some,Option.filter_some,zH,adF,h,yR,hl]
    rw[show lastB (G.map NB.name) a=Dj G a from rfl]
    by_cases c1:r.length<=4/\G.length≠24/\nameB a=true/\iV b=true/\Dj G a=true
    ·rw[if_pos c1]
     obtain⟨c1,c2,c3,c4,c5⟩:=c1
     have:G.length<24:=zAA
     by_cases c6:s.all AA=true
     ·simp[c1,c3,c4,c5,c6,this]
     ·rw[Bool.not_eq_true]at c6
      simp[c6]
    ·rw[if_neg c1,if_neg]
     intro c
     simp only[Bool.and_eq_true,yP]at c
     exact c1 ⟨c.1.1.1.2,by omega,c.1.1.1.1.1,c.1.1.1.1.2,c.1.2⟩
theorem abd{G:List NB}(h:dL G=true)(x:By):xM G x=((G.getLast?).map fun n=>G.dropLast++[{n with needs:=n.needs++[x]}]).filter dL:=by
 unfold xM;cases hn:G.getLast? with
 |none=>rfl
 |some n=>
  have e1:G=G.dropLast++[n]:=NM hn;rw[e1]at h;simp only[Option.map_some,Option.filter_some];have hs:=h;rw[zH]at hs;simp only[Bool.and_eq_true]at hs;have e3:kY {n with needs:=n.needs++[x]}=(nameB x&&decide (n.needs.length≠24)&&vg n x):=by
   have hn':kY n=true:=hs.1.1.2;unfold kY at hn'⊢;simp only[Bool.and_eq_true]at hn';obtain⟨⟨⟨⟨⟨a1,a2⟩,a3⟩,a4⟩,a5⟩,a6,a7⟩:=hn';have e4:decide ((n.needs++[x]).length<=24)=decide (n.needs.length≠24):=decide_eq_decide.2 (by have:=of_decide_eq_true a4;simp;omega);have e6:(n.needs++[x]).all nameB=nameB x:=by rw[List.all_append,a6];simp
   rw[e4,e6,zF,a1,a2,a3,a5,a7];unfold vg;generalize nameB x=p1;generalize decide (n.needs.length≠24)=p2;generalize lastB n.needs x=p3;cases p1<;>cases p2<;>cases p3<;>rfl
  have e2:dL (G.dropLast++[{n with needs:=n.needs++[x]}])=(nameB x&&decide (n.needs.length≠24)&&vg n x):=by rw[zH,e3,hs.1.1.1,hs.2];have hl:lastB (G.dropLast.map NB.name) n.name=true:=hs.1.2;show(true&&_&&lastB (G.dropLast.map NB.name) n.name&&true)=_;rw[hl];simp
  rw[e2];by_cases c:nameB x=true/\n.needs.length≠24/\vg n x=true;·rw[if_pos c,if_pos (by simp[c.1,c.2.1,c.2.2])]
  rw[if_neg c,if_neg];intro h;simp only[Bool.and_eq_true,yP]at h;exact c ⟨h.1.1,h.1.2,h.2⟩
theorem one_step{G:List NB}(h:dL G=true)(l:By):Em G l=iy G l:=by
 unfold Em iy kC;split;·exact abb h _
 split;·exact abd h _
 rfl
end Go.Proofs.YtdmmebjjojimiaaGreatDoor.Lk
namespace Go.Proofs.YtdmmebjjojimiaaGreatDoor.Lk
open Go.RowKit
end Go.Proofs.YtdmmebjjojimiaaGreatDoor.Lk
namespace Go.Proofs.YtdmmebjjojimiaaGreatDoor
open Go.RowKit
def ak7(p:iI)(s:dM):Bool:=p.vars.any fun v=>decide (v.name=s.name)&&iC v.values s.value
def YF(p:iI)(l:List dM):Bool:=l.all (ak7 p)
def adG(l:List rE):Bool:=match l with
 | [s]=>decide (s.lo=ByteArray.empty)&&decide (s.hi=ByteArray.empty)
 |_=>false
def aQ.ak8(x:aQ)(s:Str):Bool:=decide (x.find s<0)&&decide (0<(x.oH s).length)
def aQ.YG(x:aQ)(s:iW):Bool:=
 if 0<=x.find s.name then YF (x.pack (x.find s.name).toNat) s.sets
 else decide (0<(x.oH s.name).length)&&adG s.spans&&s.sets.isEmpty
def eu:List Str->Bool
 | []=>true
 |a::r=> !iC r a&&eu r
def qj(v:jm):Bool:=Lk.nameB v.name.toList&&decide (0<v.values.length)&&decide (v.values.length<=4)&&v.values.all (fun s=>Lk.gW s.toList)&&eu v.values
def ql(l:List jm):Bool:=l.all qj&&decide (l.length<=4)&&eu (l.map jm.name)
def aQ.ou(x:aQ)(i:Nat):Bool:=
 let p:=x.pack i
 decide (x.find p.name=i)&&decide ((x.oH p.name).length=0)&&decide (0<p.jc.length)
  &&(decide (p.jc.length<=10)&&decide (p.deps.length<=16)&&decide (p.cons.length<=8)&&decide (p.provides.length<=4)&&decide (p.files.length<=8))
  &&eu (p.jc.map wu.version)&&ql p.vars&&eu p.provides&&eu p.files
def aQ.ak9(x:aQ)(p:iI)(d:Aj):Bool:=x.YG d.on&&YF p d.cond.sets
def aQ.ala(x:aQ)(p:iI)(c:Iq):Bool:=YF p c.cond.sets&&(decide (c.with'.name=ByteArray.empty)||decide (0<=x.find c.with'.name)&&x.YG c.with')
def aQ.agF(x:aQ)(p:iI):Bool:=p.deps.all (x.ak9 p)&&p.cons.all (x.ala p)
def aQ.aiI(x:aQ)(i:Nat):Bool:=
 let f:=x.fV.getD i default
 x.ak8 f.virtual&& !((x.fV.take i).any fun g=>decide (g.virtual=f.virtual))&&eu f.names
  &&f.names.all fun n=>decide (0<=x.find n)&&iC (x.pack (x.find n).toNat).provides f.virtual
def aQ.ok(x:aQ):Bool:=decide (x.packs.length<=24)&&decide (x.fV.length<=8)&&(List.range x.packs.length).all x.ou&&x.packs.all x.agF&&(List.range x.fV.length).all x.aiI
def dD.ok(x:aQ)(q:dD):Bool:=decide (0<q.roots.length)&&decide (q.roots.length<=8)&&q.roots.all fun r=>x.YG r.spec
theorem wF:∀{l:List Str},eu l=true↔l.Nodup
 | []=>by simp[eu]
 |a::r=>by
  unfold eu
  rw[Bool.and_eq_true,wF,List.nodup_cons,Bool.not_eq_true',Bool.eq_false_iff,Ne,EH]
theorem Ld{l:List Str}{i:Nat}{a:Str}(ha:l[i]? =some a)(h:eu (l.take i)=true):eu (l.take (i+1))= !iC (l.take i) a:=by rw[Bool.eq_iff_iff,wF,List.take_add_one,ha];simp only[Option.toList_some,List.nodup_append,Bool.not_eq_true',Bool.eq_false_iff,Ne,EH];rw[wF]at h;simp[h];exact⟨fun h1 h2=>h1 a h2 rfl,fun h1 b hb e=>h1 (e▸hb)⟩
theorem NS{l:List Str}{i:Nat}(h:eu (l.take i)=false):eu l=false:=by rw[Bool.eq_false_iff,Ne,wF]at h⊢;exact fun hn=>h (List.Sublist.nodup (List.take_sublist _ _) hn)
theorem aQ.agG{x:aQ}{i:Nat}(hi:i<x.packs.length):0<=x.find (x.pack i).name/\x.find (x.pack i).name<=i:=by
 have hp:x.pack i=x.packs[i]:=by simp[aQ.pack,qC,qA hi]
 have hany:x.packs.any (fun p=>decide (p.name=(x.pack i).name))=true:=by rw[yU];exact⟨x.packs[i],qZ hi,by rw[hp];simp⟩
 unfold aQ.find iK;rw[if_pos hany];refine⟨by omega,?_⟩;have h:=List.not_of_lt_findIdx (p:=fun p=>decide (p.name=(x.pack i).name)) (xs:=x.packs) (i:=i);by_cases hc:i<x.packs.findIdx fun p=>decide (p.name=(x.pack i).name);·have:=h hc;simp[hp]at this
 omega
end Go.Proofs.YtdmmebjjojimiaaGreatDoor
namespace Go.Proofs.YtdmmebjjojimiaaGreatDoor.Lk
open Go.RowKit
open Vn (GZ xJ ku isLt gI wW)
theorem index_hit(c:UInt8)(l:By):Lib.index (c::l) [c]=0:=by unfold Lib.index;rw[if_pos zAP]
theorem NY{b c:UInt8}(h:b≠c)(l:By):Lib.index (b::l) [c]=if Lib.index l [c]== -1 then -1 else Lib.index l [c]+1:=by
 conv=>lhs;unfold Lib.index
 rw[if_neg (by simp[Ne.symm h])]
theorem RI(c:UInt8):∀l:By,Lib.splitK [c] 0 (Lib.count l [c]) l=dZ c l
 | []=>rfl
 |b::r=>by
  have ih:=RI c r
  rw[Lib.count_one]at ih⊢
  by_cases h:b=c
  ·subst h
   rw[List.count_cons_self]
   unfold Lib.splitK dZ
   rw[index_hit,if_neg zAH,if_pos rfl,<-ih]
   rfl
  ·rw[List.count_cons_of_ne zBy]
   unfold dZ
   rw[if_neg h]
   cases hk:r.count c with
   |zero=>
    rw[hk]at ih
    have e:dZ c r=[r]:=ih.symm
    rw[e];rfl
   |succ k=>
    rw[hk]at ih
    have hm:c∈r:=by rw[<-List.count_pos_iff];omega
    have hi:Lib.index r [c]≠ -1:=by
     intro e
     obtain⟨s,t,rfl⟩:=List.append_of_mem hm
     have:=Lib.index_spec (s++c::t) [c]
     rcases this with⟨_,h2⟩| ⟨i,h2,_⟩
     ·have:=h2 s.length zAP
      simp[Lib.occAt]at this
     ·omega
    have hge:=Lib.index_ge r [c]
    have hn:Lib.index (b::r) [c]=Lib.index r [c]+1:=by rw[NY h,if_neg (by simpa using hi)]
    unfold Lib.splitK at ih⊢
    rw[hn,if_neg (by simp;omega)]
    rw[if_neg (by simpa using hi)]at ih
    rw[<-ih]
    have e1:(Lib.index r [c]+1).toNat=(Lib.index r [c]).toNat+1:=zAA
    rw[e1]
    simp
theorem adP(c:UInt8):∀l:By,Lib.cut l [c]=match cutAt c l with|some p=>(p.1,p.2,true)|none=>(l,[],false)
 | []=>rfl
 |b::r=>by
  have ih:=adP c r
  have hge:=Lib.index_ge r [c]
  unfold Lib.cut at ih⊢
  unfold cutAt
  by_cases h:b=c
  ·subst h
   rw[index_hit,if_pos rfl]
   simp
  ·rw[NY h,if_neg h]
   by_cases hi:Lib.index r [c]= -1
   ·rw[hi]at ih⊢
    simp only[show¬(0:Int)<= -1 by decide,if_false]at ih
    cases hc:cutAt c r with
    |none=>simp
    |some p=>rw[hc]at ih;simp at ih
   ·rw[if_neg (show¬(Lib.index r [c]== -1)=true by simpa using hi),if_pos zAA]
    rw[if_pos zAA]at ih
    have e1:(Lib.index r [c]+1).toNat=(Lib.index r [c]).toNat+1:=zAA
    cases hc:cutAt c r with
    |none=>rw[hc]at ih;simp at ih
    |some p=>
     rw[hc]at ih
     simp only[Prod.mk.injEq]at ih
     rw[e1]
     simp only[Option.map_some,Prod.mk.injEq,List.take_succ_cons,ih.1,true_and,and_true]
     rw[<-ih.2.1]
     simp
end Go.Proofs.YtdmmebjjojimiaaGreatDoor.Lk
