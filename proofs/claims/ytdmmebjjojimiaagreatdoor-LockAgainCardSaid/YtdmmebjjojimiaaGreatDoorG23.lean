/- Graphs over a recipe, plain: what a node needs, ways as the document seeks them, roots: bo; The document's graphs, exact: pack, met. Printed by gen_gr4.py. -/
import Derived.Test.YtdmmebjjojimiaaGreatDoorG22
set_option maxRecDepth 100000
set_option maxHeartbeats 8000000
set_option linter.all false
namespace Go.Proofs.YtdmmebjjojimiaaGreatDoor
open Go.RowKit
theorem abU{a b:List UInt8}(h:a<=b)(hn:a≠b):a<b:=OD h hn
theorem agZ{l m:List (List UInt8)}(hl:l.Pairwise (· < ·))(hm:m.Pairwise (· < ·))(h:∀s,s∈l↔s∈m):l=m:=by
 have nd:∀{l:List (List UInt8)},l.Pairwise (· < ·)->l.Nodup:=fun h=>h.imp fun hab e=>by rw[e]at hab;exact List.lt_irrefl _ hab
 refine List.Perm.eq_of_pairwise (le:=(· <= ·)) (fun a b _ _ h1 h2=>List.le_antisymm h1 h2) (hl.imp fun h=>List.le_of_lt h) (hm.imp fun h=>List.le_of_lt h) ?_;exact(List.perm_ext_iff_of_nodup (nd hl) (nd hm)).2 h
theorem UZ{xs:List (List UInt8)}(hs:xs.Pairwise (· <= ·)):(Lib.compact xs).Pairwise (· < ·):=by
 unfold Lib.compact Lib.compactUpTo;rw[List.pairwise_map];have hr:(List.range xs.length).Pairwise (· < ·):=List.pairwise_lt_range;refine(hr.filter _).imp_of_mem fun{i j} hi hj hij=>?_;have h1:=yI.1 (List.mem_filter.1 hi).1;have h2:=yI.1 (List.mem_filter.1 hj).1;have hk:=(List.mem_filter.1 hj).2;rw[getElem!_pos xs.toArray i (by simpa using h1),getElem!_pos xs.toArray j zB0];show xs[i]<xs[j];obtain⟨k,rfl⟩:∃k,j=k+1:=⟨j-1,by omega⟩;have hne:xs[k+1]≠xs[k]'zAA:=fun e=>by have:=(AB xs (k+1) h2).2 ⟨k,rfl,by rw[qA h2,qA zAA,e]⟩;rw[hk]at this;cases this
 have h3:xs[i]<=xs[k]'zAA:=by
  rcases yK i k with h|h;·exact List.pairwise_iff_getElem.1 hs i k h1 zAA h
  obtain rfl:i=k:=by omega
  exact List.le_refl _
 have h4:xs[k]'zC8<xs[k+1]:=abU (List.pairwise_iff_getElem.1 hs k (k+1) zCj h2 zAA) (fun e=>hne e.symm);exact List.lt_of_le_of_lt h3 h4
theorem Lu{xs:List (List UInt8)}{s:List UInt8}:s∈Lib.compact xs↔s∈xs:=by
 refine⟨(IY xs).1 s,fun h=>?_⟩;obtain⟨i,hi,rfl⟩:=List.getElem_of_mem h;have key:∀i (hi:i<xs.length),xs[i]∈Lib.compact xs:=fun i=>by
  induction i with
  |zero=>
   intro hi
   unfold Lib.compact Lib.compactUpTo
   refine yD.2 ⟨0,List.mem_filter.2 ⟨yI.2 hi,by simp[Lib.keeps]⟩,?_⟩
   rw[getElem!_pos xs.toArray 0 (by simpa using hi)];rfl
  |succ k ih=>
   intro hi
   by_cases hk:Lib.keeps xs.toArray (k+1)=true
   ·unfold Lib.compact Lib.compactUpTo
    refine yD.2 ⟨k+1,List.mem_filter.2 ⟨yI.2 hi,hk⟩,?_⟩
    rw[getElem!_pos xs.toArray (k+1) (by simpa using hi)];rfl
   ·obtain⟨j,hj,e⟩:=(AB xs (k+1) hi).1 (by simpa using hk)
    obtain rfl:j=k:=by omega
    rw[qA hi,qA zAA]at e
    rw[Option.some.inj e]
    exact ih zAA
 exact key i hi
theorem ag0(l:List (List UInt8)):(l.mergeSort fun x y=>decide (x<=y)).Pairwise (· <= ·):=by
 have:=List.pairwise_mergeSort (le:=fun x y:List UInt8=>decide (x<=y)) (fun a b c h1 h2=>by simp only[yP]at*;exact List.le_trans h1 h2) (fun a b=>by
  simp only[Bool.or_eq_true,yP];exact List.le_total a b) l
 exact this.imp fun h=>by simpa using h
theorem Fq(l:List Str):(gX (oJ l)).map fZ=Lib.compact ((l.map fZ).mergeSort fun x y=>decide (x<=y)):=by
 unfold gX oJ;rw[List.map_map,List.map_map];have h1:∀m:List (List UInt8),m.map (fZ∘ofL)=m:=fun m=>by
  conv=>rhs;rw[<-List.map_id m]
  exact List.map_congr_left fun s _=>by simp[fZ,ofL]
 rw[h1,h1]
theorem LC{l m:List Str}(hm:(m.map fZ).Pairwise (· < ·))(h:∀s,s∈l↔s∈m):gX (oJ l)=m:=by
 have h1:(gX (oJ l)).map fZ=m.map fZ:=by
  rw[Fq];refine agZ (UZ (ag0 _)) hm fun s=>?_;rw[Lu,(List.mergeSort_perm _ _).mem_iff];constructor;·intro hs;obtain⟨t,ht,rfl⟩:=yD.1 hs;exact List.mem_map_of_mem ((h t).1 ht)
  intro hs;obtain⟨t,ht,rfl⟩:=yD.1 hs;exact List.mem_map_of_mem ((h t).2 ht)
 exact EX (fun _ _=>Hl) h1
theorem aQ.SC{x:aQ}{s:Str}(h:0<=x.find s):(x.pack (x.find s).toNat).name=s:=by
 unfold aQ.find iK at h⊢;split at h;·rename_i ha;rw[if_pos ha];rw[yU]at ha;obtain⟨n,hn,h2⟩:=ha;have hlt:=List.findIdx_lt_length_of_exists (p:=fun n:iI=>decide (n.name=s)) ⟨n,hn,h2⟩;have:=List.findIdx_getElem (p:=fun n:iI=>decide (n.name=s)) (xs:=x.packs) (w:=hlt);unfold aQ.pack;rw[yT,qC,qA hlt];exact of_decide_eq_true this
 omega
def wP(x:aQ)(n o:aC):Bool:=(bY x n).deps.any fun d=>jr n d.cond&&(intsOf (x.targets d.on.name)).contains (x.find o.name)
def DI(x:aQ)(g:List aC)(n:aC):List Str:=(g.filter (wP x n)).map aC.name
theorem vI{l:List Nat}{z:Int}:(intsOf l).contains z=true↔ ∃p∈l,z=(p:Int):=by
 unfold intsOf;rw[List.contains_iff_mem,yD];constructor;·rintro⟨p,hp,e⟩;exact⟨p,hp,e.symm⟩
 rintro⟨p,hp,e⟩;exact⟨p,hp,e.symm⟩
theorem Hq{g:List aC}{o:aC}:o∈g↔ ∃i,i<g.length/\nodeAt g i=o:=by
 unfold nodeAt;constructor;·intro h;obtain⟨i,hi,rfl⟩:=List.getElem_of_mem h;exact⟨i,hi,by rw[qC,qA hi];rfl⟩
 rintro⟨i,hi,rfl⟩;rw[qC,qA hi];exact qZ hi
theorem Named.pair{x:aQ}{g:List aC}(h:Named x g):g.Pairwise fun a b=>a.name.toList<b.name.toList:=by rw[List.pairwise_iff_getElem];intro i j hi hj hij;have:=h.lt hij hj;unfold nodeAt at this;rw[qC,qC,qA hi,qA hj]at this;exact this
theorem abV{x:aQ}{g:List aC}(hok:x.okB=true)(hN:Named x g)(n:aC):AL x g n=DI x g n:=by
 unfold AL;refine LC ?_ fun s=>?_;·unfold DI;rw[List.map_map,List.pairwise_map];exact(hN.pair.filter _).imp fun h=>by rw[ByteArray.toList_eq,ByteArray.toList_eq]at h;exact h
 unfold F8 DI;constructor;·intro h;obtain⟨sp,hsp,h⟩:=List.mem_flatMap.1 h;obtain⟨h1,h2⟩:=List.mem_filter.1 h;obtain⟨p,hp,rfl⟩:=yD.1 h1;have h2:=of_decide_eq_true h2;obtain⟨k,hk⟩:∃k:Nat,jG g (x.pack p).name=(k:Int):=⟨(jG g (x.pack p).name).toNat,by omega⟩;have h3:=Dz hk;have h4:=xk g (x.pack p).name;refine yD.2 ⟨nodeAt g k,List.mem_filter.2 ⟨Hq.2 ⟨k,by omega,rfl⟩,?_⟩,h3⟩;unfold mQ at hsp;obtain⟨d,hd,rfl⟩:=yD.1 hsp;obtain⟨hd,hh⟩:=List.mem_filter.1 hd;unfold wP;refine yU.2 ⟨d,hd,?_⟩;rw[hh,yR,vI];exact⟨p,hp,by rw[h3];exact SB hok (aQ.mD hp)⟩
 intro h;obtain⟨o,ho,rfl⟩:=yD.1 h;obtain⟨ho,h⟩:=List.mem_filter.1 ho;obtain⟨i,hi,rfl⟩:=Hq.1 ho;unfold wP at h;obtain⟨d,hd,h⟩:=yU.1 h;rw[Bool.and_eq_true]at h;obtain⟨p,hp,e⟩:=vI.1 h.2;have h3:=aQ.SC (x:=x) (hN.found i hi);rw[e,yT]at h3;refine List.mem_flatMap.2 ⟨d.on,?_,List.mem_filter.2 ⟨yD.2 ⟨p,hp,h3⟩,?_⟩⟩;·unfold mQ;exact yD.2 ⟨d,List.mem_filter.2 ⟨hd,h.1⟩,rfl⟩
 rw[hN.find hi];exact qX zAA
def tC(x:aQ)(q:dD)(g:List aC)(i:Nat):Bool:=q.roots.any fun r=>(intsOf (x.targets r.spec.name)).contains (x.find (nodeAt g i).name)
theorem U0{x:aQ}{q:dD}{g:List aC}(hok:x.okB=true)(hN:Named x g){i:Nat}(hi:i<g.length):tC x q g i=true↔i∈mJ x q g:=by
 unfold tC mJ;rw[yU,List.mem_flatMap];constructor;·rintro⟨r,hr,h⟩;obtain⟨p,hp,e⟩:=vI.1 h;have h3:=aQ.SC (x:=x) (hN.found i hi);rw[e,yT]at h3;have h4:=hN.find hi;refine⟨r,hr,yD.2 ⟨(i:Int),List.mem_filter.2 ⟨yD.2 ⟨p,hp,by rw[h3];exact h4⟩,qX zAA⟩,by simp⟩⟩
 rintro⟨r,hr,h⟩;obtain⟨z,hz,e⟩:=yD.1 h;obtain⟨hz,h0⟩:=List.mem_filter.1 hz;obtain⟨p,hp,rfl⟩:=yD.1 hz;have h0:=of_decide_eq_true h0;have h5:=Dz (g:=g) (s:=(x.pack p).name) (k:=i) zAA;exact⟨r,hr,vI.2 ⟨p,hp,by rw[h5];exact SB hok (aQ.mD hp)⟩⟩
theorem SE{x:aQ}{q:dD}{g:List aC}{i:Nat}(h:i∈mJ x q g):i<g.length:=by unfold mJ at h;obtain⟨r,hr,h⟩:=List.mem_flatMap.1 h;obtain⟨z,hz,rfl⟩:=yD.1 h;obtain⟨hz,h0⟩:=List.mem_filter.1 hz;obtain⟨p,hp,rfl⟩:=yD.1 hz;have:=xk g (x.pack p).name;have h0:=of_decide_eq_true h0;omega
theorem Xk{g:List aC}{i k:Nat}(h:BR g i k=true):k<g.length:=by unfold BR at h;obtain⟨s,-,h⟩:=yU.1 h;have:=xk g s;have:=of_decide_eq_true h;omega
def zW(g:List aC)(i k:Nat):Bool:=iC (nodeAt g i).needs (nodeAt g k).name&&decide (jG g (nodeAt g k).name=(k:Int))
theorem abW{x:aQ}{g:List aC}(hN:Named x g){i k:Nat}(hk:k<g.length):zW g i k=BR g i k:=by
 rw[Bool.eq_iff_iff];unfold zW BR iC;rw[Bool.and_eq_true,yU,yU];constructor;·rintro⟨⟨s,hs,h⟩,-⟩;refine⟨s,hs,qX ?_⟩;rw[of_decide_eq_true h];exact hN.find hk
 rintro⟨s,hs,h⟩;have h2:=Dz (of_decide_eq_true h);exact⟨⟨s,hs,qX h2.symm⟩,qX (hN.find hk)⟩
abbrev OE:=List (List Bool)
def rJ(e:OE)(i k:Nat):Bool:=(e.getD i []).getD k false
def ag1(e:OE)(N n i:Nat):List Bool:=(List.range N).map fun k=>rJ e i k||rJ e i n&&rJ e n k
def tH(e:OE)(N n:Nat):Nat->OE
 |0=>e
 |i+1=>(tH e N n i).set i (ag1 (tH e N n i) N n i)
def nI(e:OE)(N:Nat):Nat->OE
 |0=>e
 |n+1=>tH (nI e N n) N n N
def rV(g:List aC):OE:=(List.range g.length).map fun i=>(List.range g.length).map fun k=>zW g i k
theorem ag2{e:OE}{i:Nat}(hi:i<e.length){r:List Bool}(j k:Nat):rJ (e.set i r) j k=if j=i then r.getD k false else rJ e j k:=by
 unfold rJ;by_cases h:j=i;·subst h;rw[if_pos rfl,qC (l:=e.set j r),List.getElem?_set_self hi];rfl
 rw[if_neg h,qC (l:=e.set i r),List.getElem?_set_ne (fun e=>h e.symm),<-qC]
theorem ag3{e:OE}{N n i k:Nat}(hk:k<N):(ag1 e N n i).getD k false=(rJ e i k||rJ e i n&&rJ e n k):=by unfold ag1;rw[qC,List.getElem?_map,List.getElem?_range hk];rfl
theorem Hr(e:OE)(N n:Nat):∀i,(tH e N n i).length=e.length
 |0=>rfl
 |i+1=>by
  show((tH e N n i).set i _).length=_
  rw[List.length_set,Hr e N n i]
theorem SG{e:OE}{N n:Nat}(he:e.length=N)(hn:n<N):∀i,i<=N->∀j k,k<N->rJ (tH e N n i) j k=if j<i then (rJ e j k||rJ e j n&&rJ e n k)else rJ e j k
 |0,_,j,k,_=>by rw[if_neg zAA];rfl
 |i+1,hi,j,k,hk=>by
  have ih:=SG he hn i zAA
  show rJ ((tH e N n i).set i (ag1 (tH e N n i) N n i)) j k=_
  rw[ag2 (by rw[Hr,he];omega)]
  by_cases hj:j=i
  ·subst hj
   rw[if_pos rfl,if_pos zC8,ag3 hk,ih j k hk,ih j n hn,ih n k hk,if_neg zCj,if_neg zAA]
   by_cases hnj:n<j
   ·rw[if_pos hnj]
    cases rJ e j k<;>cases rJ e j n<;>cases rJ e n k<;>simp
   ·rw[if_neg hnj]
  ·rw[if_neg hj,ih j k hk]
   by_cases hji:j<i
   ·rw[if_pos hji,if_pos zAA]
   ·rw[if_neg hji,if_neg zAA]
theorem OG{e:OE}{N:Nat}(he:e.length=N):∀n,(nI e N n).length=N
 |0=>he
 |n+1=>by
  show(tH (nI e N n) N n N).length=N
  rw[Hr,OG he n]
theorem abX(g:List aC){i k:Nat}(hi:i<g.length)(hk:k<g.length):rJ (rV g) i k=zW g i k:=by unfold rJ rV;rw[qC,qC,List.getElem?_map,List.getElem?_range hi,Option.map_some,Option.getD_some,List.getElem?_map,List.getElem?_range hk];rfl
theorem Dx.lt{g:List aC}{i k:Nat}(h:Dx g i k):k<g.length:=by
 cases h with
 |one h=>exact Xk h
 |more _ e=>exact Xk e
theorem Dx.tr{g:List aC}{i j k:Nat}(h:Dx g i j)(h2:Dx g j k):Dx g i k:=by
 induction h2 with
 |one e=>exact .more h e
 |more _ e ih=>exact .more ih e
theorem OH{x:aQ}{g:List aC}(hN:Named x g):∀n,n<=g.length->
  (∀i k,i<g.length->k<g.length->rJ (nI (rV g) g.length n) i k=true->Dx g i k)/\
  (∀i k,i<g.length->k<g.length->BR g i k=true->rJ (nI (rV g) g.length n) i k=true)/\
  (∀v i k,v<n->i<g.length->k<g.length->rJ (nI (rV g) g.length n) i v=true->rJ (nI (rV g) g.length n) v k=true->rJ (nI (rV g) g.length n) i k=true)
 |0,_=>by
  have e0:∀i k,i<g.length->k<g.length->rJ (nI (rV g) g.length 0) i k=BR g i k:=fun i k hi hk=>by
   show rJ (rV g) i k=_
   rw[abX g hi hk,abW hN hk]
  exact⟨fun i k hi hk h=>.one (by rw[<-e0 i k hi hk];exact h),fun i k hi hk h=>by rw[e0 i k hi hk];exact h,fun v i k hv=>by omega⟩
 |n+1,hn=>by
  obtain⟨h1,h2,h3⟩:=OH hN n zAA
  have hl:(nI (rV g) g.length n).length=g.length:=OG (by unfold rV;simp) n
  have hs:nI (rV g) g.length (n+1)=tH (nI (rV g) g.length n) g.length n g.length:=rfl
  rw[hs]
  clear hs
  generalize nI (rV g) g.length n=e at h1 h2 h3 hl⊢
  have e1:∀i k,i<g.length->k<g.length->rJ (tH e g.length n g.length) i k=(rJ e i k||rJ e i n&&rJ e n k):=fun i k hi hk=>by
   rw[SG hl zAA g.length (qH _) i k hk,if_pos hi]
  have hnn:n<g.length:=zAA
  refine⟨fun i k hi hk h=>?_,fun i k hi hk h=>?_,fun v i k hv hi hk a b=>?_⟩
  ·rw[e1 i k hi hk,Bool.or_eq_true,Bool.and_eq_true]at h
   rcases h with h| ⟨a,b⟩
   ·exact h1 i k hi hk h
   ·exact(h1 i n hi hnn a).tr (h1 n k hnn hk b)
  ·rw[e1 i k hi hk,h2 i k hi hk h];rfl
  ·have hvl:v<g.length:=by omega
   rw[e1 i v hi hvl,Bool.or_eq_true,Bool.and_eq_true]at a
   rw[e1 v k hvl hk,Bool.or_eq_true,Bool.and_eq_true]at b
   rw[e1 i k hi hk,Bool.or_eq_true,Bool.and_eq_true]
   rcases yK v n with hlt|hge
   ·rcases a with a| ⟨a1,a2⟩
    ·rcases b with b| ⟨b1,b2⟩
     ·exact .inl (h3 v i k hlt hi hk a b)
     ·exact .inr ⟨h3 v i n hlt hi hnn a b1,b2⟩
    ·rcases b with b| ⟨b1,b2⟩
     ·exact .inr ⟨a1,h3 v n k hlt hnn hk a2 b⟩
     ·exact .inr ⟨a1,b2⟩
   ·obtain rfl:v=n:=by omega
    have a':rJ e i v=true:=by
     rcases a with a| ⟨a1,-⟩
     ·exact a
     ·exact a1
    have b':rJ e v k=true:=by
     rcases b with b| ⟨-,b2⟩
     ·exact b
     ·exact b2
    exact .inr ⟨a',b'⟩
theorem Ht{x:aQ}{g:List aC}(hN:Named x g){i k:Nat}(hi:i<g.length)(hk:k<g.length):rJ (nI (rV g) g.length g.length) i k=true↔Dx g i k:=by
 obtain⟨h1,h2,h3⟩:=OH hN g.length (qH _);refine⟨h1 i k hi hk,fun h=>?_⟩;induction h with
 |one e=>exact h2 _ _ hi hk e
 |more h e ih=>exact h3 _ _ _ h.lt hi hk (ih h.lt) (h2 _ _ h.lt hk e)
end Go.Proofs.YtdmmebjjojimiaaGreatDoor
namespace Go.Proofs
theorem zAX{p:Prop}(h:p:=by(intro w hSw;(try dsimp only at hSw);obtain⟨k0,k1,k2,k3⟩:=aF.out w hSw;go_simp<;>(try with_reducible rfl))):p:=h
theorem zBK{p:Prop}(h:p:=by rw[<-hW1];exact qL W0 _):p:=h
theorem zBS{p:Prop}(h:p:=by(intro w hSw;obtain⟨k0,k1,k2,k3,k4,k5⟩:=aF.out w hSw;go_simp<;>(try with_reducible rfl))):p:=h
theorem zBi{p:Prop}(h:p:=by(intro w hSw;(try dsimp only at hSw);refine Eq.trans (oz rfl rfl (HR.out w hSw) Tryz.underlying101 rfl zk) ?_;with_reducible rfl)):p:=h
theorem zD5{p:Prop}(h:p:=by
 match i,hu with
 |0,hu=>simp at hu;subst hu;exact k1
 |1,hu=>simp at hu;subst hu;exact k2
 |2,hu=>simp at hu;subst hu;exact k3
 |i+3,hu=>simp at hu):p:=h
theorem zEf{p:Prop}(h:p:=by
 refine hK.out _ _ ?_
 clear hK K
 try simp only[Act.put,fA,fD,fB,dW,dX,dY]
 refine bV zk ?_ _
 go_wp2_with fail
 refine cO (p:=4) rfl rfl rfl (run_loadVar_row _ _ _ _ _ (0,0) _ hg3 Tryz.underlying101 rfl zk) ?_
 exact⟨rfl,(aV.out.same hHeld).trans ho3 fun k hk=>.inr zBZ⟩):p:=h
theorem zFH{p:Prop}(h:p:=by
 try simp only[Act.put,fA,fD,fB,dW,dX,dY]
 iterate 2 refine qV ?_
 exact zDb):p:=h
theorem zGy{p:Prop}(h:p:=by(intro w hSw;exact(HHo.out w hSw).mono fun _ _ ⟨he,ho⟩=>⟨he,hSw.same ho⟩)):p:=h
end Go.Proofs
namespace Go.Proofs.YtdmmebjjojimiaaGreatDoor
open Go.RowKit
section
variable {w w':World} {B:Nat}
attribute [local irreducible] wpQuiet
theorem cO{fn:Func}{p:Tmp}{ty:TypeId}{Q:Ending->World->Prop}{a:Act}{W:World}{R:Nat}{cs:Array Value}(hf:fn.results= #[.cell p ty])(hp:a.tmps.getD p undef= .pointer (some ⟨R,0,none⟩))(hd:a.defers=[])(hl:(loadVar ty ⟨R,0,none⟩).run Tryz.prog W= .ok (.agg cs) W)(h:Q (.returned (.agg cs)) W):bodyPost Tryz.prog fn Q Exit.ret a W:=by refine bodyPost_ret (v:=.agg cs) ?_ hd h;rw[Iz hf,hp];simp only[asAddr,Sem.run_pure,Result.andThen_ok];exact hl
theorem abY{x:aQ}{b off n1 c1 n2 c2 n3 c3 n4 c4 m1 e1 m2 e2 m3 e3 m4 e4 m5 e5 m6 e6:Nat}{a2 a3 a4 d1 d2 d3 d4 d5 d6:Option Addr}{s1 s2 y1:Str}{y2:Int}(hx:fO B w [.slice (some ⟨b,off,none⟩) n1 c1,.slice a2 n2 c2] x){p:Nat}(hp:x.find s1=(p:Int))(hpn:p<n1)(hr:∀W,O0 w W->W.rangeAt b (off+p*8) [.string y1,.int .i64 y2,.slice d1 m1 e1,.slice d2 m2 e2,.slice d3 m3 e3,.slice d4 m4 e4,.slice d5 m5 e5,.slice d6 m6 e6]):Calls Tryz.prog 137 #[.agg #[.slice (some ⟨b,off,none⟩) n1 c1,.slice a2 n2 c2],.agg #[.string s1,.string s2,.slice a3 n3 c3,.slice a4 n4 c4]] w fun e w'=>e= .returned (.agg #[.string y1,.int .i64 y2,.slice d1 m1 e1,.slice d2 m2 e2,.slice d3 m3 e3,.slice d4 m4 e4,.slice d5 m5 e5,.slice d6 m6 e6])/\O0 w w':=by
 have HX:=zh hx;obtain⟨W0,hW0,aV,jK,aF⟩:=ajo w (.slice (some ⟨b,off,none⟩) n1 c1) (.slice a2 n2 c2) (.string s1) (.string s2) (.slice a3 n3 c3) (.slice a4 n4 c4) 25 83;obtain⟨W1,hW1⟩:=ze (W0.alloc (.cells #[.string ⟨#[]⟩,.int .i64 0,.slice none 0 0,.slice none 0 0,.slice none 0 0,.slice none 0 0,.slice none 0 0,.slice none 0 0] 101));have aI:Hid (O0 W0 W1):=zAc;have iM:Hid (W1.heap[W0.heap.size]? =some (.cells #[.string ⟨#[]⟩,.int .i64 0,.slice none 0 0,.slice none 0 0,.slice none 0 0,.slice none 0 0,.slice none 0 0,.slice none 0 0] 101 (0,0))):=zBK;have HF:Hid (∀W,O0 W1 W->Calls Tryz.prog 38 #[.agg #[.slice (some ⟨b,off,none⟩) n1 c1,.slice a2 n2 c2],.string s1] W fun e w'=>e= .returned (.int .i64 (p:Int))/\O0 W w'):=fun W hW=>by rw[<-hp];exact lI (fO.keep HX.out (Kp.dV (aV.out.same (aI.out.same hW)):Kp B w W)) s1
 have HR:Hid (∀W,O0 W1 W->W.rangeAt b (off+p*8) [.string y1,.int .i64 y2,.slice d1 m1 e1,.slice d2 m2 e2,.slice d3 m3 e3,.slice d4 m4 e4,.slice d5 m5 e5,.slice d6 m6 e6]):=fun W hW=>hr W (aV.out.same (aI.out.same hW));replace aF:Hid (∀W,O0 W1 W->W.cell? ⟨w.heap.size,0,none⟩=some (.slice (some ⟨b,off,none⟩) n1 c1)/\W.cell? ⟨w.heap.size,1,none⟩=some (.slice a2 n2 c2)/\W.cell? ⟨w.heap.size+1,0,none⟩=some (.string s1)/\W.cell? ⟨w.heap.size+1,1,none⟩=some (.string s2)/\W.cell? ⟨w.heap.size+1,2,none⟩=some (.slice a3 n3 c3)/\W.cell? ⟨w.heap.size+1,3,none⟩=some (.slice a4 n4 c4)):=fun W hW=>aF.out W (aI.out.same hW);replace aV:Hid (O0 w W1):=aV.out.same aI.out;have hW0':=hW0.symm;clear hx hr hW0 HX aI;go_enter Tryz.func137,Tryz.ntmps137;go_wp2_with fail;clear hW1 hW0';refine dn (n:=9) (E:=fun k=>k=8) (S:=fun W=>O0 W1 W) zk rfl (by exact zr.drew) (fun hHeld=>?_);refine tW 0 ?_;refine tK 1 ?_ (hy:=zBS);refine tK 2 ?_ (hy:=zBS);refine tW 3 ?_;refine tK 4 ?_ (hy:=zBS);refine tO 5 fun K hK=>?_;(go_simp;refine(HF.out _ hHeld).mono ?_;rintro e w5 ⟨rfl,o5⟩;try go_wp2_with fail);refine hK.out _ _ ?_ (fun hHeld=>?_);·exact zD8
 clear hK K;try simp only[Act.put,fA,fD,fB,dW,dX,dY]
 refine tW 6 ?_;refine tK 7 ?_ (hy:=zBi);refine dN (rs:=[8]) zk zAP ?_;refine bI.late (i:=8) rfl zk (fun K hK=>?_) ?_;·(rw[if_pos zk];refine mG 101 (.tmp 4) (.tmp 12) rfl W0.heap.size #[.string y1,.int .i64 y2,.slice d1 m1 e1,.slice d2 m2 e2,.slice d3 m3 e3,.slice d4 m4 e4,.slice d5 m5 e5,.slice d6 m6 e6] rfl rfl 101 #[.string ⟨#[]⟩,.int .i64 0,.slice none 0 0,.slice none 0 0,.slice none 0 0,.slice none 0 0,.slice none 0 0,.slice none 0 0] (aA iM.out (by first|exact hHeld|exact Only.same hHeld o5) (fun f=>f)) zk rfl zk ?_;intro W3 hg3 ho3);exact zEf
 exact bI.nil
theorem zX{lC:List Value}{x:aQ}(hx:fO B w lC x){zQ:List Value}{n:aC}(hn:dH B w zQ n)(hf:0<=x.find n.name):∃LY,gY B w LY (bY x n)/\∀W,O0 w W->Calls Tryz.prog 137 #[.agg lC.toArray,.agg zQ.toArray] W fun e w'=>e= .returned (.agg LY.toArray)/\O0 W w':=by
 have h0:=hx;obtain⟨v1,v2,rfl,h1,h2⟩:=hx;obtain⟨ao,c1,rfl,-,-⟩:=h1.shape;obtain⟨a2,c2,rfl,-,-⟩:=h2.shape;obtain⟨v3,v4,rfl,-,-,r3,r4⟩:=hn;obtain⟨a3,c3,rfl,-,-⟩:=r3.shape;obtain⟨a4,c4,rfl,-,-⟩:=r4.shape;obtain⟨p,hp⟩:∃p:Nat,x.find n.name=(p:Int):=⟨(x.find n.name).toNat,by omega⟩;have hlt:=x.uM n.name;have hpl:p<x.packs.length:=zAA;obtain⟨y,hy⟩:=zG x.packs p hpl;have ey:bY x n=y:=by unfold bY aQ.pack;rw[hp,yT,qC,hy];rfl
 obtain⟨b,off,d1,m1,e1,d2,m2,e2,d3,m3,e3,d4,m4,e4,d5,m5,e5,d6,m6,e6,rfl,-,-,-,-,-,-,-,-,HE⟩:=jy h1 hy;rw[ey];refine⟨_,(HE w zr).2.2.2.2.2.2.2,fun W hW=>?_⟩;exact abY (fO.keep h0 (Kp.dV hW:Kp B w W)) hp hpl fun W' hW'=>(HE W' (hW.same hW')).1
theorem U1{CS:List Value}{g:List aC}(hg:rU B w CS g){css:List Value}{s:iW}(hs:dJ B w css s):Calls Tryz.prog 139 #[.agg CS.toArray,.agg css.toArray] w fun e w'=>e= .returned (.bool (Bd g s))/\O0 w w':=by
 obtain⟨dI,ay,dh,rfl,rC,rD,bG,Jd⟩:=nH hg;clear hg;try rw[bG.out]
 obtain⟨lJ,jk,lK,lV,jB,lW,rfl,JM,JO,Nu,Nv,oP,EM,F_s⟩:=FX hs;clear hs;obtain⟨W0,hW0,aV,jK,aF⟩:=ajn w (.slice dI ay dh) (.string s.name) (.slice lJ jk lK) (.slice lV jB lW) 31 108;obtain⟨Bg,dU⟩:=Jd W0 aV.out;clear Jd;obtain⟨agu,wE,yZ⟩:=F_s W0 aV.out;clear F_s;obtain⟨f,hf⟩:=ze (jG g s.name);obtain⟨r,hr⟩:=ze (Bd g s);rw[hr];have Gw:=xk g s.name;have ajy:=Ox g s.name;rw[hf]at Gw ajy;rw[bG.out]at Gw;have HHr:=zh hr;have HHf:=zh hf;have HF:Hid (∀W,O0 W0 W->Calls Tryz.prog 212 #[.agg #[.slice dI ay dh],.string s.name] W fun e w'=>e= .returned (.int .i64 f)/\O0 W w'):=fun W hW=>by rw[<-hf];exact Xi (Bg.out W hW) s.name
 have HRs:Hid (∀W,O0 W0 W->W.rangeAt (w.heap.size+1) 0 [.string s.name,.slice lJ jk lK,.slice lV jB lW]):=fun W hW i u hu=>by obtain⟨-,k1,k2,k3⟩:=aF.out W hW;exact zD5
 clear hf hr;obtain⟨k0,k1,k2,k3⟩:=aF.out W0 zr;rw[hW0]at k0 k1 k2 k3;go_enter Tryz.func139,Tryz.ntmps139;go_wp2_with fail;rw[<-hW0]at k0 k1 k2 k3⊢;clear hW0;refine(HF.out W0 zr).mono ?_;rintro e w1 ⟨rfl,O1⟩;have aI:=zh O1;clear O1 k0 k1 k2 k3;by_cases h0:0<=f
 ·obtain⟨i,rfl⟩:∃i:Nat,f=i:=⟨f.toNat,by omega⟩;have ci:i<ay:=zAA;obtain⟨yn,hxn⟩:=zG g i zAp;obtain⟨Kv,wI,nR,nU,nV,mV,lD,mP,hen,lY,lG,Fp,Eo,jO⟩:=jf (dU.out W0 zr) hxn;first|subst hen| (simp only[qG,qO,and_true]at hen;obtain⟨rfl,rfl⟩:=hen)
  have jg:=zh jO;have uJ:=zh hxn;clear jO hxn lY lG;have vG:Hid (∀W,O0 W0 W->dH B W [.string yn.name,.string yn.version,.slice nR nU nV,.slice mV lD mP] yn):=fun W ho=>(jg.out W ho).2.2.2;have en:nodeAt g i=yn:=by unfold nodeAt;rw[qC,uJ.out];rfl
  have HHo:Hid (∀W,O0 W0 W->Calls Tryz.prog 140 #[.agg #[.string yn.name,.string yn.version,.slice nR nU nV,.slice mV lD mP],.agg #[.string s.name,.slice lJ jk lK,.slice lV jB lW]] W fun e w'=>e= .returned (.bool r)/\O0 W w'):=fun W hW=>by
   have h1:jr yn s=r:=by rw[<-HHr.out];unfold Bd;rw[HHf.out,qX h0,yT,en];rfl
   rw[<-h1];exact Fh (vG.out W hW) (agu.out W hW)
  clear en h0;go_wp2_with fail;refine aU (fun w'=>O0 W0 w') zk zk (by exact(aI.out).drew) ?_;iterate 4 refine qV ?_
  refine qV ?_ (hy:=zAX);iterate 2 refine qV ?_
  refine bM (by rfl) rfl rfl (fun w hSw=>(jg.out w hSw).1) Tryz.underlying83 rfl zk ?_;try simp only[Act.put,fA,fD,fB,dW,dX,dY]
  refine bM (b:=w.heap.size+1) (off:=0) (by rfl) rfl rfl (fun w hSw=>HRs.out w hSw) Tryz.underlying108 rfl zk ?_;try simp only[Act.put,fA,fD,fB,dW,dX,dY]
  refine bF (v:=.bool r) (f:=140) (args:= #[.agg #[.string yn.name,.string yn.version,.slice nR nU nV,.slice mV lD mP],.agg #[.string s.name,.slice lJ jk lK,.slice lV jB lW]]) (by rfl) ?_ ?_ ?_;·exact zDQ
  ·exact zGy
  exact zFH
 obtain rfl:r=false:=by rw[<-HHr.out];unfold Bd;rw[HHf.out,qP h0];rfl
 have h0':decide ((0:Int)<=f)=false:=qP h0;go_wp2_with fail;refine aU (fun w'=>O0 W0 w') zk zk (by exact(aI.out).drew) ?_;iterate 3 refine qV ?_
 iterate 7 refine qS ?_
 iterate 2 refine qV ?_
 exact zDb
end
def vJ(l:List Str)(s:Str):List Str:=
 let i:=l.findIdx fun t=> !decide (t.toList<s.toList)
 if l[i]? =some s then l else l.take i++[s]++l.drop i
theorem SI{l:List Str}{s:Str}{i:Nat}(hi:i<=l.length)(h0:∀t∈l.take i,t.toList<s.toList)(h1:∀u,l[i]? =some u->¬u.toList<s.toList):(l.findIdx fun t=> !decide (t.toList<s.toList))=i:=by
 rcases yK i l.length with h|h;·rw[List.findIdx_eq h];refine⟨by simpa using h1 l[i] (qA h),fun j hj=>?_⟩;have:=h0 (l[j]'zCj) (qT (show(l.take i)[j]? =some (l[j]'zAA) by rw[List.getElem?_take,if_pos hj,qA]));simp[this]
 have e:i=l.length:=by omega
 subst e;rw[List.findIdx_eq_length];intro t ht;rw[List.take_length]at h0;simp[h0 t ht]
theorem Zf{l:List Str}{s:Str}{i:Nat}{u:Str}(hu:l[i]? =some u)(h0:∀t∈l.take i,t.toList<s.toList)(he:u=s):vJ l s=l:=by
 subst he;have hi:=(qJ.1 hu).1;unfold vJ;rw[SI (Nat.le_of_lt hi) h0 (fun v hv=>by
  rw[hu]at hv
  cases hv
  exact List.lt_irrefl _)]
 dsimp only;rw[if_pos hu]
theorem SK{l:List Str}{s:Str}{i:Nat}(hi:i<=l.length)(h0:∀t∈l.take i,t.toList<s.toList)(h1:∀u,l[i]? =some u->¬u.toList<s.toList/\u≠s):vJ l s=l.take i++[s]++l.drop i:=by unfold vJ;rw[SI hi h0 fun u hu=>(h1 u hu).1];dsimp only;rw[if_neg (fun h=>(h1 s h).2 rfl)]
abbrev aaC(l:List Str):Prop:=l.Pairwise fun a b=>a.toList<b.toList
theorem Zg{l:List Str}(h:aaC l)(s:Str):aaC (vJ l s)/\∀t,t∈vJ l s↔t∈l\/t=s:=by
 obtain⟨i,hi⟩:∃i,(l.findIdx fun t=> !decide (t.toList<s.toList))=i:=⟨_,rfl⟩;have hle:i<=l.length:=by rw[<-hi];exact List.findIdx_le_length
 have h0:∀t∈l.take i,t.toList<s.toList:=fun t ht=>by obtain⟨j,hj,rfl⟩:=List.getElem_of_mem ht;rw[List.length_take]at hj;have:=List.not_of_lt_findIdx (p:=fun t:Str=> !decide (t.toList<s.toList)) (xs:=l) (i:=j) (by rw[hi];omega);rw[List.getElem_take];simpa using this
 have h1:∀t∈l.drop i,¬t.toList<s.toList:=fun t ht hlt=>by
  obtain⟨j,hj,rfl⟩:=List.getElem_of_mem ht
  rw[List.length_drop]at hj
  rw[List.getElem_drop]at hlt
  have hi2:i<l.length:=zAA
  have h2:¬(l[i]).toList<s.toList:=by
   have:=List.findIdx_getElem (p:=fun t:Str=> !decide (t.toList<s.toList)) (xs:=l) (w:=by rw[hi];exact hi2)
   simp only[hi]at this
   simpa using this
  cases j with
  |zero=>exact h2 hlt
  |succ j=>
   have:=List.pairwise_iff_getElem.1 h i (i+(j+1)) hi2 zCj zAA
   exact h2 (List.lt_trans this hlt)
 unfold vJ;rw[hi];dsimp only;by_cases he:l[i]? =some s;·rw[if_pos he];exact⟨h,fun t=>⟨.inl,fun ht=>ht.elim id fun e=>e▸qT he⟩⟩
 rw[if_neg he];have h3:∀t∈l.drop i,s.toList<t.toList:=fun t ht=>by
  refine OD (h1 t ht) fun e=>?_
  have e':=toList_inj e
  subst e'
  obtain⟨j,hj,hjt⟩:=List.getElem_of_mem ht
  rw[List.length_drop]at hj
  rw[List.getElem_drop]at hjt
  have hi2:i<l.length:=zAA
  cases j with
  |zero=>
   apply he
   rw[qA hi2]
   exact congrArg some hjt
  |succ j=>
   have h4:=List.pairwise_iff_getElem.1 h i (i+(j+1)) hi2 zCj zAA
   rw[hjt]at h4
   exact h1 l[i] (qT (show(l.drop i)[0]? =some l[i] by rw[List.getElem?_drop,qF,qA hi2])) h4
 refine⟨?_,fun t=>?_⟩
 ·show List.Pairwise _ (l.take i++[s]++l.drop i);rw[List.pairwise_append];refine⟨?_,h.sublist (List.drop_sublist _ _),fun a ha b hb=>?_⟩;·rw[List.pairwise_append];refine⟨h.sublist (List.take_sublist _ _),List.pairwise_singleton _ _,fun a ha b hb=>?_⟩;rw[yJ]at hb;subst hb;exact h0 a ha
  rcases qW.1 ha with ha|ha;·exact List.lt_trans (h0 a ha) (h3 b hb)
  rw[yJ]at ha;subst ha;exact h3 b hb
 rw[qW,qW,yJ];have hm:t∈l↔t∈l.take i\/t∈l.drop i:=by
  conv=>lhs;rw[<-List.take_append_drop i l]
  exact qW
 rw[hm];exact⟨fun h=>h.elim (fun h=>h.elim (fun h=>.inl (.inl h)) .inr) fun h=>.inl (.inr h),fun h=>h.elim (fun h=>h.elim (fun h=>.inl (.inl h)) .inr) fun h=>.inl (.inr h)⟩
theorem OQ:∀(L:List Str) {l:List Str},aaC l->aaC (L.foldl vJ l)/\∀t,t∈L.foldl vJ l↔t∈l\/t∈L
 | [],l,h=>⟨h,fun t=>by simp⟩
 |s::L,l,h=>by
  obtain⟨h1,h2⟩:=Zg h s
  obtain⟨h3,h4⟩:=OQ L h1
  refine⟨h3,fun t=>?_⟩
  rw[List.foldl_cons,h4,h2,qY]
  exact⟨fun h=>h.elim (fun h=>h.elim .inl fun h=>.inr (.inl h)) fun h=>.inr (.inr h),fun h=>h.elim (fun h=>.inl (.inl h)) fun h=>h.elim (fun h=>.inl (.inr h)) .inr⟩
def zZ(x:aQ)(L:List Str):List Str:=(L.filter x.nZ).foldl vJ []
theorem DK(x:aQ)(L:List Str)(s:Str)(b:Bool)(hb:x.nZ s=b):zZ x (L++[s])=if b=true then vJ (zZ x L) s else zZ x L:=by
 unfold zZ;rw[List.filter_append,List.foldl_append];cases b with
 |true=>rw[if_pos rfl,List.filter_cons_of_pos hb];rfl
 |false=>rw[if_neg zAP,List.filter_cons_of_neg (by rw[hb];simp)];rfl
def QL(x:aQ)(p:Nat):List Str:=(x.pack p).deps.map fun d=>d.on.name
theorem aeS(x:aQ)(q:dD):zZ x (q.names++(x.closure q.names).flatMap (QL x))=x.names q:=by
 obtain⟨h1,h2⟩:=OQ ((q.names++(x.closure q.names).flatMap (QL x)).filter x.nZ) (l:=[]) List.Pairwise.nil;unfold aQ.names;refine(LC ?_ fun s=>?_).symm;·rw[List.pairwise_map];exact h1.imp fun h=>by rw[ByteArray.toList_eq,ByteArray.toList_eq]at h;exact h
 unfold zZ;rw[h2];simp only[List.not_mem_nil,false_or];rfl
end Go.Proofs.YtdmmebjjojimiaaGreatDoor
