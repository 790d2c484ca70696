/- Arguments that came in: recipes, requests, texts, as they lie (for reading).; A graph that came in, as it lies (for reading). -/
import Derived.Test.YtdmmebjjojimiaaGreatDoorG45
set_option maxRecDepth 100000
set_option maxHeartbeats 8000000
set_option linter.all false
namespace Go.Proofs.YtdmmebjjojimiaaGreatDoor
open Go.RowKit Go.Deep Go.ChangeShapes Go.WideShapes Go.ChangeAt
section
variable {H:Type} {enc:TypeId×Value->H} {w:World} {base:Nat} {spare:Nat->Bool} {held:Bool} {x:DataW H×List MemPlace}
def Reads{α:Type}(enc:TypeId×Value->H)(w:World)(base:Nat)(spare:Nat->Bool)(held:Bool)(t:TypeId)(C:Nat->World->List Value->α->Prop):Prop:=
 ∀{fuel:Nat} {cs:List Value} {x:DataW H×List MemPlace},DataW.trod enc Tryz.prog w base spare held fuel t cs=some x->∃d,C w.heap.size w cs d
theorem mX{α:Type}[Inhabited α]{n:Nat}{C:Nat->World->List Value->α->Prop}{t e:TypeId}(hn:0<n)(ht:Tryz.prog.underlying t=some (.slice e))(he:Tryz.prog.cellsOf e=n)(hC:Reads enc w base spare held e C){fuel:Nat}{cs:List Value}(h:DataW.trod enc Tryz.prog w base spare held fuel t cs=some x):∃v xs,cs=[v]/\aS n C w.heap.size w v xs:=by
 rcases open_slice ht h with⟨rfl,_⟩| ⟨a,len,cap,m,f,D,Pl,rfl,hb,hl,hm,hmm,hx,hi⟩;·exact⟨_,[],rfl,aS.nilRow⟩
 have hlm:len<=m:=by rw[hmm];split<;>omega
 obtain⟨F,hF⟩:=choose_lt (α:=α) (n:=len) (p:=fun i q=> ∃cs',cs'.length=n/\(∀j u,cs'[j]? =some u->w.cell? ((a.add (i*n)).add j)=some u)/\C w.heap.size w cs' q) (fun i hil=>by
  obtain⟨cs',h1,h2⟩:=hi i zAA
  rw[he]at h1
  obtain⟨_,hlen,hat⟩:=World.cells?_some h1
  obtain⟨d,hd⟩:=hC h2
  exact⟨d,cs',hlen,fun j u hu=>(hat j (by have:=(qJ.1 hu).1;omega)).trans hu,hd⟩)
 unfold maxLen at hm;refine⟨_,(List.range len).map F,rfl,⟨some a,cap,by simp,by simp;omega,by omega⟩,fun ao len' cap' hv hp=>?_,fun len' cap' hv=>by simp at hv⟩;simp only[qM,List.length_range]at hp⊢;simp only[qU]at hv;obtain⟨rfl,-,-⟩:=hv;obtain⟨blk,off,spot⟩:=a;obtain⟨cs0,hl0,hr0,-⟩:=hF 0 hp;have h00:cs0[0]? =some (cs0[0]'zAA):=qA _;have hspot:spot=none:=by have:=hr0 0 _ h00;simpa[Addr.add]using World.cell?_spot this
 subst hspot;refine⟨blk,off,rfl,?_,qH _,fun i hi2=>?_⟩;·have:=World.block_lt_of_cell? _ _ (hr0 0 _ h00);simpa[Addr.add]using this
 obtain⟨cs',g0,g1,g2⟩:=hF i hi2;refine⟨cs',g0,fun j u hu=>?_,by simpa using g2⟩;have:=g1 j u hu;simpa only[Go.WideShapes.add_plain]using this
theorem iQ:Tryz.prog.cellsOf 9=1:=by kernel_rfl
theorem VA:Tryz.prog.cellsOf 4=1:=by kernel_rfl
theorem Jy:Tryz.prog.cellsOf 128=2:=by kernel_rfl
theorem cellsOf_set:Tryz.prog.cellsOf 117=2:=by kernel_rfl
theorem yY:Tryz.prog.cellsOf 108=3:=by kernel_rfl
theorem LM:Tryz.prog.cellsOf 130=2:=by kernel_rfl
theorem LP:Tryz.prog.cellsOf 145=2:=by kernel_rfl
theorem LQ:Tryz.prog.cellsOf 132=7:=by kernel_rfl
theorem LU:Tryz.prog.cellsOf 160=7:=by kernel_rfl
theorem Jz:Tryz.prog.cellsOf 101=8:=by kernel_rfl
theorem JA:Tryz.prog.cellsOf 103=3:=by kernel_rfl
theorem XZ:Tryz.prog.cellsOf 25=2:=by kernel_rfl
theorem JB:Tryz.prog.cellsOf 110=4:=by kernel_rfl
theorem X0:Tryz.prog.cellsOf 28=1:=by kernel_rfl
theorem AQ:Tryz.prog.cellsOf 81=1:=by kernel_rfl
theorem Qc:Tryz.prog.cellsOf 106=1:=by kernel_rfl
theorem G8:Tryz.prog.cellsOf 80=1:=by kernel_rfl
theorem Q9:Tryz.prog.cellsOf 96=1:=by kernel_rfl
theorem Rf:Tryz.prog.cellsOf 97=1:=by kernel_rfl
theorem Rh:Tryz.prog.cellsOf 98=1:=by kernel_rfl
theorem Ri:Tryz.prog.cellsOf 99=1:=by kernel_rfl
theorem Qd:Tryz.prog.cellsOf 22=1:=by kernel_rfl
theorem Qe:Tryz.prog.cellsOf 23=1:=by kernel_rfl
theorem Qg:Tryz.prog.cellsOf 26=1:=by kernel_rfl
theorem jl:Reads (H:=H) enc w base spare held 9 bU:=fun h=>by
 obtain⟨s,rfl,-,hs⟩:=DataW.trod_string Tryz.underlying9 h
 exact⟨s,rfl,hs⟩
theorem ZP:Reads (H:=H) enc w base spare held 128 fE:=fun{fuel cs x} ht=>by
 obtain⟨xs,m,_,hx,hlen,hxl,hf⟩:=DataW.trod_struct Tryz.underlying128 ht
 rw[Jy]at hlen
 match cs,hlen with
 | [c0,c1],_=>
  match xs,hxl with
  | [x0,x1],_=>
   have f0:=hf 0 _ rfl
   have f1:=hf 1 _ rfl
   obtain⟨s0,e0,h0⟩:=jl f0
   obtain⟨s1,e1,h1⟩:=jl f1
   simp[iQ]at e0 e1
   subst e0 e1
   exact⟨⟨s0,s1⟩,rfl,h0,h1⟩
theorem TK:Reads (H:=H) enc w base spare held 117 dO:=fun{fuel cs x} ht=>by
 obtain⟨xs,m,_,hx,hlen,hxl,hf⟩:=DataW.trod_struct Tryz.underlying117 ht
 rw[cellsOf_set]at hlen
 match cs,hlen with
 | [c0,c1],_=>
  match xs,hxl with
  | [x0,x1],_=>
   have f0:=hf 0 _ rfl
   have f1:=hf 1 _ rfl
   obtain⟨s0,e0,h0⟩:=jl f0
   obtain⟨s1,e1,h1⟩:=jl f1
   simp[iQ]at e0 e1
   subst e0 e1
   exact⟨⟨s0,s1⟩,rfl,h0,h1⟩
theorem acO:Reads (H:=H) enc w base spare held 130 pR:=fun{fuel cs x} ht=>by
 obtain⟨xs,m,_,hx,hlen,hxl,hf⟩:=DataW.trod_struct Tryz.underlying130 ht
 rw[LM]at hlen
 match cs,hlen with
 | [c0,c1],_=>
  match xs,hxl with
  | [x0,x1],_=>
   have f0:=hf 0 _ rfl
   have f1:=hf 1 _ rfl
   obtain⟨s0,e0,h0⟩:=jl f0
   obtain⟨k1,e1,_⟩:=DataW.trod_bool Tryz.underlying4 f1
   simp[iQ,VA]at e0 e1
   subst e0 e1
   exact⟨⟨s0,k1⟩,rfl,h0⟩
theorem Ag:Reads (H:=H) enc w base spare held 108 dJ:=fun{fuel cs x} ht=>by
 obtain⟨xs,m,_,hx,hlen,hxl,hf⟩:=DataW.trod_struct Tryz.underlying108 ht
 rw[yY]at hlen
 match cs,hlen with
 | [c0,c1,c2],_=>
  match xs,hxl with
  | [x0,x1,x2],_=>
   have f0:=hf 0 _ rfl
   have f1:=hf 1 _ rfl
   have f2:=hf 2 _ rfl
   obtain⟨s0,e0,h0⟩:=jl f0
   obtain⟨v1,l1,e1,h1⟩:=mX zAH Tryz.underlying106 Jy ZP f1
   obtain⟨v2,l2,e2,h2⟩:=mX zAH Tryz.underlying80 cellsOf_set TK f2
   simp[iQ,Qc,G8]at e0 e1 e2
   subst e0 e1 e2
   exact⟨⟨s0,l1,l2⟩,_,_,rfl,h0,h1,h2⟩
theorem acP:Reads (H:=H) enc w base spare held 145 l9:=fun{fuel cs x} ht=>by
 obtain⟨xs,m,_,hx,hlen,hxl,hf⟩:=DataW.trod_struct Tryz.underlying145 ht
 rw[LP]at hlen
 match cs,hlen with
 | [c0,c1],_=>
  match xs,hxl with
  | [x0,x1],_=>
   have f0:=hf 0 _ rfl
   have f1:=hf 1 _ rfl
   obtain⟨s0,e0,h0⟩:=jl f0
   obtain⟨v1,l1,e1,h1⟩:=mX zAH Tryz.underlying81 iQ jl f1
   simp[iQ,AQ]at e0 e1
   subst e0 e1
   exact⟨⟨s0,l1⟩,_,rfl,h0,h1⟩
theorem acQ:Reads (H:=H) enc w base spare held 132 wz:=fun{fuel cs x} ht=>by
 obtain⟨xs,m,_,hx,hlen,hxl,hf⟩:=DataW.trod_struct Tryz.underlying132 ht
 rw[LQ]at hlen
 match cs,hlen with
 | [c0,c1,c2,c3,c4,c5,c6],_=>
  match xs,hxl with
  | [x0,x1,x2],_=>
   have f0:=hf 0 _ rfl
   have f1:=hf 1 _ rfl
   have f2:=hf 2 _ rfl
   obtain⟨s0,h0⟩:=Ag f0
   obtain⟨s1,h1⟩:=Ag f1
   obtain⟨k,e2,_,wf⟩:=DataW.trod_int Tryz.underlying3 f2
   simp[yY]at h0 h1
   simp[xA]at e2
   subst e2
   exact⟨⟨s0,s1,k⟩,_,_,rfl,h0,h1,bounds_i64 wf⟩
theorem acR:Reads (H:=H) enc w base spare held 160 vO:=fun{fuel cs x} ht=>by
 obtain⟨xs,m,_,hx,hlen,hxl,hf⟩:=DataW.trod_struct Tryz.underlying160 ht
 rw[LU]at hlen
 match cs,hlen with
 | [c0,c1,c2,c3,c4,c5,c6],_=>
  match xs,hxl with
  | [x0,x1,x2],_=>
   have f0:=hf 0 _ rfl
   have f1:=hf 1 _ rfl
   have f2:=hf 2 _ rfl
   obtain⟨s0,h0⟩:=Ag f0
   obtain⟨s1,h1⟩:=Ag f1
   obtain⟨k,e2,_,wf⟩:=DataW.trod_int Tryz.underlying3 f2
   simp[yY]at h0 h1
   simp[xA]at e2
   subst e2
   exact⟨⟨s0,s1,k⟩,_,_,rfl,h0,h1,bounds_i64 wf⟩
theorem ZQ:Reads (H:=H) enc w base spare held 101 gY:=fun{fuel cs x} ht=>by
 obtain⟨xs,m,_,hx,hlen,hxl,hf⟩:=DataW.trod_struct Tryz.underlying101 ht
 rw[Jz]at hlen
 match cs,hlen with
 | [c0,c1,c2,c3,c4,c5,c6,c7],_=>
  match xs,hxl with
  | [x0,x1,x2,x3,x4,x5,x6,x7],_=>
   have f0:=hf 0 _ rfl
   have f1:=hf 1 _ rfl
   have f2:=hf 2 _ rfl
   have f3:=hf 3 _ rfl
   have f4:=hf 4 _ rfl
   have f5:=hf 5 _ rfl
   have f6:=hf 6 _ rfl
   have f7:=hf 7 _ rfl
   obtain⟨s0,e0,h0⟩:=jl f0
   obtain⟨k,e1,_,wf⟩:=DataW.trod_int Tryz.underlying3 f1
   obtain⟨v2,l2,e2,h2⟩:=mX zAH Tryz.underlying96 LM acO f2
   obtain⟨v3,l3,e3,h3⟩:=mX zAH Tryz.underlying97 LP acP f3
   obtain⟨v4,l4,e4,h4⟩:=mX zAH Tryz.underlying81 iQ jl f4
   obtain⟨v5,l5,e5,h5⟩:=mX zAH Tryz.underlying98 LQ acQ f5
   obtain⟨v6,l6,e6,h6⟩:=mX zAH Tryz.underlying99 LU acR f6
   obtain⟨v7,l7,e7,h7⟩:=mX zAH Tryz.underlying81 iQ jl f7
   simp[iQ,xA,Q9,Rf,AQ,Rh,Ri]at e0 e1 e2 e3 e4 e5 e6 e7
   subst e0 e1 e2 e3 e4 e5 e6 e7
   exact⟨⟨s0,k,l2,l3,l4,l5,l6,l7⟩,_,_,_,_,_,_,rfl,h0,bounds_i64 wf,h2,h3,h4,h5,h6,h7⟩
theorem ZR:Reads (H:=H) enc w base spare held 103 tV:=fun{fuel cs x} ht=>by
 obtain⟨xs,m,_,hx,hlen,hxl,hf⟩:=DataW.trod_struct Tryz.underlying103 ht
 rw[JA]at hlen
 match cs,hlen with
 | [c0,c1,c2],_=>
  match xs,hxl with
  | [x0,x1,x2],_=>
   have f0:=hf 0 _ rfl
   have f1:=hf 1 _ rfl
   have f2:=hf 2 _ rfl
   obtain⟨s0,e0,h0⟩:=jl f0
   obtain⟨v1,l1,e1,h1⟩:=mX zAH Tryz.underlying81 iQ jl f1
   obtain⟨k,e2,_,wf⟩:=DataW.trod_int Tryz.underlying3 f2
   simp[iQ,AQ,xA]at e0 e1 e2
   subst e0 e1 e2
   exact⟨⟨s0,l1,k⟩,_,rfl,h0,bounds_i64 wf,h1⟩
theorem acS:Reads (H:=H) enc w base spare held 25 fO:=fun{fuel cs x} ht=>by
 obtain⟨xs,m,_,hx,hlen,hxl,hf⟩:=DataW.trod_struct Tryz.underlying25 ht
 rw[XZ]at hlen
 match cs,hlen with
 | [c0,c1],_=>
  match xs,hxl with
  | [x0,x1],_=>
   have f0:=hf 0 _ rfl
   have f1:=hf 1 _ rfl
   obtain⟨v0,l0,e0,h0⟩:=mX zAH Tryz.underlying22 Jz ZQ f0
   obtain⟨v1,l1,e1,h1⟩:=mX zAH Tryz.underlying23 JA ZR f1
   simp[Qd,Qe]at e0 e1
   subst e0 e1
   exact⟨⟨l0,l1⟩,_,_,rfl,h0,h1⟩
theorem ZT:Reads (H:=H) enc w base spare held 110 mM:=fun{fuel cs x} ht=>by
 obtain⟨xs,m,_,hx,hlen,hxl,hf⟩:=DataW.trod_struct Tryz.underlying110 ht
 rw[JB]at hlen
 match cs,hlen with
 | [c0,c1,c2,c3],_=>
  match xs,hxl with
  | [x0,x1],_=>
   have f0:=hf 0 _ rfl
   have f1:=hf 1 _ rfl
   obtain⟨s0,h0⟩:=Ag f0
   obtain⟨k,e1,_,wf⟩:=DataW.trod_int Tryz.underlying3 f1
   simp[yY]at h0
   simp[xA]at e1
   subst e1
   exact⟨⟨s0,k⟩,_,rfl,h0,bounds_i64 wf⟩
theorem acT:Reads (H:=H) enc w base spare held 28 mg:=fun{fuel cs x} ht=>by
 obtain⟨xs,m,_,hx,hlen,hxl,hf⟩:=DataW.trod_struct Tryz.underlying28 ht
 rw[X0]at hlen
 match cs,hlen with
 | [c0],_=>
  match xs,hxl with
  | [x0],_=>
   have f0:=hf 0 _ rfl
   obtain⟨v0,l0,e0,h0⟩:=mX zAH Tryz.underlying26 JB ZT f0
   simp[Qg]at e0
   subst e0
   exact⟨⟨l0⟩,_,rfl,h0⟩
end
section
variable {H:Type} {enc:TypeId×Value->H} {w:World} {base:Nat} {spare:Nat->Bool} {held:Bool} {x:DataW H×List MemPlace}
theorem JC:Tryz.prog.cellsOf 83=4:=by kernel_rfl
theorem Rj:Tryz.prog.cellsOf 31=1:=by kernel_rfl
theorem Qh:Tryz.prog.cellsOf 29=1:=by kernel_rfl
theorem ZU:Reads (H:=H) enc w base spare held 83 dH:=fun{fuel cs x} ht=>by
 obtain⟨xs,m,_,hx,hlen,hxl,hf⟩:=DataW.trod_struct Tryz.underlying83 ht
 rw[JC]at hlen
 match cs,hlen with
 | [c0,c1,c2,c3],_=>
  match xs,hxl with
  | [x0,x1,x2,x3],_=>
   have f0:=hf 0 _ rfl
   have f1:=hf 1 _ rfl
   have f2:=hf 2 _ rfl
   have f3:=hf 3 _ rfl
   obtain⟨s0,e0,h0⟩:=jl f0
   obtain⟨s1,e1,h1⟩:=jl f1
   obtain⟨v2,l2,e2,h2⟩:=mX zAH Tryz.underlying80 cellsOf_set TK f2
   obtain⟨v3,l3,e3,h3⟩:=mX zAH Tryz.underlying81 iQ jl f3
   simp[iQ,G8,AQ]at e0 e1 e2 e3
   subst e0 e1 e2 e3
   exact⟨⟨s0,s1,l2,l3⟩,_,_,rfl,h0,h1,h2,h3⟩
theorem acU:Reads (H:=H) enc w base spare held 31 rU:=fun{fuel cs x} ht=>by
 obtain⟨xs,m,_,hx,hlen,hxl,hf⟩:=DataW.trod_struct Tryz.underlying31 ht
 rw[Rj]at hlen
 match cs,hlen with
 | [c0],_=>
  match xs,hxl with
  | [x0],_=>
   have f0:=hf 0 _ rfl
   obtain⟨v0,l0,e0,h0⟩:=mX zAH Tryz.underlying29 JC ZU f0
   simp[Qh]at e0
   subst e0
   exact⟨l0,_,rfl,h0⟩
end
end Go.Proofs.YtdmmebjjojimiaaGreatDoor
