/- Open OpenR, in one text.; Arguments that came in: recipes, requests, texts, as they lie (for reading). -/
import Derived.Test.YtdmmebjjojimiaaGreatDoorG12
set_option maxRecDepth 100000
set_option maxHeartbeats 8000000
set_option linter.all false
namespace Go.Proofs.YtdmmebjjojimiaaGreatDoor
open Go.RowKit Go.Deep Go.ChangeShapes Go.WideShapes Go.ChangeAt
theorem uX:Tryz.prog.cellsOf 3=1:=by kernel_rfl
end Go.Proofs.YtdmmebjjojimiaaGreatDoor
namespace Go.Proofs.YtdmmebjjojimiaaGreatDoor
open Go.RowKit
open Go.Deep
end Go.Proofs.YtdmmebjjojimiaaGreatDoor
namespace Go.Proofs.YtdmmebjjojimiaaGreatDoor
open Go.RowKit Go.Deep Go.ChangeShapes Go.WideShapes Go.ChangeAt
section
variable {H:Type} {enc:TypeId×Value->H} {w:World} {base:Nat} {spare:Nat->Bool} {held:Bool} {x:DataW H×List MemPlace}
def Reads{α:Type}(enc:TypeId×Value->H)(w:World)(base:Nat)(spare:Nat->Bool)(held:Bool)(t:TypeId)(C:Nat->World->List Value->α->Prop):Prop:=
 ∀{fuel:Nat} {cs:List Value} {x:DataW H×List MemPlace},DataW.trod enc Tryz.prog w base spare held fuel t cs=some x->∃d,C w.heap.size w cs d
theorem nP{α:Type}[Inhabited α]{n:Nat}{C:Nat->World->List Value->α->Prop}{t e:TypeId}(hn:0<n)(ht:Tryz.prog.underlying t=some (.slice e))(he:Tryz.prog.cellsOf e=n)(hC:Reads enc w base spare held e C){fuel:Nat}{cs:List Value}(h:DataW.trod enc Tryz.prog w base spare held fuel t cs=some x):∃v xs,cs=[v]/\aQ n C w.heap.size w v xs:=by
 rcases open_slice ht h with⟨rfl,_⟩| ⟨a,len,cap,m,f,D,Pl,rfl,hb,hl,hm,hmm,hx,hi⟩;·exact⟨_,[],rfl,aQ.nilRow⟩
 have hlm:len<=m:=by rw[hmm];split<;>omega
 obtain⟨F,hF⟩:=choose_lt (α:=α) (n:=len) (p:=fun i q=> ∃cs',cs'.length=n/\(∀j u,cs'[j]? =some u->w.cell? ((a.add (i*n)).add j)=some u)/\C w.heap.size w cs' q) (fun i hil=>by
  obtain⟨cs',h1,h2⟩:=hi i zBk
  rw[he]at h1
  obtain⟨_,hlen,hat⟩:=World.cells?_some h1
  obtain⟨d,hd⟩:=hC h2
  exact⟨d,cs',hlen,fun j u hu=>(hat j (by have:=(qJ.1 hu).1;omega)).trans hu,hd⟩)
 unfold maxLen at hm;refine⟨_,(List.range len).map F,rfl,⟨some a,cap,by simp,by simp;omega,by omega⟩,fun ao len' cap' hv hp=>?_,fun len' cap' hv=>by simp at hv⟩;simp only[qM,List.length_range]at hp⊢;simp only[qU]at hv;obtain⟨rfl,-,-⟩:=hv;obtain⟨blk,off,spot⟩:=a;obtain⟨cs0,hl0,hr0,-⟩:=hF 0 hp;have h00:cs0[0]? =some (cs0[0]'zBk):=qA _;have hspot:spot=none:=by have:=hr0 0 _ h00;simpa[Addr.add]using World.cell?_spot this
 subst hspot;refine⟨blk,off,rfl,?_,qH _,fun i hi2=>?_⟩;·have:=World.block_lt_of_cell? _ _ (hr0 0 _ h00);simpa[Addr.add]using this
 obtain⟨cs',g0,g1,g2⟩:=hF i hi2;refine⟨cs',g0,fun j u hu=>?_,by simpa using g2⟩;have:=g1 j u hu;simpa only[Go.WideShapes.add_plain]using this
theorem jV:Tryz.prog.cellsOf 9=1:=by kernel_rfl
theorem Tc:Tryz.prog.cellsOf 4=1:=by kernel_rfl
theorem Ij:Tryz.prog.cellsOf 128=2:=by kernel_rfl
theorem cellsOf_set:Tryz.prog.cellsOf 117=2:=by kernel_rfl
theorem vY:Tryz.prog.cellsOf 108=3:=by kernel_rfl
theorem JW:Tryz.prog.cellsOf 130=2:=by kernel_rfl
theorem JX:Tryz.prog.cellsOf 145=2:=by kernel_rfl
theorem JY:Tryz.prog.cellsOf 132=7:=by kernel_rfl
theorem JZ:Tryz.prog.cellsOf 160=7:=by kernel_rfl
theorem Ik:Tryz.prog.cellsOf 101=8:=by kernel_rfl
theorem Il:Tryz.prog.cellsOf 103=3:=by kernel_rfl
theorem VT:Tryz.prog.cellsOf 25=2:=by kernel_rfl
theorem Io:Tryz.prog.cellsOf 110=4:=by kernel_rfl
theorem VU:Tryz.prog.cellsOf 28=1:=by kernel_rfl
theorem Dw:Tryz.prog.cellsOf 81=1:=by kernel_rfl
theorem NJ:Tryz.prog.cellsOf 106=1:=by kernel_rfl
theorem Pg:Tryz.prog.cellsOf 80=1:=by kernel_rfl
theorem Ph:Tryz.prog.cellsOf 96=1:=by kernel_rfl
theorem Pj:Tryz.prog.cellsOf 97=1:=by kernel_rfl
theorem Pm:Tryz.prog.cellsOf 98=1:=by kernel_rfl
theorem Pn:Tryz.prog.cellsOf 99=1:=by kernel_rfl
theorem NK:Tryz.prog.cellsOf 22=1:=by kernel_rfl
theorem NM:Tryz.prog.cellsOf 23=1:=by kernel_rfl
theorem NP:Tryz.prog.cellsOf 26=1:=by kernel_rfl
theorem kP:Reads (H:=H) enc w base spare held 9 fM:=fun h=>by
 obtain⟨s,rfl,-,hs⟩:=DataW.trod_string Tryz.underlying9 h
 exact⟨s,rfl,hs⟩
theorem Yj:Reads (H:=H) enc w base spare held 128 gq:=fun{fuel cs x} ht=>by
 obtain⟨xs,m,_,hx,hlen,hxl,hf⟩:=DataW.trod_struct Tryz.underlying128 ht
 rw[Ij]at hlen
 match cs,hlen with
 | [c0,c1],_=>
  match xs,hxl with
  | [x0,x1],_=>
   have f0:=hf 0 _ rfl
   have f1:=hf 1 _ rfl
   obtain⟨s0,e0,h0⟩:=kP f0
   obtain⟨s1,e1,h1⟩:=kP f1
   simp[jV]at e0 e1
   subst e0 e1
   exact⟨⟨s0,s1⟩,rfl,h0,h1⟩
theorem aa3:Reads (H:=H) enc w base spare held 117 lg:=fun{fuel cs x} ht=>by
 obtain⟨xs,m,_,hx,hlen,hxl,hf⟩:=DataW.trod_struct Tryz.underlying117 ht
 rw[cellsOf_set]at hlen
 match cs,hlen with
 | [c0,c1],_=>
  match xs,hxl with
  | [x0,x1],_=>
   have f0:=hf 0 _ rfl
   have f1:=hf 1 _ rfl
   obtain⟨s0,e0,h0⟩:=kP f0
   obtain⟨s1,e1,h1⟩:=kP f1
   simp[jV]at e0 e1
   subst e0 e1
   exact⟨⟨s0,s1⟩,rfl,h0,h1⟩
theorem aa4:Reads (H:=H) enc w base spare held 130 uZ:=fun{fuel cs x} ht=>by
 obtain⟨xs,m,_,hx,hlen,hxl,hf⟩:=DataW.trod_struct Tryz.underlying130 ht
 rw[JW]at hlen
 match cs,hlen with
 | [c0,c1],_=>
  match xs,hxl with
  | [x0,x1],_=>
   have f0:=hf 0 _ rfl
   have f1:=hf 1 _ rfl
   obtain⟨s0,e0,h0⟩:=kP f0
   obtain⟨k1,e1,_⟩:=DataW.trod_bool Tryz.underlying4 f1
   simp[jV,Tc]at e0 e1
   subst e0 e1
   exact⟨⟨s0,k1⟩,rfl,h0⟩
theorem xJ:Reads (H:=H) enc w base spare held 108 eF:=fun{fuel cs x} ht=>by
 obtain⟨xs,m,_,hx,hlen,hxl,hf⟩:=DataW.trod_struct Tryz.underlying108 ht
 rw[vY]at hlen
 match cs,hlen with
 | [c0,c1,c2],_=>
  match xs,hxl with
  | [x0,x1,x2],_=>
   have f0:=hf 0 _ rfl
   have f1:=hf 1 _ rfl
   have f2:=hf 2 _ rfl
   obtain⟨s0,e0,h0⟩:=kP f0
   obtain⟨v1,l1,e1,h1⟩:=nP zAG Tryz.underlying106 Ij Yj f1
   obtain⟨v2,l2,e2,h2⟩:=nP zAG Tryz.underlying80 cellsOf_set aa3 f2
   simp[jV,NJ,Pg]at e0 e1 e2
   subst e0 e1 e2
   exact⟨⟨s0,l1,l2⟩,_,_,rfl,h0,h1,h2⟩
theorem aa5:Reads (H:=H) enc w base spare held 145 pR:=fun{fuel cs x} ht=>by
 obtain⟨xs,m,_,hx,hlen,hxl,hf⟩:=DataW.trod_struct Tryz.underlying145 ht
 rw[JX]at hlen
 match cs,hlen with
 | [c0,c1],_=>
  match xs,hxl with
  | [x0,x1],_=>
   have f0:=hf 0 _ rfl
   have f1:=hf 1 _ rfl
   obtain⟨s0,e0,h0⟩:=kP f0
   obtain⟨v1,l1,e1,h1⟩:=nP zAG Tryz.underlying81 jV kP f1
   simp[jV,Dw]at e0 e1
   subst e0 e1
   exact⟨⟨s0,l1⟩,_,rfl,h0,h1⟩
theorem aa6:Reads (H:=H) enc w base spare held 132 nC:=fun{fuel cs x} ht=>by
 obtain⟨xs,m,_,hx,hlen,hxl,hf⟩:=DataW.trod_struct Tryz.underlying132 ht
 rw[JY]at hlen
 match cs,hlen with
 | [c0,c1,c2,c3,c4,c5,c6],_=>
  match xs,hxl with
  | [x0,x1,x2],_=>
   have f0:=hf 0 _ rfl
   have f1:=hf 1 _ rfl
   have f2:=hf 2 _ rfl
   obtain⟨s0,h0⟩:=xJ f0
   obtain⟨s1,h1⟩:=xJ f1
   obtain⟨k,e2,_,wf⟩:=DataW.trod_int Tryz.underlying3 f2
   simp[vY]at h0 h1
   simp[uX]at e2
   subst e2
   exact⟨⟨s0,s1,k⟩,_,_,rfl,h0,h1,bounds_i64 wf⟩
theorem aa7:Reads (H:=H) enc w base spare held 160 sU:=fun{fuel cs x} ht=>by
 obtain⟨xs,m,_,hx,hlen,hxl,hf⟩:=DataW.trod_struct Tryz.underlying160 ht
 rw[JZ]at hlen
 match cs,hlen with
 | [c0,c1,c2,c3,c4,c5,c6],_=>
  match xs,hxl with
  | [x0,x1,x2],_=>
   have f0:=hf 0 _ rfl
   have f1:=hf 1 _ rfl
   have f2:=hf 2 _ rfl
   obtain⟨s0,h0⟩:=xJ f0
   obtain⟨s1,h1⟩:=xJ f1
   obtain⟨k,e2,_,wf⟩:=DataW.trod_int Tryz.underlying3 f2
   simp[vY]at h0 h1
   simp[uX]at e2
   subst e2
   exact⟨⟨s0,s1,k⟩,_,_,rfl,h0,h1,bounds_i64 wf⟩
theorem Yk:Reads (H:=H) enc w base spare held 101 iU:=fun{fuel cs x} ht=>by
 obtain⟨xs,m,_,hx,hlen,hxl,hf⟩:=DataW.trod_struct Tryz.underlying101 ht
 rw[Ik]at hlen
 match cs,hlen with
 | [c0,c1,c2,c3,c4,c5,c6,c7],_=>
  match xs,hxl with
  | [x0,x1,x2,x3,x4,x5,x6,x7],_=>
   have f0:=hf 0 _ rfl
   have f1:=hf 1 _ rfl
   have f2:=hf 2 _ rfl
   have f3:=hf 3 _ rfl
   have f4:=hf 4 _ rfl
   have f5:=hf 5 _ rfl
   have f6:=hf 6 _ rfl
   have f7:=hf 7 _ rfl
   obtain⟨s0,e0,h0⟩:=kP f0
   obtain⟨k,e1,_,wf⟩:=DataW.trod_int Tryz.underlying3 f1
   obtain⟨v2,l2,e2,h2⟩:=nP zAG Tryz.underlying96 JW aa4 f2
   obtain⟨v3,l3,e3,h3⟩:=nP zAG Tryz.underlying97 JX aa5 f3
   obtain⟨v4,l4,e4,h4⟩:=nP zAG Tryz.underlying81 jV kP f4
   obtain⟨v5,l5,e5,h5⟩:=nP zAG Tryz.underlying98 JY aa6 f5
   obtain⟨v6,l6,e6,h6⟩:=nP zAG Tryz.underlying99 JZ aa7 f6
   obtain⟨v7,l7,e7,h7⟩:=nP zAG Tryz.underlying81 jV kP f7
   simp[jV,uX,Ph,Pj,Dw,Pm,Pn]at e0 e1 e2 e3 e4 e5 e6 e7
   subst e0 e1 e2 e3 e4 e5 e6 e7
   exact⟨⟨s0,k,l2,l3,l4,l5,l6,l7⟩,_,_,_,_,_,_,rfl,h0,bounds_i64 wf,h2,h3,h4,h5,h6,h7⟩
theorem Yl:Reads (H:=H) enc w base spare held 103 nS:=fun{fuel cs x} ht=>by
 obtain⟨xs,m,_,hx,hlen,hxl,hf⟩:=DataW.trod_struct Tryz.underlying103 ht
 rw[Il]at hlen
 match cs,hlen with
 | [c0,c1,c2],_=>
  match xs,hxl with
  | [x0,x1,x2],_=>
   have f0:=hf 0 _ rfl
   have f1:=hf 1 _ rfl
   have f2:=hf 2 _ rfl
   obtain⟨s0,e0,h0⟩:=kP f0
   obtain⟨v1,l1,e1,h1⟩:=nP zAG Tryz.underlying81 jV kP f1
   obtain⟨k,e2,_,wf⟩:=DataW.trod_int Tryz.underlying3 f2
   simp[jV,Dw,uX]at e0 e1 e2
   subst e0 e1 e2
   exact⟨⟨s0,l1,k⟩,_,rfl,h0,bounds_i64 wf,h1⟩
theorem aa8:Reads (H:=H) enc w base spare held 25 jl:=fun{fuel cs x} ht=>by
 obtain⟨xs,m,_,hx,hlen,hxl,hf⟩:=DataW.trod_struct Tryz.underlying25 ht
 rw[VT]at hlen
 match cs,hlen with
 | [c0,c1],_=>
  match xs,hxl with
  | [x0,x1],_=>
   have f0:=hf 0 _ rfl
   have f1:=hf 1 _ rfl
   obtain⟨v0,l0,e0,h0⟩:=nP zAG Tryz.underlying22 Ik Yk f0
   obtain⟨v1,l1,e1,h1⟩:=nP zAG Tryz.underlying23 Il Yl f1
   simp[NK,NM]at e0 e1
   subst e0 e1
   exact⟨⟨l0,l1⟩,_,_,rfl,h0,h1⟩
theorem Ym:Reads (H:=H) enc w base spare held 110 lY:=fun{fuel cs x} ht=>by
 obtain⟨xs,m,_,hx,hlen,hxl,hf⟩:=DataW.trod_struct Tryz.underlying110 ht
 rw[Io]at hlen
 match cs,hlen with
 | [c0,c1,c2,c3],_=>
  match xs,hxl with
  | [x0,x1],_=>
   have f0:=hf 0 _ rfl
   have f1:=hf 1 _ rfl
   obtain⟨s0,h0⟩:=xJ f0
   obtain⟨k,e1,_,wf⟩:=DataW.trod_int Tryz.underlying3 f1
   simp[vY]at h0
   simp[uX]at e1
   subst e1
   exact⟨⟨s0,k⟩,_,rfl,h0,bounds_i64 wf⟩
theorem aa9:Reads (H:=H) enc w base spare held 28 mV:=fun{fuel cs x} ht=>by
 obtain⟨xs,m,_,hx,hlen,hxl,hf⟩:=DataW.trod_struct Tryz.underlying28 ht
 rw[VU]at hlen
 match cs,hlen with
 | [c0],_=>
  match xs,hxl with
  | [x0],_=>
   have f0:=hf 0 _ rfl
   obtain⟨v0,l0,e0,h0⟩:=nP zAG Tryz.underlying26 Io Ym f0
   simp[NP]at e0
   subst e0
   exact⟨⟨l0⟩,_,rfl,h0⟩
end
section
variable {H:Type} {enc:TypeId×Value->H} {w:World} {base:Nat} {spare:Nat->Bool} {held:Bool} {x:DataW H×List MemPlace}
theorem Yn:Tryz.prog.cellsOf 5=1:=by kernel_rfl
theorem aei:Reads (H:=H) enc w base spare held 5 YI:=fun h=>by
 obtain⟨k,rfl,-,wf⟩:=DataW.trod_int Tryz.underlying5 h
 obtain⟨h1,h2⟩:=bounds_u8 wf
 refine⟨k.toNat,?_,by omega⟩
 rw[Int.toNat_of_nonneg h1]
theorem VW{a:Option Addr}{len cap fuel:Nat}(h:DataW.trod enc Tryz.prog w base spare held fuel 52 [.slice a len cap]=some x):∃c,aQ 1 YI w.heap.size w (.slice a len cap) c:=by obtain⟨v,xs,e,h1⟩:=nP zAG Tryz.underlying52 Yn aei h;simp only[List.cons.injEq,and_true]at e;subst e;exact⟨xs,h1⟩
end
end Go.Proofs.YtdmmebjjojimiaaGreatDoor
