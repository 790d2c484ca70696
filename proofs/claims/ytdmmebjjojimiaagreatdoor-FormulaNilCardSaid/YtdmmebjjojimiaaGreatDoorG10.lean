/- slices.Index, slices.Contains at []int, off the shelf.; Rows of structs flattened; append as one step of a region that draws its order. -/
import Derived.Test.YtdmmebjjojimiaaGreatDoorG06
import Derived.Test.YtdmmebjjojimiaaGreatDoorG02
import Derived.Test.YtdmmebjjojimiaaGreatDoorG03
import Derived.Shelf.Slices.Empties2
set_option maxRecDepth 100000
set_option maxHeartbeats 8000000
set_option linter.all false
namespace Go.Proofs.YtdmmebjjojimiaaGreatDoor
open Go.RowKit
def Tryz.QM:Go.Shelf.Ren:=⟨fun |107=>152|108=>219|n=>n,fun |28=>78|3=>3|4=>4|0=>0|n=>n,fun |n=>n⟩
theorem Tryz.XJ:Go.Proofs.Lays.n107 Tryz.prog Tryz.QM:={
 mixed:=by kernel_rfl
 f107:=Tryz.func152.trans (congrArg some zk)
 f108:=Tryz.func219.trans (congrArg some zk)
 t0:=Tryz.underlying0
 a0:=Tryz.isAgg0
 z0:=Tryz.sizeOf0
 v0:=Tryz.zeroValue0
 t3:=Tryz.underlying3
 a3:=Tryz.isAgg3
 z3:=Tryz.sizeOf3
 v3:=Tryz.zeroValue3
 t4:=Tryz.underlying4
 a4:=Tryz.isAgg4
 z4:=Tryz.sizeOf4
 v4:=Tryz.zeroValue4
 t28:=Tryz.underlying78
 a28:=Tryz.isAgg78
 z28:=Tryz.sizeOf78
 v28:=Tryz.zeroValue78}
theorem Tryz.slices_Contains_int(b off n c:Nat)(zs:List Int)(x:Int)(w:World)(hz:n<=zs.length)(hbig:n<=9223372036854775807)(hc:∀j,j<zs.length->w.cell? ⟨b,off+j,none⟩=some (.int .i64 (zs.getD j 0))):Calls Tryz.prog 152 #[.slice (some ⟨b,off,none⟩) n c,.int .i64 x] w fun e w'=>e= .returned (.bool ((zs.take n).contains x))/\w'=w:=Any.slices_Contains_int Tryz.XJ b off n c zs x w hz hbig hc
theorem Tryz.slices_Contains_int_empty(a:Option Addr)(c:Nat)(x:Int)(w:World):Calls Tryz.prog 152 #[.slice a 0 c,.int .i64 x] w fun e w'=>e= .returned (.bool false)/\w'=w:=Any.slices_Contains_int_empty Tryz.XJ a c x w
section
variable {w w':World} {B:Nat}
theorem EY{n:Nat}{F:Nat->List Value}:∀{k:Nat},(∀i,i<k->(F i).length=n)->((List.range k).flatMap F).length=k*n
 |0,_=>by simp
 |k+1,h=>by
  rw[List.range_succ,List.flatMap_append,qK,EY fun i hi=>h i zBB]
  simp[h k zBB,Nat.add_mul]
theorem flat_get{n:Nat}{F:Nat->List Value}:∀{k:Nat},(∀i,i<k->(F i).length=n)->∀{i j:Nat},i<k->j<n->((List.range k).flatMap F)[i*n+j]? =(F i)[j]?
 |0,_,_,_,h,_=>by omega
 |k+1,h,i,j,hi,hj=>by
  have hl:=EY (n:=n) (F:=F) (k:=k) fun i hi=>h i zBB
  rw[List.range_succ,List.flatMap_append]
  by_cases hk:i<k
  ·have:i*n+j<k*n:=by
    have:(i+1)*n<=k*n:=Nat.mul_le_mul_right _ hk
    rw[Nat.add_mul]at this;omega
   rw[yM (by rw[hl];exact this)]
   exact flat_get (fun i hi=>h i zBB) hk hj
  ·obtain rfl:i=k:=by omega
   rw[yN (by rw[hl];omega),hl]
   simp
theorem aJ.flat{α:Type}{n:Nat}(hn:0<n){C:Nat->World->List Value->α->Prop}{ao:Option Addr}{len cap:Nat}{xs:List α}(h:aJ n C B w (.slice ao len cap) xs):∃F:Nat->List Value,(∀i (hi:i<xs.length),(F i).length=n/\C B w (F i) xs[i])/\((List.range xs.length).flatMap F).length=xs.length*n/\(∀ad,ao=some ad->∀j u,((List.range xs.length).flatMap F)[j]? =some u->w.cell? (ad.add j)=some u):=by
 by_cases h0:0<xs.length
 ·obtain⟨b,off,rfl,_,_,hc⟩:=h.cells _ _ _ rfl h0;obtain⟨F,hF⟩:=Go.Deep.choose_lt (α:=List Value) (n:=xs.length) (p:=fun i cs=> ∃hi:i<xs.length,cs.length=n/\w.rangeAt b (off+i*n) cs/\C B w cs xs[i]) (fun i hi=>by
   obtain⟨cs,h1,h2,h3⟩:=hc i hi
   exact⟨cs,hi,h1,h2,h3⟩)
  have hl:=EY (n:=n) (F:=F) (k:=xs.length) fun i hi=>(hF i hi).2.1;refine⟨F,fun i hi=>⟨(hF i hi).2.1,(hF i hi).2.2.2⟩,hl,fun ad had j u hu=>?_⟩;obtain rfl:=Option.some.inj had;have hj:=(qJ.1 hu).1;rw[hl]at hj;have hi:j/n<xs.length:=Nat.div_lt_of_lt_mul (by rw[Nat.mul_comm];exact hj);have hjn:j%n<n:=Nat.mod_lt _ hn;have hdm:j/n*n+j%n=j:=by rw[Nat.mul_comm];exact Nat.div_add_mod j n
  rw[<-hdm,flat_get (fun i hi=>(hF i hi).2.1) hi hjn]at hu;have:=(hF (j/n) hi).2.2.1 (j%n) u hu;rw[Go.WideShapes.add_plain,<-hdm,<-Nat.add_assoc];exact this
 obtain rfl:xs=[]:=yF zBB;exact⟨fun _=>[],fun i hi=>by simp at hi,by simp,fun ad _ j u hu=>by simp at hu⟩
theorem aJ.dF{α:Type}{n:Nat}{C:Nat->World->List Value->α->Prop}{e:TypeId}{v:Value}{xs:List α}{cs:List Value}(h:w.ownsRow 0 e n v xs.length cs)(hx:∀i (hi:i<xs.length),∃c,c.length=n/\(∀j u,c[j]? =some u->cs[i*n+j]? =some u)/\C w.heap.size w c xs[i]):aJ n C w.heap.size w v xs:=by obtain⟨ao,cap,rfl,h1,h2⟩:=aH h;unfold maxLen at h2;refine⟨⟨ao,cap,rfl,h1,by omega⟩,fun ao' len' cap' hv hp=>?_,fun len' cap' hv=>by rw[hv]at h;exact J4 h⟩;simp only[qU]at hv;obtain⟨rfl,rfl,rfl⟩:=hv;obtain⟨g,cap',he,_,_⟩:=dB h hp;simp only[qU]at he;obtain⟨rfl,-,rfl⟩:=he;refine⟨g,0,rfl,dn h rfl,qH _,fun i hi=>?_⟩;obtain⟨c,g1,g2,g3⟩:=hx i hi;refine⟨c,g1,fun j u hu=>?_,g3⟩;have:=g2 j u hu;rw[Nat.zero_add];have h2:=h.cells (g:=g) rfl _ _ this;rw[Go.WideShapes.add_plain,Nat.zero_add]at h2;exact h2
theorem Ci{P:Program}{ops:Array Oper}{o:Oper}{a:Act}{K:Act->World->Prop}{Q:Exit->Act->World->Prop}{E:Prop}{tt e:TypeId}{size bytes:Nat}(T:uZ P tt e size bytes)
  (hgd:o.guard=none) (s x:Operand)
  (ho:o.op= .call {callee:=.builtin .append,args:= #[s,x],argTypes:= #[tt,tt]})
  {v:Value} {n:Nat} {xs:List Value} {ao:Option Addr} {m c:Nat} {news:List Value} (hs:a.eval s=v) (hown:w.ownsRow 0 e size v n xs) (hx:a.eval x= .slice ao m c) (hl:news.length=m*size) (hnone:ao=none->m=0/\c=0)
  (hnews:∀ad,ao=some ad->∀j u,news[j]? =some u->w.cell? (ad.add j)=some u) (h1:∀u∈news,u.oneCell'=true)
  (h63:n+m<=1099511627776) (hbytes:bytes<=128)
  (hK:∀ao' cap w',w'.ownsRow 0 e size (.slice ao' (n+m) cap) (n+m) (xs++news)->Only (fun k=>v.ownBlock=some k) w w'->Qz w v (.slice ao' (n+m) cap)->K (a.put o.dst (.slice ao' (n+m) cap)) w'):
  if Region.wanted o (yielded ops a.tmps)=true then Oper.wp P o a w K Q else E:=by
 rw[if_pos zAq]
 cases ao with
 |none=>
  obtain⟨rfl,rfl⟩:=hnone rfl
  have hn:news=[]:=yF (by simpa using hl)
  subst hn
  obtain⟨i,z,h2,h3,h4,h5,h6⟩:=T.info
  have hr:=run_append_owned_none (P:=P) w 0 tt o.type e i size T.und h2 v n xs hown
  obtain⟨ao',cap',rfl,_,_⟩:=aH hown
  unfold Oper.wp execOp
  simp only[ho,resolve,invoke,builtin,Sem.run_bind,Sem.run_pure,Result.andThen_ok,List.map_toArray,List.map_cons,List.map_nil,hs,hx,hr]
  exact hK ao' cap' w (by simpa using hown) zr (fun k hk=>.inl hk)
 |some ad=>
  have hmul:(n+m)*bytes<=1099511627776*128:=Nat.mul_le_mul h63 hbytes
  obtain⟨v',w',hr,r1,r2,r3,-⟩:=jO (P:=P) (ty:=o.type) w T v n xs hown ad m c news hl (hnews ad rfl) h1 zAH zBB
  unfold Oper.wp execOp
  simp only[ho,resolve,invoke,builtin,Sem.run_bind,Sem.run_pure,Result.andThen_ok,List.map_toArray,List.map_cons,List.map_nil,hs,hx,hr]
  obtain⟨ao',cap',rfl,_,_⟩:=aH r1
  exact hK ao' cap' w' r1 ((Only.refl _ w).grown r2 fun k hk=>.inl hk) r3
end
end Go.Proofs.YtdmmebjjojimiaaGreatDoor
