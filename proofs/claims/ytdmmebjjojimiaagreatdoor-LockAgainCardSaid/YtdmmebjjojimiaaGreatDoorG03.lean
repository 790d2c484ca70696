/- A function's parameters opened, and their boxes: one lemma each. Printed by gen_opn.py.; Regions that draw their order, whose operations only read and whose callees at most make m -/
import Derived.Test.YtdmmebjjojimiaaGreatDoorG02
import Derived.Shelf.Small.Wraps
import Derived.Shelf.Slices.Clone
import Derived.Shelf.Slices.SearchI
import Derived.Shelf.Slices.Cells
import Derived.Shelf.SlicesE.Clone
import Derived.Shelf.SlSortCmp.NoneTotal
import Derived.Shelf.SlIterI.Nil
import Derived.Shelf.SortM.Plain
import Derived.Shelf.SortM.SortNone
import Derived.Shelf.Slices.Empties2
import Derived.Deep.DrawnRows
import Derived.Deep.DeepCutAuto
import Derived.Deep.CutBlock
set_option maxRecDepth 100000
set_option maxHeartbeats 8000000
set_option linter.all false
namespace Go.Proofs
theorem zBG{p:Prop}(h:p:=by rw[hW0];exact dF (alloc_at rfl) _):p:=h
theorem zBf{p:Prop}(h:p:=by rw[hW0];exact alloc_at rfl):p:=h
theorem zCo{p:Prop}(h:p:=by rw[hW0];exact alloc_at zAP):p:=h
end Go.Proofs
namespace Go.Proofs.YtdmmebjjojimiaaGreatDoor
open Go.RowKit
section
variable {w:World} {B:Nat}
theorem open_rec{cs:List Value}{x:aQ}(h:fO B w cs x):∃(a1:Option Addr) (n1 c1:Nat) (a2:Option Addr) (n2 c2:Nat),cs=[.slice a1 n1 c1,.slice a2 n2 c2]/\n1<=c1/\c1<=9223372036854775807/\n2<=c2/\c2<=9223372036854775807/\Hid (x.packs.length=n1)/\Hid (x.fV.length=n2)/\∀W0,O0 w W0->Hid (∀W,O0 W0 W->fO B W [.slice a1 n1 c1,.slice a2 n2 c2] x)/\Hid (∀W,O0 W0 W->aS 8 gY B W (.slice a1 n1 c1) x.packs)/\Hid (∀W,O0 W0 W->aS 3 tV B W (.slice a2 n2 c2) x.fV):=by have h0:=h;obtain⟨u1,u2,rfl,r1,r2⟩:=h;obtain⟨a1,c1,rfl,g1,h1⟩:=r1.shape;obtain⟨a2,c2,rfl,g2,h2⟩:=r2.shape;exact⟨a1,_,c1,a2,_,c2,rfl,g1,h1,g2,h2,rfl,rfl,fun W0 ho=>⟨fun W hW=>fO.keep h0 (Kp.dV (ho.same hW):Kp B w W),fun W hW=>r1.keep gY.keep (Kp.dV (ho.same hW)),fun W hW=>r2.keep tV.keep (Kp.dV (ho.same hW))⟩⟩
theorem lM{cs:List Value}{x:dD}(h:mg B w cs x):∃(a1:Option Addr) (n1 c1:Nat),cs=[.slice a1 n1 c1]/\n1<=c1/\c1<=9223372036854775807/\Hid (x.roots.length=n1)/\∀W0,O0 w W0->Hid (∀W,O0 W0 W->mg B W [.slice a1 n1 c1] x)/\Hid (∀W,O0 W0 W->aS 4 mM B W (.slice a1 n1 c1) x.roots):=by have h0:=h;obtain⟨u1,rfl,r1⟩:=h;obtain⟨a1,c1,rfl,g1,h1⟩:=r1.shape;exact⟨a1,_,c1,rfl,g1,h1,rfl,fun W0 ho=>⟨fun W hW=>mg.keep h0 (Kp.dV (ho.same hW):Kp B w W),fun W hW=>r1.keep mM.keep (Kp.dV (ho.same hW))⟩⟩
theorem FX{cs:List Value}{x:iW}(h:dJ B w cs x):∃(a1:Option Addr) (n1 c1:Nat) (a2:Option Addr) (n2 c2:Nat),cs=[.string x.name,.slice a1 n1 c1,.slice a2 n2 c2]/\n1<=c1/\c1<=9223372036854775807/\n2<=c2/\c2<=9223372036854775807/\Hid (x.spans.length=n1)/\Hid (x.sets.length=n2)/\∀W0,O0 w W0->Hid (∀W,O0 W0 W->dJ B W [.string x.name,.slice a1 n1 c1,.slice a2 n2 c2] x)/\Hid (∀W,O0 W0 W->aS 2 fE B W (.slice a1 n1 c1) x.spans)/\Hid (∀W,O0 W0 W->aS 2 dO B W (.slice a2 n2 c2) x.sets):=by have h0:=h;obtain⟨u1,u2,rfl,-,r1,r2⟩:=h;obtain⟨a1,c1,rfl,g1,h1⟩:=r1.shape;obtain⟨a2,c2,rfl,g2,h2⟩:=r2.shape;exact⟨a1,_,c1,a2,_,c2,rfl,g1,h1,g2,h2,rfl,rfl,fun W0 ho=>⟨fun W hW=>dJ.keep h0 (Kp.dV (ho.same hW):Kp B w W),fun W hW=>r1.keep fE.keep (Kp.dV (ho.same hW)),fun W hW=>r2.keep dO.keep (Kp.dV (ho.same hW))⟩⟩
theorem iO{cs:List Value}{x:iI}(h:gY B w cs x):∃(a1:Option Addr) (n1 c1:Nat) (a2:Option Addr) (n2 c2:Nat) (a3:Option Addr) (n3 c3:Nat) (a4:Option Addr) (n4 c4:Nat) (a5:Option Addr) (n5 c5:Nat) (a6:Option Addr) (n6 c6:Nat),cs=[.string x.name,.int .i64 x.line,.slice a1 n1 c1,.slice a2 n2 c2,.slice a3 n3 c3,.slice a4 n4 c4,.slice a5 n5 c5,.slice a6 n6 c6]/\n1<=c1/\c1<=9223372036854775807/\n2<=c2/\c2<=9223372036854775807/\n3<=c3/\c3<=9223372036854775807/\n4<=c4/\c4<=9223372036854775807/\n5<=c5/\c5<=9223372036854775807/\n6<=c6/\c6<=9223372036854775807/\Hid (x.jc.length=n1)/\Hid (x.vars.length=n2)/\Hid (x.provides.length=n3)/\Hid (x.deps.length=n4)/\Hid (x.cons.length=n5)/\Hid (x.files.length=n6)/\∀W0,O0 w W0->Hid (∀W,O0 W0 W->gY B W [.string x.name,.int .i64 x.line,.slice a1 n1 c1,.slice a2 n2 c2,.slice a3 n3 c3,.slice a4 n4 c4,.slice a5 n5 c5,.slice a6 n6 c6] x)/\Hid (∀W,O0 W0 W->aS 2 pR B W (.slice a1 n1 c1) x.jc)/\Hid (∀W,O0 W0 W->aS 2 l9 B W (.slice a2 n2 c2) x.vars)/\Hid (∀W,O0 W0 W->aS 1 bU B W (.slice a3 n3 c3) x.provides)/\Hid (∀W,O0 W0 W->aS 7 wz B W (.slice a4 n4 c4) x.deps)/\Hid (∀W,O0 W0 W->aS 7 vO B W (.slice a5 n5 c5) x.cons)/\Hid (∀W,O0 W0 W->aS 1 bU B W (.slice a6 n6 c6) x.files):=by have h0:=h;obtain⟨u1,u2,u3,u4,u5,u6,rfl,-,-,r1,r2,r3,r4,r5,r6⟩:=h;obtain⟨a1,c1,rfl,g1,h1⟩:=r1.shape;obtain⟨a2,c2,rfl,g2,h2⟩:=r2.shape;obtain⟨a3,c3,rfl,g3,h3⟩:=r3.shape;obtain⟨a4,c4,rfl,g4,h4⟩:=r4.shape;obtain⟨a5,c5,rfl,g5,h5⟩:=r5.shape;obtain⟨a6,c6,rfl,g6,h6⟩:=r6.shape;exact⟨a1,_,c1,a2,_,c2,a3,_,c3,a4,_,c4,a5,_,c5,a6,_,c6,rfl,g1,h1,g2,h2,g3,h3,g4,h4,g5,h5,g6,h6,rfl,rfl,rfl,rfl,rfl,rfl,fun W0 ho=>⟨fun W hW=>gY.keep h0 (Kp.dV (ho.same hW):Kp B w W),fun W hW=>r1.keep pR.keep (Kp.dV (ho.same hW)),fun W hW=>r2.keep l9.keep (Kp.dV (ho.same hW)),fun W hW=>r3.keep bU.keep (Kp.dV (ho.same hW)),fun W hW=>r4.keep wz.keep (Kp.dV (ho.same hW)),fun W hW=>r5.keep vO.keep (Kp.dV (ho.same hW)),fun W hW=>r6.keep bU.keep (Kp.dV (ho.same hW))⟩⟩
theorem open_strs{v:Value}{x:List Str}(h:aS 1 bU B w v x):∃(a:Option Addr) (n c:Nat),v= .slice a n c/\n<=c/\c<=9223372036854775807/\Hid (x.length=n)/\∀W0,O0 w W0->Hid (∀W,O0 W0 W->aS 1 bU B W (.slice a n c) x):=by obtain⟨a,c,rfl,g1,h1⟩:=h.shape;exact⟨a,_,c,rfl,g1,h1,rfl,fun W0 ho W hW=>h.keep bU.keep (Kp.dV (ho.same hW))⟩
theorem tY{v:Value}{x:List dM}(h:aS 2 dO B w v x):∃(a:Option Addr) (n c:Nat),v= .slice a n c/\n<=c/\c<=9223372036854775807/\Hid (x.length=n)/\∀W0,O0 w W0->Hid (∀W,O0 W0 W->aS 2 dO B W (.slice a n c) x):=by obtain⟨a,c,rfl,g1,h1⟩:=h.shape;exact⟨a,_,c,rfl,g1,h1,rfl,fun W0 ho W hW=>h.keep dO.keep (Kp.dV (ho.same hW))⟩
theorem JI{v:Value}{x:List jm}(h:aS 2 l9 B w v x):∃(a:Option Addr) (n c:Nat),v= .slice a n c/\n<=c/\c<=9223372036854775807/\Hid (x.length=n)/\∀W0,O0 w W0->Hid (∀W,O0 W0 W->aS 2 l9 B W (.slice a n c) x):=by obtain⟨a,c,rfl,g1,h1⟩:=h.shape;exact⟨a,_,c,rfl,g1,h1,rfl,fun W0 ho W hW=>h.keep l9.keep (Kp.dV (ho.same hW))⟩
theorem LW(w:World)(v0 v1:Value)(t0:TypeId):∃W0,W0=(w.alloc (.cells #[v0,v1] t0))/\Hid (O0 w W0)/\Hid (W0.heap.size=w.heap.size+1)/\Hid (∀W,O0 W0 W->W.cell? ⟨w.heap.size,0,none⟩=some v0/\W.cell? ⟨w.heap.size,1,none⟩=some v1):=by obtain⟨W0,hW0⟩:=zB (w.alloc (.cells #[v0,v1] t0));refine⟨W0,hW0,by rw[hW0];exact zr.alloc _,by rw[hW0];simp[Hid],fun W ho=>?_⟩;have b0:W0.heap[w.heap.size]? =some (.cells #[v0,v1] t0):=zBf;have d0:=aA b0 ho (fun f=>f);exact⟨by rw[aj d0];rfl,by rw[aj d0];rfl⟩
theorem G9(w:World)(v0 v1 v2:Value)(t0 t1:TypeId):∃W0,W0=((w.alloc (.cells #[v0,v1] t0)).alloc (.cells #[v2] t1))/\Hid (O0 w W0)/\Hid (W0.heap.size=w.heap.size+2)/\Hid (∀W,O0 W0 W->W.cell? ⟨w.heap.size,0,none⟩=some v0/\W.cell? ⟨w.heap.size,1,none⟩=some v1/\W.cell? ⟨w.heap.size+1,0,none⟩=some v2):=by obtain⟨W0,hW0⟩:=zB ((w.alloc (.cells #[v0,v1] t0)).alloc (.cells #[v2] t1));refine⟨W0,hW0,by rw[hW0];exact(zr.alloc _).alloc _,by rw[hW0];simp[Hid],fun W ho=>?_⟩;have b0:W0.heap[w.heap.size]? =some (.cells #[v0,v1] t0):=zBG;have d0:=aA b0 ho (fun f=>f);have b1:W0.heap[w.heap.size+1]? =some (.cells #[v2] t1):=zCo;have d1:=aA b1 ho (fun f=>f);exact⟨by rw[aj d0];rfl,by rw[aj d0];rfl,by rw[aj d1];rfl⟩
theorem ac9(w:World)(v0 v1 v2 v3 v4:Value)(t0 t1:TypeId):∃W0,W0=((w.alloc (.cells #[v0,v1] t0)).alloc (.cells #[v2,v3,v4] t1))/\Hid (O0 w W0)/\Hid (W0.heap.size=w.heap.size+2)/\Hid (∀W,O0 W0 W->W.cell? ⟨w.heap.size,0,none⟩=some v0/\W.cell? ⟨w.heap.size,1,none⟩=some v1/\W.cell? ⟨w.heap.size+1,0,none⟩=some v2/\W.cell? ⟨w.heap.size+1,1,none⟩=some v3/\W.cell? ⟨w.heap.size+1,2,none⟩=some v4):=by obtain⟨W0,hW0⟩:=zB ((w.alloc (.cells #[v0,v1] t0)).alloc (.cells #[v2,v3,v4] t1));refine⟨W0,hW0,by rw[hW0];exact(zr.alloc _).alloc _,by rw[hW0];simp[Hid],fun W ho=>?_⟩;have b0:W0.heap[w.heap.size]? =some (.cells #[v0,v1] t0):=zBG;have d0:=aA b0 ho (fun f=>f);have b1:W0.heap[w.heap.size+1]? =some (.cells #[v2,v3,v4] t1):=zCo;have d1:=aA b1 ho (fun f=>f);exact⟨by rw[aj d0];rfl,by rw[aj d0];rfl,by rw[aj d1];rfl,by rw[aj d1];rfl,by rw[aj d1];rfl⟩
theorem ada(w:World)(v0 v1 v2 v3 v4 v5 v6 v7 v8 v9:Value)(t0 t1:TypeId):∃W0,W0=((w.alloc (.cells #[v0,v1] t0)).alloc (.cells #[v2,v3,v4,v5,v6,v7,v8,v9] t1))/\Hid (O0 w W0)/\Hid (W0.heap.size=w.heap.size+2)/\Hid (∀W,O0 W0 W->W.cell? ⟨w.heap.size,0,none⟩=some v0/\W.cell? ⟨w.heap.size,1,none⟩=some v1/\W.cell? ⟨w.heap.size+1,0,none⟩=some v2/\W.cell? ⟨w.heap.size+1,1,none⟩=some v3/\W.cell? ⟨w.heap.size+1,2,none⟩=some v4/\W.cell? ⟨w.heap.size+1,3,none⟩=some v5/\W.cell? ⟨w.heap.size+1,4,none⟩=some v6/\W.cell? ⟨w.heap.size+1,5,none⟩=some v7/\W.cell? ⟨w.heap.size+1,6,none⟩=some v8/\W.cell? ⟨w.heap.size+1,7,none⟩=some v9):=by obtain⟨W0,hW0⟩:=zB ((w.alloc (.cells #[v0,v1] t0)).alloc (.cells #[v2,v3,v4,v5,v6,v7,v8,v9] t1));refine⟨W0,hW0,by rw[hW0];exact(zr.alloc _).alloc _,by rw[hW0];simp[Hid],fun W ho=>?_⟩;have b0:W0.heap[w.heap.size]? =some (.cells #[v0,v1] t0):=zBG;have d0:=aA b0 ho (fun f=>f);have b1:W0.heap[w.heap.size+1]? =some (.cells #[v2,v3,v4,v5,v6,v7,v8,v9] t1):=zCo;have d1:=aA b1 ho (fun f=>f);exact⟨by rw[aj d0];rfl,by rw[aj d0];rfl,by rw[aj d1];rfl,by rw[aj d1];rfl,by rw[aj d1];rfl,by rw[aj d1];rfl,by rw[aj d1];rfl,by rw[aj d1];rfl,by rw[aj d1];rfl,by rw[aj d1];rfl⟩
theorem aiv(w:World)(v0 v1 v2 v3 v4 v5 v6 v7:Value)(t0:TypeId):∃W0,W0=(w.alloc (.cells #[v0,v1,v2,v3,v4,v5,v6,v7] t0))/\Hid (O0 w W0)/\Hid (W0.heap.size=w.heap.size+1)/\Hid (∀W,O0 W0 W->W.cell? ⟨w.heap.size,0,none⟩=some v0/\W.cell? ⟨w.heap.size,1,none⟩=some v1/\W.cell? ⟨w.heap.size,2,none⟩=some v2/\W.cell? ⟨w.heap.size,3,none⟩=some v3/\W.cell? ⟨w.heap.size,4,none⟩=some v4/\W.cell? ⟨w.heap.size,5,none⟩=some v5/\W.cell? ⟨w.heap.size,6,none⟩=some v6/\W.cell? ⟨w.heap.size,7,none⟩=some v7):=by obtain⟨W0,hW0⟩:=zB (w.alloc (.cells #[v0,v1,v2,v3,v4,v5,v6,v7] t0));refine⟨W0,hW0,by rw[hW0];exact zr.alloc _,by rw[hW0];simp[Hid],fun W ho=>?_⟩;have b0:W0.heap[w.heap.size]? =some (.cells #[v0,v1,v2,v3,v4,v5,v6,v7] t0):=zBf;have d0:=aA b0 ho (fun f=>f);exact⟨by rw[aj d0];rfl,by rw[aj d0];rfl,by rw[aj d0];rfl,by rw[aj d0];rfl,by rw[aj d0];rfl,by rw[aj d0];rfl,by rw[aj d0];rfl,by rw[aj d0];rfl⟩
end
end Go.Proofs.YtdmmebjjojimiaaGreatDoor
namespace Go.Proofs.YtdmmebjjojimiaaGreatDoor
section
variable {P:Program} {ops:Array Oper} {C:World->Prop} {Q:Act->Prop} {a:Act} {o:Oper} {rest:List Oper}
theorem MP{v:Value}(hw:Region.wanted o (yielded ops a.tmps)=true)(hv:∀w,C w->(execOp a.eval o).run P w= .ok (.value v) w)
  (h:wpQuiet P ops C Q rest (a.put o.dst v)):wpQuiet P ops C Q (o::rest) a:=
 wpQuiet_step fun K hK=>by
  rw[if_pos hw]
  refine⟨v,fun w hC=>?_,hK _ h⟩
  unfold Oper.quietAt
  rw[hv w hC]
  exact⟨rfl,rfl⟩
theorem bF{v:Value}{f:FuncId}{args:Array Value}(hw:Region.wanted o (yielded ops a.tmps)=true)(he:∀w,(execOp a.eval o).run P w= .ok (.enter f args) w)
  (hc:∀w,C w->Calls P f args w fun e w'=>e= .returned v/\C w')
  (h:wpQuiet P ops C Q rest (a.put o.dst v)):wpQuiet P ops C Q (o::rest) a:=
 wpQuiet_step fun K hK=>by
  rw[if_pos hw]
  refine⟨v,fun w hC=>?_,hK _ h⟩
  unfold Oper.quietAt
  rw[he w]
  exact⟨rfl,hc w hC⟩
theorem adb(hw:Region.wanted o (yielded ops a.tmps)=false)(h:wpQuiet P ops C Q rest (a.put o.dst undef)):wpQuiet P ops C Q (o::rest) a:=
 wpQuiet_step fun K hK=>by rw[if_neg (by rw[hw];exact Bool.false_ne_true)];exact hK _ h
theorem aU{id:Nat}{Q:Exit->Act->World->Prop}{a:Act}{w:World}{l:List Oper}(C:World->Prop)(hm:P.follows .mixedOrders=true)(hB:Region.lexB .any l.toArray=true)(hC:C w.drew)
  (h:wpQuiet P l.toArray C (fun a'=> ∀w',C w'->Q .normal a' w') l a):(Code.region id l.toArray true).wp P Q a w:=
 wp_region_quiet (C:=C) hm hB hC (by simpa using h)
end
end Go.Proofs.YtdmmebjjojimiaaGreatDoor
namespace Go.Proofs
theorem zCO{p:Prop}(h:p:=by assumption):p:=h
end Go.Proofs
namespace Go.Proofs.YtdmmebjjojimiaaGreatDoor
open Go.RowKit
section
variable {P:Program} {ops:Array Oper} {Q:Exit->Act->World->Prop} {md:Region.Mode} {S:World->Prop} {E:Nat->Bool}
theorem tW(i:Nat){oi:Oper}{v:Value}{fuel:Nat}{listed L2:Array Bool}{a a2:Act}{w:World}(h:iT P md ops Q S E fuel L2 a2 w)(hi:ops[i]? =some oi:=by exact rfl)
  (hS:kX ops E listed=true\/S w:=by exact .inr zCO) (hw:Region.wanted oi (yielded ops a.tmps)=true:=by rfl) (hs:Region.noSelect ops=true:=by kernel_rfl) (hf:Region.free md ops listed i=true:=by kernel_rfl) (hr:(Region.ready md ops listed).contains i=true:=by kernel_rfl) (hEi:E i=false:=by exact rfl)
  (hy:∀w,(execOp a.eval oi).run P w= .ok (.value v) w:=by(intro w;go_simp<;>(try with_reducible rfl)))
  (eL:listed.setIfInBounds i true=L2:=by first| (simp only[List.getElem_toArray,List.getElem_cons_succ,List.getElem_cons_zero,List.setIfInBounds_toArray,List.set_cons_zero,List.set_cons_succ];rfl)|rfl) (eA:a.put oi.dst v=a2:=by first| (simp only[Act.put,fA,fD,fB,dW,dX,dY];rfl)|rfl)
  (hQ:∀c a w,Q (.panic c) (a.put oi.dst v) w->Q (.panic c) a w:=by exact fun _ _ _ h=>h):iT P md ops Q S E (fuel+1) listed a w:=
 Iu hi hs hf hr hEi hQ hS hw hy (by rw[eL,eA];exact h)
theorem tK(i:Nat){oi:Oper}{v:Value}{fuel:Nat}{listed L2:Array Bool}{a a2:Act}{w:World}(h:iT P md ops Q S E fuel L2 a2 w)(hi:ops[i]? =some oi:=by exact rfl)
  (hS:S w:=by assumption) (hw:Region.wanted oi (yielded ops a.tmps)=true:=by rfl) (hs:Region.noSelect ops=true:=by kernel_rfl) (hf:Region.free md ops listed i=true:=by kernel_rfl) (hr:(Region.ready md ops listed).contains i=true:=by kernel_rfl) (hEi:E i=false:=by exact rfl) (hE:Bz ops md E i=true:=by kernel_rfl) (hD:kX ops E listed=false:=by kernel_rfl)
  (hy:∀w,S w->(execOp a.eval oi).run P w= .ok (.value v) w:=by(intro w hSw;(try dsimp only at hSw);go_simp<;>(try with_reducible rfl)))
  (eL:listed.setIfInBounds i true=L2:=by first| (simp only[List.getElem_toArray,List.getElem_cons_succ,List.getElem_cons_zero,List.setIfInBounds_toArray,List.set_cons_zero,List.set_cons_succ];rfl)|rfl) (eA:a.put oi.dst v=a2:=by first| (simp only[Act.put,fA,fD,fB,dW,dX,dY];rfl)|rfl)
  (hQ:∀c a w,Q (.panic c) (a.put oi.dst v) w->Q (.panic c) a w:=by exact fun _ _ _ h=>h):iT P md ops Q S E (fuel+1) listed a w:=
 KU hi hs hf hr hEi hE hD hQ hS hw hy (by rw[eL,eA];exact h)
theorem tS(i:Nat){oi:Oper}{fuel:Nat}{listed L2:Array Bool}{a a2:Act}{w:World}(h:iT P md ops Q S E fuel L2 a2 w)(hi:ops[i]? =some oi:=by exact rfl)
  (hS:kX ops E listed=true\/S w:=by exact .inr zCO) (hw:Region.wanted oi (yielded ops a.tmps)=false:=by rfl) (hs:Region.noSelect ops=true:=by kernel_rfl) (hf:Region.free md ops listed i=true:=by kernel_rfl) (hr:(Region.ready md ops listed).contains i=true:=by kernel_rfl) (hEi:E i=false:=by exact rfl)
  (eL:listed.setIfInBounds i true=L2:=by first| (simp only[List.getElem_toArray,List.getElem_cons_succ,List.getElem_cons_zero,List.setIfInBounds_toArray,List.set_cons_zero,List.set_cons_succ];rfl)|rfl) (eA:a.put oi.dst undef=a2:=by first| (simp only[Act.put,fA,fD,fB,dW,dX,dY];rfl)|rfl)
  (hQ:∀c a w,Q (.panic c) (a.put oi.dst undef) w->Q (.panic c) a w:=by exact fun _ _ _ h=>h):iT P md ops Q S E (fuel+1) listed a w:=
 VJ hi hs hf hr hEi hQ hS hw (by rw[eL,eA];exact h)
theorem tO(i:Nat){oi:Oper}{fuel:Nat}{listed:Array Bool}{a:Act}{w:World}
  (h:∀K':Act->World->Prop,Shut (∀a w,S w->(S w->iT P md ops Q S E fuel (listed.setIfInBounds i true) a w)->K' a w)->if Region.wanted oi (yielded ops a.tmps)=true then Oper.wp P oi a w K' Q else K' (a.put oi.dst undef) w)
  (hi:ops[i]? =some oi:=by exact rfl) (hr:Region.ready md ops listed=[i]:=by kernel_rfl):iT P md ops Q S E (fuel+1) listed a w:=
 dN hr (by simp) (bI.cons hi h bI.nil)
end
section
variable {P:Program} {ops:Array Oper} {C:World->Prop} {Q:Act->Prop} {a:Act} {o:Oper} {rest:List Oper}
theorem qV{v:Value}{a2:Act}(h:wpQuiet P ops C Q rest a2)(hw:Region.wanted o (yielded ops a.tmps)=true:=by rfl)
  (hy:∀w,C w->(execOp a.eval o).run P w= .ok (.value v) w:=by(intro w hSw;(try dsimp only at hSw);go_simp<;>(try with_reducible rfl)))
  (eA:a.put o.dst v=a2:=by first| (simp only[Act.put,fA,fD,fB,dW,dX,dY];rfl)|rfl):wpQuiet P ops C Q (o::rest) a:=
 MP hw hy (by rw[eA];exact h)
theorem qS{a2:Act}(h:wpQuiet P ops C Q rest a2)(hw:Region.wanted o (yielded ops a.tmps)=false:=by kernel_rfl)
  (eA:a.put o.dst undef=a2:=by first| (simp only[Act.put,fA,fD,fB,dW,dX,dY];rfl)|rfl):wpQuiet P ops C Q (o::rest) a:=
 adb hw (by rw[eA];exact h)
end
end Go.Proofs.YtdmmebjjojimiaaGreatDoor
namespace Go.Proofs.YtdmmebjjojimiaaGreatDoor
section
variable {P:Program} {ops:Array Oper} {C:World->Prop} {Q:Act->Prop} {a:Act} {o:Oper} {rest:List Oper}
theorem oz{ty:TypeId}{x:Operand}{b off:Nat}{cs:List Value}{d:TypeDesc}{w:World}(ho:o.op= .load ty x)(hx:a.eval x= .pointer (some ⟨b,off,none⟩))(hc:w.rangeAt b off cs)(hu:P.underlying ty=some d)(hd:d.isRow=true)(hi:(P.info? ty).map (·.size)=some cs.length):(execOp a.eval o).run P w= .ok (.value (.agg cs.toArray)) w:=by unfold execOp;simp only[ho,hx,Instr.loadAt,Instr.sureAddr,Sem.run_bind,Sem.run_pure,Result.andThen_ok,run_loadVar_mid w b off ty cs d hc hu hd hi]
theorem bM{ty:TypeId}{x:Operand}{b off:Nat}{cs:List Value}{d:TypeDesc}(hw:Region.wanted o (yielded ops a.tmps)=true)(ho:o.op= .load ty x)(hx:a.eval x= .pointer (some ⟨b,off,none⟩))(hc:∀w,C w->w.rangeAt b off cs)
  (hu:P.underlying ty=some d) (hd:d.isRow=true) (hi:(P.info? ty).map (·.size)=some cs.length) (h:wpQuiet P ops C Q rest (a.put o.dst (.agg cs.toArray))):wpQuiet P ops C Q (o::rest) a:=
 MP hw (fun w hC=>oz ho hx (hc w hC) hu hd hi) h
end
end Go.Proofs.YtdmmebjjojimiaaGreatDoor
namespace Go.Proofs.YtdmmebjjojimiaaGreatDoor
open Go.RowKit
end Go.Proofs.YtdmmebjjojimiaaGreatDoor
namespace Go.Proofs
open Go.Shelf
def Tryz.EJ:Go.Shelf.Ren:=⟨fun |122=>235|215=>315|n=>n,fun |3=>3|4=>4|n=>n,fun |n=>n⟩
theorem Tryz.TM:Go.Proofs.Lays.n122 Tryz.prog Tryz.EJ:={
 mixed:=by kernel_rfl
 f122:=Tryz.func235.trans (congrArg some zk)
 f215:=Tryz.func315.trans (congrArg some zk)
 t3:=Tryz.underlying3
 a3:=Tryz.isAgg3
 z3:=Tryz.sizeOf3
 v3:=Tryz.zeroValue3
 t4:=Tryz.underlying4
 a4:=Tryz.isAgg4
 z4:=Tryz.sizeOf4
 v4:=Tryz.zeroValue4}
open Go.RowKit in
theorem Tryz.cmp_Compare_int(x y:Int)(w:World):Calls Tryz.prog 235 #[.int .i64 x,.int .i64 y] w fun e w'=>e= .returned (.int .i64 (Lib.compareInt x y))/\w'=w:=Any.cmp_Compare_int Tryz.TM x y w
def Tryz.Qo:Go.Shelf.Ren:=⟨fun |15=>83|n=>n,fun |22=>78|3=>3|4=>4|n=>n,fun |n=>n⟩
theorem Tryz.laysNm215:Go.Proofs.Lays2.n15 Tryz.prog Tryz.Qo:={
 mixed:=by kernel_rfl
 f15:=Tryz.func83.trans (congrArg some zk)
 t3:=Tryz.underlying3
 a3:=Tryz.isAgg3
 z3:=Tryz.sizeOf3
 v3:=Tryz.zeroValue3
 t4:=Tryz.underlying4
 a4:=Tryz.isAgg4
 z4:=Tryz.sizeOf4
 v4:=Tryz.zeroValue4
 t22:=Tryz.underlying78
 a22:=Tryz.isAgg78
 z22:=Tryz.sizeOf78
 v22:=Tryz.zeroValue78
 i3:=by kernel_rfl}
open Go.RowKit Go.Lib in
theorem Tryz.slices_Clone_int(b off n c:Nat)(zs:List Int)(w:World)(hz:n<=zs.length)(hbig:n*8<=140737488355328)(hc:∀j,j<zs.length->w.cell? ⟨b,off+j,none⟩=some (.int .i64 (zs.getD j 0))):Calls Tryz.prog 83 #[.slice (some ⟨b,off,none⟩) n c] w fun e w'=> ∃v',e= .returned v'/\w'.ownsRow w.heap.size 3 1 v' n ((zs.take n).map (Value.int .i64))/\v'≠ .slice none 0 0/\Below w.heap.size w w':=Any.slices_Clone_int Tryz.laysNm215 b off n c zs w hz hbig hc
open Go.RowKit Go.Lib in
theorem Tryz.slices_Clone_int_nil(n c:Nat)(w:World):Calls Tryz.prog 83 #[.slice none n c] w fun e w'=>e= .returned (.slice none 0 0)/\w'=w:=Any.slices_Clone_int_nil Tryz.laysNm215 n c w
open Go.RowKit Go.Lib in
theorem Tryz.slices_Clone_int_zero(a:Addr)(c:Nat)(w:World):Calls Tryz.prog 83 #[.slice (some a) 0 c] w fun e w'=> ∃v',e= .returned v'/\w'.ownsRow w.heap.size 3 1 v' 0 []/\v'≠ .slice none 0 0/\Below w.heap.size w w':=Any.slices_Clone_int_zero Tryz.laysNm215 a c w
def Tryz.keysA_ren:Go.Shelf.Ren:=⟨fun |7=>150|10=>218|n=>n,fun |23=>211|26=>3|3=>3|28=>214|0=>0|27=>213|33=>64|4=>4|n=>n,fun |n=>n⟩
theorem Tryz.keysA:Go.Proofs.SlLaysZI.n7 Tryz.prog Tryz.keysA_ren:={
 mixed:=by kernel_rfl
 f7:=⟨Tryz.f150.name,by decide,Tryz.func150.trans (congrArg some zk)⟩
 f10:=⟨Tryz.f218.name,by decide,Tryz.func218.trans (congrArg some zk)⟩
 t0:=Tryz.underlying0
 a0:=Tryz.isAgg0
 z0:=Tryz.sizeOf0
 v0:=Tryz.zeroValue0
 t4:=Tryz.underlying4
 a4:=Tryz.isAgg4
 z4:=Tryz.sizeOf4
 v4:=Tryz.zeroValue4
 t23:=Tryz.underlying211
 a23:=Tryz.isAgg211
 z23:=Tryz.sizeOf211
 v23:=Tryz.zeroValue211
 t26:=Tryz.underlying3
 a26:=Tryz.isAgg3
 z26:=Tryz.sizeOf3
 v26:=Tryz.zeroValue3
 t27:=Tryz.underlying213
 a27:=Tryz.isAgg213
 z27:=Tryz.sizeOf213
 v27:=Tryz.zeroValue213
 t28:=Tryz.underlying214
 a28:=Tryz.isAgg214
 z28:=Tryz.sizeOf214
 v28:=Tryz.zeroValue214
 t33:=Tryz.underlying64
 a33:=Tryz.isAgg64
 z33:=Tryz.sizeOf64
 v33:=Tryz.zeroValue64}
def Tryz.sortedA_ren:Go.Shelf.Ren:=⟨fun |6=>149|8=>216|9=>217|11=>294|13=>174|12=>295|23=>252|24=>253|14=>346|15=>347|16=>348|17=>349|18=>350|19=>351|20=>352|21=>353|22=>354|25=>379|26=>318|27=>319|28=>380|29=>381|30=>315|31=>406|n=>n,fun |26=>3|28=>214|24=>78|0=>0|3=>3|37=>239|48=>288|50=>290|4=>4|40=>281|39=>280|45=>285|5=>5|9=>9|51=>332|55=>336|57=>369|58=>264|33=>64|n=>n,fun |n=>n⟩
theorem Tryz.sortedA:Go.Proofs.SlLaysZI.n6 Tryz.prog Tryz.sortedA_ren:={
 mixed:=by kernel_rfl
 f6:=⟨Tryz.f149.name,by decide,Tryz.func149.trans (congrArg some zk)⟩
 f8:=⟨Tryz.f216.name,by decide,Tryz.func216.trans (congrArg some zk)⟩
 f11:=⟨Tryz.f294.name,by decide,Tryz.func294.trans (congrArg some zk)⟩
 t0:=Tryz.underlying0
 a0:=Tryz.isAgg0
 z0:=Tryz.sizeOf0
 v0:=Tryz.zeroValue0
 t24:=Tryz.underlying78
 a24:=Tryz.isAgg78
 z24:=Tryz.sizeOf78
 v24:=Tryz.zeroValue78
 t26:=Tryz.underlying3
 a26:=Tryz.isAgg3
 z26:=Tryz.sizeOf3
 v26:=Tryz.zeroValue3
 t28:=Tryz.underlying214
 a28:=Tryz.isAgg214
 z28:=Tryz.sizeOf214
 v28:=Tryz.zeroValue214
 i26:=by kernel_rfl}
def Tryz.aaX:Go.Shelf.Ren:=⟨fun |5=>217|8=>174|7=>295|19=>252|20=>253|10=>346|11=>347|12=>348|13=>349|14=>350|15=>351|16=>352|17=>353|18=>354|30=>379|31=>318|32=>319|33=>380|34=>381|35=>315|40=>406|n=>n,fun |23=>78|25=>3|3=>3|32=>239|22=>78|0=>0|44=>288|46=>290|4=>4|36=>281|35=>280|41=>285|5=>5|9=>9|53=>332|57=>336|63=>369|64=>264|n=>n,fun |n=>n⟩
theorem Tryz.sortA:Go.Proofs.SlLaysM.n5 Tryz.prog Tryz.aaX:={
 mixed:=by kernel_rfl
 f5:=⟨Tryz.f217.name,by decide,Tryz.func217.trans (congrArg some zk)⟩
 f7:=⟨Tryz.f295.name,by decide,Tryz.func295.trans (congrArg some zk)⟩
 f8:=Tryz.func174.trans (congrArg some zk)
 f10:=⟨Tryz.f346.name,by decide,Tryz.func346.trans (congrArg some zk)⟩
 f11:=⟨Tryz.f347.name,by decide,Tryz.func347.trans (congrArg some zk)⟩
 f12:=⟨Tryz.f348.name,by decide,Tryz.func348.trans (congrArg some zk)⟩
 f13:=⟨Tryz.f349.name,by decide,Tryz.func349.trans (congrArg some zk)⟩
 f14:=⟨Tryz.f350.name,by decide,Tryz.func350.trans (congrArg some zk)⟩
 f15:=⟨Tryz.f351.name,by decide,Tryz.func351.trans (congrArg some zk)⟩
 f16:=⟨Tryz.f352.name,by decide,Tryz.func352.trans (congrArg some zk)⟩
 f17:=⟨Tryz.f353.name,by decide,Tryz.func353.trans (congrArg some zk)⟩
 f18:=⟨Tryz.f354.name,by decide,Tryz.func354.trans (congrArg some zk)⟩
 f19:=Tryz.func252.trans (congrArg some zk)
 f20:=Tryz.func253.trans (congrArg some zk)
 f30:=⟨Tryz.f379.name,by decide,Tryz.func379.trans (congrArg some zk)⟩
 f31:=Tryz.func318.trans (congrArg some zk)
 f32:=Tryz.func319.trans (congrArg some zk)
 f33:=⟨Tryz.f380.name,by decide,Tryz.func380.trans (congrArg some zk)⟩
 f34:=⟨Tryz.f381.name,by decide,Tryz.func381.trans (congrArg some zk)⟩
 f35:=⟨Tryz.f315.name,by decide,Tryz.func315.trans (congrArg some zk)⟩
 f40:=⟨Tryz.f406.name,by decide,Tryz.func406.trans (congrArg some zk)⟩
 t0:=Tryz.underlying0
 a0:=Tryz.isAgg0
 z0:=Tryz.sizeOf0
 v0:=Tryz.zeroValue0
 t3:=Tryz.underlying3
 a3:=Tryz.isAgg3
 z3:=Tryz.sizeOf3
 v3:=Tryz.zeroValue3
 t4:=Tryz.underlying4
 a4:=Tryz.isAgg4
 z4:=Tryz.sizeOf4
 v4:=Tryz.zeroValue4
 t5:=Tryz.underlying5
 a5:=Tryz.isAgg5
 z5:=Tryz.sizeOf5
 v5:=Tryz.zeroValue5
 t9:=Tryz.underlying9
 a9:=Tryz.isAgg9
 z9:=Tryz.sizeOf9
 v9:=Tryz.zeroValue9
 t22:=Tryz.underlying78
 a22:=Tryz.isAgg78
 z22:=Tryz.sizeOf78
 v22:=Tryz.zeroValue78
 t23:=Tryz.underlying78
 a23:=Tryz.isAgg78
 z23:=Tryz.sizeOf78
 v23:=Tryz.zeroValue78
 t25:=Tryz.underlying3
 a25:=Tryz.isAgg3
 z25:=Tryz.sizeOf3
 v25:=Tryz.zeroValue3
 t32:=Tryz.underlying239
 a32:=Tryz.isAgg239
 z32:=Tryz.sizeOf239
 v32:=Tryz.zeroValue239
 t35:=Tryz.underlying280
 a35:=Tryz.isAgg280
 z35:=Tryz.sizeOf280
 v35:=Tryz.zeroValue280
 t36:=Tryz.underlying281
 a36:=Tryz.isAgg281
 z36:=Tryz.sizeOf281
 v36:=Tryz.zeroValue281
 t41:=Tryz.underlying285
 a41:=Tryz.isAgg285
 z41:=Tryz.sizeOf285
 v41:=Tryz.zeroValue285
 t44:=Tryz.underlying288
 a44:=Tryz.isAgg288
 z44:=Tryz.sizeOf288
 v44:=Tryz.zeroValue288
 t46:=Tryz.underlying290
 a46:=Tryz.isAgg290
 z46:=Tryz.sizeOf290
 v46:=Tryz.zeroValue290
 t53:=Tryz.underlying332
 a53:=Tryz.isAgg332
 z53:=Tryz.sizeOf332
 v53:=Tryz.zeroValue332
 t57:=Tryz.underlying336
 a57:=Tryz.isAgg336
 z57:=Tryz.sizeOf336
 v57:=Tryz.zeroValue336
 t63:=Tryz.underlying369
 a63:=Tryz.isAgg369
 z63:=Tryz.sizeOf369
 v63:=Tryz.zeroValue369
 t64:=Tryz.underlying264
 a64:=Tryz.isAgg264
 z64:=Tryz.sizeOf264
 v64:=Tryz.zeroValue264}
end Go.Proofs
namespace Go.Proofs.YtdmmebjjojimiaaGreatDoor
open Go.RowKit Go.Lib Go.Sort Go.Shelf
theorem Rn{F:Nat->Prop}{w w':World}(h:Only F w w')(os:Array Obj):Only F w (grow w' os):=
 h.trans (G:=fun _=>False) ⟨rfl,rfl,rfl,by simp[grow],fun k hk _=>by
  show(w'.heap++os)[k]? =_
  rw[Array.getElem?_append_left hk]⟩ (fun _ f=>f.elim)
theorem Nq{F:Nat->Prop}{w w':World}(h:Only F w w')(n:Nat):Only F w (Sort.ahead w' n):=⟨h.os,h.tape,h.output,h.size,h.block⟩
theorem Yg{w:World}{v:Value}{xs:List Int}(hI:Ints w v xs)(hb:xs.length<=17592186043904):Calls Tryz.prog 83 #[v] w fun e w'=> ∃v',e= .returned v'/\w'.ownsRow 0 3 1 v' xs.length (xs.map cI)/\(∀k,v'.ownBlock=some k->w.heap.size<=k)/\O0 w w':=by
 obtain⟨ao,cap,rfl,hl,hm⟩:=hI.shape;have fin:∀(n:Nat) (zs:List Value) (e:Ending) (w':World),(∃v',e= .returned v'/\w'.ownsRow w.heap.size 3 1 v' n zs/\v'≠ .slice none 0 0/\Below w.heap.size w w')->∃v',e= .returned v'/\w'.ownsRow 0 3 1 v' n zs/\(∀k,v'.ownBlock=some k->w.heap.size<=k)/\O0 w w':=by
  rintro n zs e w' ⟨v',he,ho,_,hbel⟩;refine⟨v',he,⟨ho.1,?_⟩,fun k hk=>(ho.lt k hk).1,(Only.of_below hbel).trans' ?_⟩
  ·rcases ho.2 with h| ⟨g,c,cur,h1,h2,h3⟩;·exact .inl h
   exact .inr ⟨g,c,cur,h1,qE _,h3⟩
  intro i hi;exact hi
 by_cases h0:xs.length=0
 ·have hx:xs=[]:=yF h0;subst hx;cases ao with
  |none=>exact(Tryz.slices_Clone_int_nil 0 cap w).mono fun e w' ⟨he,hw⟩=>⟨_,he,by rw[hw];exact World.ownsRow_nil _ _ _ _,fun k hk=>by simp[Value.ownBlock]at hk,by rw[hw];exact Only.refl _ _⟩
  |some a=>exact(Tryz.slices_Clone_int_zero a cap w).mono fun e w' h=>fin 0 [] e w' h
 obtain⟨b,off,rfl,hbb,hc⟩:=hI.cells _ _ _ rfl zAA;refine(Tryz.slices_Clone_int b off xs.length cap xs w (qH _) zAA hc).mono fun e w' h=>?_;rw[qI (qH _)]at h;exact fin _ _ e w' h
theorem aaY{w:World}{v:Value}{xs:List Int}(hI:Ints w v xs)(hb:xs.length<=1099511627776):Calls Tryz.prog 83 #[v] w fun e w'=> ∃v',e= .returned v'/\w'.ownsRow 0 3 1 v' xs.length (xs.map cI)/\(∀k,v'.ownBlock=some k->w.heap.size<=k)/\O0 w w':=Yg hI zAA
namespace ZY
end ZY
namespace ZY
end ZY
namespace ZY
end ZY
end Go.Proofs.YtdmmebjjojimiaaGreatDoor
namespace Go.Proofs.YtdmmebjjojimiaaGreatDoor
open Go.RowKit
namespace Rup
end Rup
def Tryz.Yh:Go.Shelf.Ren:=⟨fun |107=>152|108=>219|n=>n,fun |28=>78|3=>3|4=>4|0=>0|n=>n,fun |n=>n⟩
theorem Tryz.ade:Go.Proofs.Lays.n107 Tryz.prog Tryz.Yh:={
 mixed:=by kernel_rfl
 f107:=Tryz.func152.trans (congrArg some zk)
 f108:=Tryz.func219.trans (congrArg some zk)
 t0:=Tryz.underlying0
 a0:=Tryz.isAgg0
 z0:=Tryz.sizeOf0
 v0:=Tryz.zeroValue0
 t3:=Tryz.underlying3
 a3:=Tryz.isAgg3
 z3:=Tryz.sizeOf3
 v3:=Tryz.zeroValue3
 t4:=Tryz.underlying4
 a4:=Tryz.isAgg4
 z4:=Tryz.sizeOf4
 v4:=Tryz.zeroValue4
 t28:=Tryz.underlying78
 a28:=Tryz.isAgg78
 z28:=Tryz.sizeOf78
 v28:=Tryz.zeroValue78}
theorem Tryz.slices_Contains_int(b off n c:Nat)(zs:List Int)(x:Int)(w:World)(hz:n<=zs.length)(hbig:n<=9223372036854775807)(hc:∀j,j<zs.length->w.cell? ⟨b,off+j,none⟩=some (.int .i64 (zs.getD j 0))):Calls Tryz.prog 152 #[.slice (some ⟨b,off,none⟩) n c,.int .i64 x] w fun e w'=>e= .returned (.bool ((zs.take n).contains x))/\w'=w:=Any.slices_Contains_int Tryz.ade b off n c zs x w hz hbig hc
theorem Tryz.slices_Contains_int_empty(a:Option Addr)(c:Nat)(x:Int)(w:World):Calls Tryz.prog 152 #[.slice a 0 c,.int .i64 x] w fun e w'=>e= .returned (.bool false)/\w'=w:=Any.slices_Contains_int_empty Tryz.ade a c x w
abbrev At:=Int×Int×Int×Int
attribute [local go_sem ↓] Go.wp_at_zero Go.wp_at_succ
section
variable {w:World} {b:Nat}
def hA(j:Nat):At:=(9,j,0,0)
end
section
variable {w w':World} {B:Nat}
theorem aS.xC{α:Type}{n:Nat}{C:Nat->World->List Value->α->Prop}{e:TypeId}{v:Value}{xs:List α}{cs:List Value}(h:w.ownsRow 0 e n v xs.length cs)(hx:∀i (hi:i<xs.length),∃c,c.length=n/\(∀j u,c[j]? =some u->cs[i*n+j]? =some u)/\C w.heap.size w c xs[i]):aS n C w.heap.size w v xs:=by obtain⟨ao,cap,rfl,h1,h2⟩:=bg h;unfold maxLen at h2;refine⟨⟨ao,cap,rfl,h1,by omega⟩,fun ao' len' cap' hv hp=>?_,fun len' cap' hv=>by rw[hv]at h;exact ZV h⟩;simp only[qU]at hv;obtain⟨rfl,rfl,rfl⟩:=hv;obtain⟨g,cap',he,_,_⟩:=gQ h hp;simp only[qU]at he;obtain⟨rfl,-,rfl⟩:=he;refine⟨g,0,rfl,pq h rfl,qH _,fun i hi=>?_⟩;obtain⟨c,g1,g2,g3⟩:=hx i hi;refine⟨c,g1,fun j u hu=>?_,g3⟩;have:=g2 j u hu;rw[Nat.zero_add];have h2:=h.cells (g:=g) rfl _ _ this;rw[Go.WideShapes.add_plain,Nat.zero_add]at h2;exact h2
theorem Nr{P:Program}{ops:Array Oper}{o:Oper}{a:Act}{K:Act->World->Prop}{Q:Exit->Act->World->Prop}{E:Prop}{tt e:TypeId}{size bytes:Nat}(T:Gu P tt e size bytes)
  (hgd:o.guard=none) (s x:Operand)
  (ho:o.op= .call {callee:=.builtin .append,args:= #[s,x],argTypes:= #[tt,tt]})
  {v:Value} {n:Nat} {xs:List Value} {ao:Option Addr} {m c:Nat} {news:List Value} (hs:a.eval s=v) (hown:w.ownsRow 0 e size v n xs) (hx:a.eval x= .slice ao m c) (hl:news.length=m*size) (hnone:ao=none->m=0/\c=0)
  (hnews:∀ad,ao=some ad->∀j u,news[j]? =some u->w.cell? (ad.add j)=some u) (h1:∀u∈news,u.oneCell'=true)
  (h63:n+m<=1099511627776) (hbytes:bytes<=128)
  (hK:∀ao' cap w',w'.ownsRow 0 e size (.slice ao' (n+m) cap) (n+m) (xs++news)->Only (fun k=>v.ownBlock=some k) w w'->TL w v (.slice ao' (n+m) cap)->K (a.put o.dst (.slice ao' (n+m) cap)) w'):
  if Region.wanted o (yielded ops a.tmps)=true then Oper.wp P o a w K Q else E:=by
 rw[if_pos (by simp[Region.wanted,hgd])]
 cases ao with
 |none=>
  obtain⟨rfl,rfl⟩:=hnone rfl
  have hn:news=[]:=yF (by simpa using hl)
  subst hn
  obtain⟨i,z,h2,h3,h4,h5,h6⟩:=T.info
  have hr:=run_append_owned_none (P:=P) w 0 tt o.type e i size T.und h2 v n xs hown
  obtain⟨ao',cap',rfl,_,_⟩:=bg hown
  unfold Oper.wp execOp
  simp only[ho,resolve,invoke,builtin,Sem.run_bind,Sem.run_pure,Result.andThen_ok,List.map_toArray,List.map_cons,List.map_nil,hs,hx,hr]
  exact hK ao' cap' w (by simpa using hown) zr (fun k hk=>.inl hk)
 |some ad=>
  have hmul:(n+m)*bytes<=1099511627776*128:=Nat.mul_le_mul h63 hbytes
  obtain⟨v',w',hr,r1,r2,r3,-⟩:=uK (P:=P) (ty:=o.type) w T v n xs hown ad m c news hl (hnews ad rfl) h1 zCn zAA
  unfold Oper.wp execOp
  simp only[ho,resolve,invoke,builtin,Sem.run_bind,Sem.run_pure,Result.andThen_ok,List.map_toArray,List.map_cons,List.map_nil,hs,hx,hr]
  obtain⟨ao',cap',rfl,_,_⟩:=bg r1
  exact hK ao' cap' w' r1 ((Only.refl _ w).grown r2 fun k hk=>.inl hk) r3
end
end Go.Proofs.YtdmmebjjojimiaaGreatDoor
namespace Go.Proofs.YtdmmebjjojimiaaGreatDoor
namespace ZY
end ZY
namespace ZY
end ZY
end Go.Proofs.YtdmmebjjojimiaaGreatDoor
namespace Go.Proofs.YtdmmebjjojimiaaGreatDoor
open Go.RowKit
namespace ZY
end ZY
namespace ZY
end ZY
end Go.Proofs.YtdmmebjjojimiaaGreatDoor
