/- Atoms1 Atoms2 Atoms3 Atoms4, in one text.; A table: is it full? -/
import Derived.Test.YtdmmebjjojimiaaGreatDoorG03
import Derived.Test.YtdmmebjjojimiaaGreatDoorG05
import Derived.Deep.DrawnRows
import Derived.Shelf.Slices.Empties2
set_option maxRecDepth 100000
set_option maxHeartbeats 8000000
set_option linter.all false
namespace Go.Proofs
theorem zAW{p:Prop}(h:p:=by assumption):p:=h
theorem zAf{p:Prop}(h:p:=by rw[aj H.blk];rfl):p:=h
theorem zBC{p:Prop}(h:p:=by rw[aj H1.blk];rfl):p:=h
theorem zBL{p:Prop}(h:p:=by kernel_rfl):p:=h
theorem zBa{p:Prop}(h:p:=by unfold Mine;rw[H.tb];decide):p:=h
theorem zB5{p:Prop}(h:p:=by(intro w hSw;(try dsimp only at hSw);go_simp<;>(try with_reducible rfl))):p:=h
theorem zEy{p:Prop}(h:p:=by
 intro y hy
 rw[he]at hy
 obtain⟨j,hj,rfl⟩:=Fa hy
 exact Qc (hl _ (qZ hj))):p:=h
end Go.Proofs
namespace Go.Proofs.YtdmmebjjojimiaaGreatDoor
open Go.RowKit
abbrev At:=Int×Int×Int×Int
def iY(x:At):Value:=.agg #[.int .u8 x.1,.int .i64 x.2.1,.int .i64 x.2.2.1,.int .i64 x.2.2.2]
structure nK (x:At):Prop where
 k:0<=x.1/\x.1<=255
 a:bg x.2.1
 b:bg x.2.2.1
 c:bg x.2.2.2
theorem Tv{x y:At}(h:iY x=iY y):x=y:=by obtain⟨a,b,c,d⟩:=x;obtain⟨a',b',c',d'⟩:=y;unfold iY at h;simp at h;obtain⟨rfl,rfl,rfl,rfl⟩:=h;rfl
theorem OE:Tryz.prog.cellsOf 89=4:=by kernel_rfl
theorem abM:Tryz.prog.cellsOf 3=1:=by kernel_rfl
theorem afe:Tryz.prog.cellsOf 5=1:=by kernel_rfl
theorem abN:laidOutB Tryz.prog=true:=by kernel_rfl
theorem abO:(match Tryz.prog.underlying 89 with|some (.array _ _)|some (.struct _)=>true|_=>false)=true:=by rw[Tryz.underlying89]
theorem Yv:(89:TypeId)<Tryz.prog.types.size:=of_decide_eq_true zk
theorem abP:Tryz.prog.keyTypeAt 2 89=true:=by kernel_rfl
theorem ahA:WideMaps.KeyLaw Tryz.prog 89:=deep_law_laid abN (m:=2) zAD Yv abP abO
theorem EY:Maps.Keyed Tryz.prog 89:=Maps.Keyed.of_law ahA
theorem Tz:Tryz.prog.keyType 89=true:=by kernel_rfl
theorem Ws(x:At):(iY x).formed Tryz.prog 89=true:=by simp[iY,Value.formed,Tryz.underlying89,OE]
theorem Qc{x:At}(h:nK x):∃l,keyOf Tryz.prog 89 (iY x)=some l:=by
 have hp:∃m,Tryz.prog.types.size+1=m+2:=by have h0:(89:Nat)<Tryz.prog.types.size:=Yv;generalize Tryz.prog.types.size=n at*;exact⟨n-1,by omega⟩
 obtain⟨m,hm⟩:=hp;have w0:(Lit.int .u8 x.1).wf=true:=WalkArith.wf_u8 (by have:=h.k;omega);have w1:(Lit.int .i64 x.2.1).wf=true:=WalkArith.wf_i64 (by have:=h.a;unfold bg at this;omega);have w2:(Lit.int .i64 x.2.2.1).wf=true:=WalkArith.wf_i64 (by have:=h.b;unfold bg at this;omega);have w3:(Lit.int .i64 x.2.2.2).wf=true:=WalkArith.wf_i64 (by have:=h.c;unfold bg at this;omega);unfold keyOf;rw[Tryz.underlying89];simp only[Tz,Ws,Bool.and_self,if_true,hm];simp[iY,Program.keyLits,Value.cells,Tryz.underlying89,Tryz.underlying5,Tryz.underlying3,OE,abM,afe,w0,w1,w2,w3]
def cellsA(x:At):List Value:=[.int .u8 x.1,.int .i64 x.2.1,.int .i64 x.2.2.1,.int .i64 x.2.2.2]
def jS:Nat->List At->List MapEntry
 |_,[]=>[]
 |i,x::r=>⟨iY x,.int .i64 ((i:Int)+1),i⟩::jS (i+1) r
theorem qg:∀(l:List At) (i:Nat),(jS i l).length=l.length
 | [],_=>rfl
 |_::r,i=>by simp[jS,qg r (i+1)]
theorem qh:∀(l:List At) (i j:Nat) (h:j<l.length),(jS i l)[j]? =some ⟨iY l[j],.int .i64 (((i+j:Nat):Int)+1),i+j⟩
 | [],_,_,h=>by simp at h
 |x::r,i,0,_=>by simp[jS]
 |x::r,i,j+1,h=>by
  simp only[jS,List.getElem?_cons_succ]
  rw[qh r (i+1) j (by simpa using h)]
  simp only[List.getElem_cons_succ]
  rw[show i+1+j=i+(j+1) by omega]
theorem EZ:∀(l m:List At) (i:Nat),jS i (l++m)=jS i l++jS (i+l.length) m
 | [],m,i=>by simp[jS]
 |x::r,m,i=>by simp only[List.cons_append,jS,EZ r m (i+1),qN];rw[show i+1+r.length=i+(r.length+1) by omega]
theorem Fa{l:List At}{i:Nat}{y:MapEntry}(h:y∈jS i l):∃j,∃hj:j<l.length,y=⟨iY l[j],.int .i64 (((i+j:Nat):Int)+1),i+j⟩:=by obtain⟨j,hj,he⟩:=List.getElem_of_mem h;rw[qg]at hj;have:=qh l i j hj;rw[qA (by rw[qg];exact hj)]at this;exact⟨j,hj,by rw[<-he];exact Option.some.inj this⟩
def numOf(l:List At)(x:At):Nat:=if x∈l then l.idxOf x+1 else 0
def Dq(w:World)(bm:Nat)(l:List At):Prop:= ∃es:Array MapEntry,w.heap[bm]? =some (.map es l.length)/\es.toList=jS 0 l
theorem aff{w:World}{bm:Nat}{l:List At}(hm:Dq w bm l)(hl:∀x∈l,nK x)(hnd:l.Nodup){x:At}(hx:nK x):(Instr.lookup 207 (.map (some bm)) (iY x) false).run Tryz.prog w= .ok (.int .i64 (numOf l x:Int)) w:=by
 obtain⟨es,hb,he⟩:=hm;obtain⟨lx,hkx⟩:=Qc hx;have hks:∀y∈es.toList,∃l,keyOf Tryz.prog 89 y.key=some l:=by exact zEy
 have hz:(zeroValue 3).run Tryz.prog w= .ok (.int .i64 0) w:=zBL;rcases EY.find w hkx es.toList hks with⟨h1,h2⟩| ⟨j,y,h1,h2,h3⟩
 ·have hn:x∉l:=by intro hxl;obtain⟨j,hj,rfl⟩:=List.getElem_of_mem hxl;have hg:=qh l 0 j hj;exact h2 _ (by rw[he];exact qT hg) rfl
  simp[Instr.lookup,run_underlying Tryz.underlying207,MapKept.run_getObj_map hb,EY.check w _ hkx,h1,hz,Result.andThen,numOf,hn]
 rw[he]at h2;obtain⟨hj0,_⟩:=qJ.1 h2;rw[qg]at hj0;rw[qh l 0 j hj0]at h2;have hy:=Option.some.inj h2;subst hy;have hxe:=Tv h3;have hmem:x∈l:=by rw[<-hxe];exact qZ hj0
 have hid:l.idxOf x=j:=by rw[<-hxe];exact List.Nodup.idxOf_getElem hnd j hj0
 simp[Instr.lookup,run_underlying Tryz.underlying207,MapKept.run_getObj_map hb,EY.check w _ hkx,h1,Result.andThen,numOf,hmem,hid]
theorem abQ{w:World}{bm:Nat}{l:List At}(hm:Dq w bm l)(hl:∀x∈l,nK x){x:At}(hx:nK x)(hn:x∉l)(z:Int)(hz:z=(l.length:Int)+1):∃w',(Instr.mapUpdate 207 (.map (some bm)) (iY x) (.int .i64 z)).run Tryz.prog w= .ok () w'/\Dq w' bm (l++[x])/\Only (fun k=>k=bm) w w':=by
 subst hz;obtain⟨es,hb,he⟩:=hm;obtain⟨lx,hkx⟩:=Qc hx;have hks:∀y∈es.toList,∃l,keyOf Tryz.prog 89 y.key=some l:=by exact zEy
 rcases EY.find w hkx es.toList hks with⟨h1,h2⟩| ⟨j,y,h1,h2,h3⟩
 ·refine⟨{w with heap:=w.heap.setIfInBounds bm (.map (es.push ⟨iY x,.int .i64 ((l.length:Int)+1),l.length⟩) (l.length+1))},?_,⟨es.push ⟨iY x,.int .i64 ((l.length:Int)+1),l.length⟩,?_,?_⟩,⟨rfl,rfl,rfl,by simp,fun k hk hne=>?_⟩⟩;·simp[Instr.mapUpdate,run_underlying Tryz.underlying207,MapKept.run_getObj_map hb,EY.check w _ hkx,h1,MapKept.run_setObj_map _ hb,Result.andThen]
  ·simp[Array.getElem?_setIfInBounds,(yA.1 hb).1]
  ·simp[he,EZ,jS]
  simp only[Array.getElem?_setIfInBounds];rw[if_neg (fun h=>hne h.symm)]
 exfalso;rw[he]at h2;obtain⟨hj0,_⟩:=qJ.1 h2;rw[qg]at hj0;rw[qh l 0 j hj0]at h2;have hy:=Option.some.inj h2;subst hy;have hxe:=Tv h3;exact hn (by rw[<-hxe];exact qZ hj0)
structure Tab where
 l:List At
 limit:Nat
 helps:Nat
 full:Bool
structure ZG where
 bm:Nat
 vl:Value
structure TabAt (w:World) (g:Tag) (b:Nat) (V:ZG) (T:Tab):Prop where
 blk:w.heap[b]? =some (.cells #[.map (some V.bm),V.vl,.int .i64 T.limit,.int .i64 T.helps,.bool T.full] 210 (0,0))
 tb:g b=(21,0)
 map:Dq w V.bm T.l
 tm:g V.bm=(22,0)
 l:pK w g (23,0) 89 4 V.vl T.l.length (T.l.flatMap cellsA)
 ok:∀x∈T.l,nK x
 nod:T.l.Nodup
 lim:T.limit<=65536
 hlp:T.helps<=1000000
 len:T.l.length<=T.limit
 fresh:rM w g
def lN(w:World)(g:Tag)(b:Nat)(T:Tab)(w':World):Prop:= ∃g' V',TabAt w' g' b V' T/\Agree w g g'/\Only (Mine g) w w'
theorem Dq.only{w w':World}{bm:Nat}{l:List At}(h:Dq w bm l){F:Nat->Prop}(ho:Only F w w')(hF:¬F bm):Dq w' bm l:=by obtain⟨es,h1,h2⟩:=h;exact⟨es,aC h1 ho hF,h2⟩
section
variable {w:World} {g:Tag} {b:Nat} {V:ZG} {T:Tab}
theorem TabAt.only(H:TabAt w g b V T){F:Nat->Prop}{w':World}(ho:Only F w w')(hF:∀k,(g k).1≠0->¬F k):TabAt w' g b V T:=
 ⟨aC H.blk ho (hF b (by rw[H.tb];simp)),H.tb,H.map.only ho (hF _ (by rw[H.tm];simp)),H.tm,H.l.only ho (fun k hk=>hF k (by rw[hk];simp)),H.ok,H.nod,H.lim,H.hlp,H.len,H.fresh.more ho.size⟩
theorem TabAt.aH(H:TabAt w g b V T){w':World}(ho:O0 w w'):TabAt w' g b V T:=H.only ho (fun _ _ f=>f)
theorem uf(H:TabAt w g b V T){x:At}(hx:nK x)(r:Int)(hr:(numOf T.l x:Int)=r):Calls Tryz.prog 67 #[.pointer (some ⟨b,0,none⟩),iY x] w fun e w'=>e= .returned (.int .i64 r)/\O0 w w':=by
 subst hr;have q0:w.cell? ⟨b,0,none⟩=some (.map (some V.bm)):=zAf;have hlt:=bU H.blk;have hlook:∀n,(Instr.lookup 207 (.map (some V.bm)) (.agg #[.int .u8 x.1,.int .i64 x.2.1,.int .i64 x.2.2.1,.int .i64 x.2.2.2]) false).run Tryz.prog ((w.alloc (.cells #[.int .u8 x.1,.int .i64 x.2.1,.int .i64 x.2.2.1,.int .i64 x.2.2.2] 89)).drewN n)= .ok (.int .i64 (numOf T.l x:Int)) ((w.alloc (.cells #[.int .u8 x.1,.int .i64 x.2.1,.int .i64 x.2.2.1,.int .i64 x.2.2.2] 89)).drewN n):=fun n=>
  aff ((H.aH (((Only.refl _ w).alloc _).drewN n)).map) H.ok H.nod hx
 unfold iY;obtain⟨k,a,b',c⟩:=x;simp only at hlook⊢;generalize (numOf T.l (k,a,b',c):Int)=r at*;go_enter Tryz.func67,Tryz.ntmps67;go_wp2_with fail;go_quiet (fail);go_wp2_with fail;go_ret;exact⟨rfl,((Only.refl _ w).alloc _).drewN _⟩
end
attribute [local go_sem ↓] Go.wp_at_zero Go.wp_at_succ
theorem ahB:Az Tryz.prog 208 89 4 32:=Az.mk' (z:=.agg #[.int .u8 0,.int .i64 0,.int .i64 0,.int .i64 0]) Tryz.underlying208 zk rfl zAD
def Tab.num(T:Tab)(x:At):Tab×Int:=
 if x∈T.l then (T,(numOf T.l x:Int))else if T.limit<=T.l.length then ({T with full:=true},0)else ({T with l:=T.l++[x]},(T.l.length:Int)+1)
section
variable {w:World} {g:Tag} {b:Nat} {V:ZG} {T:Tab}
theorem lN.refl(H:TabAt w g b V T):lN w g b T w:=⟨g,V,H,Agree.refl _ _,Only.refl _ _⟩
theorem lN.after{w1 w2:World}(o1:O0 w w1){T2:Tab}(h:lN w1 g b T2 w2):lN w g b T2 w2:=by obtain⟨g2,V2,H2,A2,O2⟩:=h;exact⟨g2,V2,H2,fun k hk=>A2 k (Nat.lt_of_lt_of_le hk o1.size),(o1.mono (G:=Mine g) fun _ f=>f.elim).mine (Agree.refl _ _) O2⟩
theorem vW{l:List At}{x:At}:numOf l x=0↔x∉l:=by
 unfold numOf;split;·rename_i h;simp[h]
 rename_i h;simp[h]
theorem Wv(H:TabAt w g b V T){x:At}(hx:nK x)(hm:x∈T.l):Calls Tryz.prog 151 #[.pointer (some ⟨b,0,none⟩),iY x] w fun e w'=>e= .returned (.int .i64 (numOf T.l x:Int))/\lN w g b T w':=by
 have GI:O0 w (w.alloc (.cells #[.int .u8 x.1,.int .i64 x.2.1,.int .i64 x.2.2.1,.int .i64 x.2.2.2] 89)):=zr.alloc _;have hl:=uf (H.aH GI) hx _ rfl;unfold iY at*;have hpos:0<(numOf T.l x:Int):=by have:numOf T.l x≠0:=fun h=>(vW.1 h) hm;omega
 have HL:=zh hl;have hto:∀w',O0 (w.alloc (.cells #[.int .u8 x.1,.int .i64 x.2.1,.int .i64 x.2.2.1,.int .i64 x.2.2.2] 89)) w'->lN w g b T w':=fun w' h=>lN.after (GI.same h) (lN.refl (H.aH (GI.same h)));have HTo:=zh hto;clear hl hto GI;generalize (numOf T.l x:Int)=r at*;have d1:decide (0<r)=true:=qX hpos;go_enter Tryz.func151,Tryz.ntmps151;go_wp2_with fail;refine HL.out.mono ?_;rintro e w' ⟨rfl,O1⟩;have hfin:=HTo.out _ O1;clear O1 HTo;go_wp2_with fail;go_ret;exact⟨rfl,hfin⟩
theorem TabAt.Qb(H:TabAt w g b V T):lN w g b {T with full:=true} (w.setCell ⟨b,4,none⟩ (.bool true)):=by have hF:∀{t:Nat×Nat},t≠(21,0)->g b≠t:=fun{t} h e=>h (e.symm.trans H.tb);have ho:Only (fun k=>k=b) w (w.setCell ⟨b,4,none⟩ (.bool true)):=Only.setCell (Only.refl (fun k=>k=b) w) (p:=⟨b,4,none⟩) (.inl rfl) _;refine⟨g,V,⟨?_,H.tb,H.map.only ho (fun e=>by have:=H.tm;rw[e,H.tb]at this;simp at this),H.tm,H.l.far (hF zAD) _,H.ok,H.nod,H.lim,H.hlp,H.len,H.fresh.more ho.size⟩,Agree.refl _ _,(Only.refl _ w).setCell (.inl zBa) _⟩;rw[mQ H.blk];rfl
theorem TA(H:TabAt w g b V T){x:At}(hx:nK x)(hm:x∉T.l)(hf:T.limit<=T.l.length):Calls Tryz.prog 151 #[.pointer (some ⟨b,0,none⟩),iY x] w fun e w'=>e= .returned (.int .i64 0)/\lN w g b {T with full:=true} w':=by have GI:O0 w (w.alloc (.cells #[.int .u8 x.1,.int .i64 x.2.1,.int .i64 x.2.2.1,.int .i64 x.2.2.2] 89)):=zr.alloc _;have hl:=uf (H.aH GI) hx 0 (by rw[vW.2 hm];rfl);unfold iY at*;have HL:=zh hl;have iZ:=zh GI;clear hl GI;have hlen:=H.len;have hlim:=H.lim;go_enter Tryz.func151,Tryz.ntmps151;go_wp2_with fail;refine HL.out.mono ?_;rintro e w1 ⟨rfl,O1⟩;have TD:=iZ.out.same O1;have H1:=H.aH TD;have q1:w1.cell? ⟨b,1,none⟩=some V.vl:=zBC;have q2:w1.cell? ⟨b,2,none⟩=some (.int .i64 T.limit):=zBC;have q4:w1.cell? ⟨b,4,none⟩=some (.bool T.full):=zBC;have f4:=jW H1.blk 4;obtain⟨al,cl,hvl,_,_⟩:=aJ H1.l.own;rw[hvl]at q1;have d1:decide ((T.l.length:Int)>=(T.limit:Int))=true:=qX zAB;have d2:decide (T.limit<=T.l.length)=true:=qX hf;have hfin:∀n,lN w g b {T with full:=true} ((w1.setCell ⟨b,4,none⟩ (.bool true)).drewN n):=fun n=>lN.after (TD.drewN n) ((H1.aH (zr.drewN n)).Qb);have HFin:=zh hfin;have sd:∀(W:World) n a v,(W.drewN n).setCell a v=(W.setCell a v).drewN n:=fun _ _ _ _=>rfl;clear O1 hfin;go_wp2_with fail;go_quiet (fail);go_wp2_with fail;go_ret;exact⟨rfl,HFin.out _⟩
theorem TabAt.mid(H:TabAt w g b V T){w5:World}(O:Only (fun k=>g k=(23,0)) w w5)(v':Value):(w5.setCell ⟨b,1,none⟩ v').heap[b]? =some (.cells #[.map (some V.bm),v',.int .i64 T.limit,.int .i64 T.helps,.bool T.full] 210 (0,0))/\Dq (w5.setCell ⟨b,1,none⟩ v') V.bm T.l:=by
 refine⟨?_,?_⟩;·rw[mQ (aC H.blk O (by rw[H.tb];simp))];rfl
 refine(H.map.only O (by rw[H.tm];simp)).only (F:=fun k=>k=b) (Only.setCell (Only.refl (fun k=>k=b) w5) (p:=⟨b,1,none⟩) (.inl rfl) _) (fun e=>?_);have:=H.tm;rw[e,H.tb]at this;simp at this
theorem TabAt.grow(H:TabAt w g b V T){x:At}(hx:nK x)(hm:x∉T.l)(hf:T.l.length<T.limit){w5 w6:World}{lo:Nat}{v':Value}(O:Only (fun k=>g k=(23,0)) w w5)(hlo:w.heap.size<=lo)(R:pK w5 (Tag.put g lo w5.heap.size (23,0)) (23,0) 89 4 v' (T.l.length+1) (T.l.flatMap cellsA++cellsA x))(M:Dq w6 V.bm (T.l++[x]))(O6:Only (fun k=>k=V.bm) (w5.setCell ⟨b,1,none⟩ v').drew w6):lN w g b {T with l:=T.l++[x]} w6:=by
 obtain⟨h1,h2⟩:=H.mid O v';have hb:=bU H.blk;have hbm:V.bm<w.heap.size:=by obtain⟨es,h,_⟩:=H.map;exact bU h
 have hgb:Tag.put g lo w5.heap.size (23,0) b=(21,0):=by rw[Tag.wX _ _ zAB];exact H.tb
 have hgm:Tag.put g lo w5.heap.size (23,0) V.bm=(22,0):=by rw[Tag.wX _ _ zAB];exact H.tm
 have hs6:w5.heap.size<=w6.heap.size:=by have:=O6.size;simpa using this
 refine⟨Tag.put g lo w5.heap.size (23,0),⟨V.bm,v'⟩,⟨?_,hgb,M,hgm,?_,?_,?_,H.lim,H.hlp,by simp;omega,?_⟩,Agree.put _ _ hlo,?_⟩;·refine aC (F:=fun k=>k=V.bm) (w:=(w5.setCell ⟨b,1,none⟩ v').drew) h1 O6 (fun e=>?_);rw[e,hgm]at hgb;simp at hgb
 ·have:=((R.far (p:=⟨b,1,none⟩) (by rw[hgb];simp) v').drew).only O6 (fun k hk e=>by rw[e,hgm]at hk;simp at hk);simpa[List.flatMap_append]using this
 ·intro y hy;rcases qW.1 hy with h|h;·exact H.ok y h
  rw[yJ.1 h];exact hx
 ·refine List.nodup_append.2 ⟨H.nod,by simp,fun a ha c hc e=>?_⟩;rw[yJ.1 hc]at e;exact hm (e▸ha)
 ·exact(H.fresh.put _ O.size).more hs6
 have o1:Only (Mine g) w (w5.setCell ⟨b,1,none⟩ v').drew:=((O.mono (G:=Mine g) fun k hk=>by unfold Mine;rw[hk];decide).setCell (.inl zBa) _).drew;exact o1.same (O6.mono fun k hk=>by subst hk;unfold Mine;rw[H.tm];decide)
theorem Wx(H:TabAt w g b V T){x:At}(hx:nK x)(hm:x∉T.l)(hf:T.l.length<T.limit):Calls Tryz.prog 151 #[.pointer (some ⟨b,0,none⟩),iY x] w fun e w'=>e= .returned (.int .i64 ((T.l.length:Int)+1))/\lN w g b {T with l:=T.l++[x]} w':=by
 have GI:O0 w (w.alloc (.cells #[.int .u8 x.1,.int .i64 x.2.1,.int .i64 x.2.2.1,.int .i64 x.2.2.2] 89)):=zr.alloc _;have hl:=uf (H.aH GI) hx 0 (by rw[vW.2 hm];rfl);have hbx:∀i,(w.alloc (.cells #[.int .u8 x.1,.int .i64 x.2.1,.int .i64 x.2.2.1,.int .i64 x.2.2.2] 89)).cell? ⟨w.heap.size,i,none⟩=(#[.int .u8 x.1,.int .i64 x.2.1,.int .i64 x.2.2.1,.int .i64 x.2.2.2]:Array Value)[i]? :=fun i=>aj (qL w _) i;unfold iY at*;have HL:=zh hl;have iZ:=zh GI;have HBx:=zh hbx;have TF:=zh hm;have HX:=zh hx;clear hl GI hbx hm hx;have hlen:=H.len;have hlim:=H.lim;obtain⟨xk,xa,xb,xc⟩:=x;simp only at HL iZ HBx⊢;go_enter Tryz.func151,Tryz.ntmps151;go_wp2_with fail;generalize hW0:w.alloc (.cells #[.int .u8 xk,.int .i64 xa,.int .i64 xb,.int .i64 xc] 89)=w0 at*;generalize hBB:w.heap.size=B at*;refine HL.out.mono ?_;rintro e w1 ⟨rfl,O1⟩;have TD:=iZ.out.same O1;have H1:=H.aH TD;have q1:w1.cell? ⟨b,1,none⟩=some V.vl:=zBC;have q2:w1.cell? ⟨b,2,none⟩=some (.int .i64 T.limit):=zBC;have f1:=jW H1.blk 1;have x0:w1.cell? ⟨B,0,none⟩=some (.int .u8 xk):=aY (HBx.out 0) O1 (fun f=>f);have x1:w1.cell? ⟨B,1,none⟩=some (.int .i64 xa):=aY (HBx.out 1) O1 (fun f=>f);have x2:w1.cell? ⟨B,2,none⟩=some (.int .i64 xb):=aY (HBx.out 2) O1 (fun f=>f);have x3:w1.cell? ⟨B,3,none⟩=some (.int .i64 xc):=aY (HBx.out 3) O1 (fun f=>f);have hgB:(g B).1=0:=by rw[<-hBB];exact H.fresh _ (qH _)
 have hlr:=H1.l;obtain⟨al,cl,hvl,_,_⟩:=aJ H1.l.own;rw[hvl]at q1 hlr;have d2:decide (T.limit<=T.l.length)=false:=qP zAB;clear hW0 hBB HL;go_wp2_with fail;go_quiet (fail);go_wp2_with fail;have akF:=hlr.drewN nq;have aod:=TD.drewN nq;have q1':(w1.drewN nq).cell? ⟨b,1,none⟩=some (.slice al T.l.length cl):=q1;have f1':(w1.drewN nq).frozen? ⟨b,1,none⟩=false:=f1;have x0':(w1.drewN nq).cell? ⟨B,0,none⟩=some (.int .u8 xk):=x0;have x1':(w1.drewN nq).cell? ⟨B,1,none⟩=some (.int .i64 xa):=x1;have x2':(w1.drewN nq).cell? ⟨B,2,none⟩=some (.int .i64 xb):=x2;have x3':(w1.drewN nq).cell? ⟨B,3,none⟩=some (.int .i64 xc):=x3;have H1':=H1.aH ((Only.refl (fun _=>False) w1).drewN nq);clear q1 f1 x0 x1 x2 x3 H1 q2 hlr;generalize hW1:w1.drewN nq=w2 at*;have hS5:∀o w5,Only (fun k=>g k=(23,0)) (w2.alloc o).drew w5->w5.cell? ⟨b,1,none⟩=some (.slice al T.l.length cl)/\w5.frozen? ⟨b,1,none⟩=false/\w5.cell? ⟨B,0,none⟩=some (.int .u8 xk)/\w5.cell? ⟨B,1,none⟩=some (.int .i64 xa)/\w5.cell? ⟨B,2,none⟩=some (.int .i64 xb)/\w5.cell? ⟨B,3,none⟩=some (.int .i64 xc):=by
  intro o w5 h;have hx5:Only (fun k=>g k=(23,0)) w2 w5:=Only.same (((Only.refl _ w2).alloc o).drew) h;have hb1:¬g b=(23,0):=by rw[H1'.tb];simp
  have hb2:¬g B=(23,0):=by intro e;rw[e]at hgB;simp at hgB
  exact⟨aY q1' hx5 hb1,rY q1' f1' hx5 hb1,aY x0' hx5 hb2,aY x1' hx5 hb2,aY x2' hx5 hb2,aY x3' hx5 hb2⟩
 have GK:=zh hS5;clear hS5;have hfz:∀o,(w2.alloc o).frozen? ⟨b,1,none⟩=false:=fun o=>rY q1' f1' ((Only.refl (fun _=>False) w2).alloc o) (fun f=>f);refine Af (n:=10) (S:=fun w'=>w'.cell? ⟨b,1,none⟩=some (.slice al T.l.length cl)/\w'.frozen? ⟨b,1,none⟩=false/\w'.cell? ⟨B,0,none⟩=some (.int .u8 xk)/\w'.cell? ⟨B,1,none⟩=some (.int .i64 xa)/\w'.cell? ⟨B,2,none⟩=some (.int .i64 xb)/\w'.cell? ⟨B,3,none⟩=some (.int .i64 xc)) zk rfl zk ⟨q1',f1',x0',x1',x2',x3'⟩ (fun hHeld=>?_);refine wpAnyH_take (i:=0) (v:=?_) rfl zk zk zk (fun _ _ _ h=>h) (Or.inl ⟨by rfl,?_⟩) zAW ?_;rotate_left;·exact zB5
 try simp only[Act.put,eF,fA,eG,dW,dX,dY]
 refine wpAnyH_take (i:=1) (v:=?_) rfl zk zk zk (fun _ _ _ h=>h) (Or.inl ⟨by rfl,?_⟩) zAW ?_;rotate_left;·exact zB5
 try simp only[Act.put,eF,fA,eG,dW,dX,dY]
 refine wpAnyH_take (i:=2) (v:=?_) rfl zk zk zk (fun _ _ _ h=>h) (Or.inl ⟨by rfl,?_⟩) zAW ?_;rotate_left;·exact zB5
 try simp only[Act.put,eF,fA,eG,dW,dX,dY]
 refine wpAnyH_take (i:=3) (v:=?_) rfl zk zk zk (fun _ _ _ h=>h) (Or.inl ⟨by rfl,?_⟩) zAW ?_;rotate_left;·exact zB5
 try simp only[Act.put,eF,fA,eG,dW,dX,dY]
 refine wpAnyH_take (i:=4) (v:=?_) rfl zk zk zk (fun _ _ _ h=>h) (Or.inl ⟨by rfl,?_⟩) zAW ?_;rotate_left;·exact zB5
 try simp only[Act.put,eF,fA,eG,dW,dX,dY]
 refine wpAnyH_take (i:=5) (v:=?_) rfl zk zk zk (fun _ _ _ h=>h) (Or.inl ⟨by rfl,?_⟩) zAW ?_;rotate_left;·exact zB5
 try simp only[Act.put,eF,fA,eG,dW,dX,dY]
 refine wpAnyH_ready (rs:=[6]) zk zAF ?_;refine AllReadyH.cons (i:=6) rfl (fun K hK=>?_) ?_
 ·go_simp;refine hK.out _ _ ?_ (fun hHeld=>?_);·(try dsimp only)<;>(first| (go_keep;done)|exact GK.out _ _ Jy)
  clear hK K;try simp only[Act.put,eF,fA,eG,dW,dX,dY]
  refine wpAnyH_ready (rs:=[7]) zk zAF ?_;refine AllReadyH.cons (i:=7) rfl (fun K hK=>?_) ?_
  ·(refine pK.step (us:=cellsA (xk,xa,xb,xc)) ahB (by rfl) (.tmp 35) (.tmp 37) (by rfl) (by rfl) (by rfl) rfl (by intro j hj;match j,hj with|0,_=>simp[cellsA]|1,_=>simp[cellsA]|2,_=>simp[cellsA]|3,_=>simp[cellsA]) (by simp[cellsA,Value.oneCell']) (by repeat (first|exact akF|apply pK.drew|apply pK.alloc|apply pK.drewN)) zAB (by decide) ?_;intro bb cap w5 TG Jy);refine hK.out _ _ ?_ (fun hHeld=>?_);·(try dsimp only)<;>(first| (go_keep;done)|exact GK.out _ _ Jy)
   clear hK K;try simp only[Act.put,eF,fA,eG,dW,dX,dY]
   refine wpAnyH_take (i:=8) (v:=?_) rfl zk zk zk (fun _ _ _ h=>h) (Or.inl ⟨by rfl,?_⟩) zAW ?_;rotate_left;·exact zB5
   try simp only[Act.put,eF,fA,eG,dW,dX,dY]
   refine wpAnyH_take (i:=9) (v:=?_) rfl zk zk zk (fun _ _ _ h=>h) (Or.inl ⟨by rfl,?_⟩) zAW ?_;rotate_left;·exact zB5
   try simp only[Act.put,eF,fA,eG,dW,dX,dY]
   refine wpAnyH_done zk ?_ _;show wpList _ _ _ _ _ _;obtain⟨c1,c2,c3,c4,c5,c6⟩:=hHeld;have hO5:Only (fun k=>g k=(23,0)) w2 w5:=Only.same (((Only.refl _ w2).alloc _).drew) Jy;have hlo:w2.heap.size<=(w2.alloc (.cells #[.int .u8 xk,.int .i64 xa,.int .i64 xb,.int .i64 xc] 89)).drew.heap.size:=zAF;obtain⟨b7,m7⟩:=H1'.mid hO5 (.slice (some ⟨bb,0,none⟩) (T.l.length+1) cap);have hbB:b≠B:=by intro e;rw[<-e,H1'.tb]at hgB;simp at hgB
   have e3:=(World.cell?_setCell_far w5 ⟨b,1,none⟩ ⟨B,0,none⟩ (.slice (some ⟨bb,0,none⟩) (T.l.length+1) cap) hbB).trans c3;have e4:=(World.cell?_setCell_far w5 ⟨b,1,none⟩ ⟨B,1,none⟩ (.slice (some ⟨bb,0,none⟩) (T.l.length+1) cap) hbB).trans c4;have e5:=(World.cell?_setCell_far w5 ⟨b,1,none⟩ ⟨B,2,none⟩ (.slice (some ⟨bb,0,none⟩) (T.l.length+1) cap) hbB).trans c5;have e6:=(World.cell?_setCell_far w5 ⟨b,1,none⟩ ⟨B,3,none⟩ (.slice (some ⟨bb,0,none⟩) (T.l.length+1) cap) hbB).trans c6;have p0:(w5.setCell ⟨b,1,none⟩ (.slice (some ⟨bb,0,none⟩) (T.l.length+1) cap)).cell? ⟨b,0,none⟩=some (.map (some V.bm)):=by rw[aj b7];rfl
   have p1:(w5.setCell ⟨b,1,none⟩ (.slice (some ⟨bb,0,none⟩) (T.l.length+1) cap)).cell? ⟨b,1,none⟩=some (.slice (some ⟨bb,0,none⟩) (T.l.length+1) cap):=by rw[aj b7];rfl
   have hgrow:∀w6,Dq w6 V.bm (T.l++[(xk,xa,xb,xc)])->Only (fun k=>k=V.bm) (w5.setCell ⟨b,1,none⟩ (.slice (some ⟨bb,0,none⟩) (T.l.length+1) cap)).drew w6->lN w g b {T with l:=T.l++[(xk,xa,xb,xc)]} w6/\w6.cell? ⟨b,1,none⟩=some (.slice (some ⟨bb,0,none⟩) (T.l.length+1) cap):=fun w6 h1 h2=>⟨lN.after aod (H1'.grow HX.out TF.out hf hO5 hlo TG h1 h2),aY p1 (F:=fun k=>k=V.bm) (Only.same (zr.drew) h2) (fun e=>by have:=H1'.tm;rw[<-show b=V.bm from e,H1'.tb]at this;simp at this)⟩;have agI:=zh hgrow;have vw:=zh H1'.ok;have hq:(((w5.setCell ⟨b,1,none⟩ (.slice (some ⟨bb,0,none⟩) (T.l.length+1) cap)).drew).heap)=((w5.setCell ⟨b,1,none⟩ (.slice (some ⟨bb,0,none⟩) (T.l.length+1) cap)).heap):=rfl;have M7:=zh m7;clear hgrow TG Jy hO5 hlo b7 c3 c4 c5 c6 GK akF H1' H m7 hq;go_wp2_with fail;generalize hw3:w5.setCell ⟨b,1,none⟩ (.slice (some ⟨bb,0,none⟩) (T.l.length+1) cap)=w3 at*;refine Af (n:=10) (S:=fun w'=>w'.cell? ⟨b,0,none⟩=some (.map (some V.bm))/\w'.cell? ⟨b,1,none⟩=some (.slice (some ⟨bb,0,none⟩) (T.l.length+1) cap)/\w'.cell? ⟨B,0,none⟩=some (.int .u8 xk)/\w'.cell? ⟨B,1,none⟩=some (.int .i64 xa)/\w'.cell? ⟨B,2,none⟩=some (.int .i64 xb)/\w'.cell? ⟨B,3,none⟩=some (.int .i64 xc)) zk rfl zk ⟨p0,p1,e3,e4,e5,e6⟩ (fun hHeld=>?_);refine wpAnyH_take (i:=0) (v:=?_) rfl zk zk zk (fun _ _ _ h=>h) (Or.inl ⟨by rfl,?_⟩) zAW ?_;rotate_left;·exact zB5
   try simp only[Act.put,eF,fA,eG,dW,dX,dY]
   refine wpAnyH_take (i:=1) (v:=?_) rfl zk zk zk (fun _ _ _ h=>h) (Or.inl ⟨by rfl,?_⟩) zAW ?_;rotate_left;·exact zB5
   try simp only[Act.put,eF,fA,eG,dW,dX,dY]
   refine wpAnyH_take (i:=2) (v:=?_) rfl zk zk zk (fun _ _ _ h=>h) (Or.inl ⟨by rfl,?_⟩) zAW ?_;rotate_left;·exact zB5
   try simp only[Act.put,eF,fA,eG,dW,dX,dY]
   refine wpAnyH_take (i:=3) (v:=?_) rfl zk zk zk (fun _ _ _ h=>h) (Or.inl ⟨by rfl,?_⟩) zAW ?_;rotate_left;·exact zB5
   try simp only[Act.put,eF,fA,eG,dW,dX,dY]
   refine wpAnyH_take (i:=4) (v:=?_) rfl zk zk zk (fun _ _ _ h=>h) (Or.inl ⟨by rfl,?_⟩) zAW ?_;rotate_left;·exact zB5
   try simp only[Act.put,eF,fA,eG,dW,dX,dY]
   refine wpAnyH_take (i:=5) (v:=?_) rfl zk zk zk (fun _ _ _ h=>h) (Or.inl ⟨by rfl,?_⟩) zAW ?_;rotate_left;·exact zB5
   try simp only[Act.put,eF,fA,eG,dW,dX,dY]
   refine wpAnyH_take (i:=6) (v:=?_) rfl zk zk zk (fun _ _ _ h=>h) (Or.inl ⟨by rfl,?_⟩) zAW ?_;rotate_left;·exact zB5
   try simp only[Act.put,eF,fA,eG,dW,dX,dY]
   refine wpAnyH_take (i:=7) (v:=?_) rfl zk zk zk (fun _ _ _ h=>h) (Or.inl ⟨by rfl,?_⟩) zAW ?_;rotate_left;·exact zB5
   try simp only[Act.put,eF,fA,eG,dW,dX,dY]
   refine wpAnyH_take (i:=8) (v:=?_) rfl zk zk zk (fun _ _ _ h=>h) (Or.inl ⟨by rfl,?_⟩) zAW ?_;rotate_left;·exact zB5
   try simp only[Act.put,eF,fA,eG,dW,dX,dY]
   refine wpAnyH_take (i:=9) (v:=?_) rfl zk zk zk (fun _ _ _ h=>h) (Or.inl ⟨by rfl,?_⟩) zAW ?_;rotate_left;·exact zB5
   try simp only[Act.put,eF,fA,eG,dW,dX,dY]
   refine wpAnyH_done zk ?_ _;show wpList _ _ _ _ _ _;obtain⟨w6,hmu,hm6,ho6⟩:=abQ (w:=w3.drew) (bm:=V.bm) (l:=T.l) (by exact M7.out) vw.out HX.out TF.out ((T.l.length:Int)+1) rfl;obtain⟨hfin,z1⟩:=agI.out w6 hm6 ho6;unfold iY at hmu;simp only at hmu;clear agI M7 hm6 ho6;go_wp2_with fail;go_ret;exact⟨rfl,hfin⟩
  exact AllReadyH.nil
 exact AllReadyH.nil
theorem Kq(H:TabAt w g b V T){x:At}(hx:nK x)(r:Int)(hr:(T.num x).2=r):Calls Tryz.prog 151 #[.pointer (some ⟨b,0,none⟩),iY x] w fun e w'=>e= .returned (.int .i64 r)/\lN w g b (T.num x).1 w':=by
 subst hr;unfold Tab.num;by_cases h1:x∈T.l;·rw[if_pos h1];exact Wv H hx h1
 rw[if_neg h1];by_cases h2:T.limit<=T.l.length;·rw[if_pos h2];exact TA H hx h1 h2
 rw[if_neg h2];exact Wx H hx h1 zAB
end
theorem pK.nil(w:World)(g:Tag)(t:Nat×Nat)(e:TypeId)(size:Nat):pK w g t e size (.slice none 0 0) 0 []:=
 ⟨World.ownsRow_nil _ _ _ _,fun k hk=>by simp[Value.ownBlock]at hk⟩
def BR(bm b:Nat):Tag:=fun k=>if k=b then (21,0)else if k=bm then (22,0)else (0,0)
theorem TabAt.made(w:World)(lim:Nat)(hl:lim<=65536):TabAt ((w.alloc (.map #[] 0)).alloc (.cells #[.map (some w.heap.size),dF,.int .i64 (lim:Int),.int .i64 0,.bool false] 210)) (BR w.heap.size (w.heap.size+1)) (w.heap.size+1) ⟨w.heap.size,dF⟩ ⟨[],lim,0,false⟩/\(∀k,Mine (BR w.heap.size (w.heap.size+1)) k->w.heap.size<=k):=by
 have hs:(w.alloc (.map #[] 0)).heap.size=w.heap.size+1:=zAF;refine⟨⟨?_,by simp[BR],⟨#[],?_,rfl⟩,by simp[BR],pK.nil _ _ _ _ _,by simp,by simp,hl,by simp,by simp,?_⟩,fun k hk=>?_⟩;·have:=qL (w.alloc (.map #[] 0)) (.cells #[.map (some w.heap.size),dF,.int .i64 (lim:Int),.int .i64 0,.bool false] 210);rw[hs]at this;exact this
 ·exact cZ (qL w _) _
 ·intro k hk;simp at hk;simp only[BR];rw[if_neg zBU,if_neg zAB]
 unfold Mine BR at hk;split at hk;·omega
 split at hk;·omega
 simp at hk
def Kr(w:World)(lim:Nat)(e:Ending)(w':World):Prop:= ∃b g V,e= .returned (.pointer (some ⟨b,0,none⟩))/\TabAt w' g b V ⟨[],lim,0,false⟩/\(∀k,Mine g k->w.heap.size<=k)/\O0 w w'
theorem Kr.of(w:World)(lim:Nat)(hl:lim<=65536)(z:Int)(hz:z=lim):Kr w lim (.returned (.pointer (some ⟨w.heap.size+1,0,none⟩))) ((w.alloc (.map #[] 0)).alloc (.cells #[.map (some w.heap.size),.slice none 0 0,.int .i64 z,.int .i64 0,.bool false] 210)):=by subst hz;have hm:=TabAt.made w lim hl;exact⟨_,_,_,rfl,hm.1,hm.2,((Only.refl _ w).alloc _).alloc _⟩
theorem Qd(w:World)(n:Int)(hn:bg n)(lim:Nat)(hl:min (max n 0) 65536=(lim:Int)):Calls Tryz.prog 72 #[.int .i64 n] w (Kr w lim):=by have hmm:= @run_makeMap Tryz.prog;have hm:∀z:Int,z=lim->_:=fun z hz=>Kr.of w lim zAB z hz;have HM:=zh hm;clear hm;go_enter Tryz.func72,Tryz.ntmps72;go_wp2_with fail;all_goals (go_ret;exact HM.out _ zAB)
section
variable {w:World} {g:Tag} {b:Nat} {V:ZG} {T:Tab}
theorem Wy(H:TabAt w g b V T):Calls Tryz.prog 90 #[.pointer (some ⟨b,0,none⟩)] w fun e w'=>e= .returned (.int .i64 (T.l.length:Int))/\w'=w:=by have q1:w.cell? ⟨b,1,none⟩=some V.vl:=zAf;obtain⟨al,cl,hvl,_,_⟩:=aJ H.l.own;rw[hvl]at q1;go_enter Tryz.func90,Tryz.ntmps90;go_wp2_with fail;go_ret;exact⟨rfl,rfl⟩
theorem lN.trans{g1:Tag}{w1 w2:World}{T2:Tab}(ha:Agree w g g1)(ho:Only (Mine g) w w1)(h2:lN w1 g1 b T2 w2):lN w g b T2 w2:=by obtain⟨g2,V2,H2,A2,O2⟩:=h2;exact⟨g2,V2,H2,ha.trans A2 ho.size,ho.mine ha O2⟩
def hA(j:Nat):At:=(9,j,0,0)
theorem TabAt.abT(H:TabAt w g b V T)(k:Nat)(hk:k<=1000000):TabAt (w.setCell ⟨b,3,none⟩ (.int .i64 (k:Int))) g b V {T with helps:=k}/\Only (Mine g) w (w.setCell ⟨b,3,none⟩ (.int .i64 (k:Int))):=by have hF:∀{t:Nat×Nat},t≠(21,0)->g b≠t:=fun{t} h e=>h (e.symm.trans H.tb);have ho:Only (fun k=>k=b) w (w.setCell ⟨b,3,none⟩ (.int .i64 (k:Int))):=Only.setCell (Only.refl (fun k=>k=b) w) (p:=⟨b,3,none⟩) (.inl rfl) _;refine⟨⟨?_,H.tb,H.map.only ho (fun e=>by have:=H.tm;rw[e,H.tb]at this;simp at this),H.tm,H.l.far (hF zAD) _,H.ok,H.nod,H.lim,hk,H.len,H.fresh.more ho.size⟩,(Only.refl _ w).setCell (.inl zBa) _⟩;rw[mQ H.blk];rfl
theorem abU(H:TabAt w g b V T)(k:Nat)(h1:T.helps<=k)(h2:∀j,T.helps<=j->j<k->hA j∈T.l)(h3:hA k∉T.l)(hk:k<=1000000)(r:Int)(hr:({T with helps:=k}.num (hA k)).2=r):
  Calls Tryz.prog 359 #[.pointer (some ⟨b,0,none⟩)] w fun e w'=>e= .returned (.int .i64 r)/\lN w g b ({T with helps:=k}.num (hA k)).1 w':=by
 have q3:w.cell? ⟨b,3,none⟩=some (.int .i64 T.helps):=zAf
 have HR:=zh hr
 clear hr
 have lb:=bU H.blk
 have hstart:TabAt (w.alloc (.cells #[.int .u8 9,.int .i64 (T.helps:Int),.int .i64 0,.int .i64 0] 89)) g b V T/\(w.alloc (.cells #[.int .u8 9,.int .i64 (T.helps:Int),.int .i64 0,.int .i64 0] 89)).heap[w.heap.size]? =some (.cells (cellsA (hA T.helps)).toArray 89 (0,0))/\Only (Mine g) w (w.alloc (.cells #[.int .u8 9,.int .i64 (T.helps:Int),.int .i64 0,.int .i64 0] 89)):=
  ⟨H.aH ((Only.refl _ w).alloc _),qL w _,(Only.refl _ w).alloc _⟩
 go_enter Tryz.func359,Tryz.ntmps359
 go_wp2_with fail
 have hgB:(g w.heap.size).1=0:=H.fresh _ (qH _)
 have hbB:b≠w.heap.size:=zAB
 have hst:=hstart
 clear hstart
 generalize hBB:w.heap.size=B at*
 generalize w.alloc (.cells #[.int .u8 9,.int .i64 (T.helps:Int),.int .i64 0,.int .i64 0] 89)=w0 at*
 have HH:=zh h2
 have H3:=zh h3
 have HS:=zh hst
 clear h2 h3 hst q3
 go_loopw [] (fun wr=> ∃j:Nat,T.helps<=j/\j<=k/\TabAt wr g b V {T with helps:=j}/\wr.heap[B]? =some (.cells (cellsA (hA j)).toArray 89 (0,0))/\Only (Mine g) w wr) (fun wr=>k-(intOf ((wr.cell? ⟨b,3,none⟩).getD (.int .i64 0))).toNat)
 case atStart=>exact⟨T.helps,qH _,h1,HS.out.1,HS.out.2.1,HS.out.2.2⟩
 case round=>
  obtain⟨j,j1,j2,hT,hB,hO⟩:=hrel
  have q3:wr.cell? ⟨b,3,none⟩=some (.int .i64 (j:Int)):=by rw[aj hT.blk];rfl
  have f3:=jW hT.blk 3
  have x0:wr.cell? ⟨B,0,none⟩=some (.int .u8 9):=by rw[aj hB];rfl
  have x1:wr.cell? ⟨B,1,none⟩=some (.int .i64 (j:Int)):=by rw[aj hB];rfl
  have x2:wr.cell? ⟨B,2,none⟩=some (.int .i64 0):=by rw[aj hB];rfl
  have x3:wr.cell? ⟨B,3,none⟩=some (.int .i64 0):=by rw[aj hB];rfl
  have fB:=jW hB 1
  have hok:nK (hA j):=⟨by simp[hA],by simp[hA,bg];omega,by simp[hA,bg],by simp[hA,bg]⟩
  by_cases hjk:j=k
  ·subst hjk
   have hl:=uf hT hok 0 (by rw[vW.2 H3.out];rfl)
   have hfin:=fun w1 (o:O0 wr w1)=>Kq (hT.aH o) hok r HR.out
   unfold iY hA at hl hfin
   have HL:=zh hl
   have HF:=zh hfin
   clear hl hfin
   go_wp2_with fail
   refine HL.out.mono ?_
   rintro e w1 ⟨rfl,O1⟩
   have y0:=aY x0 O1 (fun f=>f)
   have y1:=aY x1 O1 (fun f=>f)
   have y2:=aY x2 O1 (fun f=>f)
   have y3:=aY x3 O1 (fun f=>f)
   have hF:=HF.out w1 O1
   have TD:Only (Mine g) w w1:=hO.same (O1.mono fun _ f=>f.elim)
   have HF1:=zh hF
   clear HF hF HL O1
   go_wp2_with fail
   refine HF1.out.mono ?_
   rintro e w2 ⟨rfl,hT2⟩
   have hT3:=lN.trans (Agree.refl _ _) TD hT2
   clear hT2 HF1
   go_wp2_with fail
   go_ret
   exact⟨rfl,hT3⟩
  ·have hin:hA j∈T.l:=HH.out j j1 zAB
   have hpos:0<(numOf T.l (hA j):Int):=by
    have:numOf T.l (hA j)≠0:=fun h=>(vW.1 h) hin
    omega
   have hl:=uf hT hok _ rfl
   have hl2:((numOf T.l (hA j):Nat):Int)=((numOf ({T with helps:=j}:Tab).l (hA j):Nat):Int):=rfl
   rw[<-hl2]at hl
   generalize ((numOf T.l (hA j):Nat):Int)=z at*
   unfold iY hA at hl
   have HL:=zh hl
   have d1:decide (0<z)=true:=qX hpos
   clear hl hl2
   go_wp2_with fail
   refine HL.out.mono ?_
   rintro e w1 ⟨rfl,O1⟩
   have p3:=aY q3 O1 (fun f=>f)
   have g3:=rY q3 f3 O1 (fun f=>f)
   have y1:=aY x1 O1 (fun f=>f)
   have gB:=rY x1 fB O1 (fun f=>f)
   have hb1:=aC hB O1 (fun f=>f)
   have hT1:=(hT.aH O1).abT (j+1) zAB
   have TD:Only (Mine g) w w1:=hO.same (O1.mono fun _ f=>f.elim)
   have ew:IntKind.i64.wrap ((j:Int)+1)=((j+1:Nat):Int):=by rw[IntWalk.i64_in _ zAB];rfl
   have agJ:(∃j':Nat,T.helps<=j'/\j'<=k/\TabAt ((w1.setCell ⟨b,3,none⟩ (.int .i64 ((j+1:Nat):Int))).setCell ⟨B,1,none⟩ (.int .i64 ((j+1:Nat):Int))) g b V {T with helps:=j'}/\((w1.setCell ⟨b,3,none⟩ (.int .i64 ((j+1:Nat):Int))).setCell ⟨B,1,none⟩ (.int .i64 ((j+1:Nat):Int))).heap[B]? =some (.cells (cellsA (hA j')).toArray 89 (0,0))/\Only (Mine g) w ((w1.setCell ⟨b,3,none⟩ (.int .i64 ((j+1:Nat):Int))).setCell ⟨B,1,none⟩ (.int .i64 ((j+1:Nat):Int))))/\
     ((w1.setCell ⟨b,3,none⟩ (.int .i64 ((j+1:Nat):Int))).setCell ⟨B,1,none⟩ (.int .i64 ((j+1:Nat):Int))).cell? ⟨b,3,none⟩=some (.int .i64 ((j+1:Nat):Int)):=by
    have h5:=hT1.1.only (F:=fun k=>k=B) (Only.setCell (Only.refl (fun k=>k=B) _) (p:=⟨B,1,none⟩) (.inl rfl) (.int .i64 ((j+1:Nat):Int))) (fun k hk e=>by rw[e]at hk;exact hk hgB)
    refine⟨⟨j+1,by omega,by omega,h5,?_,?_⟩,by rw[aj h5.blk];rfl⟩
    ·rw[mQ (Ag hb1 (p:=⟨b,3,none⟩) (fun e=>hbB e.symm) _)];rfl
    ·exact(TD.same hT1.2).setCell (.inr (by rw[hBB];exact qH _)) _
   have HR2:=zh agJ
   have c4:(w1.setCell ⟨b,3,none⟩ (.int .i64 ((j+1:Nat):Int))).cell? ⟨b,3,none⟩=some (.int .i64 ((j+1:Nat):Int)):=by rw[aj hT1.1.blk];rfl
   have c5:(w1.setCell ⟨b,3,none⟩ (.int .i64 ((j+1:Nat):Int))).cell? ⟨B,1,none⟩=some (.int .i64 (j:Int)):=(World.cell?_setCell_far w1 _ _ _ hbB).trans y1
   have c6:(w1.setCell ⟨b,3,none⟩ (.int .i64 ((j+1:Nat):Int))).frozen? ⟨B,1,none⟩=false:=jW (Ag hb1 (p:=⟨b,3,none⟩) (fun e=>hbB e.symm) _) 1
   clear agJ O1 hT1 hb1 hT hB hO
   go_wp2_with fail
   go_roundw
   case rel=>exact HR2.out.1
   case measure=>
    have e2:=HR2.out.2
    have ec:((j+1:Nat):Int)=(j:Int)+1:=rfl
    rw[ec]at e2
    rw[e2,q3]
    simp[intOf]
    omega
end
section
variable {w:World} {g:Tag} {b:Nat} {V:ZG} {T:Tab}
theorem UO(H:TabAt w g b V T):Calls Tryz.prog 88 #[.pointer (some ⟨b,0,none⟩)] w fun e w'=>e= .returned (.bool T.full)/\w'=w:=by have q1:w.cell? ⟨b,4,none⟩=some (.bool T.full):=zAf;go_enter Tryz.func88,Tryz.ntmps88;go_wp2_with fail;go_ret;exact⟨rfl,rfl⟩
end
def Tryz.WA:Go.Shelf.Ren:=⟨fun |107=>152|108=>219|n=>n,fun |28=>78|3=>3|4=>4|0=>0|n=>n,fun |n=>n⟩
theorem Tryz.abV:Go.Proofs.Lays.n107 Tryz.prog Tryz.WA:={
 mixed:=by kernel_rfl
 f107:=Tryz.func152.trans (congrArg some zk)
 f108:=Tryz.func219.trans (congrArg some zk)
 t0:=Tryz.underlying0
 a0:=Tryz.isAgg0
 z0:=Tryz.sizeOf0
 v0:=Tryz.zeroValue0
 t3:=Tryz.underlying3
 a3:=Tryz.isAgg3
 z3:=Tryz.sizeOf3
 v3:=Tryz.zeroValue3
 t4:=Tryz.underlying4
 a4:=Tryz.isAgg4
 z4:=Tryz.sizeOf4
 v4:=Tryz.zeroValue4
 t28:=Tryz.underlying78
 a28:=Tryz.isAgg78
 z28:=Tryz.sizeOf78
 v28:=Tryz.zeroValue78}
theorem Tryz.slices_Contains_int(b off n c:Nat)(zs:List Int)(x:Int)(w:World)(hz:n<=zs.length)(hbig:n<=9223372036854775807)(hc:∀j,j<zs.length->w.cell? ⟨b,off+j,none⟩=some (.int .i64 (zs.getD j 0))):Calls Tryz.prog 152 #[.slice (some ⟨b,off,none⟩) n c,.int .i64 x] w fun e w'=>e= .returned (.bool ((zs.take n).contains x))/\w'=w:=Any.slices_Contains_int Tryz.abV b off n c zs x w hz hbig hc
theorem Tryz.slices_Contains_int_empty(a:Option Addr)(c:Nat)(x:Int)(w:World):Calls Tryz.prog 152 #[.slice a 0 c,.int .i64 x] w fun e w'=>e= .returned (.bool false)/\w'=w:=Any.slices_Contains_int_empty Tryz.abV a c x w
end Go.Proofs.YtdmmebjjojimiaaGreatDoor
