/- Atoms1 Atoms2 Atoms3 Atoms4, in one text.; A table: is it full? -/
import Derived.Test.YtdmmebjjojimiaaGreatDoorG03
import Derived.Deep.DrawnRows
set_option maxRecDepth 100000
set_option maxHeartbeats 8000000
set_option linter.all false
namespace Go.Proofs
theorem zAN{p:Prop}(h:p:=by assumption):p:=h
theorem zAT{p:Prop}(h:p:=by rw[aj H.blk];rfl):p:=h
theorem zAs{p:Prop}(h:p:=by rw[aj H1.blk];rfl):p:=h
theorem zA0{p:Prop}(h:p:=by kernel_rfl):p:=h
theorem zA2{p:Prop}(h:p:=by rw[aj hB];rfl):p:=h
theorem zBH{p:Prop}(h:p:=by unfold Mine;rw[H.tb];decide):p:=h
theorem zBN{p:Prop}(h:p:=by simp):p:=h
theorem zBb{p:Prop}(h:p:=by(intro w hSw;(try dsimp only at hSw);go_simp<;>(try with_reducible rfl))):p:=h
theorem zBd{p:Prop}(h:p:=by
 go_wp2_with fail
 go_ret
 exact⟨rfl,rfl⟩):p:=h
theorem zDd{p:Prop}(h:p:=by
 intro y hy
 rw[he]at hy
 obtain⟨j,hj,rfl⟩:=Af hy
 exact Kq (hl _ (qZ hj))):p:=h
end Go.Proofs
namespace Go.Proofs.YtdmmebjjojimiaaGreatDoor
open Go.RowKit
abbrev At:=Int×Int×Int×Int
def fH(x:At):Value:=.agg #[.int .u8 x.1,.int .i64 x.2.1,.int .i64 x.2.2.1,.int .i64 x.2.2.2]
structure kC (x:At):Prop where
 k:0<=x.1/\x.1<=255
 a:aO x.2.1
 b:aO x.2.2.1
 c:aO x.2.2.2
theorem Nz{x y:At}(h:fH x=fH y):x=y:=by obtain⟨a,b,c,d⟩:=x;obtain⟨a',b',c',d'⟩:=y;unfold fH at h;simp at h;obtain⟨rfl,rfl,rfl,rfl⟩:=h;rfl
theorem Jc:Tryz.prog.cellsOf 89=4:=by kernel_rfl
theorem XA:Tryz.prog.cellsOf 3=1:=by kernel_rfl
theorem aaC:Tryz.prog.cellsOf 5=1:=by kernel_rfl
theorem XB:laidOutB Tryz.prog=true:=by kernel_rfl
theorem XC:(match Tryz.prog.underlying 89 with|some (.array _ _)|some (.struct _)=>true|_=>false)=true:=by rw[Tryz.underlying89]
theorem TQ:(89:TypeId)<Tryz.prog.types.size:=of_decide_eq_true zk
theorem XD:Tryz.prog.keyTypeAt 2 89=true:=by kernel_rfl
theorem ac9:WideMaps.KeyLaw Tryz.prog 89:=deep_law_laid XB (m:=2) zAC TQ XD XC
theorem Ad:Maps.Keyed Tryz.prog 89:=Maps.Keyed.of_law ac9
theorem NC:Tryz.prog.keyType 89=true:=by kernel_rfl
theorem QI(x:At):(fH x).formed Tryz.prog 89=true:=by simp[fH,Value.formed,Tryz.underlying89,Jc]
theorem Kq{x:At}(h:kC x):∃l,keyOf Tryz.prog 89 (fH x)=some l:=by
 have hp:∃m,Tryz.prog.types.size+1=m+2:=by have h0:(89:Nat)<Tryz.prog.types.size:=TQ;generalize Tryz.prog.types.size=n at*;exact⟨n-1,by omega⟩
 obtain⟨m,hm⟩:=hp;have w0:(Lit.int .u8 x.1).wf=true:=WalkArith.wf_u8 (by have:=h.k;omega);have w1:(Lit.int .i64 x.2.1).wf=true:=WalkArith.wf_i64 (by have:=h.a;unfold aO at this;omega);have w2:(Lit.int .i64 x.2.2.1).wf=true:=WalkArith.wf_i64 (by have:=h.b;unfold aO at this;omega);have w3:(Lit.int .i64 x.2.2.2).wf=true:=WalkArith.wf_i64 (by have:=h.c;unfold aO at this;omega);unfold keyOf;rw[Tryz.underlying89];simp only[NC,QI,Bool.and_self,if_true,hm];simp[fH,Program.keyLits,Value.cells,Tryz.underlying89,Tryz.underlying5,Tryz.underlying3,Jc,XA,aaC,w0,w1,w2,w3]
def cellsA(x:At):List Value:=[.int .u8 x.1,.int .i64 x.2.1,.int .i64 x.2.2.1,.int .i64 x.2.2.2]
def iL:Nat->List At->List MapEntry
 |_,[]=>[]
 |i,x::r=>⟨fH x,.int .i64 ((i:Int)+1),i⟩::iL (i+1) r
theorem lM:∀(l:List At) (i:Nat),(iL i l).length=l.length
 | [],_=>rfl
 |_::r,i=>by simp[iL,lM r (i+1)]
theorem lN:∀(l:List At) (i j:Nat) (h:j<l.length),(iL i l)[j]? =some ⟨fH l[j],.int .i64 (((i+j:Nat):Int)+1),i+j⟩
 | [],_,_,h=>by simp at h
 |x::r,i,0,_=>by simp[iL]
 |x::r,i,j+1,h=>by
  simp only[iL,List.getElem?_cons_succ]
  rw[lN r (i+1) j (by simpa using h)]
  simp only[List.getElem_cons_succ]
  rw[show i+1+j=i+(j+1) by omega]
theorem Ae:∀(l m:List At) (i:Nat),iL i (l++m)=iL i l++iL (i+l.length) m
 | [],m,i=>by simp[iL]
 |x::r,m,i=>by simp only[List.cons_append,iL,Ae r m (i+1),qN];rw[show i+1+r.length=i+(r.length+1) by omega]
theorem Af{l:List At}{i:Nat}{y:MapEntry}(h:y∈iL i l):∃j,∃hj:j<l.length,y=⟨fH l[j],.int .i64 (((i+j:Nat):Int)+1),i+j⟩:=by obtain⟨j,hj,he⟩:=List.getElem_of_mem h;rw[lM]at hj;have:=lN l i j hj;rw[qA (by rw[lM];exact hj)]at this;exact⟨j,hj,by rw[<-he];exact Option.some.inj this⟩
def numOf(l:List At)(x:At):Nat:=if x∈l then l.idxOf x+1 else 0
def xC(w:World)(bm:Nat)(l:List At):Prop:= ∃es:Array MapEntry,w.heap[bm]? =some (.map es l.length)/\es.toList=iL 0 l
theorem aaD{w:World}{bm:Nat}{l:List At}(hm:xC w bm l)(hl:∀x∈l,kC x)(hnd:l.Nodup){x:At}(hx:kC x):(Instr.lookup 207 (.map (some bm)) (fH x) false).run Tryz.prog w= .ok (.int .i64 (numOf l x:Int)) w:=by
 obtain⟨es,hb,he⟩:=hm;obtain⟨lx,hkx⟩:=Kq hx;have hks:∀y∈es.toList,∃l,keyOf Tryz.prog 89 y.key=some l:=by exact zDd
 have hz:(zeroValue 3).run Tryz.prog w= .ok (.int .i64 0) w:=zA0;rcases Ad.find w hkx es.toList hks with⟨h1,h2⟩| ⟨j,y,h1,h2,h3⟩
 ·have hn:x∉l:=by intro hxl;obtain⟨j,hj,rfl⟩:=List.getElem_of_mem hxl;have hg:=lN l 0 j hj;exact h2 _ (by rw[he];exact qT hg) rfl
  simp[Instr.lookup,run_underlying Tryz.underlying207,MapKept.run_getObj_map hb,Ad.check w _ hkx,h1,hz,Result.andThen,numOf,hn]
 rw[he]at h2;obtain⟨hj0,_⟩:=qJ.1 h2;rw[lM]at hj0;rw[lN l 0 j hj0]at h2;have hy:=Option.some.inj h2;subst hy;have hxe:=Nz h3;have hmem:x∈l:=by rw[<-hxe];exact qZ hj0
 have hid:l.idxOf x=j:=by rw[<-hxe];exact List.Nodup.idxOf_getElem hnd j hj0
 simp[Instr.lookup,run_underlying Tryz.underlying207,MapKept.run_getObj_map hb,Ad.check w _ hkx,h1,Result.andThen,numOf,hmem,hid]
theorem XE{w:World}{bm:Nat}{l:List At}(hm:xC w bm l)(hl:∀x∈l,kC x){x:At}(hx:kC x)(hn:x∉l)(z:Int)(hz:z=(l.length:Int)+1):∃w',(Instr.mapUpdate 207 (.map (some bm)) (fH x) (.int .i64 z)).run Tryz.prog w= .ok () w'/\xC w' bm (l++[x])/\Only (fun k=>k=bm) w w':=by
 subst hz;obtain⟨es,hb,he⟩:=hm;obtain⟨lx,hkx⟩:=Kq hx;have hks:∀y∈es.toList,∃l,keyOf Tryz.prog 89 y.key=some l:=by exact zDd
 rcases Ad.find w hkx es.toList hks with⟨h1,h2⟩| ⟨j,y,h1,h2,h3⟩
 ·refine⟨{w with heap:=w.heap.setIfInBounds bm (.map (es.push ⟨fH x,.int .i64 ((l.length:Int)+1),l.length⟩) (l.length+1))},?_,⟨es.push ⟨fH x,.int .i64 ((l.length:Int)+1),l.length⟩,?_,?_⟩,⟨rfl,rfl,rfl,by simp,fun k hk hne=>?_⟩⟩;·simp[Instr.mapUpdate,run_underlying Tryz.underlying207,MapKept.run_getObj_map hb,Ad.check w _ hkx,h1,MapKept.run_setObj_map _ hb,Result.andThen]
  ·simp[Array.getElem?_setIfInBounds,(yA.1 hb).1]
  ·simp[he,Ae,iL]
  simp only[Array.getElem?_setIfInBounds];rw[if_neg (fun h=>hne h.symm)]
 exfalso;rw[he]at h2;obtain⟨hj0,_⟩:=qJ.1 h2;rw[lM]at hj0;rw[lN l 0 j hj0]at h2;have hy:=Option.some.inj h2;subst hy;have hxe:=Nz h3;exact hn (by rw[<-hxe];exact qZ hj0)
structure Tab where
 l:List At
 limit:Nat
 helps:Nat
 full:Bool
structure Vh where
 bm:Nat
 vl:Value
structure TabAt (w:World) (g:Tag) (b:Nat) (V:Vh) (T:Tab):Prop where
 blk:w.heap[b]? =some (.cells #[.map (some V.bm),V.vl,.int .i64 T.limit,.int .i64 T.helps,.bool T.full] 210 (0,0))
 tb:g b=(21,0)
 map:xC w V.bm T.l
 tm:g V.bm=(22,0)
 l:lF w g (23,0) 89 4 V.vl T.l.length (T.l.flatMap cellsA)
 ok:∀x∈T.l,kC x
 nod:T.l.Nodup
 lim:T.limit<=65536
 hlp:T.helps<=1000000
 len:T.l.length<=T.limit
 fresh:mg w g
def jB(w:World)(g:Tag)(b:Nat)(T:Tab)(w':World):Prop:= ∃g' V',TabAt w' g' b V' T/\Agree w g g'/\Only (Mine g) w w'
theorem xC.only{w w':World}{bm:Nat}{l:List At}(h:xC w bm l){F:Nat->Prop}(ho:Only F w w')(hF:¬F bm):xC w' bm l:=by obtain⟨es,h1,h2⟩:=h;exact⟨es,ak h1 ho hF,h2⟩
section
variable {w:World} {g:Tag} {b:Nat} {V:Vh} {T:Tab}
theorem TabAt.only(H:TabAt w g b V T){F:Nat->Prop}{w':World}(ho:Only F w w')(hF:∀k,(g k).1≠0->¬F k):TabAt w' g b V T:=
 ⟨ak H.blk ho (hF b (by rw[H.tb];simp)),H.tb,H.map.only ho (hF _ (by rw[H.tm];simp)),H.tm,H.l.only ho (fun k hk=>hF k (by rw[hk];simp)),H.ok,H.nod,H.lim,H.hlp,H.len,H.fresh.more ho.size⟩
theorem TabAt.aF(H:TabAt w g b V T){w':World}(ho:O0 w w'):TabAt w' g b V T:=H.only ho (fun _ _ f=>f)
theorem nS(H:TabAt w g b V T){x:At}(hx:kC x)(r:Int)(hr:(numOf T.l x:Int)=r):Calls Tryz.prog 67 #[.pointer (some ⟨b,0,none⟩),fH x] w fun e w'=>e= .returned (.int .i64 r)/\O0 w w':=by
 subst hr;have q0:w.cell? ⟨b,0,none⟩=some (.map (some V.bm)):=zAT;have hlt:=bf H.blk;have hlook:∀n,(Instr.lookup 207 (.map (some V.bm)) (.agg #[.int .u8 x.1,.int .i64 x.2.1,.int .i64 x.2.2.1,.int .i64 x.2.2.2]) false).run Tryz.prog ((w.alloc (.cells #[.int .u8 x.1,.int .i64 x.2.1,.int .i64 x.2.2.1,.int .i64 x.2.2.2] 89)).drewN n)= .ok (.int .i64 (numOf T.l x:Int)) ((w.alloc (.cells #[.int .u8 x.1,.int .i64 x.2.1,.int .i64 x.2.2.1,.int .i64 x.2.2.2] 89)).drewN n):=fun n=>
  aaD ((H.aF (((Only.refl _ w).alloc _).drewN n)).map) H.ok H.nod hx
 unfold fH;obtain⟨k,a,b',c⟩:=x;simp only at hlook⊢;generalize (numOf T.l (k,a,b',c):Int)=r at*;go_enter Tryz.func67,Tryz.ntmps67;go_wp2_with fail;go_quiet (fail);go_wp2_with fail;go_ret;exact⟨rfl,((Only.refl _ w).alloc _).drewN _⟩
end
attribute [local go_sem ↓] Go.wp_at_zero Go.wp_at_succ
theorem ada:uZ Tryz.prog 208 89 4 32:=uZ.mk' (z:=.agg #[.int .u8 0,.int .i64 0,.int .i64 0,.int .i64 0]) Tryz.underlying208 zk rfl zAC
def Tab.num(T:Tab)(x:At):Tab×Int:=
 if x∈T.l then (T,(numOf T.l x:Int))else if T.limit<=T.l.length then ({T with full:=true},0)else ({T with l:=T.l++[x]},(T.l.length:Int)+1)
section
variable {w:World} {g:Tag} {b:Nat} {V:Vh} {T:Tab}
theorem jB.refl(H:TabAt w g b V T):jB w g b T w:=⟨g,V,H,Agree.refl _ _,Only.refl _ _⟩
theorem jB.after{w1 w2:World}(o1:O0 w w1){T2:Tab}(h:jB w1 g b T2 w2):jB w g b T2 w2:=by obtain⟨g2,V2,H2,A2,O2⟩:=h;exact⟨g2,V2,H2,fun k hk=>A2 k (Nat.lt_of_lt_of_le hk o1.size),(o1.mono (G:=Mine g) fun _ f=>f.elim).mine (Agree.refl _ _) O2⟩
theorem pY{l:List At}{x:At}:numOf l x=0↔x∉l:=by
 unfold numOf;split;·rename_i h;simp[h]
 rename_i h;simp[h]
theorem QJ(H:TabAt w g b V T){x:At}(hx:kC x)(hm:x∈T.l):Calls Tryz.prog 151 #[.pointer (some ⟨b,0,none⟩),fH x] w fun e w'=>e= .returned (.int .i64 (numOf T.l x:Int))/\jB w g b T w':=by
 have BH:O0 w (w.alloc (.cells #[.int .u8 x.1,.int .i64 x.2.1,.int .i64 x.2.2.1,.int .i64 x.2.2.2] 89)):=zr.alloc _;have hl:=nS (H.aF BH) hx _ rfl;unfold fH at*;have hpos:0<(numOf T.l x:Int):=by have:numOf T.l x≠0:=fun h=>(pY.1 h) hm;omega
 have HL:=zh hl;have hto:∀w',O0 (w.alloc (.cells #[.int .u8 x.1,.int .i64 x.2.1,.int .i64 x.2.2.1,.int .i64 x.2.2.2] 89)) w'->jB w g b T w':=fun w' h=>jB.after (BH.same h) (jB.refl (H.aF (BH.same h)));have HTo:=zh hto;clear hl hto BH;generalize (numOf T.l x:Int)=r at*;have d1:decide (0<r)=true:=qX hpos;go_enter Tryz.func151,Tryz.ntmps151;go_wp2_with fail;refine HL.out.mono ?_;rintro e w' ⟨rfl,O1⟩;have hfin:=HTo.out _ O1;clear O1 HTo;go_wp2_with fail;go_ret;exact⟨rfl,hfin⟩
theorem TabAt.Ko(H:TabAt w g b V T):jB w g b {T with full:=true} (w.setCell ⟨b,4,none⟩ (.bool true)):=by have hF:∀{t:Nat×Nat},t≠(21,0)->g b≠t:=fun{t} h e=>h (e.symm.trans H.tb);have ho:Only (fun k=>k=b) w (w.setCell ⟨b,4,none⟩ (.bool true)):=Only.setCell (Only.refl (fun k=>k=b) w) (p:=⟨b,4,none⟩) (.inl rfl) _;refine⟨g,V,⟨?_,H.tb,H.map.only ho (fun e=>by have:=H.tm;rw[e,H.tb]at this;simp at this),H.tm,H.l.far (hF zAC) _,H.ok,H.nod,H.lim,H.hlp,H.len,H.fresh.more ho.size⟩,Agree.refl _ _,(Only.refl _ w).setCell (.inl zBH) _⟩;rw[jM H.blk];rfl
theorem ND(H:TabAt w g b V T){x:At}(hx:kC x)(hm:x∉T.l)(hf:T.limit<=T.l.length):Calls Tryz.prog 151 #[.pointer (some ⟨b,0,none⟩),fH x] w fun e w'=>e= .returned (.int .i64 0)/\jB w g b {T with full:=true} w':=by have BH:O0 w (w.alloc (.cells #[.int .u8 x.1,.int .i64 x.2.1,.int .i64 x.2.2.1,.int .i64 x.2.2.2] 89)):=zr.alloc _;have hl:=nS (H.aF BH) hx 0 (by rw[pY.2 hm];rfl);unfold fH at*;have HL:=zh hl;have iM:=zh BH;clear hl BH;have hlen:=H.len;have hlim:=H.lim;go_enter Tryz.func151,Tryz.ntmps151;go_wp2_with fail;refine HL.out.mono ?_;rintro e w1 ⟨rfl,O1⟩;have NG:=iM.out.same O1;have H1:=H.aF NG;have q1:w1.cell? ⟨b,1,none⟩=some V.vl:=zAs;have q2:w1.cell? ⟨b,2,none⟩=some (.int .i64 T.limit):=zAs;have q4:w1.cell? ⟨b,4,none⟩=some (.bool T.full):=zAs;have f4:=iV H1.blk 4;obtain⟨al,cl,hvl,_,_⟩:=aH H1.l.own;rw[hvl]at q1;have d1:decide ((T.l.length:Int)>=(T.limit:Int))=true:=qX zBB;have d2:decide (T.limit<=T.l.length)=true:=qX hf;have hfin:∀n,jB w g b {T with full:=true} ((w1.setCell ⟨b,4,none⟩ (.bool true)).drewN n):=fun n=>jB.after (NG.drewN n) ((H1.aF (zr.drewN n)).Ko);have HFin:=zh hfin;have sd:∀(W:World) n a v,(W.drewN n).setCell a v=(W.setCell a v).drewN n:=fun _ _ _ _=>rfl;clear O1 hfin;go_wp2_with fail;go_quiet (fail);go_wp2_with fail;go_ret;exact⟨rfl,HFin.out _⟩
theorem TabAt.mid(H:TabAt w g b V T){w5:World}(O:Only (fun k=>g k=(23,0)) w w5)(v':Value):(w5.setCell ⟨b,1,none⟩ v').heap[b]? =some (.cells #[.map (some V.bm),v',.int .i64 T.limit,.int .i64 T.helps,.bool T.full] 210 (0,0))/\xC (w5.setCell ⟨b,1,none⟩ v') V.bm T.l:=by
 refine⟨?_,?_⟩;·rw[jM (ak H.blk O (by rw[H.tb];simp))];rfl
 refine(H.map.only O (by rw[H.tm];simp)).only (F:=fun k=>k=b) (Only.setCell (Only.refl (fun k=>k=b) w5) (p:=⟨b,1,none⟩) (.inl rfl) _) (fun e=>?_);have:=H.tm;rw[e,H.tb]at this;simp at this
theorem TabAt.grow(H:TabAt w g b V T){x:At}(hx:kC x)(hm:x∉T.l)(hf:T.l.length<T.limit){w5 w6:World}{lo:Nat}{v':Value}(O:Only (fun k=>g k=(23,0)) w w5)(hlo:w.heap.size<=lo)(R:lF w5 (Tag.put g lo w5.heap.size (23,0)) (23,0) 89 4 v' (T.l.length+1) (T.l.flatMap cellsA++cellsA x))(M:xC w6 V.bm (T.l++[x]))(O6:Only (fun k=>k=V.bm) (w5.setCell ⟨b,1,none⟩ v').drew w6):jB w g b {T with l:=T.l++[x]} w6:=by
 obtain⟨h1,h2⟩:=H.mid O v';have hb:=bf H.blk;have hbm:V.bm<w.heap.size:=by obtain⟨es,h,_⟩:=H.map;exact bf h
 have hgb:Tag.put g lo w5.heap.size (23,0) b=(21,0):=by rw[Tag.rE _ _ zBB];exact H.tb
 have hgm:Tag.put g lo w5.heap.size (23,0) V.bm=(22,0):=by rw[Tag.rE _ _ zBB];exact H.tm
 have hs6:w5.heap.size<=w6.heap.size:=by have:=O6.size;simpa using this
 refine⟨Tag.put g lo w5.heap.size (23,0),⟨V.bm,v'⟩,⟨?_,hgb,M,hgm,?_,?_,?_,H.lim,H.hlp,by simp;omega,?_⟩,Agree.put _ _ hlo,?_⟩;·refine ak (F:=fun k=>k=V.bm) (w:=(w5.setCell ⟨b,1,none⟩ v').drew) h1 O6 (fun e=>?_);rw[e,hgm]at hgb;simp at hgb
 ·have:=((R.far (p:=⟨b,1,none⟩) (by rw[hgb];simp) v').drew).only O6 (fun k hk e=>by rw[e,hgm]at hk;simp at hk);simpa[List.flatMap_append]using this
 ·intro y hy;rcases qW.1 hy with h|h;·exact H.ok y h
  rw[yJ.1 h];exact hx
 ·refine List.nodup_append.2 ⟨H.nod,by simp,fun a ha c hc e=>?_⟩;rw[yJ.1 hc]at e;exact hm (e▸ha)
 ·exact(H.fresh.put _ O.size).more hs6
 have o1:Only (Mine g) w (w5.setCell ⟨b,1,none⟩ v').drew:=((O.mono (G:=Mine g) fun k hk=>by unfold Mine;rw[hk];decide).setCell (.inl zBH) _).drew;exact o1.same (O6.mono fun k hk=>by subst hk;unfold Mine;rw[H.tm];decide)
theorem QK(H:TabAt w g b V T){x:At}(hx:kC x)(hm:x∉T.l)(hf:T.l.length<T.limit):Calls Tryz.prog 151 #[.pointer (some ⟨b,0,none⟩),fH x] w fun e w'=>e= .returned (.int .i64 ((T.l.length:Int)+1))/\jB w g b {T with l:=T.l++[x]} w':=by
 have BH:O0 w (w.alloc (.cells #[.int .u8 x.1,.int .i64 x.2.1,.int .i64 x.2.2.1,.int .i64 x.2.2.2] 89)):=zr.alloc _;have hl:=nS (H.aF BH) hx 0 (by rw[pY.2 hm];rfl);have hbx:∀i,(w.alloc (.cells #[.int .u8 x.1,.int .i64 x.2.1,.int .i64 x.2.2.1,.int .i64 x.2.2.2] 89)).cell? ⟨w.heap.size,i,none⟩=(#[.int .u8 x.1,.int .i64 x.2.1,.int .i64 x.2.2.1,.int .i64 x.2.2.2]:Array Value)[i]? :=fun i=>aj (qL w _) i;unfold fH at*;have HL:=zh hl;have iM:=zh BH;have XF:=zh hbx;have NH:=zh hm;have HX:=zh hx;clear hl BH hbx hm hx;have hlen:=H.len;have hlim:=H.lim;obtain⟨xk,xa,xb,xc⟩:=x;simp only at HL iM XF⊢;go_enter Tryz.func151,Tryz.ntmps151;go_wp2_with fail;generalize hW0:w.alloc (.cells #[.int .u8 xk,.int .i64 xa,.int .i64 xb,.int .i64 xc] 89)=w0 at*;generalize hBB:w.heap.size=B at*;refine HL.out.mono ?_;rintro e w1 ⟨rfl,O1⟩;have NG:=iM.out.same O1;have H1:=H.aF NG;have q1:w1.cell? ⟨b,1,none⟩=some V.vl:=zAs;have q2:w1.cell? ⟨b,2,none⟩=some (.int .i64 T.limit):=zAs;have f1:=iV H1.blk 1;have x0:w1.cell? ⟨B,0,none⟩=some (.int .u8 xk):=aK (XF.out 0) O1 (fun f=>f);have x1:w1.cell? ⟨B,1,none⟩=some (.int .i64 xa):=aK (XF.out 1) O1 (fun f=>f);have x2:w1.cell? ⟨B,2,none⟩=some (.int .i64 xb):=aK (XF.out 2) O1 (fun f=>f);have x3:w1.cell? ⟨B,3,none⟩=some (.int .i64 xc):=aK (XF.out 3) O1 (fun f=>f);have hgB:(g B).1=0:=by rw[<-hBB];exact H.fresh _ (qH _)
 have hlr:=H1.l;obtain⟨al,cl,hvl,_,_⟩:=aH H1.l.own;rw[hvl]at q1 hlr;have d2:decide (T.limit<=T.l.length)=false:=qP zBB;clear hW0 hBB HL;go_wp2_with fail;go_quiet (fail);go_wp2_with fail;have agn:=hlr.drewN nq;have ajv:=NG.drewN nq;have q1':(w1.drewN nq).cell? ⟨b,1,none⟩=some (.slice al T.l.length cl):=q1;have f1':(w1.drewN nq).frozen? ⟨b,1,none⟩=false:=f1;have x0':(w1.drewN nq).cell? ⟨B,0,none⟩=some (.int .u8 xk):=x0;have x1':(w1.drewN nq).cell? ⟨B,1,none⟩=some (.int .i64 xa):=x1;have x2':(w1.drewN nq).cell? ⟨B,2,none⟩=some (.int .i64 xb):=x2;have x3':(w1.drewN nq).cell? ⟨B,3,none⟩=some (.int .i64 xc):=x3;have XG:=H1.aF ((Only.refl (fun _=>False) w1).drewN nq);clear q1 f1 x0 x1 x2 x3 H1 q2 hlr;generalize hW1:w1.drewN nq=w2 at*;have hS5:∀o w5,Only (fun k=>g k=(23,0)) (w2.alloc o).drew w5->w5.cell? ⟨b,1,none⟩=some (.slice al T.l.length cl)/\w5.frozen? ⟨b,1,none⟩=false/\w5.cell? ⟨B,0,none⟩=some (.int .u8 xk)/\w5.cell? ⟨B,1,none⟩=some (.int .i64 xa)/\w5.cell? ⟨B,2,none⟩=some (.int .i64 xb)/\w5.cell? ⟨B,3,none⟩=some (.int .i64 xc):=by
  intro o w5 h;have hx5:Only (fun k=>g k=(23,0)) w2 w5:=Only.same (((Only.refl _ w2).alloc o).drew) h;have hb1:¬g b=(23,0):=by rw[XG.tb];simp
  have hb2:¬g B=(23,0):=by intro e;rw[e]at hgB;simp at hgB
  exact⟨aK q1' hx5 hb1,mQ q1' f1' hx5 hb1,aK x0' hx5 hb2,aK x1' hx5 hb2,aK x2' hx5 hb2,aK x3' hx5 hb2⟩
 have BI:=zh hS5;clear hS5;have hfz:∀o,(w2.alloc o).frozen? ⟨b,1,none⟩=false:=fun o=>mQ q1' f1' ((Only.refl (fun _=>False) w2).alloc o) (fun f=>f);refine uO (n:=10) (S:=fun w'=>w'.cell? ⟨b,1,none⟩=some (.slice al T.l.length cl)/\w'.frozen? ⟨b,1,none⟩=false/\w'.cell? ⟨B,0,none⟩=some (.int .u8 xk)/\w'.cell? ⟨B,1,none⟩=some (.int .i64 xa)/\w'.cell? ⟨B,2,none⟩=some (.int .i64 xb)/\w'.cell? ⟨B,3,none⟩=some (.int .i64 xc)) zk rfl zk ⟨q1',f1',x0',x1',x2',x3'⟩ (fun hHeld=>?_);refine wpAnyH_take (i:=0) (v:=?_) rfl zk zk zk (fun _ _ _ h=>h) (Or.inl ⟨by rfl,?_⟩) zAN ?_;rotate_left;·exact zBb
 try simp only[Act.put,dL,dQ,dM,dN,dO,dP]
 refine wpAnyH_take (i:=1) (v:=?_) rfl zk zk zk (fun _ _ _ h=>h) (Or.inl ⟨by rfl,?_⟩) zAN ?_;rotate_left;·exact zBb
 try simp only[Act.put,dL,dQ,dM,dN,dO,dP]
 refine wpAnyH_take (i:=2) (v:=?_) rfl zk zk zk (fun _ _ _ h=>h) (Or.inl ⟨by rfl,?_⟩) zAN ?_;rotate_left;·exact zBb
 try simp only[Act.put,dL,dQ,dM,dN,dO,dP]
 refine wpAnyH_take (i:=3) (v:=?_) rfl zk zk zk (fun _ _ _ h=>h) (Or.inl ⟨by rfl,?_⟩) zAN ?_;rotate_left;·exact zBb
 try simp only[Act.put,dL,dQ,dM,dN,dO,dP]
 refine wpAnyH_take (i:=4) (v:=?_) rfl zk zk zk (fun _ _ _ h=>h) (Or.inl ⟨by rfl,?_⟩) zAN ?_;rotate_left;·exact zBb
 try simp only[Act.put,dL,dQ,dM,dN,dO,dP]
 refine wpAnyH_take (i:=5) (v:=?_) rfl zk zk zk (fun _ _ _ h=>h) (Or.inl ⟨by rfl,?_⟩) zAN ?_;rotate_left;·exact zBb
 try simp only[Act.put,dL,dQ,dM,dN,dO,dP]
 refine wpAnyH_ready (rs:=[6]) zk zBN ?_;refine AllReadyH.cons (i:=6) rfl (fun K hK=>?_) ?_
 ·go_simp;refine hK.out _ _ ?_ (fun hHeld=>?_);·(try dsimp only)<;>(first| (go_keep;done)|exact BI.out _ _ Ef)
  clear hK K;try simp only[Act.put,dL,dQ,dM,dN,dO,dP]
  refine wpAnyH_ready (rs:=[7]) zk zBN ?_;refine AllReadyH.cons (i:=7) rfl (fun K hK=>?_) ?_
  ·(refine lF.step (us:=cellsA (xk,xa,xb,xc)) ada (by rfl) (.tmp 35) (.tmp 37) (by rfl) (by rfl) (by rfl) rfl (by intro j hj;match j,hj with|0,_=>simp[cellsA]|1,_=>simp[cellsA]|2,_=>simp[cellsA]|3,_=>simp[cellsA]) (by simp[cellsA,Value.oneCell']) (by repeat (first|exact agn|apply lF.drew|apply lF.alloc|apply lF.drewN)) zBB (by decide) ?_;intro bb cap w5 NI Ef);refine hK.out _ _ ?_ (fun hHeld=>?_);·(try dsimp only)<;>(first| (go_keep;done)|exact BI.out _ _ Ef)
   clear hK K;try simp only[Act.put,dL,dQ,dM,dN,dO,dP]
   refine wpAnyH_take (i:=8) (v:=?_) rfl zk zk zk (fun _ _ _ h=>h) (Or.inl ⟨by rfl,?_⟩) zAN ?_;rotate_left;·exact zBb
   try simp only[Act.put,dL,dQ,dM,dN,dO,dP]
   refine wpAnyH_take (i:=9) (v:=?_) rfl zk zk zk (fun _ _ _ h=>h) (Or.inl ⟨by rfl,?_⟩) zAN ?_;rotate_left;·exact zBb
   try simp only[Act.put,dL,dQ,dM,dN,dO,dP]
   refine wpAnyH_done zk ?_ _;show wpList _ _ _ _ _ _;obtain⟨c1,c2,c3,c4,c5,c6⟩:=hHeld;have hO5:Only (fun k=>g k=(23,0)) w2 w5:=Only.same (((Only.refl _ w2).alloc _).drew) Ef;have hlo:w2.heap.size<=(w2.alloc (.cells #[.int .u8 xk,.int .i64 xa,.int .i64 xb,.int .i64 xc] 89)).drew.heap.size:=zBN;obtain⟨b7,m7⟩:=XG.mid hO5 (.slice (some ⟨bb,0,none⟩) (T.l.length+1) cap);have hbB:b≠B:=by intro e;rw[<-e,XG.tb]at hgB;simp at hgB
   have e3:=(World.cell?_setCell_far w5 ⟨b,1,none⟩ ⟨B,0,none⟩ (.slice (some ⟨bb,0,none⟩) (T.l.length+1) cap) hbB).trans c3;have e4:=(World.cell?_setCell_far w5 ⟨b,1,none⟩ ⟨B,1,none⟩ (.slice (some ⟨bb,0,none⟩) (T.l.length+1) cap) hbB).trans c4;have e5:=(World.cell?_setCell_far w5 ⟨b,1,none⟩ ⟨B,2,none⟩ (.slice (some ⟨bb,0,none⟩) (T.l.length+1) cap) hbB).trans c5;have e6:=(World.cell?_setCell_far w5 ⟨b,1,none⟩ ⟨B,3,none⟩ (.slice (some ⟨bb,0,none⟩) (T.l.length+1) cap) hbB).trans c6;have p0:(w5.setCell ⟨b,1,none⟩ (.slice (some ⟨bb,0,none⟩) (T.l.length+1) cap)).cell? ⟨b,0,none⟩=some (.map (some V.bm)):=by rw[aj b7];rfl
   have p1:(w5.setCell ⟨b,1,none⟩ (.slice (some ⟨bb,0,none⟩) (T.l.length+1) cap)).cell? ⟨b,1,none⟩=some (.slice (some ⟨bb,0,none⟩) (T.l.length+1) cap):=by rw[aj b7];rfl
   have hgrow:∀w6,xC w6 V.bm (T.l++[(xk,xa,xb,xc)])->Only (fun k=>k=V.bm) (w5.setCell ⟨b,1,none⟩ (.slice (some ⟨bb,0,none⟩) (T.l.length+1) cap)).drew w6->jB w g b {T with l:=T.l++[(xk,xa,xb,xc)]} w6/\w6.cell? ⟨b,1,none⟩=some (.slice (some ⟨bb,0,none⟩) (T.l.length+1) cap):=fun w6 h1 h2=>⟨jB.after ajv (XG.grow HX.out NH.out hf hO5 hlo NI h1 h2),aK p1 (F:=fun k=>k=V.bm) (Only.same (zr.drew) h2) (fun e=>by have:=XG.tm;rw[<-show b=V.bm from e,XG.tb]at this;simp at this)⟩;have acd:=zh hgrow;have NJ:=zh XG.ok;have hq:(((w5.setCell ⟨b,1,none⟩ (.slice (some ⟨bb,0,none⟩) (T.l.length+1) cap)).drew).heap)=((w5.setCell ⟨b,1,none⟩ (.slice (some ⟨bb,0,none⟩) (T.l.length+1) cap)).heap):=rfl;have M7:=zh m7;clear hgrow NI Ef hO5 hlo b7 c3 c4 c5 c6 BI agn XG H m7 hq;go_wp2_with fail;generalize hw3:w5.setCell ⟨b,1,none⟩ (.slice (some ⟨bb,0,none⟩) (T.l.length+1) cap)=w3 at*;refine uO (n:=10) (S:=fun w'=>w'.cell? ⟨b,0,none⟩=some (.map (some V.bm))/\w'.cell? ⟨b,1,none⟩=some (.slice (some ⟨bb,0,none⟩) (T.l.length+1) cap)/\w'.cell? ⟨B,0,none⟩=some (.int .u8 xk)/\w'.cell? ⟨B,1,none⟩=some (.int .i64 xa)/\w'.cell? ⟨B,2,none⟩=some (.int .i64 xb)/\w'.cell? ⟨B,3,none⟩=some (.int .i64 xc)) zk rfl zk ⟨p0,p1,e3,e4,e5,e6⟩ (fun hHeld=>?_);refine wpAnyH_take (i:=0) (v:=?_) rfl zk zk zk (fun _ _ _ h=>h) (Or.inl ⟨by rfl,?_⟩) zAN ?_;rotate_left;·exact zBb
   try simp only[Act.put,dL,dQ,dM,dN,dO,dP]
   refine wpAnyH_take (i:=1) (v:=?_) rfl zk zk zk (fun _ _ _ h=>h) (Or.inl ⟨by rfl,?_⟩) zAN ?_;rotate_left;·exact zBb
   try simp only[Act.put,dL,dQ,dM,dN,dO,dP]
   refine wpAnyH_take (i:=2) (v:=?_) rfl zk zk zk (fun _ _ _ h=>h) (Or.inl ⟨by rfl,?_⟩) zAN ?_;rotate_left;·exact zBb
   try simp only[Act.put,dL,dQ,dM,dN,dO,dP]
   refine wpAnyH_take (i:=3) (v:=?_) rfl zk zk zk (fun _ _ _ h=>h) (Or.inl ⟨by rfl,?_⟩) zAN ?_;rotate_left;·exact zBb
   try simp only[Act.put,dL,dQ,dM,dN,dO,dP]
   refine wpAnyH_take (i:=4) (v:=?_) rfl zk zk zk (fun _ _ _ h=>h) (Or.inl ⟨by rfl,?_⟩) zAN ?_;rotate_left;·exact zBb
   try simp only[Act.put,dL,dQ,dM,dN,dO,dP]
   refine wpAnyH_take (i:=5) (v:=?_) rfl zk zk zk (fun _ _ _ h=>h) (Or.inl ⟨by rfl,?_⟩) zAN ?_;rotate_left;·exact zBb
   try simp only[Act.put,dL,dQ,dM,dN,dO,dP]
   refine wpAnyH_take (i:=6) (v:=?_) rfl zk zk zk (fun _ _ _ h=>h) (Or.inl ⟨by rfl,?_⟩) zAN ?_;rotate_left;·exact zBb
   try simp only[Act.put,dL,dQ,dM,dN,dO,dP]
   refine wpAnyH_take (i:=7) (v:=?_) rfl zk zk zk (fun _ _ _ h=>h) (Or.inl ⟨by rfl,?_⟩) zAN ?_;rotate_left;·exact zBb
   try simp only[Act.put,dL,dQ,dM,dN,dO,dP]
   refine wpAnyH_take (i:=8) (v:=?_) rfl zk zk zk (fun _ _ _ h=>h) (Or.inl ⟨by rfl,?_⟩) zAN ?_;rotate_left;·exact zBb
   try simp only[Act.put,dL,dQ,dM,dN,dO,dP]
   refine wpAnyH_take (i:=9) (v:=?_) rfl zk zk zk (fun _ _ _ h=>h) (Or.inl ⟨by rfl,?_⟩) zAN ?_;rotate_left;·exact zBb
   try simp only[Act.put,dL,dQ,dM,dN,dO,dP]
   refine wpAnyH_done zk ?_ _;show wpList _ _ _ _ _ _;obtain⟨w6,hmu,hm6,ho6⟩:=XE (w:=w3.drew) (bm:=V.bm) (l:=T.l) (by exact M7.out) NJ.out HX.out NH.out ((T.l.length:Int)+1) rfl;obtain⟨hfin,z1⟩:=acd.out w6 hm6 ho6;unfold fH at hmu;simp only at hmu;clear acd M7 hm6 ho6;go_wp2_with fail;go_ret;exact⟨rfl,hfin⟩
  exact AllReadyH.nil
 exact AllReadyH.nil
theorem EW(H:TabAt w g b V T){x:At}(hx:kC x)(r:Int)(hr:(T.num x).2=r):Calls Tryz.prog 151 #[.pointer (some ⟨b,0,none⟩),fH x] w fun e w'=>e= .returned (.int .i64 r)/\jB w g b (T.num x).1 w':=by
 subst hr;unfold Tab.num;by_cases h1:x∈T.l;·rw[if_pos h1];exact QJ H hx h1
 rw[if_neg h1];by_cases h2:T.limit<=T.l.length;·rw[if_pos h2];exact ND H hx h1 h2
 rw[if_neg h2];exact QK H hx h1 zBB
end
theorem lF.nil(w:World)(g:Tag)(t:Nat×Nat)(e:TypeId)(size:Nat):lF w g t e size (.slice none 0 0) 0 []:=
 ⟨World.ownsRow_nil _ _ _ _,fun k hk=>by simp[Value.ownBlock]at hk⟩
def wH(bm b:Nat):Tag:=fun k=>if k=b then (21,0)else if k=bm then (22,0)else (0,0)
theorem TabAt.made(w:World)(lim:Nat)(hl:lim<=65536):TabAt ((w.alloc (.map #[] 0)).alloc (.cells #[.map (some w.heap.size),bK,.int .i64 (lim:Int),.int .i64 0,.bool false] 210)) (wH w.heap.size (w.heap.size+1)) (w.heap.size+1) ⟨w.heap.size,bK⟩ ⟨[],lim,0,false⟩/\(∀k,Mine (wH w.heap.size (w.heap.size+1)) k->w.heap.size<=k):=by
 have hs:(w.alloc (.map #[] 0)).heap.size=w.heap.size+1:=zBN;refine⟨⟨?_,by simp[wH],⟨#[],?_,rfl⟩,by simp[wH],lF.nil _ _ _ _ _,by simp,by simp,hl,by simp,by simp,?_⟩,fun k hk=>?_⟩;·have:=qL (w.alloc (.map #[] 0)) (.cells #[.map (some w.heap.size),bK,.int .i64 (lim:Int),.int .i64 0,.bool false] 210);rw[hs]at this;exact this
 ·exact bC (qL w _) _
 ·intro k hk;simp at hk;simp only[wH];rw[if_neg zAB,if_neg zBB]
 unfold Mine wH at hk;split at hk;·omega
 split at hk;·omega
 simp at hk
def EX(w:World)(lim:Nat)(e:Ending)(w':World):Prop:= ∃b g V,e= .returned (.pointer (some ⟨b,0,none⟩))/\TabAt w' g b V ⟨[],lim,0,false⟩/\(∀k,Mine g k->w.heap.size<=k)/\O0 w w'
theorem EX.of(w:World)(lim:Nat)(hl:lim<=65536)(z:Int)(hz:z=lim):EX w lim (.returned (.pointer (some ⟨w.heap.size+1,0,none⟩))) ((w.alloc (.map #[] 0)).alloc (.cells #[.map (some w.heap.size),.slice none 0 0,.int .i64 z,.int .i64 0,.bool false] 210)):=by subst hz;have hm:=TabAt.made w lim hl;exact⟨_,_,_,rfl,hm.1,hm.2,((Only.refl _ w).alloc _).alloc _⟩
theorem Kr(w:World)(n:Int)(hn:aO n)(lim:Nat)(hl:min (max n 0) 65536=(lim:Int)):Calls Tryz.prog 72 #[.int .i64 n] w (EX w lim):=by have hmm:= @run_makeMap Tryz.prog;have hm:∀z:Int,z=lim->_:=fun z hz=>EX.of w lim zBB z hz;have HM:=zh hm;clear hm;go_enter Tryz.func72,Tryz.ntmps72;go_wp2_with fail;all_goals (go_ret;exact HM.out _ zBB)
section
variable {w:World} {g:Tag} {b:Nat} {V:Vh} {T:Tab}
theorem QL(H:TabAt w g b V T):Calls Tryz.prog 90 #[.pointer (some ⟨b,0,none⟩)] w fun e w'=>e= .returned (.int .i64 (T.l.length:Int))/\w'=w:=by have q1:w.cell? ⟨b,1,none⟩=some V.vl:=zAT;obtain⟨al,cl,hvl,_,_⟩:=aH H.l.own;rw[hvl]at q1;go_enter Tryz.func90,Tryz.ntmps90;exact zBd
theorem jB.trans{g1:Tag}{w1 w2:World}{T2:Tab}(ha:Agree w g g1)(ho:Only (Mine g) w w1)(h2:jB w1 g1 b T2 w2):jB w g b T2 w2:=by obtain⟨g2,V2,H2,A2,O2⟩:=h2;exact⟨g2,V2,H2,ha.trans A2 ho.size,ho.mine ha O2⟩
def hA(j:Nat):At:=(9,j,0,0)
theorem TabAt.XH(H:TabAt w g b V T)(k:Nat)(hk:k<=1000000):TabAt (w.setCell ⟨b,3,none⟩ (.int .i64 (k:Int))) g b V {T with helps:=k}/\Only (Mine g) w (w.setCell ⟨b,3,none⟩ (.int .i64 (k:Int))):=by have hF:∀{t:Nat×Nat},t≠(21,0)->g b≠t:=fun{t} h e=>h (e.symm.trans H.tb);have ho:Only (fun k=>k=b) w (w.setCell ⟨b,3,none⟩ (.int .i64 (k:Int))):=Only.setCell (Only.refl (fun k=>k=b) w) (p:=⟨b,3,none⟩) (.inl rfl) _;refine⟨⟨?_,H.tb,H.map.only ho (fun e=>by have:=H.tm;rw[e,H.tb]at this;simp at this),H.tm,H.l.far (hF zAC) _,H.ok,H.nod,H.lim,hk,H.len,H.fresh.more ho.size⟩,(Only.refl _ w).setCell (.inl zBH) _⟩;rw[jM H.blk];rfl
theorem XI(H:TabAt w g b V T)(k:Nat)(h1:T.helps<=k)(h2:∀j,T.helps<=j->j<k->hA j∈T.l)(h3:hA k∉T.l)(hk:k<=1000000)(r:Int)(hr:({T with helps:=k}.num (hA k)).2=r):
  Calls Tryz.prog 359 #[.pointer (some ⟨b,0,none⟩)] w fun e w'=>e= .returned (.int .i64 r)/\jB w g b ({T with helps:=k}.num (hA k)).1 w':=by
 have q3:w.cell? ⟨b,3,none⟩=some (.int .i64 T.helps):=zAT
 have HR:=zh hr
 clear hr
 have lb:=bf H.blk
 have hstart:TabAt (w.alloc (.cells #[.int .u8 9,.int .i64 (T.helps:Int),.int .i64 0,.int .i64 0] 89)) g b V T/\(w.alloc (.cells #[.int .u8 9,.int .i64 (T.helps:Int),.int .i64 0,.int .i64 0] 89)).heap[w.heap.size]? =some (.cells (cellsA (hA T.helps)).toArray 89 (0,0))/\Only (Mine g) w (w.alloc (.cells #[.int .u8 9,.int .i64 (T.helps:Int),.int .i64 0,.int .i64 0] 89)):=
  ⟨H.aF ((Only.refl _ w).alloc _),qL w _,(Only.refl _ w).alloc _⟩
 go_enter Tryz.func359,Tryz.ntmps359
 go_wp2_with fail
 have hgB:(g w.heap.size).1=0:=H.fresh _ (qH _)
 have hbB:b≠w.heap.size:=zBB
 have hst:=hstart
 clear hstart
 generalize hBB:w.heap.size=B at*
 generalize w.alloc (.cells #[.int .u8 9,.int .i64 (T.helps:Int),.int .i64 0,.int .i64 0] 89)=w0 at*
 have HH:=zh h2
 have H3:=zh h3
 have HS:=zh hst
 clear h2 h3 hst q3
 go_loopw [] (fun wr=> ∃j:Nat,T.helps<=j/\j<=k/\TabAt wr g b V {T with helps:=j}/\wr.heap[B]? =some (.cells (cellsA (hA j)).toArray 89 (0,0))/\Only (Mine g) w wr) (fun wr=>k-(intOf ((wr.cell? ⟨b,3,none⟩).getD (.int .i64 0))).toNat)
 case atStart=>exact⟨T.helps,qH _,h1,HS.out.1,HS.out.2.1,HS.out.2.2⟩
 case round=>
  obtain⟨j,j1,j2,hT,hB,hO⟩:=hrel
  have q3:wr.cell? ⟨b,3,none⟩=some (.int .i64 (j:Int)):=by rw[aj hT.blk];rfl
  have f3:=iV hT.blk 3
  have x0:wr.cell? ⟨B,0,none⟩=some (.int .u8 9):=zA2
  have x1:wr.cell? ⟨B,1,none⟩=some (.int .i64 (j:Int)):=zA2
  have x2:wr.cell? ⟨B,2,none⟩=some (.int .i64 0):=zA2
  have x3:wr.cell? ⟨B,3,none⟩=some (.int .i64 0):=zA2
  have fB:=iV hB 1
  have hok:kC (hA j):=⟨by simp[hA],by simp[hA,aO];omega,by simp[hA,aO],by simp[hA,aO]⟩
  by_cases hjk:j=k
  ·subst hjk
   have hl:=nS hT hok 0 (by rw[pY.2 H3.out];rfl)
   have hfin:=fun w1 (o:O0 wr w1)=>EW (hT.aF o) hok r HR.out
   unfold fH hA at hl hfin
   have HL:=zh hl
   have HF:=zh hfin
   clear hl hfin
   go_wp2_with fail
   refine HL.out.mono ?_
   rintro e w1 ⟨rfl,O1⟩
   have y0:=aK x0 O1 (fun f=>f)
   have y1:=aK x1 O1 (fun f=>f)
   have y2:=aK x2 O1 (fun f=>f)
   have y3:=aK x3 O1 (fun f=>f)
   have hF:=HF.out w1 O1
   have NG:Only (Mine g) w w1:=hO.same (O1.mono fun _ f=>f.elim)
   have HF1:=zh hF
   clear HF hF HL O1
   go_wp2_with fail
   refine HF1.out.mono ?_
   rintro e w2 ⟨rfl,hT2⟩
   have hT3:=jB.trans (Agree.refl _ _) NG hT2
   clear hT2 HF1
   go_wp2_with fail
   go_ret
   exact⟨rfl,hT3⟩
  ·have hin:hA j∈T.l:=HH.out j j1 zBB
   have hpos:0<(numOf T.l (hA j):Int):=by
    have:numOf T.l (hA j)≠0:=fun h=>(pY.1 h) hin
    omega
   have hl:=nS hT hok _ rfl
   have hl2:((numOf T.l (hA j):Nat):Int)=((numOf ({T with helps:=j}:Tab).l (hA j):Nat):Int):=rfl
   rw[<-hl2]at hl
   generalize ((numOf T.l (hA j):Nat):Int)=z at*
   unfold fH hA at hl
   have HL:=zh hl
   have d1:decide (0<z)=true:=qX hpos
   clear hl hl2
   go_wp2_with fail
   refine HL.out.mono ?_
   rintro e w1 ⟨rfl,O1⟩
   have p3:=aK q3 O1 (fun f=>f)
   have g3:=mQ q3 f3 O1 (fun f=>f)
   have y1:=aK x1 O1 (fun f=>f)
   have gB:=mQ x1 fB O1 (fun f=>f)
   have hb1:=ak hB O1 (fun f=>f)
   have hT1:=(hT.aF O1).XH (j+1) zBB
   have NG:Only (Mine g) w w1:=hO.same (O1.mono fun _ f=>f.elim)
   have ew:IntKind.i64.wrap ((j:Int)+1)=((j+1:Nat):Int):=by rw[IntWalk.i64_in _ zBB];rfl
   have ace:(∃j':Nat,T.helps<=j'/\j'<=k/\TabAt ((w1.setCell ⟨b,3,none⟩ (.int .i64 ((j+1:Nat):Int))).setCell ⟨B,1,none⟩ (.int .i64 ((j+1:Nat):Int))) g b V {T with helps:=j'}/\((w1.setCell ⟨b,3,none⟩ (.int .i64 ((j+1:Nat):Int))).setCell ⟨B,1,none⟩ (.int .i64 ((j+1:Nat):Int))).heap[B]? =some (.cells (cellsA (hA j')).toArray 89 (0,0))/\Only (Mine g) w ((w1.setCell ⟨b,3,none⟩ (.int .i64 ((j+1:Nat):Int))).setCell ⟨B,1,none⟩ (.int .i64 ((j+1:Nat):Int))))/\
     ((w1.setCell ⟨b,3,none⟩ (.int .i64 ((j+1:Nat):Int))).setCell ⟨B,1,none⟩ (.int .i64 ((j+1:Nat):Int))).cell? ⟨b,3,none⟩=some (.int .i64 ((j+1:Nat):Int)):=by
    have h5:=hT1.1.only (F:=fun k=>k=B) (Only.setCell (Only.refl (fun k=>k=B) _) (p:=⟨B,1,none⟩) (.inl rfl) (.int .i64 ((j+1:Nat):Int))) (fun k hk e=>by rw[e]at hk;exact hk hgB)
    refine⟨⟨j+1,by omega,by omega,h5,?_,?_⟩,by rw[aj h5.blk];rfl⟩
    ·rw[jM (uN hb1 (p:=⟨b,3,none⟩) (fun e=>hbB e.symm) _)];rfl
    ·exact(NG.same hT1.2).setCell (.inr (by rw[hBB];exact qH _)) _
   have HR2:=zh ace
   have c4:(w1.setCell ⟨b,3,none⟩ (.int .i64 ((j+1:Nat):Int))).cell? ⟨b,3,none⟩=some (.int .i64 ((j+1:Nat):Int)):=by rw[aj hT1.1.blk];rfl
   have c5:(w1.setCell ⟨b,3,none⟩ (.int .i64 ((j+1:Nat):Int))).cell? ⟨B,1,none⟩=some (.int .i64 (j:Int)):=(World.cell?_setCell_far w1 _ _ _ hbB).trans y1
   have c6:(w1.setCell ⟨b,3,none⟩ (.int .i64 ((j+1:Nat):Int))).frozen? ⟨B,1,none⟩=false:=iV (uN hb1 (p:=⟨b,3,none⟩) (fun e=>hbB e.symm) _) 1
   clear ace O1 hT1 hb1 hT hB hO
   go_wp2_with fail
   go_roundw
   case rel=>exact HR2.out.1
   case measure=>
    have e2:=HR2.out.2
    have ec:((j+1:Nat):Int)=(j:Int)+1:=rfl
    rw[ec]at e2
    rw[e2,q3]
    simp[intOf]
    omega
end
section
variable {w:World} {g:Tag} {b:Nat} {V:Vh} {T:Tab}
theorem Pm(H:TabAt w g b V T):Calls Tryz.prog 88 #[.pointer (some ⟨b,0,none⟩)] w fun e w'=>e= .returned (.bool T.full)/\w'=w:=by have q1:w.cell? ⟨b,4,none⟩=some (.bool T.full):=zAT;go_enter Tryz.func88,Tryz.ntmps88;exact zBd
end
end Go.Proofs.YtdmmebjjojimiaaGreatDoor
