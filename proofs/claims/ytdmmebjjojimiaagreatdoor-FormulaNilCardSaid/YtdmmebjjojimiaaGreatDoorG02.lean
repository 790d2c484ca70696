/- Recipes and requests as plain data, and how they lie in memory, for reading: rows of struc; What may be needed, plain: names, what they may be, what is reached; the invariant of the  -/
import Derived.Test.YtdmmebjjojimiaaGreatDoorG01
import Derived.Deep.MidRow
import Derived.Shelf.Slices.Turned
set_option maxRecDepth 100000
set_option maxHeartbeats 8000000
set_option linter.all false
namespace Go.Proofs.YtdmmebjjojimiaaGreatDoor
open Go.RowKit
abbrev Str:=ByteArray
structure iD where
 lo:Str
 hi:Str
structure jv where
 name:Str
 value:Str
structure fQ where
 name:Str
 spans:List iD
 sets:List jv
structure jY where
 version:Str
 old:Bool
structure fE where
 name:Str
 values:List Str
structure oO where
 on:fQ
 cond:fQ
 line:Int
structure uh where
 cond:fQ
 with':fQ
 line:Int
structure eP where
 name:Str
 line:Int
 aP:List jY
 vars:List fE
 provides:List Str
 deps:List oO
 cons:List uh
 files:List Str
structure zL where
 virtual:Str
 names:List Str
 line:Int
structure aC where
 packs:List eP
 cO:List zL
structure zM where
 spec:fQ
 line:Int
structure dG where
 roots:List zM
instance:Inhabited iD:=⟨⟨.empty,.empty⟩⟩
instance:Inhabited jv:=⟨⟨.empty,.empty⟩⟩
instance:Inhabited fQ:=⟨⟨.empty,[],[]⟩⟩
instance:Inhabited jY:=⟨⟨.empty,false⟩⟩
instance:Inhabited fE:=⟨⟨.empty,[]⟩⟩
instance:Inhabited oO:=⟨⟨default,default,0⟩⟩
instance:Inhabited uh:=⟨⟨default,default,0⟩⟩
instance:Inhabited eP:=⟨⟨.empty,0,[],[],[],[],[],[]⟩⟩
instance:Inhabited zL:=⟨⟨.empty,[],0⟩⟩
instance:Inhabited aC:=⟨⟨[],[]⟩⟩
instance:Inhabited zM:=⟨⟨default,0⟩⟩
instance:Inhabited dG:=⟨⟨[]⟩⟩
abbrev Kp(B:Nat)(w w':World):Prop:=Only (fun k=>B<=k) w w'
theorem Kp.fU{B:Nat}{w w':World}(h:O0 w w'):Kp B w w':=h.mono fun _ f=>f.elim
structure aJ {α:Type} (n:Nat) (C:Nat->World->List Value->α->Prop) (B:Nat) (w:World) (v:Value) (xs:List α):Prop where
 shape:∃ao cap,v= .slice ao xs.length cap/\xs.length<=cap/\cap<=9223372036854775807
 cells:∀ao len cap,v= .slice ao len cap->0<xs.length->∃b off,ao=some ⟨b,off,none⟩/\b<B/\B<=w.heap.size/\∀i (h:i<xs.length),∃cs,cs.length=n/\w.rangeAt b (off+i*n) cs/\C B w cs xs[i]
 nil:∀len cap,v= .slice none len cap->len=0/\cap=0
def Keeps{α:Type}(C:Nat->World->List Value->α->Prop):Prop:= ∀ ⦃B:Nat⦄ ⦃w w':World⦄ ⦃cs:List Value⦄ ⦃x:α⦄,C B w cs x->Kp B w w'->C B w' cs x
theorem dA{B b o:Nat}{w w':World}{cs:List Value}(h:w.rangeAt b o cs)(hb:b<B)(hB:B<=w.heap.size)(k:Kp B w w'):w'.rangeAt b o cs:=by intro j u hu;rw[World.cell?_of_block (w:=w) (k.block b zAB zBB)];exact h j u hu
theorem aJ.keep{α:Type}{n:Nat}{C:Nat->World->List Value->α->Prop}(hC:Keeps C){B:Nat}{w w':World}{v:Value}{xs:List α}(h:aJ n C B w v xs)(k:Kp B w w'):aJ n C B w' v xs:=by refine⟨h.shape,fun ao len cap hv hp=>?_,h.nil⟩;obtain⟨b,off,rfl,hb,hB,hc⟩:=h.cells ao len cap hv hp;refine⟨b,off,rfl,hb,qR hB k.size,fun i hi=>?_⟩;obtain⟨cs,hl,hr,hx⟩:=hc i hi;exact⟨cs,hl,dA hr hb hB k,hC hx k⟩
theorem aJ.nilRow{α:Type}{n:Nat}{C:Nat->World->List Value->α->Prop}{B:Nat}{w:World}:aJ n C B w bK ([]:List α):=
 ⟨⟨none,0,rfl,qH _,by decide⟩,fun _ _ _ _ hp=>by simp at hp,fun len cap hv=>by simp at hv;omega⟩
abbrev okS(s:Str):Prop:=s.size<=maxLen
def dK(_:Nat)(_:World)(cs:List Value)(x:Str):Prop:=cs=[.string x]/\okS x
def eX(_:Nat)(_:World)(cs:List Value)(x:iD):Prop:=cs=[.string x.lo,.string x.hi]/\okS x.lo/\okS x.hi
def je(_:Nat)(_:World)(cs:List Value)(x:jv):Prop:=cs=[.string x.name,.string x.value]/\okS x.name/\okS x.value
def nK(_:Nat)(_:World)(cs:List Value)(x:jY):Prop:=cs=[.string x.version,.bool x.old]/\okS x.version
def dh(B:Nat)(w:World)(cs:List Value)(x:fQ):Prop:= ∃v1 v2,cs=[.string x.name,v1,v2]/\okS x.name/\aJ 2 eX B w v1 x.spans/\aJ 2 je B w v2 x.sets
def jF(B:Nat)(w:World)(cs:List Value)(x:fE):Prop:= ∃v1,cs=[.string x.name,v1]/\okS x.name/\aJ 1 dK B w v1 x.values
def l7(B:Nat)(w:World)(cs:List Value)(x:oO):Prop:= ∃c1 c2,cs=c1++c2++[.int .i64 x.line]/\dh B w c1 x.on/\dh B w c2 x.cond/\aO x.line
def oQ(B:Nat)(w:World)(cs:List Value)(x:uh):Prop:= ∃c1 c2,cs=c1++c2++[.int .i64 x.line]/\dh B w c1 x.cond/\dh B w c2 x.with'/\aO x.line
def fF(B:Nat)(w:World)(cs:List Value)(x:eP):Prop:= ∃v1 v2 v3 v4 v5 v6,cs=[.string x.name,.int .i64 x.line,v1,v2,v3,v4,v5,v6]/\okS x.name/\aO x.line/\
 aJ 2 nK B w v1 x.aP/\aJ 2 jF B w v2 x.vars/\aJ 1 dK B w v3 x.provides/\aJ 7 l7 B w v4 x.deps/\aJ 7 oQ B w v5 x.cons/\aJ 1 dK B w v6 x.files
def jX(B:Nat)(w:World)(cs:List Value)(x:zL):Prop:= ∃v1,cs=[.string x.virtual,v1,.int .i64 x.line]/\okS x.virtual/\aO x.line/\aJ 1 dK B w v1 x.names
def gG(B:Nat)(w:World)(cs:List Value)(x:aC):Prop:= ∃v1 v2,cs=[v1,v2]/\aJ 8 fF B w v1 x.packs/\aJ 3 jX B w v2 x.cO
def kX(B:Nat)(w:World)(cs:List Value)(x:zM):Prop:= ∃c1,cs=c1++[.int .i64 x.line]/\dh B w c1 x.spec/\aO x.line
def lI(B:Nat)(w:World)(cs:List Value)(x:dG):Prop:= ∃v1,cs=[v1]/\aJ 4 kX B w v1 x.roots
theorem dK.keep:Keeps dK:=fun _ _ _ _ _ h _=>h
theorem eX.keep:Keeps eX:=fun _ _ _ _ _ h _=>h
theorem je.keep:Keeps je:=fun _ _ _ _ _ h _=>h
theorem nK.keep:Keeps nK:=fun _ _ _ _ _ h _=>h
theorem dh.keep:Keeps dh:=fun _ _ _ _ _ ⟨v1,v2,h,a,b,c⟩ k=>⟨v1,v2,h,a,b.keep eX.keep k,c.keep je.keep k⟩
theorem jF.keep:Keeps jF:=fun _ _ _ _ _ ⟨v1,h,a,b⟩ k=>⟨v1,h,a,b.keep dK.keep k⟩
theorem l7.keep:Keeps l7:=fun _ _ _ _ _ ⟨c1,c2,h,a,b,c⟩ k=>⟨c1,c2,h,dh.keep a k,dh.keep b k,c⟩
theorem oQ.keep:Keeps oQ:=fun _ _ _ _ _ ⟨c1,c2,h,a,b,c⟩ k=>⟨c1,c2,h,dh.keep a k,dh.keep b k,c⟩
theorem fF.keep:Keeps fF:=fun _ _ _ _ _ ⟨v1,v2,v3,v4,v5,v6,h,a,b,c1,c2,c3,c4,c5,c6⟩ k=>⟨v1,v2,v3,v4,v5,v6,h,a,b,c1.keep nK.keep k,c2.keep jF.keep k,c3.keep dK.keep k,c4.keep l7.keep k,c5.keep oQ.keep k,c6.keep dK.keep k⟩
theorem jX.keep:Keeps jX:=fun _ _ _ _ _ ⟨v1,h,a,b,c⟩ k=>⟨v1,h,a,b,c.keep dK.keep k⟩
theorem gG.keep:Keeps gG:=fun _ _ _ _ _ ⟨v1,v2,h,a,b⟩ k=>⟨v1,v2,h,a.keep fF.keep k,b.keep jX.keep k⟩
theorem kX.keep:Keeps kX:=fun _ _ _ _ _ ⟨c1,h,a,b⟩ k=>⟨c1,h,dh.keep a k,b⟩
theorem lI.keep:Keeps lI:=fun _ _ _ _ _ ⟨v1,h,a⟩ k=>⟨v1,h,a.keep kX.keep k⟩
def Lifts{α:Type}(C:Nat->World->List Value->α->Prop):Prop:= ∀ ⦃B B':Nat⦄ ⦃w:World⦄ ⦃cs:List Value⦄ ⦃x:α⦄,C B w cs x->B<=B'->B'<=w.heap.size->C B' w cs x
theorem aJ.lift{α:Type}{n:Nat}{C:Nat->World->List Value->α->Prop}(hC:Lifts C){B B':Nat}{w:World}{v:Value}{xs:List α}(h:aJ n C B w v xs)(h1:B<=B')(h2:B'<=w.heap.size):aJ n C B' w v xs:=by refine⟨h.shape,fun ao len cap hv hp=>?_,h.nil⟩;obtain⟨b,off,rfl,hb,hB,hc⟩:=h.cells ao len cap hv hp;refine⟨b,off,rfl,by omega,h2,fun i hi=>?_⟩;obtain⟨cs,hl,hr,hx⟩:=hc i hi;exact⟨cs,hl,hr,hC hx h1 h2⟩
theorem dK.lift:Lifts dK:=fun _ _ _ _ _ h _ _=>h
theorem eX.lift:Lifts eX:=fun _ _ _ _ _ h _ _=>h
theorem je.lift:Lifts je:=fun _ _ _ _ _ h _ _=>h
theorem nK.lift:Lifts nK:=fun _ _ _ _ _ h _ _=>h
theorem dh.lift:Lifts dh:=fun _ _ _ _ _ ⟨v1,v2,h,a,b,c⟩ k l=>⟨v1,v2,h,a,b.lift eX.lift k l,c.lift je.lift k l⟩
theorem jF.lift:Lifts jF:=fun _ _ _ _ _ ⟨v1,h,a,b⟩ k l=>⟨v1,h,a,b.lift dK.lift k l⟩
theorem l7.lift:Lifts l7:=fun _ _ _ _ _ ⟨c1,c2,h,a,b,c⟩ k l=>⟨c1,c2,h,dh.lift a k l,dh.lift b k l,c⟩
theorem oQ.lift:Lifts oQ:=fun _ _ _ _ _ ⟨c1,c2,h,a,b,c⟩ k l=>⟨c1,c2,h,dh.lift a k l,dh.lift b k l,c⟩
theorem fF.lift:Lifts fF:=fun _ _ _ _ _ ⟨v1,v2,v3,v4,v5,v6,h,a,b,c1,c2,c3,c4,c5,c6⟩ k l=>⟨v1,v2,v3,v4,v5,v6,h,a,b,c1.lift nK.lift k l,c2.lift jF.lift k l,c3.lift dK.lift k l,c4.lift l7.lift k l,c5.lift oQ.lift k l,c6.lift dK.lift k l⟩
theorem jX.lift:Lifts jX:=fun _ _ _ _ _ ⟨v1,h,a,b,c⟩ k l=>⟨v1,h,a,b,c.lift dK.lift k l⟩
theorem gG.lift:Lifts gG:=fun _ _ _ _ _ ⟨v1,v2,h,a,b⟩ k l=>⟨v1,v2,h,a.lift fF.lift k l,b.lift jX.lift k l⟩
theorem kX.lift:Lifts kX:=fun _ _ _ _ _ ⟨c1,h,a,b⟩ k l=>⟨c1,h,dh.lift a k l,b⟩
theorem lI.lift:Lifts lI:=fun _ _ _ _ _ ⟨v1,h,a⟩ k l=>⟨v1,h,a.lift kX.lift k l⟩
section
variable {α:Type} {n:Nat} {C:Nat->World->List Value->α->Prop} {B:Nat} {w:World} {v:Value} {xs:List α}
theorem aJ.sh(h:aJ n C B w v xs):∃ao cap,v= .slice ao xs.length cap/\xs.length<=cap/\cap<=9223372036854775807:=h.shape
theorem aJ.at{ao:Option Addr}{len cap:Nat}(h:aJ n C B w (.slice ao len cap) xs)(hp:0<xs.length):∃b off,ao=some ⟨b,off,none⟩/\b<B/\B<=w.heap.size:=
 let ⟨b,off,e,h1,h2,_⟩:=h.cells ao len cap rfl hp
 ⟨b,off,e,h1,h2⟩
theorem aJ.get{b off len cap:Nat}(h:aJ n C B w (.slice (some ⟨b,off,none⟩) len cap) xs){i:Nat}{x:α}(hi:xs[i]? =some x):∃cs,cs.length=n/\w.rangeAt b (off+i*n) cs/\C B w cs x:=by obtain⟨hlt,rfl⟩:=qJ.1 hi;obtain⟨b',off',e,_,_,hc⟩:=h.cells _ _ _ rfl zBB;simp only[qG,qO,and_true]at e;obtain⟨rfl,rfl⟩:=e;exact hc i hlt
end
theorem fF.cells{B:Nat}{w:World}{cs:List Value}{x:eP}(h:fF B w cs x):∃o1 o2 o3 o4 o5 o6 c1 c2 c3 c4 c5 c6,cs=[.string x.name,.int .i64 x.line,.slice o1 x.aP.length c1,.slice o2 x.vars.length c2,.slice o3 x.provides.length c3,.slice o4 x.deps.length c4,.slice o5 x.cons.length c5,.slice o6 x.files.length c6]/\okS x.name/\aO x.line/\aJ 2 nK B w (.slice o1 x.aP.length c1) x.aP/\aJ 2 jF B w (.slice o2 x.vars.length c2) x.vars/\aJ 1 dK B w (.slice o3 x.provides.length c3) x.provides/\aJ 7 l7 B w (.slice o4 x.deps.length c4) x.deps/\aJ 7 oQ B w (.slice o5 x.cons.length c5) x.cons/\aJ 1 dK B w (.slice o6 x.files.length c6) x.files:=by obtain⟨v1,v2,v3,v4,v5,v6,rfl,a,b,h1,h2,h3,h4,h5,h6⟩:=h;obtain⟨o1,c1,rfl,-,-⟩:=h1.shape;obtain⟨o2,c2,rfl,-,-⟩:=h2.shape;obtain⟨o3,c3,rfl,-,-⟩:=h3.shape;obtain⟨o4,c4,rfl,-,-⟩:=h4.shape;obtain⟨o5,c5,rfl,-,-⟩:=h5.shape;obtain⟨o6,c6,rfl,-,-⟩:=h6.shape;exact⟨o1,o2,o3,o4,o5,o6,c1,c2,c3,c4,c5,c6,rfl,a,b,h1,h2,h3,h4,h5,h6⟩
theorem dh.cells{B:Nat}{w:World}{cs:List Value}{x:fQ}(h:dh B w cs x):∃o1 o2 c1 c2,cs=[.string x.name,.slice o1 x.spans.length c1,.slice o2 x.sets.length c2]/\okS x.name/\aJ 2 eX B w (.slice o1 x.spans.length c1) x.spans/\aJ 2 je B w (.slice o2 x.sets.length c2) x.sets:=by obtain⟨v1,v2,rfl,a,h1,h2⟩:=h;obtain⟨o1,c1,rfl,-,-⟩:=h1.shape;obtain⟨o2,c2,rfl,-,-⟩:=h2.shape;exact⟨o1,o2,c1,c2,rfl,a,h1,h2⟩
end Go.Proofs.YtdmmebjjojimiaaGreatDoor
namespace Go.Proofs
theorem zAE{p:Prop}(h:p:=by simp):p:=h
theorem zAg{p:Prop}(h:p:=by simpa using h):p:=h
end Go.Proofs
namespace Go.Proofs.YtdmmebjjojimiaaGreatDoor
def jk{α:Type}(p:α->Bool)(xs:List α):Int:=if xs.any p then (xs.findIdx p:Int)else -1
theorem pW{α:Type}{p:α->Bool}{xs:List α}{k:Nat}{x:α}(hk:xs[k]? =some x)(hp:p x=true)(hn:∀y∈xs.take k,p y=false):jk p xs=k:=by obtain⟨hlt,rfl⟩:=qJ.1 hk;unfold jk;rw[if_pos (yU.2 ⟨xs[k],qZ hlt,hp⟩)];congr 1;rw[List.findIdx_eq hlt];refine⟨hp,fun j hj=>hn _ ?_⟩;rw[List.mem_take_iff_getElem];exact⟨j,by omega,rfl⟩
theorem mV{α:Type}{p:α->Bool}{xs:List α}(hn:∀y∈xs,p y=false):jk p xs= -1:=by unfold jk;rw[if_neg];rw[yU];rintro⟨x,hx,hp⟩;rw[hn x hx]at hp;cases hp
theorem kR{α:Type}(p:α->Bool)(xs:List α):jk p xs= -1\/ ∃k:Nat,jk p xs=k/\k<xs.length/\∃x,xs[k]? =some x/\p x=true:=by
 unfold jk;split;·rename_i h;have hl:=List.findIdx_lt_length_of_exists (p:=p) (xs:=xs) zAg;exact .inr ⟨_,rfl,hl,_,qA hl,List.findIdx_getElem⟩
 exact .inl rfl
def intsOf(l:List Nat):List Int:=l.map fun i:Nat=>(i:Int)
def lJ(l:List Str)(s:Str):Bool:=l.any fun t=>decide (t=s)
theorem EC{l:List Str}{s:Str}:lJ l s=true↔s∈l:=by
 unfold lJ;rw[yU];constructor;·rintro⟨t,ht,h⟩;rw[of_decide_eq_true h]at ht;exact ht
 intro h;exact⟨s,h,qX rfl⟩
def aC.find(x:aC)(s:Str):Int:=jk (fun p=>decide (p.name=s)) x.packs
def aC.pack(x:aC)(i:Nat):eP:=x.packs.getD i default
def aC.jH(x:aC)(s:Str)(k:Nat):List Nat:=(List.range k).filter fun i=>lJ (x.pack i).provides s
def aC.bZ(x:aC)(s:Str):List Nat:=x.jH s x.packs.length
def aC.targets(x:aC)(s:Str):List Nat:=if 0<=x.find s then [(x.find s).toNat]else x.bZ s
theorem aC.MW(x:aC)(s:Str)(k:Nat):x.jH s (k+1)=if lJ (x.pack k).provides s=true then x.jH s k++[k]else x.jH s k:=by unfold aC.jH;rw[List.range_succ,List.filter_append];by_cases h:lJ (x.pack k).provides s=true<;>simp[h]
theorem aC.rG(x:aC)(s:Str):x.find s<x.packs.length:=by
 rcases kR (fun p=>decide (p.name=s)) x.packs with h| ⟨k,h,hk,_⟩;·unfold aC.find;rw[h];omega
 unfold aC.find;rw[h];omega
theorem aC.x9{x:aC}{s:Str}{i:Nat}(h:i∈x.targets s):i<x.packs.length:=by
 unfold aC.targets at h;split at h;·have:=x.rG s;simp at h;omega
 unfold aC.bZ aC.jH at h;simp at h;exact h.1
theorem aC.MX(x:aC)(s:Str):(x.targets s).length<=x.packs.length:=by
 unfold aC.targets;split;·have:=x.rG s;simp;omega
 unfold aC.bZ aC.jH;have:=yO (fun i=>lJ (x.pack i).provides s) (List.range x.packs.length);simpa using this
inductive aC.Reach (x:aC) (names:List Str):Nat->Prop where
 |root {s i}:s∈names->i∈x.targets s->Reach x names i
 |step {k d i}:Reach x names k->d∈(x.pack k).deps->i∈x.targets d.on.name->Reach x names i
theorem aC.Reach.lt{x:aC}{names:List Str}{i:Nat}(h:x.Reach names i):i<x.packs.length:=by
 cases h with
 |root _ h=>exact x9 h
 |step _ _ h=>exact x9 h
theorem aC.Reach.mono{x:aC}{a b:List Str}(hab:∀s∈a,s∈b){i:Nat}(h:x.Reach a i):x.Reach b i:=by
 induction h with
 |root h1 h2=>exact .root (hab _ h1) h2
 |step _ h2 h3 ih=>exact .step ih h2 h3
theorem aC.Reach.append{x:aC}{a b:List Str}{i:Nat}:x.Reach (a++b) i↔x.Reach a i\/x.Reach b i:=by
 constructor
 ·intro h;induction h with
  |root h1 h2=>
   rcases qW.1 h1 with h|h;·exact .inl (.root h h2)
   exact .inr (.root h h2)
  |step _ h2 h3 ih=>
   rcases ih with h|h;·exact .inl (.step h h2 h3)
   exact .inr (.step h h2 h3)
 rintro(h|h);·exact h.mono fun s hs=>List.mem_append_left _ hs
 exact h.mono fun s hs=>List.mem_append_right _ hs
open Classical in
noncomputable def aC.closure (x:aC) (names:List Str):List Nat:=(List.range x.packs.length).filter fun i=>decide (x.Reach names i)
theorem aC.iJ{x:aC}{names:List Str}{i:Nat}:i∈x.closure names↔x.Reach names i:=by unfold aC.closure;rw[List.mem_filter];simp only[yI,yP];exact⟨fun h=>h.2,fun h=>⟨h.lt,h⟩⟩
theorem aC.ED(x:aC)(names:List Str):(x.closure names).Pairwise (· < ·):=by unfold aC.closure;exact List.Pairwise.filter _ List.pairwise_lt_range
theorem aC.nM(x:aC)(names:List Str):(x.closure names).length<=x.packs.length:=by unfold aC.closure;have:=yO (fun i=> @decide (x.Reach names i) (Classical.propDecidable _)) (List.range x.packs.length);simpa using this
def eP.names(p:eP):List Str:=p.deps.map fun d=>d.on.name
def Met(x:aC)(roots:List Str)(ks:List Int)(s:Str):Prop:=s∈roots\/ ∃k:Nat,(k:Int)∈ks/\s∈(x.pack k).names
structure lD (x:aC) (roots:List Str) (ks:List Int) (A R:List Str):Prop where
 keys:∀z∈ks,∃i:Nat,z=i/\x.Reach roots i
 names:∀s,s∈A\/s∈R->∀i∈x.targets s,x.Reach roots i
 done:∀s,Met x roots ks s->s∈A\/s∈R\/ ∀i∈x.targets s,(i:Int)∈ks
theorem lD.start(x:aC)(roots:List Str):lD x roots [] roots []:=
 ⟨fun z hz=>(by cases hz),fun s hs i hi=>.root (by simpa using hs) hi,fun s hs=>by
  rcases hs with h| ⟨k,h,_⟩
  ·exact .inl h
  ·cases h⟩
theorem lD.pop{x:aC}{roots:List Str}{ks:List Int}{A:List Str}{s:Str}(h:lD x roots ks (s::A) []):lD x roots ks A [s]:=
 ⟨h.keys,fun t ht=>h.names t (by simp at ht⊢;rcases ht with h|h;exact .inr h;exact .inl h),fun t ht=>by
  have:=h.done t ht
  simp at this⊢
  rcases this with(h|h)|h
  ·exact .inr (.inl h)
  ·exact .inl h
  ·exact .inr (.inr h)⟩
theorem lD.key{x:aC}{roots:List Str}{ks ks':List Int}{A R:List Str}{s:Str}{i:Nat}(h:lD x roots ks A (R++[s]))(hi:i∈x.targets s)(hk:∀z,z∈ks'↔z∈ks\/z=i):lD x roots ks' A ((x.pack i).names++(R++[s])):=by
 have hr:x.Reach roots i:=h.names s (.inr zAE) i hi;refine⟨fun z hz=>?_,fun t ht j hj=>?_,fun t ht=>?_⟩
 ·rcases(hk z).1 hz with hz|rfl;·exact h.keys z hz
  exact⟨i,rfl,hr⟩
 ·rcases ht with ht|ht;·exact h.names t (.inl ht) j hj
  rcases qW.1 ht with ht|ht;·obtain⟨d,hd,rfl⟩:=yD.1 ht;exact .step hr hd hj
  exact h.names t (.inr ht) j hj
 have old:Met x roots ks t->t∈A\/t∈(x.pack i).names++(R++[s])\/ ∀j∈x.targets t,(j:Int)∈ks':=fun hm=>by
  rcases h.done t hm with h1|h1|h1;·exact .inl h1
  ·exact .inr (.inl (List.mem_append_right _ h1))
  exact .inr (.inr fun j hj=>(hk _).2 (.inl (h1 j hj)))
 rcases ht with ht| ⟨k,hkk,ht⟩;·exact old (.inl ht)
 rcases(hk _).1 hkk with h2|h2;·exact old (.inr ⟨k,h2,ht⟩)
 obtain rfl:k=i:=by omega
 exact .inr (.inl (List.mem_append_left _ ht))
theorem lD.push{x:aC}{roots:List Str}{ks:List Int}{A R:List Str}{s:Str}(h:lD x roots ks A (s::R)):lD x roots ks (A++[s]) R:=
 ⟨h.keys,fun t ht=>h.names t (by simp at ht⊢;rcases ht with(h|h)|h;exact .inl h;exact .inr (.inl h);exact .inr (.inr h)),fun t ht=>by
  have:=h.done t ht
  simp at this⊢
  rcases this with h| (h|h)|h
  ·exact .inl (.inl h)
  ·exact .inl (.inr h)
  ·exact .inr (.inl h)
  ·exact .inr (.inr h)⟩
theorem lD.drop{x:aC}{roots:List Str}{ks:List Int}{A:List Str}{s:Str}(h:lD x roots ks A [s])(hi:∀i∈x.targets s,(i:Int)∈ks):lD x roots ks A []:=
 ⟨h.keys,fun t ht=>h.names t (by simp at ht⊢;exact .inl ht),fun t ht=>by
  have:=h.done t ht
  simp at this⊢
  rcases this with h|rfl|h
  ·exact .inl h
  ·exact .inr hi
  ·exact .inr h⟩
theorem lD.fin{x:aC}{roots:List Str}{ks:List Int}(h:lD x roots ks [] [])(z:Int):z∈ks↔ ∃i:Nat,z=i/\i∈x.closure roots:=by
 constructor;·intro hz;obtain⟨i,rfl,hi⟩:=h.keys z hz;exact⟨i,rfl,aC.iJ.2 hi⟩
 rintro⟨i,rfl,hi⟩;have hr:=aC.iJ.1 hi;clear hi;induction hr with
 |root h1 h2=>
  rcases h.done _ (.inl h1)with h3|h3|h3;·cases h3
  ·cases h3
  exact h3 _ h2
 |step _ h2 h3 ih=>
  rename_i k d i _;rcases h.done d.on.name (.inr ⟨_,ih,yD.2 ⟨d,h2,rfl⟩⟩)with h4|h4|h4;·cases h4
  ·cases h4
  exact h4 _ h3
def aC.BU(x:aC)(ks:List Int):Nat:=((List.range x.packs.length).map fun i:Nat=>if (i:Int)∈ks then 0 else (x.pack i).deps.length).sum
theorem xA(f g:Nat->Nat)(i c:Nat):∀l:List Nat,l.Nodup->i∈l->g i+c=f i->(∀j∈l,j≠i->g j=f j)->(l.map g).sum+c=(l.map f).sum
 | [],_,h,_,_=>by cases h
 |a::l,hn,hi,hc,ho=>by
  rw[List.nodup_cons]at hn
  rcases qY.1 hi with rfl|hi
  ·have:l.map g=l.map f:=List.map_congr_left fun j hj=>ho j (yE _ hj) fun e=>hn.1 (e▸hj)
   simp only[List.map_cons,List.sum_cons,this];omega
  ·have:=xA f g i c l hn.2 hi hc fun j hj=>ho j (yE _ hj)
   have h2:=ho a qQ fun e=>hn.1 (e▸hi)
   simp only[List.map_cons,List.sum_cons,h2];omega
theorem aC.aaA{x:aC}{ks ks':List Int}{i:Nat}(hi:i<x.packs.length)(hn:(i:Int)∉ks)(hk:∀z,z∈ks'↔z∈ks\/z=i):x.BU ks'+(x.pack i).deps.length=x.BU ks:=by
 unfold aC.BU;refine xA _ _ i _ _ List.nodup_range (yI.2 hi) ?_ fun j _ hj=>?_;·rw[if_pos ((hk _).2 (.inr rfl)),if_neg hn];omega
 have:((j:Int)∈ks')↔(j:Int)∈ks:=by
  rw[hk];constructor
  ·rintro(h|h);·exact h
   omega
  exact .inl
 by_cases h:(j:Int)∈ks;·rw[if_pos h,if_pos (this.2 h)]
 rw[if_neg h,if_neg (fun e=>h (this.1 e))]
theorem aC.ac1{x:aC}{M:Nat}(h:∀p∈x.packs,p.deps.length<=M)(ks:List Int):x.BU ks<=x.packs.length*M:=by
 have gen:∀l:List Nat,(∀i∈l,i<x.packs.length)->(l.map fun i:Nat=>if (i:Int)∈ks then 0 else (x.pack i).deps.length).sum<=l.length*M:=by
  intro l
  induction l with
  |nil=>intro _;simp
  |cons a l ih=>
   intro hl
   have h1:=ih fun i hi=>hl i (yE _ hi)
   have h2:(x.pack a).deps.length<=M:=by
    have ha:=hl a qQ
    unfold aC.pack
    rw[qC,qA ha]
    exact h _ (qZ ha)
   simp only[List.map_cons,List.sum_cons,qN,Nat.add_mul,Nat.one_mul]
   split<;>omega
 have:=gen (List.range x.packs.length) fun i hi=>yI.1 hi;simpa[aC.BU]using this
end Go.Proofs.YtdmmebjjojimiaaGreatDoor
namespace Go.Proofs.YtdmmebjjojimiaaGreatDoor
open Go.RowKit
section
variable {w w':World} {B:Nat}
theorem aJ.placed{α:Type}{n:Nat}{C:Nat->World->List Value->α->Prop}{ao:Option Addr}{len cap i:Nat}{xs:List α}{y:α}(h:aJ n C B w (.slice ao len cap) xs)(hx:xs[i]? =some y):∃b off cs,ao=some ⟨b,off,none⟩/\b<B/\B<=w.heap.size/\cs.length=n/\w.rangeAt b (off+i*n) cs/\C B w cs y:=by obtain⟨hlt,rfl⟩:=qJ.1 hx;obtain⟨b,off,rfl,h1,h2,hc⟩:=h.cells _ _ _ rfl zBB;obtain⟨cs,g1,g2,g3⟩:=hc i hlt;exact⟨b,off,cs,rfl,h1,h2,g1,g2,g3⟩
theorem TV{ao:Option Addr}{len cap i:Nat}{xs:List Str}{y:Str}(h:aJ 1 dK B w (.slice ao len cap) xs)(hx:xs[i]? =some y):∃(b off:Nat),ao=some ⟨b,off,none⟩/\okS y/\∀W,O0 w W->W.rangeAt b (off+i*1) [.string y]/\dK B W [.string y] y:=by obtain⟨b,off,cs,rfl,hb,hB,-,hr,hC⟩:=h.placed hx;have hC0:=hC;obtain⟨rfl,ok1⟩:=hC;exact⟨b,off,rfl,ok1,fun W ho=>⟨dA hr hb hB (Kp.fU ho),dK.keep hC0 (Kp.fU ho)⟩⟩
theorem TW{ao:Option Addr}{len cap i:Nat}{xs:List jY}{y:jY}(h:aJ 2 nK B w (.slice ao len cap) xs)(hx:xs[i]? =some y):∃(b off:Nat),ao=some ⟨b,off,none⟩/\okS y.version/\∀W,O0 w W->W.rangeAt b (off+i*2) [.string y.version,.bool y.old]/\nK B W [.string y.version,.bool y.old] y:=by obtain⟨b,off,cs,rfl,hb,hB,-,hr,hC⟩:=h.placed hx;have hC0:=hC;obtain⟨rfl,ok1⟩:=hC;exact⟨b,off,rfl,ok1,fun W ho=>⟨dA hr hb hB (Kp.fU ho),nK.keep hC0 (Kp.fU ho)⟩⟩
theorem TY{ao:Option Addr}{len cap i:Nat}{xs:List fE}{y:fE}(h:aJ 2 jF B w (.slice ao len cap) xs)(hx:xs[i]? =some y):∃(b off:Nat) (a1:Option Addr) (n1 c1:Nat),ao=some ⟨b,off,none⟩/\y.values.length=n1/\okS y.name/\∀W,O0 w W->W.rangeAt b (off+i*2) [.string y.name,.slice a1 n1 c1]/\aJ 1 dK B W (.slice a1 n1 c1) y.values/\jF B W [.string y.name,.slice a1 n1 c1] y:=by obtain⟨b,off,cs,rfl,hb,hB,-,hr,hC⟩:=h.placed hx;have hC0:=hC;obtain⟨v1,rfl,ok1,r1⟩:=hC;obtain⟨a1,c1,rfl,-,-⟩:=r1.shape;exact⟨b,off,a1,_,c1,rfl,rfl,ok1,fun W ho=>⟨dA hr hb hB (Kp.fU ho),r1.keep dK.keep (Kp.fU ho),jF.keep hC0 (Kp.fU ho)⟩⟩
theorem aaG{ao:Option Addr}{len cap i:Nat}{xs:List oO}{y:oO}(h:aJ 7 l7 B w (.slice ao len cap) xs)(hx:xs[i]? =some y):∃(b off:Nat) (a1:Option Addr) (n1 c1:Nat) (a2:Option Addr) (n2 c2:Nat) (a3:Option Addr) (n3 c3:Nat) (a4:Option Addr) (n4 c4:Nat),ao=some ⟨b,off,none⟩/\y.on.spans.length=n1/\y.on.sets.length=n2/\y.cond.spans.length=n3/\y.cond.sets.length=n4/\okS y.on.name/\okS y.cond.name/\aO y.line/\∀W,O0 w W->W.rangeAt b (off+i*7) [.string y.on.name,.slice a1 n1 c1,.slice a2 n2 c2,.string y.cond.name,.slice a3 n3 c3,.slice a4 n4 c4,.int .i64 y.line]/\aJ 2 eX B W (.slice a1 n1 c1) y.on.spans/\aJ 2 je B W (.slice a2 n2 c2) y.on.sets/\aJ 2 eX B W (.slice a3 n3 c3) y.cond.spans/\aJ 2 je B W (.slice a4 n4 c4) y.cond.sets/\l7 B W [.string y.on.name,.slice a1 n1 c1,.slice a2 n2 c2,.string y.cond.name,.slice a3 n3 c3,.slice a4 n4 c4,.int .i64 y.line] y:=by obtain⟨b,off,cs,rfl,hb,hB,-,hr,hC⟩:=h.placed hx;have hC0:=hC;obtain⟨q1,q2,rfl,⟨v1,v2,rfl,ok1,r1,r2⟩,⟨v3,v4,rfl,ok2,r3,r4⟩,in1⟩:=hC;obtain⟨a1,c1,rfl,-,-⟩:=r1.shape;obtain⟨a2,c2,rfl,-,-⟩:=r2.shape;obtain⟨a3,c3,rfl,-,-⟩:=r3.shape;obtain⟨a4,c4,rfl,-,-⟩:=r4.shape;exact⟨b,off,a1,_,c1,a2,_,c2,a3,_,c3,a4,_,c4,rfl,rfl,rfl,rfl,rfl,ok1,ok2,in1,fun W ho=>⟨dA hr hb hB (Kp.fU ho),r1.keep eX.keep (Kp.fU ho),r2.keep je.keep (Kp.fU ho),r3.keep eX.keep (Kp.fU ho),r4.keep je.keep (Kp.fU ho),l7.keep hC0 (Kp.fU ho)⟩⟩
theorem aaH{ao:Option Addr}{len cap i:Nat}{xs:List uh}{y:uh}(h:aJ 7 oQ B w (.slice ao len cap) xs)(hx:xs[i]? =some y):∃(b off:Nat) (a1:Option Addr) (n1 c1:Nat) (a2:Option Addr) (n2 c2:Nat) (a3:Option Addr) (n3 c3:Nat) (a4:Option Addr) (n4 c4:Nat),ao=some ⟨b,off,none⟩/\y.cond.spans.length=n1/\y.cond.sets.length=n2/\y.with'.spans.length=n3/\y.with'.sets.length=n4/\okS y.cond.name/\okS y.with'.name/\aO y.line/\∀W,O0 w W->W.rangeAt b (off+i*7) [.string y.cond.name,.slice a1 n1 c1,.slice a2 n2 c2,.string y.with'.name,.slice a3 n3 c3,.slice a4 n4 c4,.int .i64 y.line]/\aJ 2 eX B W (.slice a1 n1 c1) y.cond.spans/\aJ 2 je B W (.slice a2 n2 c2) y.cond.sets/\aJ 2 eX B W (.slice a3 n3 c3) y.with'.spans/\aJ 2 je B W (.slice a4 n4 c4) y.with'.sets/\oQ B W [.string y.cond.name,.slice a1 n1 c1,.slice a2 n2 c2,.string y.with'.name,.slice a3 n3 c3,.slice a4 n4 c4,.int .i64 y.line] y:=by obtain⟨b,off,cs,rfl,hb,hB,-,hr,hC⟩:=h.placed hx;have hC0:=hC;obtain⟨q1,q2,rfl,⟨v1,v2,rfl,ok1,r1,r2⟩,⟨v3,v4,rfl,ok2,r3,r4⟩,in1⟩:=hC;obtain⟨a1,c1,rfl,-,-⟩:=r1.shape;obtain⟨a2,c2,rfl,-,-⟩:=r2.shape;obtain⟨a3,c3,rfl,-,-⟩:=r3.shape;obtain⟨a4,c4,rfl,-,-⟩:=r4.shape;exact⟨b,off,a1,_,c1,a2,_,c2,a3,_,c3,a4,_,c4,rfl,rfl,rfl,rfl,rfl,ok1,ok2,in1,fun W ho=>⟨dA hr hb hB (Kp.fU ho),r1.keep eX.keep (Kp.fU ho),r2.keep je.keep (Kp.fU ho),r3.keep eX.keep (Kp.fU ho),r4.keep je.keep (Kp.fU ho),oQ.keep hC0 (Kp.fU ho)⟩⟩
theorem nU{ao:Option Addr}{len cap i:Nat}{xs:List eP}{y:eP}(h:aJ 8 fF B w (.slice ao len cap) xs)(hx:xs[i]? =some y):∃(b off:Nat) (a1:Option Addr) (n1 c1:Nat) (a2:Option Addr) (n2 c2:Nat) (a3:Option Addr) (n3 c3:Nat) (a4:Option Addr) (n4 c4:Nat) (a5:Option Addr) (n5 c5:Nat) (a6:Option Addr) (n6 c6:Nat),ao=some ⟨b,off,none⟩/\y.aP.length=n1/\y.vars.length=n2/\y.provides.length=n3/\y.deps.length=n4/\y.cons.length=n5/\y.files.length=n6/\okS y.name/\aO y.line/\∀W,O0 w W->W.rangeAt b (off+i*8) [.string y.name,.int .i64 y.line,.slice a1 n1 c1,.slice a2 n2 c2,.slice a3 n3 c3,.slice a4 n4 c4,.slice a5 n5 c5,.slice a6 n6 c6]/\aJ 2 nK B W (.slice a1 n1 c1) y.aP/\aJ 2 jF B W (.slice a2 n2 c2) y.vars/\aJ 1 dK B W (.slice a3 n3 c3) y.provides/\aJ 7 l7 B W (.slice a4 n4 c4) y.deps/\aJ 7 oQ B W (.slice a5 n5 c5) y.cons/\aJ 1 dK B W (.slice a6 n6 c6) y.files/\fF B W [.string y.name,.int .i64 y.line,.slice a1 n1 c1,.slice a2 n2 c2,.slice a3 n3 c3,.slice a4 n4 c4,.slice a5 n5 c5,.slice a6 n6 c6] y:=by obtain⟨b,off,cs,rfl,hb,hB,-,hr,hC⟩:=h.placed hx;have hC0:=hC;obtain⟨v1,v2,v3,v4,v5,v6,rfl,ok1,in1,r1,r2,r3,r4,r5,r6⟩:=hC;obtain⟨a1,c1,rfl,-,-⟩:=r1.shape;obtain⟨a2,c2,rfl,-,-⟩:=r2.shape;obtain⟨a3,c3,rfl,-,-⟩:=r3.shape;obtain⟨a4,c4,rfl,-,-⟩:=r4.shape;obtain⟨a5,c5,rfl,-,-⟩:=r5.shape;obtain⟨a6,c6,rfl,-,-⟩:=r6.shape;exact⟨b,off,a1,_,c1,a2,_,c2,a3,_,c3,a4,_,c4,a5,_,c5,a6,_,c6,rfl,rfl,rfl,rfl,rfl,rfl,rfl,ok1,in1,fun W ho=>⟨dA hr hb hB (Kp.fU ho),r1.keep nK.keep (Kp.fU ho),r2.keep jF.keep (Kp.fU ho),r3.keep dK.keep (Kp.fU ho),r4.keep l7.keep (Kp.fU ho),r5.keep oQ.keep (Kp.fU ho),r6.keep dK.keep (Kp.fU ho),fF.keep hC0 (Kp.fU ho)⟩⟩
theorem Fa{ao:Option Addr}{len cap i:Nat}{xs:List zL}{y:zL}(h:aJ 3 jX B w (.slice ao len cap) xs)(hx:xs[i]? =some y):∃(b off:Nat) (a1:Option Addr) (n1 c1:Nat),ao=some ⟨b,off,none⟩/\y.names.length=n1/\okS y.virtual/\aO y.line/\∀W,O0 w W->W.rangeAt b (off+i*3) [.string y.virtual,.slice a1 n1 c1,.int .i64 y.line]/\aJ 1 dK B W (.slice a1 n1 c1) y.names/\jX B W [.string y.virtual,.slice a1 n1 c1,.int .i64 y.line] y:=by obtain⟨b,off,cs,rfl,hb,hB,-,hr,hC⟩:=h.placed hx;have hC0:=hC;obtain⟨v1,rfl,ok1,in1,r1⟩:=hC;obtain⟨a1,c1,rfl,-,-⟩:=r1.shape;exact⟨b,off,a1,_,c1,rfl,rfl,ok1,in1,fun W ho=>⟨dA hr hb hB (Kp.fU ho),r1.keep dK.keep (Kp.fU ho),jX.keep hC0 (Kp.fU ho)⟩⟩
theorem NP{ao:Option Addr}{len cap i:Nat}{xs:List zM}{y:zM}(h:aJ 4 kX B w (.slice ao len cap) xs)(hx:xs[i]? =some y):∃(b off:Nat) (a1:Option Addr) (n1 c1:Nat) (a2:Option Addr) (n2 c2:Nat),ao=some ⟨b,off,none⟩/\y.spec.spans.length=n1/\y.spec.sets.length=n2/\okS y.spec.name/\aO y.line/\∀W,O0 w W->W.rangeAt b (off+i*4) [.string y.spec.name,.slice a1 n1 c1,.slice a2 n2 c2,.int .i64 y.line]/\aJ 2 eX B W (.slice a1 n1 c1) y.spec.spans/\aJ 2 je B W (.slice a2 n2 c2) y.spec.sets/\kX B W [.string y.spec.name,.slice a1 n1 c1,.slice a2 n2 c2,.int .i64 y.line] y:=by obtain⟨b,off,cs,rfl,hb,hB,-,hr,hC⟩:=h.placed hx;have hC0:=hC;obtain⟨q1,rfl,⟨v1,v2,rfl,ok1,r1,r2⟩,in1⟩:=hC;obtain⟨a1,c1,rfl,-,-⟩:=r1.shape;obtain⟨a2,c2,rfl,-,-⟩:=r2.shape;exact⟨b,off,a1,_,c1,a2,_,c2,rfl,rfl,rfl,ok1,in1,fun W ho=>⟨dA hr hb hB (Kp.fU ho),r1.keep eX.keep (Kp.fU ho),r2.keep je.keep (Kp.fU ho),kX.keep hC0 (Kp.fU ho)⟩⟩
end
end Go.Proofs.YtdmmebjjojimiaaGreatDoor
namespace Go.Proofs.YtdmmebjjojimiaaGreatDoor
def LeB(f g:List Bool):Prop:=f.length=g.length/\∀i,f.getD i false=true->g.getD i false=true
theorem LeB.refl(f:List Bool):LeB f f:=⟨rfl,fun _ h=>h⟩
theorem LeB.trans{f g h:List Bool}(a:LeB f g)(b:LeB g h):LeB f h:=⟨a.1.trans b.1,fun i hi=>b.2 i (a.2 i hi)⟩
def Tryz.MZ:Go.Shelf.Ren:=⟨fun |110=>191|109=>272|n=>n,fun |0=>0|3=>3|4=>4|9=>9|31=>81|n=>n,fun |n=>n⟩
theorem Tryz.TL:Go.Proofs.Lays.n110 Tryz.prog Tryz.MZ:={
 mixed:=by kernel_rfl
 f110:=Tryz.func191.trans (congrArg some zk)
 f109:=Tryz.func272.trans (congrArg some zk)
 t0:=Tryz.underlying0
 a0:=Tryz.isAgg0
 z0:=Tryz.sizeOf0
 v0:=Tryz.zeroValue0
 t3:=Tryz.underlying3
 a3:=Tryz.isAgg3
 z3:=Tryz.sizeOf3
 v3:=Tryz.zeroValue3
 t4:=Tryz.underlying4
 a4:=Tryz.isAgg4
 z4:=Tryz.sizeOf4
 v4:=Tryz.zeroValue4
 t9:=Tryz.underlying9
 a9:=Tryz.isAgg9
 z9:=Tryz.sizeOf9
 v9:=Tryz.zeroValue9
 t31:=Tryz.underlying81
 a31:=Tryz.isAgg81
 z31:=Tryz.sizeOf81
 v31:=Tryz.zeroValue81}
theorem Tryz.slices_Contains_string(b off n c:Nat)(zs:List ByteArray)(x:ByteArray)(w:World)(hz:n<=zs.length)(hbig:n<=9223372036854775807)(hc:∀j,j<zs.length->w.cell? ⟨b,off+j,none⟩=some (.string (zs.getD j ByteArray.empty))):Calls Tryz.prog 191 #[.slice (some ⟨b,off,none⟩) n c,.string x] w fun e w'=>e= .returned (.bool (Lib.containsS (zs.take n) x))/\w'=w:=Any.slices_Contains_string Tryz.TL b off n c zs x w hz hbig hc
theorem Tryz.slices_Contains_string_empty(a:Option Addr)(c:Nat)(x:ByteArray)(w:World):Calls Tryz.prog 191 #[.slice a 0 c,.string x] w fun e w'=>e= .returned (.bool false)/\w'=w:=Any.slices_Contains_string_empty Tryz.TL a c x w
end Go.Proofs.YtdmmebjjojimiaaGreatDoor
