/- Recipes and requests as plain data, and how they lie in memory, for reading: rows of struc; What may be needed, plain: names, what they may be, what is reached; the invariant of the  -/
import Derived.Test.YtdmmebjjojimiaaGreatDoorG01
import Derived.Deep.Slices
set_option maxRecDepth 100000
set_option maxHeartbeats 8000000
set_option linter.all false
namespace Go.Proofs.YtdmmebjjojimiaaGreatDoor
open Go.RowKit
abbrev Str:=ByteArray
structure jm where
 lo:Str
 hi:Str
structure kC where
 name:Str
 value:Str
structure gZ where
 name:Str
 spans:List jm
 sets:List kC
structure lV where
 version:Str
 old:Bool
structure eP where
 name:Str
 values:List Str
structure tJ where
 on:gZ
 cond:gZ
 line:Int
structure xX where
 cond:gZ
 with':gZ
 line:Int
structure fP where
 name:Str
 line:Int
 aX:List lV
 vars:List eP
 provides:List Str
 deps:List tJ
 cons:List xX
 files:List Str
structure uQ where
 virtual:Str
 names:List Str
 line:Int
structure aF where
 packs:List fP
 cO:List uQ
structure Dn where
 spec:gZ
 line:Int
structure dH where
 roots:List Dn
instance:Inhabited jm:=⟨⟨.empty,.empty⟩⟩
instance:Inhabited kC:=⟨⟨.empty,.empty⟩⟩
instance:Inhabited gZ:=⟨⟨.empty,[],[]⟩⟩
instance:Inhabited lV:=⟨⟨.empty,false⟩⟩
instance:Inhabited eP:=⟨⟨.empty,[]⟩⟩
instance:Inhabited tJ:=⟨⟨default,default,0⟩⟩
instance:Inhabited xX:=⟨⟨default,default,0⟩⟩
instance:Inhabited fP:=⟨⟨.empty,0,[],[],[],[],[],[]⟩⟩
instance:Inhabited uQ:=⟨⟨.empty,[],0⟩⟩
instance:Inhabited aF:=⟨⟨[],[]⟩⟩
instance:Inhabited Dn:=⟨⟨default,0⟩⟩
instance:Inhabited dH:=⟨⟨[]⟩⟩
abbrev Kp(B:Nat)(w w':World):Prop:=Only (fun k=>B<=k) w w'
theorem Kp.gV{B:Nat}{w w':World}(h:O0 w w'):Kp B w w':=h.mono fun _ f=>f.elim
structure aQ {α:Type} (n:Nat) (C:Nat->World->List Value->α->Prop) (B:Nat) (w:World) (v:Value) (xs:List α):Prop where
 shape:∃ao cap,v= .slice ao xs.length cap/\xs.length<=cap/\cap<=9223372036854775807
 cells:∀ao len cap,v= .slice ao len cap->0<xs.length->∃b off,ao=some ⟨b,off,none⟩/\b<B/\B<=w.heap.size/\∀i (h:i<xs.length),∃cs,cs.length=n/\w.rangeAt b (off+i*n) cs/\C B w cs xs[i]
 nil:∀len cap,v= .slice none len cap->len=0/\cap=0
def Keeps{α:Type}(C:Nat->World->List Value->α->Prop):Prop:= ∀ ⦃B:Nat⦄ ⦃w w':World⦄ ⦃cs:List Value⦄ ⦃x:α⦄,C B w cs x->Kp B w w'->C B w' cs x
theorem dI{B b o:Nat}{w w':World}{cs:List Value}(h:w.rangeAt b o cs)(hb:b<B)(hB:B<=w.heap.size)(k:Kp B w w'):w'.rangeAt b o cs:=by intro j u hu;rw[World.cell?_of_block (w:=w) (k.block b zBU zAB)];exact h j u hu
theorem aQ.keep{α:Type}{n:Nat}{C:Nat->World->List Value->α->Prop}(hC:Keeps C){B:Nat}{w w':World}{v:Value}{xs:List α}(h:aQ n C B w v xs)(k:Kp B w w'):aQ n C B w' v xs:=by refine⟨h.shape,fun ao len cap hv hp=>?_,h.nil⟩;obtain⟨b,off,rfl,hb,hB,hc⟩:=h.cells ao len cap hv hp;refine⟨b,off,rfl,hb,qR hB k.size,fun i hi=>?_⟩;obtain⟨cs,hl,hr,hx⟩:=hc i hi;exact⟨cs,hl,dI hr hb hB k,hC hx k⟩
theorem aQ.nilRow{α:Type}{n:Nat}{C:Nat->World->List Value->α->Prop}{B:Nat}{w:World}:aQ n C B w dF ([]:List α):=
 ⟨⟨none,0,rfl,qH _,by decide⟩,fun _ _ _ _ hp=>by simp at hp,fun len cap hv=>by simp at hv;omega⟩
abbrev okS(s:Str):Prop:=s.size<=maxLen
def dN(_:Nat)(_:World)(cs:List Value)(x:Str):Prop:=cs=[.string x]/\okS x
def eY(_:Nat)(_:World)(cs:List Value)(x:jm):Prop:=cs=[.string x.lo,.string x.hi]/\okS x.lo/\okS x.hi
def ji(_:Nat)(_:World)(cs:List Value)(x:kC):Prop:=cs=[.string x.name,.string x.value]/\okS x.name/\okS x.value
def oh(_:Nat)(_:World)(cs:List Value)(x:lV):Prop:=cs=[.string x.version,.bool x.old]/\okS x.version
def dB(B:Nat)(w:World)(cs:List Value)(x:gZ):Prop:= ∃v1 v2,cs=[.string x.name,v1,v2]/\okS x.name/\aQ 2 eY B w v1 x.spans/\aQ 2 ji B w v2 x.sets
def jM(B:Nat)(w:World)(cs:List Value)(x:eP):Prop:= ∃v1,cs=[.string x.name,v1]/\okS x.name/\aQ 1 dN B w v1 x.values
def nH(B:Nat)(w:World)(cs:List Value)(x:tJ):Prop:= ∃c1 c2,cs=c1++c2++[.int .i64 x.line]/\dB B w c1 x.on/\dB B w c2 x.cond/\bg x.line
def rF(B:Nat)(w:World)(cs:List Value)(x:xX):Prop:= ∃c1 c2,cs=c1++c2++[.int .i64 x.line]/\dB B w c1 x.cond/\dB B w c2 x.with'/\bg x.line
def fQ(B:Nat)(w:World)(cs:List Value)(x:fP):Prop:= ∃v1 v2 v3 v4 v5 v6,cs=[.string x.name,.int .i64 x.line,v1,v2,v3,v4,v5,v6]/\okS x.name/\bg x.line/\
 aQ 2 oh B w v1 x.aX/\aQ 2 jM B w v2 x.vars/\aQ 1 dN B w v3 x.provides/\aQ 7 nH B w v4 x.deps/\aQ 7 rF B w v5 x.cons/\aQ 1 dN B w v6 x.files
def lK(B:Nat)(w:World)(cs:List Value)(x:uQ):Prop:= ∃v1,cs=[.string x.virtual,v1,.int .i64 x.line]/\okS x.virtual/\bg x.line/\aQ 1 dN B w v1 x.names
def gy(B:Nat)(w:World)(cs:List Value)(x:aF):Prop:= ∃v1 v2,cs=[v1,v2]/\aQ 8 fQ B w v1 x.packs/\aQ 3 lK B w v2 x.cO
def lM(B:Nat)(w:World)(cs:List Value)(x:Dn):Prop:= ∃c1,cs=c1++[.int .i64 x.line]/\dB B w c1 x.spec/\bg x.line
def lW(B:Nat)(w:World)(cs:List Value)(x:dH):Prop:= ∃v1,cs=[v1]/\aQ 4 lM B w v1 x.roots
theorem dN.keep:Keeps dN:=fun _ _ _ _ _ h _=>h
theorem eY.keep:Keeps eY:=fun _ _ _ _ _ h _=>h
theorem ji.keep:Keeps ji:=fun _ _ _ _ _ h _=>h
theorem oh.keep:Keeps oh:=fun _ _ _ _ _ h _=>h
theorem dB.keep:Keeps dB:=fun _ _ _ _ _ ⟨v1,v2,h,a,b,c⟩ k=>⟨v1,v2,h,a,b.keep eY.keep k,c.keep ji.keep k⟩
theorem jM.keep:Keeps jM:=fun _ _ _ _ _ ⟨v1,h,a,b⟩ k=>⟨v1,h,a,b.keep dN.keep k⟩
theorem nH.keep:Keeps nH:=fun _ _ _ _ _ ⟨c1,c2,h,a,b,c⟩ k=>⟨c1,c2,h,dB.keep a k,dB.keep b k,c⟩
theorem rF.keep:Keeps rF:=fun _ _ _ _ _ ⟨c1,c2,h,a,b,c⟩ k=>⟨c1,c2,h,dB.keep a k,dB.keep b k,c⟩
theorem fQ.keep:Keeps fQ:=fun _ _ _ _ _ ⟨v1,v2,v3,v4,v5,v6,h,a,b,c1,c2,c3,c4,c5,c6⟩ k=>⟨v1,v2,v3,v4,v5,v6,h,a,b,c1.keep oh.keep k,c2.keep jM.keep k,c3.keep dN.keep k,c4.keep nH.keep k,c5.keep rF.keep k,c6.keep dN.keep k⟩
theorem lK.keep:Keeps lK:=fun _ _ _ _ _ ⟨v1,h,a,b,c⟩ k=>⟨v1,h,a,b,c.keep dN.keep k⟩
theorem gy.keep:Keeps gy:=fun _ _ _ _ _ ⟨v1,v2,h,a,b⟩ k=>⟨v1,v2,h,a.keep fQ.keep k,b.keep lK.keep k⟩
theorem lM.keep:Keeps lM:=fun _ _ _ _ _ ⟨c1,h,a,b⟩ k=>⟨c1,h,dB.keep a k,b⟩
theorem lW.keep:Keeps lW:=fun _ _ _ _ _ ⟨v1,h,a⟩ k=>⟨v1,h,a.keep lM.keep k⟩
def Lifts{α:Type}(C:Nat->World->List Value->α->Prop):Prop:= ∀ ⦃B B':Nat⦄ ⦃w:World⦄ ⦃cs:List Value⦄ ⦃x:α⦄,C B w cs x->B<=B'->B'<=w.heap.size->C B' w cs x
theorem aQ.lift{α:Type}{n:Nat}{C:Nat->World->List Value->α->Prop}(hC:Lifts C){B B':Nat}{w:World}{v:Value}{xs:List α}(h:aQ n C B w v xs)(h1:B<=B')(h2:B'<=w.heap.size):aQ n C B' w v xs:=by refine⟨h.shape,fun ao len cap hv hp=>?_,h.nil⟩;obtain⟨b,off,rfl,hb,hB,hc⟩:=h.cells ao len cap hv hp;refine⟨b,off,rfl,by omega,h2,fun i hi=>?_⟩;obtain⟨cs,hl,hr,hx⟩:=hc i hi;exact⟨cs,hl,hr,hC hx h1 h2⟩
theorem dN.lift:Lifts dN:=fun _ _ _ _ _ h _ _=>h
theorem eY.lift:Lifts eY:=fun _ _ _ _ _ h _ _=>h
theorem ji.lift:Lifts ji:=fun _ _ _ _ _ h _ _=>h
theorem oh.lift:Lifts oh:=fun _ _ _ _ _ h _ _=>h
theorem dB.lift:Lifts dB:=fun _ _ _ _ _ ⟨v1,v2,h,a,b,c⟩ k l=>⟨v1,v2,h,a,b.lift eY.lift k l,c.lift ji.lift k l⟩
theorem jM.lift:Lifts jM:=fun _ _ _ _ _ ⟨v1,h,a,b⟩ k l=>⟨v1,h,a,b.lift dN.lift k l⟩
theorem nH.lift:Lifts nH:=fun _ _ _ _ _ ⟨c1,c2,h,a,b,c⟩ k l=>⟨c1,c2,h,dB.lift a k l,dB.lift b k l,c⟩
theorem rF.lift:Lifts rF:=fun _ _ _ _ _ ⟨c1,c2,h,a,b,c⟩ k l=>⟨c1,c2,h,dB.lift a k l,dB.lift b k l,c⟩
theorem fQ.lift:Lifts fQ:=fun _ _ _ _ _ ⟨v1,v2,v3,v4,v5,v6,h,a,b,c1,c2,c3,c4,c5,c6⟩ k l=>⟨v1,v2,v3,v4,v5,v6,h,a,b,c1.lift oh.lift k l,c2.lift jM.lift k l,c3.lift dN.lift k l,c4.lift nH.lift k l,c5.lift rF.lift k l,c6.lift dN.lift k l⟩
theorem lK.lift:Lifts lK:=fun _ _ _ _ _ ⟨v1,h,a,b,c⟩ k l=>⟨v1,h,a,b,c.lift dN.lift k l⟩
theorem gy.lift:Lifts gy:=fun _ _ _ _ _ ⟨v1,v2,h,a,b⟩ k l=>⟨v1,v2,h,a.lift fQ.lift k l,b.lift lK.lift k l⟩
theorem lM.lift:Lifts lM:=fun _ _ _ _ _ ⟨c1,h,a,b⟩ k l=>⟨c1,h,dB.lift a k l,b⟩
theorem lW.lift:Lifts lW:=fun _ _ _ _ _ ⟨v1,h,a⟩ k l=>⟨v1,h,a.lift lM.lift k l⟩
section
variable {α:Type} {n:Nat} {C:Nat->World->List Value->α->Prop} {B:Nat} {w:World} {v:Value} {xs:List α}
theorem aQ.sh(h:aQ n C B w v xs):∃ao cap,v= .slice ao xs.length cap/\xs.length<=cap/\cap<=9223372036854775807:=h.shape
theorem aQ.at{ao:Option Addr}{len cap:Nat}(h:aQ n C B w (.slice ao len cap) xs)(hp:0<xs.length):∃b off,ao=some ⟨b,off,none⟩/\b<B/\B<=w.heap.size:=
 let ⟨b,off,e,h1,h2,_⟩:=h.cells ao len cap rfl hp
 ⟨b,off,e,h1,h2⟩
theorem aQ.get{b off len cap:Nat}(h:aQ n C B w (.slice (some ⟨b,off,none⟩) len cap) xs){i:Nat}{x:α}(hi:xs[i]? =some x):∃cs,cs.length=n/\w.rangeAt b (off+i*n) cs/\C B w cs x:=by obtain⟨hlt,rfl⟩:=qJ.1 hi;obtain⟨b',off',e,_,_,hc⟩:=h.cells _ _ _ rfl zAB;simp only[qG,qO,and_true]at e;obtain⟨rfl,rfl⟩:=e;exact hc i hlt
end
theorem fQ.cells{B:Nat}{w:World}{cs:List Value}{x:fP}(h:fQ B w cs x):∃o1 o2 o3 o4 o5 o6 c1 c2 c3 c4 c5 c6,cs=[.string x.name,.int .i64 x.line,.slice o1 x.aX.length c1,.slice o2 x.vars.length c2,.slice o3 x.provides.length c3,.slice o4 x.deps.length c4,.slice o5 x.cons.length c5,.slice o6 x.files.length c6]/\okS x.name/\bg x.line/\aQ 2 oh B w (.slice o1 x.aX.length c1) x.aX/\aQ 2 jM B w (.slice o2 x.vars.length c2) x.vars/\aQ 1 dN B w (.slice o3 x.provides.length c3) x.provides/\aQ 7 nH B w (.slice o4 x.deps.length c4) x.deps/\aQ 7 rF B w (.slice o5 x.cons.length c5) x.cons/\aQ 1 dN B w (.slice o6 x.files.length c6) x.files:=by obtain⟨v1,v2,v3,v4,v5,v6,rfl,a,b,h1,h2,h3,h4,h5,h6⟩:=h;obtain⟨o1,c1,rfl,-,-⟩:=h1.shape;obtain⟨o2,c2,rfl,-,-⟩:=h2.shape;obtain⟨o3,c3,rfl,-,-⟩:=h3.shape;obtain⟨o4,c4,rfl,-,-⟩:=h4.shape;obtain⟨o5,c5,rfl,-,-⟩:=h5.shape;obtain⟨o6,c6,rfl,-,-⟩:=h6.shape;exact⟨o1,o2,o3,o4,o5,o6,c1,c2,c3,c4,c5,c6,rfl,a,b,h1,h2,h3,h4,h5,h6⟩
theorem dB.cells{B:Nat}{w:World}{cs:List Value}{x:gZ}(h:dB B w cs x):∃o1 o2 c1 c2,cs=[.string x.name,.slice o1 x.spans.length c1,.slice o2 x.sets.length c2]/\okS x.name/\aQ 2 eY B w (.slice o1 x.spans.length c1) x.spans/\aQ 2 ji B w (.slice o2 x.sets.length c2) x.sets:=by obtain⟨v1,v2,rfl,a,h1,h2⟩:=h;obtain⟨o1,c1,rfl,-,-⟩:=h1.shape;obtain⟨o2,c2,rfl,-,-⟩:=h2.shape;exact⟨o1,o2,c1,c2,rfl,a,h1,h2⟩
end Go.Proofs.YtdmmebjjojimiaaGreatDoor
namespace Go.Proofs
theorem zA0{p:Prop}(h:p:=by simpa using h):p:=h
end Go.Proofs
namespace Go.Proofs.YtdmmebjjojimiaaGreatDoor
def kR{α:Type}(p:α->Bool)(xs:List α):Int:=if xs.any p then (xs.findIdx p:Int)else -1
theorem tN{α:Type}{p:α->Bool}{xs:List α}{k:Nat}{x:α}(hk:xs[k]? =some x)(hp:p x=true)(hn:∀y∈xs.take k,p y=false):kR p xs=k:=by obtain⟨hlt,rfl⟩:=qJ.1 hk;unfold kR;rw[if_pos (yU.2 ⟨xs[k],qZ hlt,hp⟩)];congr 1;rw[List.findIdx_eq hlt];refine⟨hp,fun j hj=>hn _ ?_⟩;rw[List.mem_take_iff_getElem];exact⟨j,by omega,rfl⟩
theorem oO{α:Type}{p:α->Bool}{xs:List α}(hn:∀y∈xs,p y=false):kR p xs= -1:=by unfold kR;rw[if_neg];rw[yU];rintro⟨x,hx,hp⟩;rw[hn x hx]at hp;cases hp
theorem oq{α:Type}(p:α->Bool)(xs:List α):kR p xs= -1\/ ∃k:Nat,kR p xs=k/\k<xs.length/\∃x,xs[k]? =some x/\p x=true:=by
 unfold kR;split;·rename_i h;have hl:=List.findIdx_lt_length_of_exists (p:=p) (xs:=xs) zA0;exact .inr ⟨_,rfl,hl,_,qA hl,List.findIdx_getElem⟩
 exact .inl rfl
def intsOf(l:List Nat):List Int:=l.map fun i:Nat=>(i:Int)
def iT(l:List Str)(s:Str):Bool:=l.any fun t=>decide (t=s)
theorem AO{l:List Str}{s:Str}:iT l s=true↔s∈l:=by
 unfold iT;rw[yU];constructor;·rintro⟨t,ht,h⟩;rw[of_decide_eq_true h]at ht;exact ht
 intro h;exact⟨s,h,qX rfl⟩
def aF.find(x:aF)(s:Str):Int:=kR (fun p=>decide (p.name=s)) x.packs
def aF.pack(x:aF)(i:Nat):fP:=x.packs.getD i default
def aF.iI(x:aF)(s:Str)(k:Nat):List Nat:=(List.range k).filter fun i=>iT (x.pack i).provides s
def aF.dh(x:aF)(s:Str):List Nat:=x.iI s x.packs.length
def aF.targets(x:aF)(s:Str):List Nat:=if 0<=x.find s then [(x.find s).toNat]else x.dh s
theorem aF.IE(x:aF)(s:Str)(k:Nat):x.iI s (k+1)=if iT (x.pack k).provides s=true then x.iI s k++[k]else x.iI s k:=by unfold aF.iI;rw[List.range_succ,List.filter_append];by_cases h:iT (x.pack k).provides s=true<;>simp[h]
theorem aF.pY(x:aF)(s:Str):x.find s<x.packs.length:=by
 rcases oq (fun p=>decide (p.name=s)) x.packs with h| ⟨k,h,hk,_⟩;·unfold aF.find;rw[h];omega
 unfold aF.find;rw[h];omega
theorem aF.rZ{x:aF}{s:Str}{i:Nat}(h:i∈x.targets s):i<x.packs.length:=by
 unfold aF.targets at h;split at h;·have:=x.pY s;simp at h;omega
 unfold aF.dh aF.iI at h;simp at h;exact h.1
theorem aF.SV(x:aF)(s:Str):(x.targets s).length<=x.packs.length:=by
 unfold aF.targets;split;·have:=x.pY s;simp;omega
 unfold aF.dh aF.iI;have:=yO (fun i=>iT (x.pack i).provides s) (List.range x.packs.length);simpa using this
inductive aF.Reach (x:aF) (names:List Str):Nat->Prop where
 |root {s i}:s∈names->i∈x.targets s->Reach x names i
 |step {k d i}:Reach x names k->d∈(x.pack k).deps->i∈x.targets d.on.name->Reach x names i
theorem aF.Reach.lt{x:aF}{names:List Str}{i:Nat}(h:x.Reach names i):i<x.packs.length:=by
 cases h with
 |root _ h=>exact rZ h
 |step _ _ h=>exact rZ h
theorem aF.Reach.mono{x:aF}{a b:List Str}(hab:∀s∈a,s∈b){i:Nat}(h:x.Reach a i):x.Reach b i:=by
 induction h with
 |root h1 h2=>exact .root (hab _ h1) h2
 |step _ h2 h3 ih=>exact .step ih h2 h3
theorem aF.Reach.append{x:aF}{a b:List Str}{i:Nat}:x.Reach (a++b) i↔x.Reach a i\/x.Reach b i:=by
 constructor
 ·intro h;induction h with
  |root h1 h2=>
   rcases qW.1 h1 with h|h;·exact .inl (.root h h2)
   exact .inr (.root h h2)
  |step _ h2 h3 ih=>
   rcases ih with h|h;·exact .inl (.step h h2 h3)
   exact .inr (.step h h2 h3)
 rintro(h|h);·exact h.mono fun s hs=>List.mem_append_left _ hs
 exact h.mono fun s hs=>List.mem_append_right _ hs
open Classical in
noncomputable def aF.closure (x:aF) (names:List Str):List Nat:=(List.range x.packs.length).filter fun i=>decide (x.Reach names i)
theorem aF.jA{x:aF}{names:List Str}{i:Nat}:i∈x.closure names↔x.Reach names i:=by unfold aF.closure;rw[List.mem_filter];simp only[yI,yP];exact⟨fun h=>h.2,fun h=>⟨h.lt,h⟩⟩
theorem aF.JV(x:aF)(names:List Str):(x.closure names).Pairwise (· < ·):=by unfold aF.closure;exact List.Pairwise.filter _ List.pairwise_lt_range
theorem aF.tV(x:aF)(names:List Str):(x.closure names).length<=x.packs.length:=by unfold aF.closure;have:=yO (fun i=> @decide (x.Reach names i) (Classical.propDecidable _)) (List.range x.packs.length);simpa using this
def fP.names(p:fP):List Str:=p.deps.map fun d=>d.on.name
def Met(x:aF)(roots:List Str)(ks:List Int)(s:Str):Prop:=s∈roots\/ ∃k:Nat,(k:Int)∈ks/\s∈(x.pack k).names
structure pJ (x:aF) (roots:List Str) (ks:List Int) (A R:List Str):Prop where
 keys:∀z∈ks,∃i:Nat,z=i/\x.Reach roots i
 names:∀s,s∈A\/s∈R->∀i∈x.targets s,x.Reach roots i
 done:∀s,Met x roots ks s->s∈A\/s∈R\/ ∀i∈x.targets s,(i:Int)∈ks
theorem pJ.start(x:aF)(roots:List Str):pJ x roots [] roots []:=
 ⟨fun z hz=>(by cases hz),fun s hs i hi=>.root (by simpa using hs) hi,fun s hs=>by
  rcases hs with h| ⟨k,h,_⟩
  ·exact .inl h
  ·cases h⟩
theorem pJ.pop{x:aF}{roots:List Str}{ks:List Int}{A:List Str}{s:Str}(h:pJ x roots ks (s::A) []):pJ x roots ks A [s]:=
 ⟨h.keys,fun t ht=>h.names t (by simp at ht⊢;rcases ht with h|h;exact .inr h;exact .inl h),fun t ht=>by
  have:=h.done t ht
  simp at this⊢
  rcases this with(h|h)|h
  ·exact .inr (.inl h)
  ·exact .inl h
  ·exact .inr (.inr h)⟩
theorem pJ.key{x:aF}{roots:List Str}{ks ks':List Int}{A R:List Str}{s:Str}{i:Nat}(h:pJ x roots ks A (R++[s]))(hi:i∈x.targets s)(hk:∀z,z∈ks'↔z∈ks\/z=i):pJ x roots ks' A ((x.pack i).names++(R++[s])):=by
 have hr:x.Reach roots i:=h.names s (.inr zAF) i hi;refine⟨fun z hz=>?_,fun t ht j hj=>?_,fun t ht=>?_⟩
 ·rcases(hk z).1 hz with hz|rfl;·exact h.keys z hz
  exact⟨i,rfl,hr⟩
 ·rcases ht with ht|ht;·exact h.names t (.inl ht) j hj
  rcases qW.1 ht with ht|ht;·obtain⟨d,hd,rfl⟩:=yD.1 ht;exact .step hr hd hj
  exact h.names t (.inr ht) j hj
 have old:Met x roots ks t->t∈A\/t∈(x.pack i).names++(R++[s])\/ ∀j∈x.targets t,(j:Int)∈ks':=fun hm=>by
  rcases h.done t hm with h1|h1|h1;·exact .inl h1
  ·exact .inr (.inl (List.mem_append_right _ h1))
  exact .inr (.inr fun j hj=>(hk _).2 (.inl (h1 j hj)))
 rcases ht with ht| ⟨k,hkk,ht⟩;·exact old (.inl ht)
 rcases(hk _).1 hkk with h2|h2;·exact old (.inr ⟨k,h2,ht⟩)
 obtain rfl:k=i:=by omega
 exact .inr (.inl (List.mem_append_left _ ht))
theorem pJ.push{x:aF}{roots:List Str}{ks:List Int}{A R:List Str}{s:Str}(h:pJ x roots ks A (s::R)):pJ x roots ks (A++[s]) R:=
 ⟨h.keys,fun t ht=>h.names t (by simp at ht⊢;rcases ht with(h|h)|h;exact .inl h;exact .inr (.inl h);exact .inr (.inr h)),fun t ht=>by
  have:=h.done t ht
  simp at this⊢
  rcases this with h| (h|h)|h
  ·exact .inl (.inl h)
  ·exact .inl (.inr h)
  ·exact .inr (.inl h)
  ·exact .inr (.inr h)⟩
theorem pJ.drop{x:aF}{roots:List Str}{ks:List Int}{A:List Str}{s:Str}(h:pJ x roots ks A [s])(hi:∀i∈x.targets s,(i:Int)∈ks):pJ x roots ks A []:=
 ⟨h.keys,fun t ht=>h.names t (by simp at ht⊢;exact .inl ht),fun t ht=>by
  have:=h.done t ht
  simp at this⊢
  rcases this with h|rfl|h
  ·exact .inl h
  ·exact .inr hi
  ·exact .inr h⟩
theorem pJ.fin{x:aF}{roots:List Str}{ks:List Int}(h:pJ x roots ks [] [])(z:Int):z∈ks↔ ∃i:Nat,z=i/\i∈x.closure roots:=by
 constructor;·intro hz;obtain⟨i,rfl,hi⟩:=h.keys z hz;exact⟨i,rfl,aF.jA.2 hi⟩
 rintro⟨i,rfl,hi⟩;have hr:=aF.jA.1 hi;clear hi;induction hr with
 |root h1 h2=>
  rcases h.done _ (.inl h1)with h3|h3|h3;·cases h3
  ·cases h3
  exact h3 _ h2
 |step _ h2 h3 ih=>
  rename_i k d i _;rcases h.done d.on.name (.inr ⟨_,ih,yD.2 ⟨d,h2,rfl⟩⟩)with h4|h4|h4;·cases h4
  ·cases h4
  exact h4 _ h3
def aF.GV(x:aF)(ks:List Int):Nat:=((List.range x.packs.length).map fun i:Nat=>if (i:Int)∈ks then 0 else (x.pack i).deps.length).sum
theorem Dp(f g:Nat->Nat)(i c:Nat):∀l:List Nat,l.Nodup->i∈l->g i+c=f i->(∀j∈l,j≠i->g j=f j)->(l.map g).sum+c=(l.map f).sum
 | [],_,h,_,_=>by cases h
 |a::l,hn,hi,hc,ho=>by
  rw[List.nodup_cons]at hn
  rcases qY.1 hi with rfl|hi
  ·have:l.map g=l.map f:=List.map_congr_left fun j hj=>ho j (yE _ hj) fun e=>hn.1 (e▸hj)
   simp only[List.map_cons,List.sum_cons,this];omega
  ·have:=Dp f g i c l hn.2 hi hc fun j hj=>ho j (yE _ hj)
   have h2:=ho a qQ fun e=>hn.1 (e▸hi)
   simp only[List.map_cons,List.sum_cons,h2];omega
theorem aF.afd{x:aF}{ks ks':List Int}{i:Nat}(hi:i<x.packs.length)(hn:(i:Int)∉ks)(hk:∀z,z∈ks'↔z∈ks\/z=i):x.GV ks'+(x.pack i).deps.length=x.GV ks:=by
 unfold aF.GV;refine Dp _ _ i _ _ List.nodup_range (yI.2 hi) ?_ fun j _ hj=>?_;·rw[if_pos ((hk _).2 (.inr rfl)),if_neg hn];omega
 have:((j:Int)∈ks')↔(j:Int)∈ks:=by
  rw[hk];constructor
  ·rintro(h|h);·exact h
   omega
  exact .inl
 by_cases h:(j:Int)∈ks;·rw[if_pos h,if_pos (this.2 h)]
 rw[if_neg h,if_neg (fun e=>h (this.1 e))]
theorem aF.ahu{x:aF}{M:Nat}(h:∀p∈x.packs,p.deps.length<=M)(ks:List Int):x.GV ks<=x.packs.length*M:=by
 have gen:∀l:List Nat,(∀i∈l,i<x.packs.length)->(l.map fun i:Nat=>if (i:Int)∈ks then 0 else (x.pack i).deps.length).sum<=l.length*M:=by
  intro l
  induction l with
  |nil=>intro _;simp
  |cons a l ih=>
   intro hl
   have h1:=ih fun i hi=>hl i (yE _ hi)
   have h2:(x.pack a).deps.length<=M:=by
    have ha:=hl a qQ
    unfold aF.pack
    rw[qC,qA ha]
    exact h _ (qZ ha)
   simp only[List.map_cons,List.sum_cons,qN,Nat.add_mul,Nat.one_mul]
   split<;>omega
 have:=gen (List.range x.packs.length) fun i hi=>yI.1 hi;simpa[aF.GV]using this
end Go.Proofs.YtdmmebjjojimiaaGreatDoor
namespace Go.Proofs.YtdmmebjjojimiaaGreatDoor
open Go.RowKit
section
variable {w w':World} {B:Nat}
theorem Kt{n:Nat}{F:Nat->List Value}:∀{k:Nat},(∀i,i<k->(F i).length=n)->((List.range k).flatMap F).length=k*n
 |0,_=>by simp
 |k+1,h=>by
  rw[List.range_succ,List.flatMap_append,qK,Kt fun i hi=>h i zAB]
  simp[h k zAB,Nat.add_mul]
theorem flat_get{n:Nat}{F:Nat->List Value}:∀{k:Nat},(∀i,i<k->(F i).length=n)->∀{i j:Nat},i<k->j<n->((List.range k).flatMap F)[i*n+j]? =(F i)[j]?
 |0,_,_,_,h,_=>by omega
 |k+1,h,i,j,hi,hj=>by
  have hl:=Kt (n:=n) (F:=F) (k:=k) fun i hi=>h i zAB
  rw[List.range_succ,List.flatMap_append]
  by_cases hk:i<k
  ·have:i*n+j<k*n:=by
    have:(i+1)*n<=k*n:=Nat.mul_le_mul_right _ hk
    rw[Nat.add_mul]at this;omega
   rw[yM (by rw[hl];exact this)]
   exact flat_get (fun i hi=>h i zAB) hk hj
  ·obtain rfl:i=k:=by omega
   rw[yN (by rw[hl];omega),hl]
   simp
theorem aQ.flat{α:Type}{n:Nat}(hn:0<n){C:Nat->World->List Value->α->Prop}{ao:Option Addr}{len cap:Nat}{xs:List α}(h:aQ n C B w (.slice ao len cap) xs):∃F:Nat->List Value,(∀i (hi:i<xs.length),(F i).length=n/\C B w (F i) xs[i])/\((List.range xs.length).flatMap F).length=xs.length*n/\(∀ad,ao=some ad->∀j u,((List.range xs.length).flatMap F)[j]? =some u->w.cell? (ad.add j)=some u):=by
 by_cases h0:0<xs.length
 ·obtain⟨b,off,rfl,_,_,hc⟩:=h.cells _ _ _ rfl h0;obtain⟨F,hF⟩:=Go.Deep.choose_lt (α:=List Value) (n:=xs.length) (p:=fun i cs=> ∃hi:i<xs.length,cs.length=n/\w.rangeAt b (off+i*n) cs/\C B w cs xs[i]) (fun i hi=>by
   obtain⟨cs,h1,h2,h3⟩:=hc i hi
   exact⟨cs,hi,h1,h2,h3⟩)
  have hl:=Kt (n:=n) (F:=F) (k:=xs.length) fun i hi=>(hF i hi).2.1;refine⟨F,fun i hi=>⟨(hF i hi).2.1,(hF i hi).2.2.2⟩,hl,fun ad had j u hu=>?_⟩;obtain rfl:=Option.some.inj had;have hj:=(qJ.1 hu).1;rw[hl]at hj;have hi:j/n<xs.length:=Nat.div_lt_of_lt_mul (by rw[Nat.mul_comm];exact hj);have hjn:j%n<n:=Nat.mod_lt _ hn;have hdm:j/n*n+j%n=j:=by rw[Nat.mul_comm];exact Nat.div_add_mod j n
  rw[<-hdm,flat_get (fun i hi=>(hF i hi).2.1) hi hjn]at hu;have:=(hF (j/n) hi).2.2.1 (j%n) u hu;rw[Go.WideShapes.add_plain,<-hdm,<-Nat.add_assoc];exact this
 obtain rfl:xs=[]:=yF zAB;exact⟨fun _=>[],fun i hi=>by simp at hi,by simp,fun ad _ j u hu=>by simp at hu⟩
theorem aQ.dV{α:Type}{n:Nat}{C:Nat->World->List Value->α->Prop}{e:TypeId}{v:Value}{xs:List α}{cs:List Value}(h:w.ownsRow 0 e n v xs.length cs)(hx:∀i (hi:i<xs.length),∃c,c.length=n/\(∀j u,c[j]? =some u->cs[i*n+j]? =some u)/\C w.heap.size w c xs[i]):aQ n C w.heap.size w v xs:=by obtain⟨ao,cap,rfl,h1,h2⟩:=aJ h;unfold maxLen at h2;refine⟨⟨ao,cap,rfl,h1,by omega⟩,fun ao' len' cap' hv hp=>?_,fun len' cap' hv=>by rw[hv]at h;exact P6 h⟩;simp only[qU]at hv;obtain⟨rfl,rfl,rfl⟩:=hv;obtain⟨g,cap',he,_,_⟩:=dU h hp;simp only[qU]at he;obtain⟨rfl,-,rfl⟩:=he;refine⟨g,0,rfl,dP h rfl,qH _,fun i hi=>?_⟩;obtain⟨c,g1,g2,g3⟩:=hx i hi;refine⟨c,g1,fun j u hu=>?_,g3⟩;have:=g2 j u hu;rw[Nat.zero_add];have h2:=h.cells (g:=g) rfl _ _ this;rw[Go.WideShapes.add_plain,Nat.zero_add]at h2;exact h2
theorem G9{P:Program}{ops:Array Oper}{o:Oper}{a:Act}{K:Act->World->Prop}{Q:Exit->Act->World->Prop}{E:Prop}{tt e:TypeId}{size bytes:Nat}(T:Az P tt e size bytes)
  (hgd:o.guard=none) (s x:Operand)
  (ho:o.op= .call {callee:=.builtin .append,args:= #[s,x],argTypes:= #[tt,tt]})
  {v:Value} {n:Nat} {xs:List Value} {ao:Option Addr} {m c:Nat} {news:List Value} (hs:a.eval s=v) (hown:w.ownsRow 0 e size v n xs) (hx:a.eval x= .slice ao m c) (hl:news.length=m*size) (hnone:ao=none->m=0/\c=0)
  (hnews:∀ad,ao=some ad->∀j u,news[j]? =some u->w.cell? (ad.add j)=some u) (h1:∀u∈news,u.oneCell'=true)
  (h63:n+m<=1099511627776) (hbytes:bytes<=128)
  (hK:∀ao' cap w',w'.ownsRow 0 e size (.slice ao' (n+m) cap) (n+m) (xs++news)->Only (fun k=>v.ownBlock=some k) w w'->V8 w v (.slice ao' (n+m) cap)->K (a.put o.dst (.slice ao' (n+m) cap)) w'):
  if Region.wanted o (yielded ops a.tmps)=true then Oper.wp P o a w K Q else E:=by
 rw[if_pos zBA]
 cases ao with
 |none=>
  obtain⟨rfl,rfl⟩:=hnone rfl
  have hn:news=[]:=yF (by simpa using hl)
  subst hn
  obtain⟨i,z,h2,h3,h4,h5,h6⟩:=T.info
  have hr:=run_append_owned_none (P:=P) w 0 tt o.type e i size T.und h2 v n xs hown
  obtain⟨ao',cap',rfl,_,_⟩:=aJ hown
  unfold Oper.wp execOp
  simp only[ho,resolve,invoke,builtin,Sem.run_bind,Sem.run_pure,Result.andThen_ok,List.map_toArray,List.map_cons,List.map_nil,hs,hx,hr]
  exact hK ao' cap' w (by simpa using hown) zr (fun k hk=>.inl hk)
 |some ad=>
  have hmul:(n+m)*bytes<=1099511627776*128:=Nat.mul_le_mul h63 hbytes
  obtain⟨v',w',hr,r1,r2,r3,-⟩:=mV (P:=P) (ty:=o.type) w T v n xs hown ad m c news hl (hnews ad rfl) h1 zBY zAB
  unfold Oper.wp execOp
  simp only[ho,resolve,invoke,builtin,Sem.run_bind,Sem.run_pure,Result.andThen_ok,List.map_toArray,List.map_cons,List.map_nil,hs,hx,hr]
  obtain⟨ao',cap',rfl,_,_⟩:=aJ r1
  exact hK ao' cap' w' r1 ((Only.refl _ w).grown r2 fun k hk=>.inl hk) r3
end
section
variable {w w':World} {B:Nat}
theorem aQ.placed{α:Type}{n:Nat}{C:Nat->World->List Value->α->Prop}{ao:Option Addr}{len cap i:Nat}{xs:List α}{y:α}(h:aQ n C B w (.slice ao len cap) xs)(hx:xs[i]? =some y):∃b off cs,ao=some ⟨b,off,none⟩/\b<B/\B<=w.heap.size/\cs.length=n/\w.rangeAt b (off+i*n) cs/\C B w cs y:=by obtain⟨hlt,rfl⟩:=qJ.1 hx;obtain⟨b,off,rfl,h1,h2,hc⟩:=h.cells _ _ _ rfl zAB;obtain⟨cs,g1,g2,g3⟩:=hc i hlt;exact⟨b,off,cs,rfl,h1,h2,g1,g2,g3⟩
theorem zL{ao:Option Addr}{len cap i:Nat}{xs:List Str}{y:Str}(h:aQ 1 dN B w (.slice ao len cap) xs)(hx:xs[i]? =some y):∃(b off:Nat),ao=some ⟨b,off,none⟩/\okS y/\∀W,O0 w W->W.rangeAt b (off+i*1) [.string y]/\dN B W [.string y] y:=by obtain⟨b,off,cs,rfl,hb,hB,-,hr,hC⟩:=h.placed hx;have hC0:=hC;obtain⟨rfl,ok1⟩:=hC;exact⟨b,off,rfl,ok1,fun W ho=>⟨dI hr hb hB (Kp.gV ho),dN.keep hC0 (Kp.gV ho)⟩⟩
theorem ab4{ao:Option Addr}{len cap i:Nat}{xs:List jm}{y:jm}(h:aQ 2 eY B w (.slice ao len cap) xs)(hx:xs[i]? =some y):∃(b off:Nat),ao=some ⟨b,off,none⟩/\okS y.lo/\okS y.hi/\∀W,O0 w W->W.rangeAt b (off+i*2) [.string y.lo,.string y.hi]/\eY B W [.string y.lo,.string y.hi] y:=by obtain⟨b,off,cs,rfl,hb,hB,-,hr,hC⟩:=h.placed hx;have hC0:=hC;obtain⟨rfl,ok1,ok2⟩:=hC;exact⟨b,off,rfl,ok1,ok2,fun W ho=>⟨dI hr hb hB (Kp.gV ho),eY.keep hC0 (Kp.gV ho)⟩⟩
theorem afj{ao:Option Addr}{len cap i:Nat}{xs:List kC}{y:kC}(h:aQ 2 ji B w (.slice ao len cap) xs)(hx:xs[i]? =some y):∃(b off:Nat),ao=some ⟨b,off,none⟩/\okS y.name/\okS y.value/\∀W,O0 w W->W.rangeAt b (off+i*2) [.string y.name,.string y.value]/\ji B W [.string y.name,.string y.value] y:=by obtain⟨b,off,cs,rfl,hb,hB,-,hr,hC⟩:=h.placed hx;have hC0:=hC;obtain⟨rfl,ok1,ok2⟩:=hC;exact⟨b,off,rfl,ok1,ok2,fun W ho=>⟨dI hr hb hB (Kp.gV ho),ji.keep hC0 (Kp.gV ho)⟩⟩
theorem JA{ao:Option Addr}{len cap i:Nat}{xs:List lV}{y:lV}(h:aQ 2 oh B w (.slice ao len cap) xs)(hx:xs[i]? =some y):∃(b off:Nat),ao=some ⟨b,off,none⟩/\okS y.version/\∀W,O0 w W->W.rangeAt b (off+i*2) [.string y.version,.bool y.old]/\oh B W [.string y.version,.bool y.old] y:=by obtain⟨b,off,cs,rfl,hb,hB,-,hr,hC⟩:=h.placed hx;have hC0:=hC;obtain⟨rfl,ok1⟩:=hC;exact⟨b,off,rfl,ok1,fun W ho=>⟨dI hr hb hB (Kp.gV ho),oh.keep hC0 (Kp.gV ho)⟩⟩
theorem Fj{ao:Option Addr}{len cap i:Nat}{xs:List eP}{y:eP}(h:aQ 2 jM B w (.slice ao len cap) xs)(hx:xs[i]? =some y):∃(b off:Nat) (a1:Option Addr) (n1 c1:Nat),ao=some ⟨b,off,none⟩/\y.values.length=n1/\okS y.name/\∀W,O0 w W->W.rangeAt b (off+i*2) [.string y.name,.slice a1 n1 c1]/\aQ 1 dN B W (.slice a1 n1 c1) y.values/\jM B W [.string y.name,.slice a1 n1 c1] y:=by obtain⟨b,off,cs,rfl,hb,hB,-,hr,hC⟩:=h.placed hx;have hC0:=hC;obtain⟨v1,rfl,ok1,r1⟩:=hC;obtain⟨a1,c1,rfl,-,-⟩:=r1.shape;exact⟨b,off,a1,_,c1,rfl,rfl,ok1,fun W ho=>⟨dI hr hb hB (Kp.gV ho),r1.keep dN.keep (Kp.gV ho),jM.keep hC0 (Kp.gV ho)⟩⟩
theorem Qi{ao:Option Addr}{len cap i:Nat}{xs:List tJ}{y:tJ}(h:aQ 7 nH B w (.slice ao len cap) xs)(hx:xs[i]? =some y):∃(b off:Nat) (a1:Option Addr) (n1 c1:Nat) (a2:Option Addr) (n2 c2:Nat) (a3:Option Addr) (n3 c3:Nat) (a4:Option Addr) (n4 c4:Nat),ao=some ⟨b,off,none⟩/\y.on.spans.length=n1/\y.on.sets.length=n2/\y.cond.spans.length=n3/\y.cond.sets.length=n4/\okS y.on.name/\okS y.cond.name/\bg y.line/\∀W,O0 w W->W.rangeAt b (off+i*7) [.string y.on.name,.slice a1 n1 c1,.slice a2 n2 c2,.string y.cond.name,.slice a3 n3 c3,.slice a4 n4 c4,.int .i64 y.line]/\aQ 2 eY B W (.slice a1 n1 c1) y.on.spans/\aQ 2 ji B W (.slice a2 n2 c2) y.on.sets/\aQ 2 eY B W (.slice a3 n3 c3) y.cond.spans/\aQ 2 ji B W (.slice a4 n4 c4) y.cond.sets/\nH B W [.string y.on.name,.slice a1 n1 c1,.slice a2 n2 c2,.string y.cond.name,.slice a3 n3 c3,.slice a4 n4 c4,.int .i64 y.line] y:=by obtain⟨b,off,cs,rfl,hb,hB,-,hr,hC⟩:=h.placed hx;have hC0:=hC;obtain⟨q1,q2,rfl,⟨v1,v2,rfl,ok1,r1,r2⟩,⟨v3,v4,rfl,ok2,r3,r4⟩,in1⟩:=hC;obtain⟨a1,c1,rfl,-,-⟩:=r1.shape;obtain⟨a2,c2,rfl,-,-⟩:=r2.shape;obtain⟨a3,c3,rfl,-,-⟩:=r3.shape;obtain⟨a4,c4,rfl,-,-⟩:=r4.shape;exact⟨b,off,a1,_,c1,a2,_,c2,a3,_,c3,a4,_,c4,rfl,rfl,rfl,rfl,rfl,ok1,ok2,in1,fun W ho=>⟨dI hr hb hB (Kp.gV ho),r1.keep eY.keep (Kp.gV ho),r2.keep ji.keep (Kp.gV ho),r3.keep eY.keep (Kp.gV ho),r4.keep ji.keep (Kp.gV ho),nH.keep hC0 (Kp.gV ho)⟩⟩
theorem Yz{ao:Option Addr}{len cap i:Nat}{xs:List xX}{y:xX}(h:aQ 7 rF B w (.slice ao len cap) xs)(hx:xs[i]? =some y):∃(b off:Nat) (a1:Option Addr) (n1 c1:Nat) (a2:Option Addr) (n2 c2:Nat) (a3:Option Addr) (n3 c3:Nat) (a4:Option Addr) (n4 c4:Nat),ao=some ⟨b,off,none⟩/\y.cond.spans.length=n1/\y.cond.sets.length=n2/\y.with'.spans.length=n3/\y.with'.sets.length=n4/\okS y.cond.name/\okS y.with'.name/\bg y.line/\∀W,O0 w W->W.rangeAt b (off+i*7) [.string y.cond.name,.slice a1 n1 c1,.slice a2 n2 c2,.string y.with'.name,.slice a3 n3 c3,.slice a4 n4 c4,.int .i64 y.line]/\aQ 2 eY B W (.slice a1 n1 c1) y.cond.spans/\aQ 2 ji B W (.slice a2 n2 c2) y.cond.sets/\aQ 2 eY B W (.slice a3 n3 c3) y.with'.spans/\aQ 2 ji B W (.slice a4 n4 c4) y.with'.sets/\rF B W [.string y.cond.name,.slice a1 n1 c1,.slice a2 n2 c2,.string y.with'.name,.slice a3 n3 c3,.slice a4 n4 c4,.int .i64 y.line] y:=by obtain⟨b,off,cs,rfl,hb,hB,-,hr,hC⟩:=h.placed hx;have hC0:=hC;obtain⟨q1,q2,rfl,⟨v1,v2,rfl,ok1,r1,r2⟩,⟨v3,v4,rfl,ok2,r3,r4⟩,in1⟩:=hC;obtain⟨a1,c1,rfl,-,-⟩:=r1.shape;obtain⟨a2,c2,rfl,-,-⟩:=r2.shape;obtain⟨a3,c3,rfl,-,-⟩:=r3.shape;obtain⟨a4,c4,rfl,-,-⟩:=r4.shape;exact⟨b,off,a1,_,c1,a2,_,c2,a3,_,c3,a4,_,c4,rfl,rfl,rfl,rfl,rfl,ok1,ok2,in1,fun W ho=>⟨dI hr hb hB (Kp.gV ho),r1.keep eY.keep (Kp.gV ho),r2.keep ji.keep (Kp.gV ho),r3.keep eY.keep (Kp.gV ho),r4.keep ji.keep (Kp.gV ho),rF.keep hC0 (Kp.gV ho)⟩⟩
theorem jH{ao:Option Addr}{len cap i:Nat}{xs:List fP}{y:fP}(h:aQ 8 fQ B w (.slice ao len cap) xs)(hx:xs[i]? =some y):∃(b off:Nat) (a1:Option Addr) (n1 c1:Nat) (a2:Option Addr) (n2 c2:Nat) (a3:Option Addr) (n3 c3:Nat) (a4:Option Addr) (n4 c4:Nat) (a5:Option Addr) (n5 c5:Nat) (a6:Option Addr) (n6 c6:Nat),ao=some ⟨b,off,none⟩/\y.aX.length=n1/\y.vars.length=n2/\y.provides.length=n3/\y.deps.length=n4/\y.cons.length=n5/\y.files.length=n6/\okS y.name/\bg y.line/\∀W,O0 w W->W.rangeAt b (off+i*8) [.string y.name,.int .i64 y.line,.slice a1 n1 c1,.slice a2 n2 c2,.slice a3 n3 c3,.slice a4 n4 c4,.slice a5 n5 c5,.slice a6 n6 c6]/\aQ 2 oh B W (.slice a1 n1 c1) y.aX/\aQ 2 jM B W (.slice a2 n2 c2) y.vars/\aQ 1 dN B W (.slice a3 n3 c3) y.provides/\aQ 7 nH B W (.slice a4 n4 c4) y.deps/\aQ 7 rF B W (.slice a5 n5 c5) y.cons/\aQ 1 dN B W (.slice a6 n6 c6) y.files/\fQ B W [.string y.name,.int .i64 y.line,.slice a1 n1 c1,.slice a2 n2 c2,.slice a3 n3 c3,.slice a4 n4 c4,.slice a5 n5 c5,.slice a6 n6 c6] y:=by obtain⟨b,off,cs,rfl,hb,hB,-,hr,hC⟩:=h.placed hx;have hC0:=hC;obtain⟨v1,v2,v3,v4,v5,v6,rfl,ok1,in1,r1,r2,r3,r4,r5,r6⟩:=hC;obtain⟨a1,c1,rfl,-,-⟩:=r1.shape;obtain⟨a2,c2,rfl,-,-⟩:=r2.shape;obtain⟨a3,c3,rfl,-,-⟩:=r3.shape;obtain⟨a4,c4,rfl,-,-⟩:=r4.shape;obtain⟨a5,c5,rfl,-,-⟩:=r5.shape;obtain⟨a6,c6,rfl,-,-⟩:=r6.shape;exact⟨b,off,a1,_,c1,a2,_,c2,a3,_,c3,a4,_,c4,a5,_,c5,a6,_,c6,rfl,rfl,rfl,rfl,rfl,rfl,rfl,ok1,in1,fun W ho=>⟨dI hr hb hB (Kp.gV ho),r1.keep oh.keep (Kp.gV ho),r2.keep jM.keep (Kp.gV ho),r3.keep dN.keep (Kp.gV ho),r4.keep nH.keep (Kp.gV ho),r5.keep rF.keep (Kp.gV ho),r6.keep dN.keep (Kp.gV ho),fQ.keep hC0 (Kp.gV ho)⟩⟩
theorem wu{ao:Option Addr}{len cap i:Nat}{xs:List uQ}{y:uQ}(h:aQ 3 lK B w (.slice ao len cap) xs)(hx:xs[i]? =some y):∃(b off:Nat) (a1:Option Addr) (n1 c1:Nat),ao=some ⟨b,off,none⟩/\y.names.length=n1/\okS y.virtual/\bg y.line/\∀W,O0 w W->W.rangeAt b (off+i*3) [.string y.virtual,.slice a1 n1 c1,.int .i64 y.line]/\aQ 1 dN B W (.slice a1 n1 c1) y.names/\lK B W [.string y.virtual,.slice a1 n1 c1,.int .i64 y.line] y:=by obtain⟨b,off,cs,rfl,hb,hB,-,hr,hC⟩:=h.placed hx;have hC0:=hC;obtain⟨v1,rfl,ok1,in1,r1⟩:=hC;obtain⟨a1,c1,rfl,-,-⟩:=r1.shape;exact⟨b,off,a1,_,c1,rfl,rfl,ok1,in1,fun W ho=>⟨dI hr hb hB (Kp.gV ho),r1.keep dN.keep (Kp.gV ho),lK.keep hC0 (Kp.gV ho)⟩⟩
theorem Ba{ao:Option Addr}{len cap i:Nat}{xs:List Dn}{y:Dn}(h:aQ 4 lM B w (.slice ao len cap) xs)(hx:xs[i]? =some y):∃(b off:Nat) (a1:Option Addr) (n1 c1:Nat) (a2:Option Addr) (n2 c2:Nat),ao=some ⟨b,off,none⟩/\y.spec.spans.length=n1/\y.spec.sets.length=n2/\okS y.spec.name/\bg y.line/\∀W,O0 w W->W.rangeAt b (off+i*4) [.string y.spec.name,.slice a1 n1 c1,.slice a2 n2 c2,.int .i64 y.line]/\aQ 2 eY B W (.slice a1 n1 c1) y.spec.spans/\aQ 2 ji B W (.slice a2 n2 c2) y.spec.sets/\lM B W [.string y.spec.name,.slice a1 n1 c1,.slice a2 n2 c2,.int .i64 y.line] y:=by obtain⟨b,off,cs,rfl,hb,hB,-,hr,hC⟩:=h.placed hx;have hC0:=hC;obtain⟨q1,rfl,⟨v1,v2,rfl,ok1,r1,r2⟩,in1⟩:=hC;obtain⟨a1,c1,rfl,-,-⟩:=r1.shape;obtain⟨a2,c2,rfl,-,-⟩:=r2.shape;exact⟨b,off,a1,_,c1,a2,_,c2,rfl,rfl,rfl,ok1,in1,fun W ho=>⟨dI hr hb hB (Kp.gV ho),r1.keep eY.keep (Kp.gV ho),r2.keep ji.keep (Kp.gV ho),lM.keep hC0 (Kp.gV ho)⟩⟩
end
end Go.Proofs.YtdmmebjjojimiaaGreatDoor
