/- ChP1 ChP2, in one text. -/
import Derived.Test.YtdmmebjjojimiaaGreatDoorG14
set_option maxRecDepth 100000
set_option maxHeartbeats 8000000
set_option linter.all false
namespace Go.Proofs
theorem zD2{p:Prop}(h:p:=by
 show(T.l++[a]).getD (((T.l.length:Int)+1).natAbs-1) default=a
 have e:(((T.l.length:Int)+1).natAbs-1)=T.l.length:=zBB
 rw[e,qC]
 simp):p:=h
theorem zC8{p:Prop}(h:p:=by
 simp only[yD,yI]
 exact⟨fun⟨i,hi,e⟩=>⟨i,hi,e.symm⟩,fun⟨i,hi,e⟩=>⟨i,hi,e.symm⟩⟩):p:=h
end Go.Proofs
namespace Go.Proofs.YtdmmebjjojimiaaGreatDoor
open Go.RowKit
namespace rZ
open fA
def dJ(l:List At)(a:At)(z:Int):Prop:=0<z/\z.natAbs<=l.length/\l.getD (z.natAbs-1) default=a
def lit(s:At->Bool)(l:List At)(z:Int):Bool:=decide (0<z)==s (l.getD (z.natAbs-1) default)
def Tru(s:At->Bool)(l:List At)(z:Int):Prop:=z≠0/\z.natAbs<=l.length/\lit s l z=true
theorem Fp{l m:List At}{i:Nat}(h:i<l.length):(l++m).getD i default=l.getD i default:=by rw[qC,qC,yM h]
theorem dJ.mono{l m:List At}{a:At}{z:Int}(h:dJ l a z):dJ (l++m) a z:=by obtain⟨h1,h2,h3⟩:=h;exact⟨h1,by rw[qK];omega,by rw[Fp zBB];exact h3⟩
theorem Uf{s:At->Bool}{l m:List At}{z:Int}(h0:z≠0)(h:z.natAbs<=l.length):lit s (l++m) z=lit s l z:=by unfold lit;rw[Fp zBB]
theorem Tru.mono{s:At->Bool}{l m:List At}{z:Int}(h:Tru s l z):Tru s (l++m) z:=
 ⟨h.1,by rw[qK];have:=h.2.1;omega,by rw[Uf h.1 h.2.1];exact h.2.2⟩
theorem dJ.lit{s:At->Bool}{l:List At}{a:At}{z:Int}(h:dJ l a z):lit s l z=s a:=by unfold rZ.lit;rw[h.2.2,qX h.1];cases s a<;>rfl
theorem dJ.agK{s:At->Bool}{l:List At}{a:At}{z:Int}(h:dJ l a z):rZ.lit s l (-z)= !s a:=by have:=h.1;unfold rZ.lit;rw[Int.natAbs_neg,h.2.2,qP zBB];cases s a<;>rfl
theorem dJ.tru{s:At->Bool}{l:List At}{a:At}{z:Int}(h:dJ l a z)(hs:s a=true):Tru s l z:=⟨by have:=h.1;omega,h.2.1,by rw[h.lit,hs]⟩
theorem dJ.aaK{s:At->Bool}{l:List At}{a:At}{z:Int}(h:dJ l a z)(hs:s a=false):Tru s l (-z):=⟨by have:=h.1;omega,by rw[Int.natAbs_neg];exact h.2.1,by rw[h.agK,hs];rfl⟩
theorem dJ.inj{l:List At}{a b:At}{z:Int}(h:dJ l a z)(h':dJ l b z):a=b:=h.2.2.symm.trans h'.2.2
theorem dJ.uniq{l:List At}(hn:l.Nodup){n:Nat}(hlt:n<l.length){z:Int}(h:dJ l (l.getD n default) z):z.natAbs-1=n:=by
 obtain⟨h1,h2,h3⟩:=h;have e1:l[z.natAbs-1]'zBB=l[n]:=by rw[qC,qC,qA zBB,qA hlt]at h3;exact h3
 exact(List.getElem_inj hn).1 e1
def N9(s:At->Bool)(a:At)(ats:List At):Prop:=
 (s a=false->∀i,i<ats.length->s (ats.getD i default)=false)/\
 (s a=true->∃i,i<ats.length/\∀j,j<ats.length->(s (ats.getD j default)=true↔j=i))
structure Gd (s:At->Bool) (S:TB):Prop where
 ok:S.1.Ok
 nd:S.1.l.Nodup
 bad:S.2.bad=false
 cl:∀f∈S.2.cls,∃z∈f,Tru s S.1.l z
theorem vN(T:Tab)(a:At):∃m,(T.num a).1.l=T.l++m/\(∀b∈m,b=a):=by
 unfold Tab.num;split;·exact⟨[],by simp,by simp⟩
 split;·exact⟨[],by simp,by simp⟩
 exact⟨[a],rfl,by simp⟩
theorem sS:∀(ats:List At) (T:Tab),∃m,(T.nums ats).1.l=T.l++m/\(∀b∈m,b∈ats)
 | [],T=>⟨[],by simp[Tab.nums],by simp⟩
 |a::r,T=>by
  obtain⟨m1,h1,k1⟩:=vN T a
  obtain⟨m2,h2,k2⟩:=sS r (T.num a).1
  refine⟨m1++m2,?_,fun b hb=>?_⟩
  ·rw[Tab.nums,h2,h1,yW]
  ·rcases qW.1 hb with hb|hb
   ·rw[k1 b hb];exact qQ
   ·exact yE _ (k2 b hb)
theorem X4{T:Tab}(h:T.Ok)(hn:T.l.Nodup)(a:At):(T.num a).1.l.Nodup/\((T.num a).2=0\/dJ (T.num a).1.l a (T.num a).2):=by
 unfold Tab.num;split
 ·rename_i hm;refine⟨hn,.inr ?_⟩;have hlt:=List.idxOf_lt_length_of_mem hm;simp only[numOf,if_pos hm];refine⟨by omega,by omega,?_⟩;have e:((((List.idxOf a T.l:Nat):Int)+1).natAbs-1)=List.idxOf a T.l:=zBB;have e':(((List.idxOf a T.l+1:Nat):Int).natAbs-1)=List.idxOf a T.l:=zBB;rw[qC];first|rw[e,qA hlt]|rw[e',qA hlt]
  simp
 rename_i hm;split;·exact⟨hn,.inl rfl⟩
 refine⟨?_,.inr ⟨by show(0:Int)<(T.l.length:Int)+1;omega,?_,?_⟩⟩;·show(T.l++[a]).Nodup;rw[List.nodup_append];refine⟨hn,by simp,fun x hx y hy=>?_⟩;rw[yJ]at hy;rintro rfl;exact hm (hy▸hx)
 ·show(((T.l.length:Int)+1).natAbs)<=(T.l++[a]).length;simp;omega
 exact zD2
def Fq(l:List At)(ats:List At)(ns:List Int):Prop:=ns.length=ats.length/\∀i,i<ats.length->ns.getD i 0=0\/dJ l (ats.getD i default) (ns.getD i 0)
theorem Fq.mono{l m ats:List At}{ns:List Int}(h:Fq l ats ns):Fq (l++m) ats ns:=⟨h.1,fun i hi=>(h.2 i hi).imp id dJ.mono⟩
theorem KD:∀(ats:List At) {T:Tab},T.Ok->T.l.Nodup->(T.nums ats).1.l.Nodup/\Fq (T.nums ats).1.l ats (T.nums ats).2
 | [],T,h,hn=>⟨hn,rfl,fun i hi=>by simp at hi⟩
 |a::r,T,h,hn=>by
  obtain⟨n1,k1⟩:=X4 h hn a
  obtain⟨n2,k2,k3⟩:=KD r (Tab.lS h a).1 n1
  obtain⟨m,hm,-⟩:=sS r (T.num a).1
  refine⟨n2,by rw[Tab.nums];simp[k2],fun i hi=>?_⟩
  rw[Tab.nums]
  cases i with
  |zero=>
   simp only[List.getD_cons_zero]
   rw[hm]
   exact k1.imp id dJ.mono
  |succ i=>
   simp only[List.getD_cons_succ]
   exact k3 i zAk
theorem Gd.num{s:At->Bool}{T:Tab}{B:jf}(h:Gd s (T,B))(a:At):Gd s ((T.num a).1,B)/\((T.num a).2=0\/dJ (T.num a).1.l a (T.num a).2):=by obtain⟨n1,k1⟩:=X4 h.ok h.nd a;obtain⟨m,hm,-⟩:=vN T a;refine⟨⟨(Tab.lS h.ok a).1,n1,h.bad,fun f hf=>?_⟩,k1⟩;obtain⟨z,hz,ht⟩:=h.cl f hf;exact⟨z,hz,by show Tru s (T.num a).1.l z;rw[hm];exact ht.mono⟩
theorem KF{c:List Int}(h:∀x∈c,x≠0/\x.natAbs<=65536):c.any wr=false:=by rw[List.any_eq_false];intro x hx;obtain⟨h1,h2⟩:=h x hx;unfold wr DW;simp only[Bool.or_eq_true,beq_iff_eq];omega
theorem Gd.adds{s:At->Bool}:∀(cs:List (List Int)) {T:Tab} {B:jf},Gd s (T,B)->(∀c∈cs,(∀x∈c,x≠0/\x.natAbs<=65536)/\∃z∈c,Tru s T.l z)->Gd s (T,B.adds cs)
 | [],_,_,h,_=>h
 |c::cs,T,B,h,hc=>by
  refine Gd.adds cs (T:=T) (B:=B.add c) ?_ (fun d hd=>hc d (yE _ hd))
  obtain⟨h1,z,hz,ht⟩:=hc c qQ
  unfold jf.add
  rw[KF h1]
  simp only[Bool.false_eq_true,if_false]
  split
  ·exact h
  ·rename_i f hf
   split
   ·exact⟨h.ok,h.nd,h.bad,h.cl⟩
   ·refine⟨h.ok,h.nd,h.bad,fun g hg=>?_⟩
    rcases qW.1 hg with hg|hg
    ·exact h.cl g hg
    ·rw[yJ.1 hg]
     exact⟨z,(Rup.Ns hf z).2 hz,ht⟩
theorem Fv{row:List Int}{c:List Int}(h:c∈mD row):∃i j,i<j/\j<row.length/\c=[-(row.getD i 0),-(row.getD j 0)]:=by
 unfold mD kD iY at h;obtain⟨i,hi,h⟩:=List.mem_flatMap.1 h;rw[yI]at hi;obtain⟨y,hy,rfl⟩:=yD.1 h;obtain⟨k,hk,rfl⟩:=List.mem_iff_getElem.1 hy;rw[List.length_drop]at hk;refine⟨i,i+1+k,by omega,by omega,?_⟩;rw[List.getElem_drop];have:row.getD (i+1+k) 0=row[i+1+k]'zAB:=by rw[qC,qA zBB];rfl
 rw[this]
theorem X5{row:List Int}{i j:Nat}(hij:i<j)(hj:j<row.length):[-(row.getD i 0),-(row.getD j 0)]∈mD row:=by unfold mD kD iY;refine List.mem_flatMap.2 ⟨i,yI.2 zBB,yD.2 ⟨row.getD j 0,?_,rfl⟩⟩;rw[List.mem_iff_getElem];refine⟨j-(i+1),by rw[List.length_drop];omega,?_⟩;rw[List.getElem_drop,qC,qA hj];simp only[Option.getD_some];congr 1;omega
structure Full (l:List At) (a:At) (ats:List At) (node:Int) (ns:List Int):Prop where
 node:dJ l a node
 len:ns.length=ats.length
 get:∀i,i<ats.length->dJ l (ats.getD i default) (ns.getD i 0)
theorem Full.of{l:List At}{a:At}{ats:List At}{node:Int}{ns:List Int}(h1:node=0\/dJ l a node)(h2:Fq l ats ns)(h:¬(node=0\/ns.contains 0=true)):Full l a ats node ns:=by
 rw[not_or]at h;refine⟨h1.resolve_left h.1,h2.1,fun i hi=>(h2.2 i hi).resolve_left fun e=>h.2 ?_⟩;rw[List.contains_iff_mem];have hl:i<ns.length:=by rw[h2.1];exact hi
 rw[qC,qA hl]at e;rw[<-e];exact qZ hl
theorem Full.mem{l:List At}{a:At}{ats:List At}{node:Int}{ns:List Int}(F:Full l a ats node ns){x:Int}(hx:x∈ns):∃i,i<ats.length/\x=ns.getD i 0:=by obtain⟨i,hi,rfl⟩:=List.mem_iff_getElem.1 hx;exact⟨i,by rw[<-F.len];exact hi,by rw[qC,qA hi];rfl⟩
theorem Full.at_mem{l:List At}{a:At}{ats:List At}{node:Int}{ns:List Int}(F:Full l a ats node ns){i:Nat}(hi:i<ats.length):ns.getD i 0∈ns:=by
 have hl:i<ns.length:=by rw[F.len];exact hi
 rw[qC,qA hl];exact qZ hl
theorem dJ.rng{l:List At}(hl:l.length<=65536){a:At}{z:Int}(h:dJ l a z):(z≠0/\z.natAbs<=65536)/\(-z≠0/\(-z).natAbs<=65536):=by obtain⟨h1,h2,-⟩:=h;omega
theorem Full.rng{l:List At}(hl:l.length<=65536){a:At}{ats:List At}{node:Int}{ns:List Int}(F:Full l a ats node ns):∀c∈sO node ns,∀x∈c,x≠0/\x.natAbs<=65536:=by
 intro c hc x hx;unfold sO at hc;rcases qY.1 hc with rfl|hc
 ·rcases qY.1 hx with rfl|hx;·exact(F.node.rng hl).2
  obtain⟨i,hi,rfl⟩:=F.mem hx;exact((F.get i hi).rng hl).1
 rcases qW.1 hc with hc|hc
 ·obtain⟨i,j,hij,hj,rfl⟩:=Fv hc;rw[F.len]at hj;simp only[qY,List.not_mem_nil,or_false]at hx;rcases hx with rfl|rfl;·exact((F.get i zBB).rng hl).2
  exact((F.get j hj).rng hl).2
 obtain⟨n,hn,rfl⟩:=yD.1 hc;obtain⟨i,hi,rfl⟩:=F.mem hn;simp only[qY,List.not_mem_nil,or_false]at hx;rcases hx with rfl|rfl;·exact((F.get i hi).rng hl).2
 exact(F.node.rng hl).1
theorem Full.holds{s:At->Bool}{l:List At}{a:At}{ats:List At}{node:Int}{ns:List Int}(F:Full l a ats node ns)(X:N9 s a ats):∀c∈sO node ns,∃z∈c,Tru s l z:=by
 intro c hc;unfold sO at hc;rcases qY.1 hc with rfl|hc
 ·cases ha:s a;·exact⟨-node,qQ,F.node.aaK ha⟩
  obtain⟨i,hi,h⟩:=X.2 ha;exact⟨ns.getD i 0,yE _ (F.at_mem hi),(F.get i hi).tru ((h i hi).2 rfl)⟩
 rcases qW.1 hc with hc|hc
 ·obtain⟨i,j,hij,hj,rfl⟩:=Fv hc;rw[F.len]at hj;cases hi:s (ats.getD i default);·exact⟨_,qQ,(F.get i zBB).aaK hi⟩
  cases hjj:s (ats.getD j default);·exact⟨_,yE _ qQ,(F.get j hj).aaK hjj⟩
  cases ha:s a;·rw[X.1 ha i zBB]at hi;cases hi
  obtain⟨k,hk,h⟩:=X.2 ha;have e1:=(h i zBB).1 hi;have e2:=(h j hj).1 hjj;omega
 obtain⟨n,hn,rfl⟩:=yD.1 hc;obtain⟨i,hi,rfl⟩:=F.mem hn;cases ha:s a;·exact⟨_,qQ,(F.get i hi).aaK (X.1 ha i hi)⟩
 exact⟨node,by simp,F.node.tru ha⟩
theorem Gd.row{s:At->Bool}{S:TB}(h:Gd s S){a:At}{ats:List At}{node:Int}(hn:node=0\/dJ S.1.l a node)(X:N9 s a ats):Gd s (S.row node ats):=by
 obtain⟨T,B⟩:=S;obtain⟨n1,k1⟩:=KD ats h.ok h.nd;obtain⟨m,hm,-⟩:=sS ats T;have hok:=(Tab.nG ats h.ok).1;have h':Gd s ((T.nums ats).1,B):=⟨hok,n1,h.bad,fun f hf=>by
  obtain⟨z,hz,ht⟩:=h.cl f hf
  exact⟨z,hz,by show Tru s (T.nums ats).1.l z;rw[hm];exact ht.mono⟩⟩
 show Gd s ((T.nums ats).1,B.one node (T.nums ats).2);unfold jf.one;split;·exact h'
 rename_i hz;have hn':node=0\/dJ (T.nums ats).1.l a node:=by rw[hm];exact hn.imp id dJ.mono
 have F:=Full.of hn' k1 hz;exact h'.adds _ fun c hc=>⟨F.rng (qR hok.len hok.lim) c hc,F.holds X c hc⟩
theorem Fz(S:TB)(node:Int)(ats:List At):∃m,(S.row node ats).1.l=S.1.l++m/\∀b∈m,b∈ats:=sS ats S.1
structure Ug (s:At->Bool) (p:Nat) (pk:eP):Prop where
 aP:N9 s (aG p) (gJ p pk.aP.length)
 vars:∀j,j<pk.vars.length->N9 s (aG p) (gV p j (pk.vars.getD j default).values.length)
theorem Gd.vars{s:At->Bool}{S:TB}(h:Gd s S){p:Nat}{node:Int}(hn:node=0\/dJ S.1.l (aG p) node){vs:List fE}:∀j,(∀k,k<j->N9 s (aG p) (gV p k (vs.getD k default).values.length))->Gd s (S.vars node p vs j)/\(node=0\/dJ (S.vars node p vs j).1.l (aG p) node)
 |0,_=>⟨h,hn⟩
 |j+1,hx=>by
  obtain⟨h1,h2⟩:=Gd.vars h hn (vs:=vs) j (fun k hk=>hx k zBB)
  obtain⟨m,hm,-⟩:=Fz (S.vars node p vs j) node (gV p j (vs.getD j default).values.length)
  refine⟨h1.row h2 (hx j zBB),?_⟩
  rw[TB.vars,hm]
  exact h2.imp id dJ.mono
theorem Gd.pack{s:At->Bool}{S:TB}(h:Gd s S){p:Nat}{pk:eP}(X:Ug s p pk):Gd s (S.pack p pk):=by
 obtain⟨T,B⟩:=S;obtain⟨h1,h2⟩:=h.num (aG p);obtain⟨m,hm,-⟩:=Fz ((T.num (aG p)).1,B) (T.num (aG p)).2 (gJ p pk.aP.length);have h3:=h1.row h2 X.aP;have h4:(T.num (aG p)).2=0\/dJ (TB.row ((T.num (aG p)).1,B) (T.num (aG p)).2 (gJ p pk.aP.length)).1.l (aG p) (T.num (aG p)).2:=by rw[hm];exact h2.imp id dJ.mono
 exact(h3.vars h4 _ X.vars).1
theorem Gd.choices{s:At->Bool}{x:aC}:∀(l:List Nat) {S:TB},Gd s S->(∀p∈l,Ug s p (x.pack p))->Gd s (S.choices x l)
 | [],_,h,_=>h
 |p::l,S,h,X=>Gd.choices l (S:=S.pack p (x.pack p)) (h.pack (X p qQ)) (fun q hq=>X q (yE _ hq))
theorem adw{s:At->Bool}{l:List At}(hl:l.length<=65536){z:Int}(h0:z≠0)(h:z.natAbs<=l.length){m:List Bool}(hm:∀i,i<l.length->m.getD i false=s (l.getD i default)):Vo z m=lit s l z:=by
 have hw:wr z=false:=by unfold wr DW;rw[Bool.or_eq_false_iff,yC,yC];omega
 unfold Vo lit;rw[hw,hm _ zBB];simp only[Bool.false_eq_true,if_false];split;·rw[qP zBB];cases s (l.getD (z.natAbs-1) default)<;>rfl
 rw[qX zBB];cases s (l.getD (z.natAbs-1) default)<;>rfl
theorem X6{s:At->Bool}{l:List At}{i:Nat}(hi:i<l.length):(l.map s).getD i false=s (l.getD i default):=by rw[qC,qC,List.getElem?_map,qA hi];rfl
theorem Gd.holds{s:At->Bool}{S:TB}(h:Gd s S):holdsB S.2.cls (S.1.l.map s)=true:=by unfold holdsB;rw[List.all_eq_true];intro f hf;obtain⟨z,hz,ht⟩:=h.cl f hf;rw[yU];exact⟨z,hz,by rw[adw (qR h.ok.len h.ok.lim) ht.1 ht.2.1 fun i hi=>X6 hi];exact ht.2.2⟩
def CG(s:At->Bool)(l:List At)(cls:List (List Int))(n:Nat):Prop:= ∃f∈cls,∀z∈f,z≠0/\z.natAbs<=l.length/\lit s l z=decide (z.natAbs-1=n)
theorem CG.mono{s:At->Bool}{l m:List At}{cls ds:List (List Int)}{n:Nat}(h:CG s l cls n):CG s (l++m) (cls++ds) n:=by obtain⟨f,hf,h⟩:=h;refine⟨f,List.mem_append_left _ hf,fun z hz=>?_⟩;obtain⟨h1,h2,h3⟩:=h z hz;exact⟨h1,by rw[qK];omega,by rw[Uf h1 h2];exact h3⟩
theorem aaL{x:Int}(h0:x≠0)(h1:x.natAbs<=65536):fA.Lit x:=by refine⟨⟨by omega,by omega⟩,?_⟩;unfold wr DW;rw[Bool.or_eq_false_iff,yC,yC];omega
theorem Ce{c:List Int}(hl:∀x∈c,x≠0/\x.natAbs<=65536)(hne:∀x∈c,-x∉c):∃f,form c=some f/\∀x,x∈f↔x∈c:=by
 have hlit:∀x∈c,fA.Lit x:=fun x hx=>aaL (hl x hx).1 (hl x hx).2;have hl2:∀x∈nP c,fA.Lit x:=fun x hx=>hlit x ((kZ c x).1 hx);have hs:=Ac c;have habs:jR (nP c):=by
  unfold Strict at hs;unfold jR;refine hs.imp_of_mem fun{x y} hx hy hxy=>?_;rw[lt_iff,(hl2 x hx).abs,(hl2 y hy).abs]at hxy;rcases hxy with h1| ⟨h1,h2⟩;·omega
  exfalso;have:y= -x:=zBB;rw[this]at hy;exact hne x ((kZ c x).1 hx) ((kZ c (-x)).1 hy)
 refine⟨nP c,?_,kZ c⟩;unfold form;rw[Xz hlit];simp only[Bool.false_eq_true,if_false];rw[vF habs hl2];rfl
theorem Ob:∀(l:List (List Int)) (B:jf),(∀c∈l,∀x∈c,x≠0/\x.natAbs<=65536)->B.cls.length+l.length<=262144->(B.adds l).cls=B.cls++l.filterMap form
 | [],B,_,_=>by simp[jf.adds]
 |c::l,B,hl,hb=>by
  simp only[qN]at hb
  have e:B.adds (c::l)=(B.add c).adds l:=rfl
  rw[e]
  have hadd:(B.add c).cls=B.cls++[c].filterMap form:=by
   unfold jf.add
   rw[KF (hl c qQ)]
   simp only[Bool.false_eq_true,if_false]
   cases hf:form c with
   |none=>simp[hf]
   |some f=>
    simp only
    rw[if_neg zBB]
    simp[hf]
  have hlen:(B.add c).cls.length<=B.cls.length+1:=by
   rw[hadd,qK]
   have:=List.length_filterMap_le form [c]
   simp only[List.length_singleton]at this
   omega
  rw[Ob l (B.add c) (fun d hd=>hl d (yE _ hd)) zBB,hadd,yW,<-List.filterMap_append]
  rfl
theorem Full.ajT{s:At->Bool}{l:List At}(hl:l.length<=65536)(hnd:l.Nodup){a:At}{ats:List At}{node:Int}{ns:List Int}(F:Full l a ats node ns)(X:N9 s a ats)(ha:a∉ats)(hat:ats.Nodup){n:Nat}(hn:n<l.length)(hm:l.getD n default=a\/l.getD n default∈ats):∃c∈sO node ns,(∀x∈c,-x∉c)/\∀z∈c,z≠0/\z.natAbs<=l.length/\lit s l z=decide (z.natAbs-1=n):=by
 have hp:0<node:=F.node.1;have hpi:∀i,i<ats.length->0<ns.getD i 0:=fun i hi=>(F.get i hi).1; -- whose place is it
 have key:∀b z,dJ l b z->(z.natAbs-1=n↔b=l.getD n default):=fun b z hz=>by
  constructor;·rintro rfl;exact hz.2.2.symm
  rintro rfl;exact hz.uniq hnd hn
 have hinj:∀i j,i<ats.length->j<ats.length->ats.getD i default=ats.getD j default->i=j:=fun i j hi hj e=>by rw[qC,qC,qA hi,qA hj]at e;exact(List.getElem_inj hat).1 e
 have hmem:∀i,i<ats.length->ats.getD i default∈ats:=fun i hi=>by rw[qC,qA hi];exact qZ hi
 have hna:∀i,i<ats.length->ats.getD i default≠a:=fun i hi e=>ha (e▸hmem i hi);have hne:∀i,i<ats.length->ns.getD i 0≠node:=fun i hi e=>by have:=F.get i hi;rw[e]at this;exact hna i hi (this.inj F.node)
 have l1: -node::ns∈sO node ns:=qQ;have l2:∀i,i<ats.length->[-(ns.getD i 0),node]∈sO node ns:=fun i hi=>
  yE _ (List.mem_append_right _ (yD.2 ⟨_,F.at_mem hi,rfl⟩))
 have l3:∀i j,i<j->j<ats.length->[-(ns.getD i 0),-(ns.getD j 0)]∈sO node ns:=fun i j hij hj=>
  yE _ (List.mem_append_left _ (X5 hij (by rw[F.len];exact hj)))
 have n1:∀x∈ -node::ns,-x∉ -node::ns:=by
  intro x hx h;rcases qY.1 hx with rfl|hx
  ·rcases qY.1 h with h|h;·omega
   obtain⟨i,hi,e⟩:=F.mem h;exact hne i hi zBB
  obtain⟨i,hi,rfl⟩:=F.mem hx;have:=hpi i hi;rcases qY.1 h with h|h;·exact hne i hi zBB
  obtain⟨j,hj,e⟩:=F.mem h;have:=hpi j hj;omega
 have n2:∀i,i<ats.length->∀x∈[-(ns.getD i 0),node],-x∉[-(ns.getD i 0),node]:=by intro i hi x hx h;have:=hpi i hi;have:=hne i hi;simp only[qY,List.not_mem_nil,or_false]at hx h;omega
 have n3:∀i j,i<ats.length->j<ats.length->∀x∈[-(ns.getD i 0),-(ns.getD j 0)],-x∉[-(ns.getD i 0),-(ns.getD j 0)]:=by intro i j hi hj x hx h;have:=hpi i hi;have:=hpi j hj;simp only[qY,List.not_mem_nil,or_false]at hx h;omega
 have pos:∀{b z},dJ l b z->z≠0/\z.natAbs<=l.length/\lit s l z=s b:=fun h=>⟨by have:=h.1;omega,h.2.1,h.lit⟩;have neg:∀{b z},dJ l b z-> -z≠0/\(-z).natAbs<=l.length/\lit s l (-z)= !s b/\(-z).natAbs-1=z.natAbs-1:=fun h=>⟨by have:=h.1;omega,by have:=h.2.1;omega,h.agK,by omega⟩;rcases hm with hm|hm
 ·-- the node itself
  have kn:node.natAbs-1=n:=(key a node F.node).2 hm.symm;have ki:∀i,i<ats.length->¬((ns.getD i 0).natAbs-1=n):=fun i hi e=>hna i hi (((key _ _ (F.get i hi)).1 e).trans hm);cases hs:s a
  ·refine⟨_,l1,n1,fun z hz=>?_⟩;rcases qY.1 hz with rfl|hz;·obtain⟨p1,p2,p3,p4⟩:=neg F.node;exact⟨p1,p2,by rw[p3,p4,hs,qX kn];rfl⟩
   obtain⟨i,hi,rfl⟩:=F.mem hz;obtain⟨p1,p2,p3⟩:=pos (F.get i hi);exact⟨p1,p2,by rw[p3,X.1 hs i hi,qP (ki i hi)]⟩
  obtain⟨i,hi,h⟩:=X.2 hs;refine⟨_,l2 i hi,n2 i hi,fun z hz=>?_⟩;simp only[qY,List.not_mem_nil,or_false]at hz;rcases hz with rfl|rfl;·obtain⟨p1,p2,p3,p4⟩:=neg (F.get i hi);exact⟨p1,p2,by rw[p3,p4,(h i hi).2 rfl,qP (ki i hi)];rfl⟩
  obtain⟨p1,p2,p3⟩:=pos F.node;exact⟨p1,p2,by rw[p3,hs,qX kn]⟩
 obtain⟨i,hi',e⟩:=List.mem_iff_getElem.1 hm;have hi:=hi';have ei:ats.getD i default=l.getD n default:=by rw[qC,qA hi];exact e
 have kn:¬(node.natAbs-1=n):=fun h=>hna i hi (ei.trans ((key a node F.node).1 h).symm);have ki:(ns.getD i 0).natAbs-1=n:=(key _ _ (F.get i hi)).2 ei;have kj:∀j,j<ats.length->j≠i->¬((ns.getD j 0).natAbs-1=n):=fun j hj hji h=>hji (hinj j i hj hi (((key _ _ (F.get j hj)).1 h).trans ei.symm));cases hs:s a
 ·refine⟨_,l2 i hi,n2 i hi,fun z hz=>?_⟩;simp only[qY,List.not_mem_nil,or_false]at hz;rcases hz with rfl|rfl;·obtain⟨p1,p2,p3,p4⟩:=neg (F.get i hi);exact⟨p1,p2,by rw[p3,p4,X.1 hs i hi,qX ki];rfl⟩
  obtain⟨p1,p2,p3⟩:=pos F.node;exact⟨p1,p2,by rw[p3,hs,qP kn]⟩
 obtain⟨k,hk,h⟩:=X.2 hs;by_cases ek:k=i
 ·subst ek;refine⟨_,l1,n1,fun z hz=>?_⟩;rcases qY.1 hz with rfl|hz;·obtain⟨p1,p2,p3,p4⟩:=neg F.node;exact⟨p1,p2,by rw[p3,p4,hs,qP kn];rfl⟩
  obtain⟨j,hj,rfl⟩:=F.mem hz;obtain⟨p1,p2,p3⟩:=pos (F.get j hj);refine⟨p1,p2,?_⟩;rw[p3];by_cases ej:j=k;·subst ej;rw[(h j hj).2 rfl,qX ki]
  rw[qP (kj j hj ej)];cases hh:s (ats.getD j default);·rfl
  exact absurd ((h j hj).1 hh) ej
 have hsi:s (ats.getD i default)=false:=by
  cases hh:s (ats.getD i default);·rfl
  exact absurd ((h i hi).1 hh) (fun e=>ek e.symm)
 have hsk:s (ats.getD k default)=true:=(h k hk).2 rfl;have ci:∀z,z= -(ns.getD i 0)\/z= -(ns.getD k 0)->z≠0/\z.natAbs<=l.length/\lit s l z=decide (z.natAbs-1=n):=by
  rintro z (rfl|rfl);·obtain⟨p1,p2,p3,p4⟩:=neg (F.get i hi);exact⟨p1,p2,by rw[p3,p4,hsi,qX ki];rfl⟩
  obtain⟨p1,p2,p3,p4⟩:=neg (F.get k hk);exact⟨p1,p2,by rw[p3,p4,hsk,qP (kj k hk ek)];rfl⟩
 rcases Nat.lt_or_gt_of_ne ek with hki|hik;·refine⟨_,l3 k i hki hi,n3 k i hk hi,fun z hz=>ci z ?_⟩;simp only[qY,List.not_mem_nil,or_false]at hz;exact hz.symm
 refine⟨_,l3 i k hik hk,n3 i k hi hk,fun z hz=>ci z ?_⟩;simpa only[qY,List.not_mem_nil,or_false]using hz
structure Gx (s:At->Bool) (S:TB) (K N:Nat):Prop where
 gd:Gd s S
 room:S.1.l.length<=K
 few:S.2.cls.length<=N
 KG:S.1.full=false
 lim:S.1.limit=5000
theorem KH(T:Tab)(a:At):(T.num a).1.limit=T.limit:=by
 unfold Tab.num;split;·rfl
 split<;>rfl
theorem Oc:∀(ats:List At) (T:Tab),(T.nums ats).1.limit=T.limit
 | [],_=>rfl
 |a::r,T=>by rw[Tab.nums,Oc r,KH]
theorem FB{T:Tab}(h:T.l.length<T.limit)(a:At):(T.num a).1.full=T.full/\(T.num a).1.l.length<=T.l.length+1/\(T.num a).2≠0:=by
 unfold Tab.num;split;·rename_i hm;refine⟨rfl,by show T.l.length<=_;omega,?_⟩;simp only[numOf,if_pos hm];omega
 rw[if_neg zBB];refine⟨rfl,?_,by show((T.l.length:Int)+1)≠0;omega⟩;show(T.l++[a]).length<=_;rw[qK];simp
theorem Jl:∀(ats:List At) {T:Tab},T.l.length+ats.length<=T.limit->(T.nums ats).1.full=T.full/\(T.nums ats).1.l.length<=T.l.length+ats.length/\∀z∈(T.nums ats).2,z≠0
 | [],T,_=>⟨rfl,qH _,fun z hz=>by cases hz⟩
 |a::r,T,h=>by
  simp only[qN]at h
  obtain⟨h1,h2,h3⟩:=FB (T:=T) zBB a
  obtain⟨k1,k2,k3⟩:=Jl r (T:=(T.num a).1) (by rw[KH];omega)
  refine⟨by rw[Tab.nums];exact k1.trans h1,by rw[Tab.nums];simp only[qN];exact qR k2 zBB,fun z hz=>?_⟩
  rw[Tab.nums]at hz
  rcases qY.1 hz with rfl|hz
  ·exact h3
  ·exact k3 z hz
theorem VB(row:List Int)(i:Nat):(iY row i).length<=row.length:=by unfold iY;simp
theorem X7(row:List Int):(mD row).length<=row.length*row.length:=by
 unfold mD;have:∀i,(kD row i).length<=i*row.length:=by
  intro i
  induction i with
  |zero=>simp[kD]
  |succ i ih=>
   rw[vI,qK,Nat.succ_mul]
   have:=VB row i
   omega
 exact this _
def Uh(s:At->Bool)(S:TB)(a:At):Prop:= ∀n,n<S.1.l.length->S.1.l.getD n default≠a->CG s S.1.l S.2.cls n
theorem Gx.row{s:At->Bool}{S:TB}{K N:Nat}(h:Gx s S K N){a:At}{ats:List At}{node:Int}(hn:dJ S.1.l a node)(X:N9 s a ats)(ha:a∉ats)(hat:ats.Nodup)(hsz:ats.length<=10)(hK:K<=4000)(hN:N<=100000)(hc:Uh s S a):Gx s (S.row node ats) (K+10) (N+111)/\dJ (S.row node ats).1.l a node/\∀n,n<(S.row node ats).1.l.length->CG s (S.row node ats).1.l (S.row node ats).2.cls n:=by
 obtain⟨T,B⟩:=S;obtain⟨m,hm,hmm⟩:=sS ats T;have hg:=h.gd.row (.inr hn) X;have hlim:T.limit=5000:=h.lim;have hroom:T.l.length<=K:=h.room;obtain⟨q1,q2,q3⟩:=Jl ats (T:=T) zBB;obtain⟨n1,k1⟩:=KD ats h.gd.ok h.gd.nd;have hok:=(Tab.nG ats h.gd.ok).1;have hl:(T.nums ats).1.l.length<=65536:=qR hok.len hok.lim;have hn':dJ (T.nums ats).1.l a node:=by rw[hm];exact hn.mono
 have hz:¬(node=0\/(T.nums ats).2.contains 0=true):=by
  rintro(e|e);·have:=hn.1;omega
  rw[List.contains_iff_mem]at e;exact q3 0 e rfl
 have F:=Full.of (.inr hn') k1 hz;have agL:=F.rng hl;have hone:B.one node (T.nums ats).2=B.adds (sO node (T.nums ats).2):=by unfold jf.one;rw[if_neg hz]
 have hlen:(sO node (T.nums ats).2).length<=111:=by
  unfold sO;simp only[qN,qK,qM];have h1:=X7 (T.nums ats).2;have h2:(T.nums ats).2.length<=10:=by rw[k1.1];exact hsz
  have h3:(T.nums ats).2.length*(T.nums ats).2.length<=10*10:=Nat.mul_le_mul h2 h2;omega
 have hfew:B.cls.length<=N:=h.few;have hcls:(B.one node (T.nums ats).2).cls=B.cls++(sO node (T.nums ats).2).filterMap form:=by rw[hone];exact Ob _ _ agL zBB
 refine⟨⟨hg,?_,?_,?_,?_⟩,hn',fun n hlt=>?_⟩;·show(T.nums ats).1.l.length<=K+10;omega
 ·show(B.one node (T.nums ats).2).cls.length<=N+111;rw[hcls,qK];have:=List.length_filterMap_le form (sO node (T.nums ats).2);omega
 ·show(T.nums ats).1.full=false;rw[q1];exact h.KG
 ·show(T.nums ats).1.limit=5000;rw[Oc];exact hlim
 show CG s (T.nums ats).1.l (B.one node (T.nums ats).2).cls n;have hlt':n<(T.nums ats).1.l.length:=hlt;by_cases hin:(T.nums ats).1.l.getD n default=a\/(T.nums ats).1.l.getD n default∈ats;·obtain⟨c,h1,h2,h3⟩:=F.ajT (s:=s) hl n1 X ha hat hlt' hin;obtain⟨f,hf,hfm⟩:=Ce (agL c h1) h2;rw[hcls];exact⟨f,List.mem_append_right _ (List.mem_filterMap.2 ⟨c,h1,hf⟩),fun z hz=>h3 z ((hfm z).1 hz)⟩
 rw[not_or]at hin;have hold:n<T.l.length:=by
  rcases yK n T.l.length with h|h;·exact h
  exfalso;refine hin.2 (hmm _ ?_);rw[hm,qC,yN h,qA (by rw[hm,qK]at hlt';omega)];exact qZ _
 have e1:(T.nums ats).1.l.getD n default=T.l.getD n default:=by rw[hm];exact Fp hold
 rw[hcls,hm];exact(hc n hold (by show T.l.getD n default≠a;rw[<-e1];exact hin.1)).mono
theorem Jm{p n:Nat}{a:At}:a∈gJ p n↔ ∃i,i<n/\a=iZ p i:=by unfold gJ;exact zC8
theorem Jo{p j n:Nat}{a:At}:a∈gV p j n↔ ∃i,i<n/\a=jI p j i:=by unfold gV;exact zC8
theorem X8(p n:Nat):aG p∉gJ p n:=fun h=>by
 obtain⟨i,-,e⟩:=Jm.1 h
 have:=congrArg Prod.fst e
 simp[aG,iZ]at this
theorem X9(p j n:Nat):aG p∉gV p j n:=fun h=>by
 obtain⟨i,-,e⟩:=Jo.1 h
 have:=congrArg Prod.fst e
 simp[aG,jI]at this
theorem Jp{f:Nat->At}(h:∀i j,f i=f j->i=j)(n:Nat):((List.range n).map f).Nodup:=by unfold List.Nodup;rw[List.pairwise_map];exact List.pairwise_lt_range.imp fun{a b} hab e=>by have:=h a b e;omega
theorem Oe(p n:Nat):(gJ p n).Nodup:=Jp (fun i j e=>by
 have:=congrArg (fun a:At=>a.2.2.1) e
 simp[iZ]at this
 omega) n
theorem Og(p j n:Nat):(gV p j n).Nodup:=Jp (fun i k e=>by
 have:=congrArg (fun a:At=>a.2.2.2) e
 simp[jI]at this
 omega) n
theorem Gx.vars{s:At->Bool}{S:TB}{K N:Nat}(h:Gx s S K N){p:Nat}{node:Int}(hn:dJ S.1.l (aG p) node){vs:List fE}(hs:∀v∈vs,v.values.length<=10)(hK:K<=2000)(hN:N<=50000)(hc:∀n,n<S.1.l.length->CG s S.1.l S.2.cls n):
  ∀j,j<=vs.length->j<=4->(∀k,k<j->N9 s (aG p) (gV p k (vs.getD k default).values.length))->
  Gx s (S.vars node p vs j) (K+10*j) (N+111*j)/\dJ (S.vars node p vs j).1.l (aG p) node/\∀n,n<(S.vars node p vs j).1.l.length->CG s (S.vars node p vs j).1.l (S.vars node p vs j).2.cls n
 |0,_,_,_=>⟨h,hn,hc⟩
 |j+1,h1,h2,hx=>by
  obtain⟨g1,g2,g3⟩:=Gx.vars h hn hs hK hN hc j zBR zAB (fun k hk=>hx k zBB)
  have hl:(gV p j (vs.getD j default).values.length).length<=10:=by
   unfold gV
   rw[qM,List.length_range]
   refine hs _ ?_
   rw[qC,qA zBB]
   exact qZ _
  have:=g1.row g2 (hx j zBR) (X9 p j _) (Og p j _) hl zAB zBB (fun n hn _=>g3 n hn)
  rw[TB.vars,Nat.mul_succ,Nat.mul_succ,<-Nat.add_assoc,<-Nat.add_assoc]
  exact this
structure Ya (pk:eP):Prop where
 aP:pk.aP.length<=10
 vars:pk.vars.length<=4
 vals:∀v∈pk.vars,v.values.length<=10
theorem Gx.pack{s:At->Bool}{S:TB}{K N:Nat}(h:Gx s S K N){p:Nat}{pk:eP}(X:Ug s p pk)(ok:Ya pk)(hK:K<=1000)(hN:N<=20000)(hc:∀n,n<S.1.l.length->CG s S.1.l S.2.cls n):Gx s (S.pack p pk) (K+51) (N+555)/\∀n,n<(S.pack p pk).1.l.length->CG s (S.pack p pk).1.l (S.pack p pk).2.cls n:=by
 obtain⟨T,B⟩:=S;obtain⟨h1,h2⟩:=h.gd.num (aG p);obtain⟨m,hm,hmm⟩:=vN T (aG p);have hlim:T.limit=5000:=h.lim;have hroom:T.l.length<=K:=h.room;obtain⟨q1,q2,q3⟩:=FB (T:=T) zBB (aG p);have hnum:=h2.resolve_left q3;have g0:Gx s ((T.num (aG p)).1,B) (K+1) N:=⟨h1,by show(T.num (aG p)).1.l.length<=_;omega,h.few,by show(T.num (aG p)).1.full=false;rw[q1];exact h.KG,by show(T.num (aG p)).1.limit=5000;rw[KH];exact hlim⟩;have c0:Uh s ((T.num (aG p)).1,B) (aG p):=fun n hlt hne=>by
  have hlt':n<(T.num (aG p)).1.l.length:=hlt;have hne':(T.num (aG p)).1.l.getD n default≠aG p:=hne;show CG s (T.num (aG p)).1.l B.cls n;have hold:n<T.l.length:=by
   rcases yK n T.l.length with h|h;·exact h
   exfalso;refine hne' (hmm _ ?_);rw[hm,qC,yN h,qA (by rw[hm,qK]at hlt';omega)];exact qZ _
  have:=(hc n hold).mono (m:=m) (ds:=[]);rw[List.append_nil]at this;rw[hm];exact this
 obtain⟨g1,k1,c1⟩:=g0.row hnum X.aP (X8 p _) (Oe p _) (by unfold gJ;rw[qM,List.length_range];exact ok.aP) zAB zBB c0;obtain⟨g2,-,c2⟩:=g1.vars k1 ok.vals zAB zBB c1 pk.vars.length (qH _) ok.vars X.vars;have hv:=ok.vars;refine⟨⟨g2.gd,qR g2.room zAB,qR g2.few zBB,g2.KG,g2.lim⟩,c2⟩
theorem Gx.choices{s:At->Bool}{x:aC}:∀(l:List Nat) {S:TB} {K N:Nat},Gx s S K N->(∀n,n<S.1.l.length->CG s S.1.l S.2.cls n)->K+51*l.length<=1000->N+555*l.length<=20000->(∀p∈l,Ug s p (x.pack p)/\Ya (x.pack p))->
  Gx s (S.choices x l) (K+51*l.length) (N+555*l.length)/\∀n,n<(S.choices x l).1.l.length->CG s (S.choices x l).1.l (S.choices x l).2.cls n
 | [],_,_,_,h,hc,_,_,_=>⟨h,hc⟩
 |p::l,S,K,N,h,hc,hK,hN,X=>by
  simp only[qN,Nat.mul_succ]at hK hN⊢
  obtain⟨X1,X2⟩:=X p qQ
  obtain⟨g1,c1⟩:=h.pack X1 X2 zAB zBB hc
  have:=Gx.choices l (S:=S.pack p (x.pack p)) g1 c1 zAB zBB (fun q hq=>X q (yE _ hq))
  rw[show K+(51*l.length+51)=K+51+51*l.length by omega,show N+(555*l.length+555)=N+555+555*l.length by omega]
  exact this
structure Less (L:Nat) (T1 T2:Tab):Prop where
 l:T1.l=T2.l.take L
 full:T1.full=decide (L<T2.l.length)
 lim:T1.limit=L
 room:T2.full=false
 ajU:T2.limit=5000
theorem Less.num{L:Nat}{T1 T2:Tab}(h:Less L T1 T2)(hl:T2.l.length<5000)(a:At):Less L (T1.num a).1 (T2.num a).1:=by
 obtain⟨h1,h2,h3,h4,h5⟩:=h;unfold Tab.num;by_cases m2:a∈T2.l
 ·rw[if_pos m2];by_cases m1:a∈T1.l;·rw[if_pos m1];exact⟨h1,h2,h3,h4,h5⟩
  rw[if_neg m1];have hlt:L<T2.l.length:=by
   rcases yK L T2.l.length with h|h;·exact h
   rw[qI h]at h1;rw[h1]at m1;exact absurd m2 m1
  rw[if_pos (by rw[h3,h1,List.length_take];omega)];exact⟨h1,by show true=_;rw[qX hlt],h3,h4,h5⟩
 have m1:a∉T1.l:=fun h=>m2 (by rw[h1]at h;exact List.mem_of_mem_take h);rw[if_neg m1,if_neg m2,if_neg (show¬T2.limit<=T2.l.length by omega)];split
 ·rename_i hc;rw[h3,h1,List.length_take]at hc;refine⟨?_,?_,h3,h4,h5⟩;·show T1.l=(T2.l++[a]).take L;rw[List.take_append_of_le_length zBB];exact h1
  show true=decide (L<(T2.l++[a]).length);rw[qX];simp;omega
 rename_i hc;rw[h3,h1,List.length_take]at hc;refine⟨?_,?_,h3,h4,h5⟩;·show T1.l++[a]=(T2.l++[a]).take L;rw[h1,qI (show T2.l.length<=L by omega),qI zAK]
 show T1.full=decide (L<(T2.l++[a]).length);rw[h2,qP zBB,qP];simp;omega
theorem Less.nums:∀(ats:List At) {L:Nat} {T1 T2:Tab},Less L T1 T2->T2.l.length+ats.length<=5000->Less L (T1.nums ats).1 (T2.nums ats).1
 | [],_,_,_,h,_=>h
 |a::r,L,T1,T2,h,hl=>by
  simp only[qN]at hl
  rw[Tab.nums,Tab.nums]
  have hlim:=h.ajU
  have:=(FB (T:=T2) zBB a).2.1
  exact Less.nums r (h.num zAB a) zBB
def aaM(x:aC)(l:List Nat)(a:At):Prop:= ∃p∈l,a=aG p\/(∃i,i<(x.pack p).aP.length/\a=iZ p i)\/ ∃j k,j<(x.pack p).vars.length/\k<((x.pack p).vars.getD j default).values.length/\a=jI p j k
def AllOf(P:At->Prop)(S:TB):Prop:= ∀a∈S.1.l,P a
theorem AllOf.row{P:At->Prop}{S:TB}(h:AllOf P S){ats:List At}(ha:∀a∈ats,P a)(node:Int):AllOf P (S.row node ats):=fun a hm=>by
 obtain⟨m,e,hmm⟩:=Fz S node ats
 rw[e]at hm
 rcases qW.1 hm with hm|hm
 ·exact h a hm
 ·exact ha a (hmm a hm)
theorem AllOf.choices{x:aC}{l0:List Nat}:∀(l:List Nat) {S:TB},AllOf (aaM x l0) S->(∀p∈l,p∈l0)->AllOf (aaM x l0) (S.choices x l)
 | [],_,h,_=>h
 |p::l,S,h,hl=>by
  refine AllOf.choices l (S:=S.pack p (x.pack p)) ?_ (fun q hq=>hl q (yE _ hq))
  have hp:=hl p qQ
  obtain⟨T,B⟩:=S
  have h1:AllOf (aaM x l0) ((T.num (aG p)).1,B):=fun a ha=>by
   obtain⟨m,e,hmm⟩:=vN T (aG p)
   have ha':a∈(T.num (aG p)).1.l:=ha
   rw[e]at ha'
   rcases qW.1 ha' with ha'|ha'
   ·exact h a ha'
   ·exact⟨p,hp,.inl (hmm a ha')⟩
  have h2:=h1.row (ats:=gJ p (x.pack p).aP.length) (fun a ha=>by obtain⟨i,hi,rfl⟩:=Jm.1 ha;exact⟨p,hp,.inr (.inl ⟨i,hi,rfl⟩)⟩) (T.num (aG p)).2
  have h3:∀j,j<=(x.pack p).vars.length->AllOf (aaM x l0) ((TB.row ((T.num (aG p)).1,B) (T.num (aG p)).2 (gJ p (x.pack p).aP.length)).vars (T.num (aG p)).2 p (x.pack p).vars j):=by
   intro j
   induction j with
   |zero=>exact fun _=>h2
   |succ j ih=>exact fun hj=>(ih zBB).row (fun a ha=>by obtain⟨i,hi,rfl⟩:=Jo.1 ha;exact⟨p,hp,.inr (.inr ⟨j,i,hj,hi,rfl⟩)⟩) _
  exact h3 _ (qH _)
end rZ
namespace rZ
theorem VD(p n:Nat):(gJ p n).length=n:=by unfold gJ;simp
theorem VE(p j n:Nat):(gV p j n).length=n:=by unfold gV;simp
def B0:jf:=⟨[],false,false⟩
theorem gX{x:aC}{l:List Nat}(hl:∀p∈l,p<x.packs.length){p:Nat}(hp:p∈l):x.pack p∈x.packs:=by unfold aC.pack;rw[qC,qA (hl p hp)];exact qZ _
section
variable {x:aC} {q:dG} (h:Ue x q) {l:List Nat} (hl:∀p∈l,p<x.packs.length) (hn:l.Nodup) (by_:List Nat)
include h hl
end
end rZ
end Go.Proofs.YtdmmebjjojimiaaGreatDoor
