/- ChP1 ChP2, in one text. -/
import Derived.Test.YtdmmebjjojimiaaGreatDoorG14
set_option maxRecDepth 100000
set_option maxHeartbeats 8000000
set_option linter.all false
namespace Go.Proofs
theorem zDe{p:Prop}(h:p:=by
 show(T.l++[a]).getD (((T.l.length:Int)+1).natAbs-1) default=a
 have e:(((T.l.length:Int)+1).natAbs-1)=T.l.length:=zAB
 rw[e,qC]
 simp):p:=h
theorem zEF{p:Prop}(h:p:=by
 simp only[yD,yI]
 exact⟨fun⟨i,hi,e⟩=>⟨i,hi,e.symm⟩,fun⟨i,hi,e⟩=>⟨i,hi,e.symm⟩⟩):p:=h
end Go.Proofs
namespace Go.Proofs.YtdmmebjjojimiaaGreatDoor
open Go.RowKit
namespace rJ
open ig
def fK(l:List At)(a:At)(z:Int):Prop:=0<z/\z.natAbs<=l.length/\l.getD (z.natAbs-1) default=a
def lit(s:At->Bool)(l:List At)(z:Int):Bool:=decide (0<z)==s (l.getD (z.natAbs-1) default)
def Tru(s:At->Bool)(l:List At)(z:Int):Prop:=z≠0/\z.natAbs<=l.length/\lit s l z=true
theorem KJ{l m:List At}{i:Nat}(h:i<l.length):(l++m).getD i default=l.getD i default:=by rw[qC,qC,yM h]
theorem fK.mono{l m:List At}{a:At}{z:Int}(h:fK l a z):fK (l++m) a z:=by obtain⟨h1,h2,h3⟩:=h;exact⟨h1,by rw[qK];omega,by rw[KJ zAB];exact h3⟩
theorem YI{s:At->Bool}{l m:List At}{z:Int}(h0:z≠0)(h:z.natAbs<=l.length):lit s (l++m) z=lit s l z:=by unfold lit;rw[KJ zAB]
theorem Tru.mono{s:At->Bool}{l m:List At}{z:Int}(h:Tru s l z):Tru s (l++m) z:=
 ⟨h.1,by rw[qK];have:=h.2.1;omega,by rw[YI h.1 h.2.1];exact h.2.2⟩
theorem fK.lit{s:At->Bool}{l:List At}{a:At}{z:Int}(h:fK l a z):lit s l z=s a:=by unfold rJ.lit;rw[h.2.2,qX h.1];cases s a<;>rfl
theorem fK.ak7{s:At->Bool}{l:List At}{a:At}{z:Int}(h:fK l a z):rJ.lit s l (-z)= !s a:=by have:=h.1;unfold rJ.lit;rw[Int.natAbs_neg,h.2.2,qP zAB];cases s a<;>rfl
theorem fK.tru{s:At->Bool}{l:List At}{a:At}{z:Int}(h:fK l a z)(hs:s a=true):Tru s l z:=⟨by have:=h.1;omega,h.2.1,by rw[h.lit,hs]⟩
theorem fK.afq{s:At->Bool}{l:List At}{a:At}{z:Int}(h:fK l a z)(hs:s a=false):Tru s l (-z):=⟨by have:=h.1;omega,by rw[Int.natAbs_neg];exact h.2.1,by rw[h.ak7,hs];rfl⟩
theorem fK.inj{l:List At}{a b:At}{z:Int}(h:fK l a z)(h':fK l b z):a=b:=h.2.2.symm.trans h'.2.2
theorem fK.uniq{l:List At}(hn:l.Nodup){n:Nat}(hlt:n<l.length){z:Int}(h:fK l (l.getD n default) z):z.natAbs-1=n:=by
 obtain⟨h1,h2,h3⟩:=h;have e1:l[z.natAbs-1]'zAB=l[n]:=by rw[qC,qC,qA zAB,qA hlt]at h3;exact h3
 exact(List.getElem_inj hn).1 e1
def TW(s:At->Bool)(a:At)(ats:List At):Prop:=
 (s a=false->∀i,i<ats.length->s (ats.getD i default)=false)/\
 (s a=true->∃i,i<ats.length/\∀j,j<ats.length->(s (ats.getD j default)=true↔j=i))
structure Gd (s:At->Bool) (S:TB):Prop where
 ok:S.1.Ok
 nd:S.1.l.Nodup
 bad:S.2.bad=false
 cl:∀f∈S.2.cls,∃z∈f,Tru s S.1.l z
theorem Bo(T:Tab)(a:At):∃m,(T.num a).1.l=T.l++m/\(∀b∈m,b=a):=by
 unfold Tab.num;split;·exact⟨[],by simp,by simp⟩
 split;·exact⟨[],by simp,by simp⟩
 exact⟨[a],rfl,by simp⟩
theorem yY:∀(ats:List At) (T:Tab),∃m,(T.nums ats).1.l=T.l++m/\(∀b∈m,b∈ats)
 | [],T=>⟨[],by simp[Tab.nums],by simp⟩
 |a::r,T=>by
  obtain⟨m1,h1,k1⟩:=Bo T a
  obtain⟨m2,h2,k2⟩:=yY r (T.num a).1
  refine⟨m1++m2,?_,fun b hb=>?_⟩
  ·rw[Tab.nums,h2,h1,yW]
  ·rcases qW.1 hb with hb|hb
   ·rw[k1 b hb];exact qQ
   ·exact yE _ (k2 b hb)
theorem acv{T:Tab}(h:T.Ok)(hn:T.l.Nodup)(a:At):(T.num a).1.l.Nodup/\((T.num a).2=0\/fK (T.num a).1.l a (T.num a).2):=by
 unfold Tab.num;split
 ·rename_i hm;refine⟨hn,.inr ?_⟩;have hlt:=List.idxOf_lt_length_of_mem hm;simp only[numOf,if_pos hm];refine⟨by omega,by omega,?_⟩;have e:((((List.idxOf a T.l:Nat):Int)+1).natAbs-1)=List.idxOf a T.l:=zAB;have e':(((List.idxOf a T.l+1:Nat):Int).natAbs-1)=List.idxOf a T.l:=zAB;rw[qC];first|rw[e,qA hlt]|rw[e',qA hlt]
  simp
 rename_i hm;split;·exact⟨hn,.inl rfl⟩
 refine⟨?_,.inr ⟨by show(0:Int)<(T.l.length:Int)+1;omega,?_,?_⟩⟩;·show(T.l++[a]).Nodup;rw[List.nodup_append];refine⟨hn,by simp,fun x hx y hy=>?_⟩;rw[yJ]at hy;rintro rfl;exact hm (hy▸hx)
 ·show(((T.l.length:Int)+1).natAbs)<=(T.l++[a]).length;simp;omega
 exact zDe
def KL(l:List At)(ats:List At)(ns:List Int):Prop:=ns.length=ats.length/\∀i,i<ats.length->ns.getD i 0=0\/fK l (ats.getD i default) (ns.getD i 0)
theorem KL.mono{l m ats:List At}{ns:List Int}(h:KL l ats ns):KL (l++m) ats ns:=⟨h.1,fun i hi=>(h.2 i hi).imp id fK.mono⟩
theorem Qp:∀(ats:List At) {T:Tab},T.Ok->T.l.Nodup->(T.nums ats).1.l.Nodup/\KL (T.nums ats).1.l ats (T.nums ats).2
 | [],T,h,hn=>⟨hn,rfl,fun i hi=>by simp at hi⟩
 |a::r,T,h,hn=>by
  obtain⟨n1,k1⟩:=acv h hn a
  obtain⟨n2,k2,k3⟩:=Qp r (Tab.ql h a).1 n1
  obtain⟨m,hm,-⟩:=yY r (T.num a).1
  refine⟨n2,by rw[Tab.nums];simp[k2],fun i hi=>?_⟩
  rw[Tab.nums]
  cases i with
  |zero=>
   simp only[List.getD_cons_zero]
   rw[hm]
   exact k1.imp id fK.mono
  |succ i=>
   simp only[List.getD_cons_succ]
   exact k3 i zAv
theorem Gd.num{s:At->Bool}{T:Tab}{B:kD}(h:Gd s (T,B))(a:At):Gd s ((T.num a).1,B)/\((T.num a).2=0\/fK (T.num a).1.l a (T.num a).2):=by obtain⟨n1,k1⟩:=acv h.ok h.nd a;obtain⟨m,hm,-⟩:=Bo T a;refine⟨⟨(Tab.ql h.ok a).1,n1,h.bad,fun f hf=>?_⟩,k1⟩;obtain⟨z,hz,ht⟩:=h.cl f hf;exact⟨z,hz,by show Tru s (T.num a).1.l z;rw[hm];exact ht.mono⟩
theorem Qq{c:List Int}(h:∀x∈c,x≠0/\x.natAbs<=65536):c.any wr=false:=by rw[List.any_eq_false];intro x hx;obtain⟨h1,h2⟩:=h x hx;unfold wr G6;simp only[Bool.or_eq_true,beq_iff_eq];omega
theorem Gd.adds{s:At->Bool}:∀(cs:List (List Int)) {T:Tab} {B:kD},Gd s (T,B)->(∀c∈cs,(∀x∈c,x≠0/\x.natAbs<=65536)/\∃z∈c,Tru s T.l z)->Gd s (T,B.adds cs)
 | [],_,_,h,_=>h
 |c::cs,T,B,h,hc=>by
  refine Gd.adds cs (T:=T) (B:=B.add c) ?_ (fun d hd=>hc d (yE _ hd))
  obtain⟨h1,z,hz,ht⟩:=hc c qQ
  unfold kD.add
  rw[Qq h1]
  simp only[Bool.false_eq_true,if_false]
  split
  ·exact h
  ·rename_i f hf
   split
   ·exact⟨h.ok,h.nd,h.bad,h.cl⟩
   ·refine⟨h.ok,h.nd,h.bad,fun g hg=>?_⟩
    rcases qW.1 hg with hg|hg
    ·exact h.cl g hg
    ·rw[yJ.1 hg]
     exact⟨z,(Rup.Ti hf z).2 hz,ht⟩
theorem KN{row:List Int}{c:List Int}(h:c∈rO row):∃i j,i<j/\j<row.length/\c=[-(row.getD i 0),-(row.getD j 0)]:=by
 unfold rO nM kE at h;obtain⟨i,hi,h⟩:=List.mem_flatMap.1 h;rw[yI]at hi;obtain⟨y,hy,rfl⟩:=yD.1 h;obtain⟨k,hk,rfl⟩:=List.mem_iff_getElem.1 hy;rw[List.length_drop]at hk;refine⟨i,i+1+k,by omega,by omega,?_⟩;rw[List.getElem_drop];have:row.getD (i+1+k) 0=row[i+1+k]'zBU:=by rw[qC,qA zAB];rfl
 rw[this]
theorem acw{row:List Int}{i j:Nat}(hij:i<j)(hj:j<row.length):[-(row.getD i 0),-(row.getD j 0)]∈rO row:=by unfold rO nM kE;refine List.mem_flatMap.2 ⟨i,yI.2 zAB,yD.2 ⟨row.getD j 0,?_,rfl⟩⟩;rw[List.mem_iff_getElem];refine⟨j-(i+1),by rw[List.length_drop];omega,?_⟩;rw[List.getElem_drop,qC,qA hj];simp only[Option.getD_some];congr 1;omega
structure Full (l:List At) (a:At) (ats:List At) (node:Int) (ns:List Int):Prop where
 node:fK l a node
 len:ns.length=ats.length
 get:∀i,i<ats.length->fK l (ats.getD i default) (ns.getD i 0)
theorem Full.of{l:List At}{a:At}{ats:List At}{node:Int}{ns:List Int}(h1:node=0\/fK l a node)(h2:KL l ats ns)(h:¬(node=0\/ns.contains 0=true)):Full l a ats node ns:=by
 rw[not_or]at h;refine⟨h1.resolve_left h.1,h2.1,fun i hi=>(h2.2 i hi).resolve_left fun e=>h.2 ?_⟩;rw[List.contains_iff_mem];have hl:i<ns.length:=by rw[h2.1];exact hi
 rw[qC,qA hl]at e;rw[<-e];exact qZ hl
theorem Full.mem{l:List At}{a:At}{ats:List At}{node:Int}{ns:List Int}(F:Full l a ats node ns){x:Int}(hx:x∈ns):∃i,i<ats.length/\x=ns.getD i 0:=by obtain⟨i,hi,rfl⟩:=List.mem_iff_getElem.1 hx;exact⟨i,by rw[<-F.len];exact hi,by rw[qC,qA hi];rfl⟩
theorem Full.at_mem{l:List At}{a:At}{ats:List At}{node:Int}{ns:List Int}(F:Full l a ats node ns){i:Nat}(hi:i<ats.length):ns.getD i 0∈ns:=by
 have hl:i<ns.length:=by rw[F.len];exact hi
 rw[qC,qA hl];exact qZ hl
theorem fK.rng{l:List At}(hl:l.length<=65536){a:At}{z:Int}(h:fK l a z):(z≠0/\z.natAbs<=65536)/\(-z≠0/\(-z).natAbs<=65536):=by obtain⟨h1,h2,-⟩:=h;omega
theorem Full.rng{l:List At}(hl:l.length<=65536){a:At}{ats:List At}{node:Int}{ns:List Int}(F:Full l a ats node ns):∀c∈yc node ns,∀x∈c,x≠0/\x.natAbs<=65536:=by
 intro c hc x hx;unfold yc at hc;rcases qY.1 hc with rfl|hc
 ·rcases qY.1 hx with rfl|hx;·exact(F.node.rng hl).2
  obtain⟨i,hi,rfl⟩:=F.mem hx;exact((F.get i hi).rng hl).1
 rcases qW.1 hc with hc|hc
 ·obtain⟨i,j,hij,hj,rfl⟩:=KN hc;rw[F.len]at hj;simp only[qY,List.not_mem_nil,or_false]at hx;rcases hx with rfl|rfl;·exact((F.get i zAB).rng hl).2
  exact((F.get j hj).rng hl).2
 obtain⟨n,hn,rfl⟩:=yD.1 hc;obtain⟨i,hi,rfl⟩:=F.mem hn;simp only[qY,List.not_mem_nil,or_false]at hx;rcases hx with rfl|rfl;·exact((F.get i hi).rng hl).2
 exact(F.node.rng hl).1
theorem Full.holds{s:At->Bool}{l:List At}{a:At}{ats:List At}{node:Int}{ns:List Int}(F:Full l a ats node ns)(X:TW s a ats):∀c∈yc node ns,∃z∈c,Tru s l z:=by
 intro c hc;unfold yc at hc;rcases qY.1 hc with rfl|hc
 ·cases ha:s a;·exact⟨-node,qQ,F.node.afq ha⟩
  obtain⟨i,hi,h⟩:=X.2 ha;exact⟨ns.getD i 0,yE _ (F.at_mem hi),(F.get i hi).tru ((h i hi).2 rfl)⟩
 rcases qW.1 hc with hc|hc
 ·obtain⟨i,j,hij,hj,rfl⟩:=KN hc;rw[F.len]at hj;cases hi:s (ats.getD i default);·exact⟨_,qQ,(F.get i zAB).afq hi⟩
  cases hjj:s (ats.getD j default);·exact⟨_,yE _ qQ,(F.get j hj).afq hjj⟩
  cases ha:s a;·rw[X.1 ha i zAB]at hi;cases hi
  obtain⟨k,hk,h⟩:=X.2 ha;have e1:=(h i zAB).1 hi;have e2:=(h j hj).1 hjj;omega
 obtain⟨n,hn,rfl⟩:=yD.1 hc;obtain⟨i,hi,rfl⟩:=F.mem hn;cases ha:s a;·exact⟨_,qQ,(F.get i hi).afq (X.1 ha i hi)⟩
 exact⟨node,by simp,F.node.tru ha⟩
theorem Gd.row{s:At->Bool}{S:TB}(h:Gd s S){a:At}{ats:List At}{node:Int}(hn:node=0\/fK S.1.l a node)(X:TW s a ats):Gd s (S.row node ats):=by
 obtain⟨T,B⟩:=S;obtain⟨n1,k1⟩:=Qp ats h.ok h.nd;obtain⟨m,hm,-⟩:=yY ats T;have hok:=(Tab.sW ats h.ok).1;have h':Gd s ((T.nums ats).1,B):=⟨hok,n1,h.bad,fun f hf=>by
  obtain⟨z,hz,ht⟩:=h.cl f hf
  exact⟨z,hz,by show Tru s (T.nums ats).1.l z;rw[hm];exact ht.mono⟩⟩
 show Gd s ((T.nums ats).1,B.one node (T.nums ats).2);unfold kD.one;split;·exact h'
 rename_i hz;have hn':node=0\/fK (T.nums ats).1.l a node:=by rw[hm];exact hn.imp id fK.mono
 have F:=Full.of hn' k1 hz;exact h'.adds _ fun c hc=>⟨F.rng (qR hok.len hok.lim) c hc,F.holds X c hc⟩
theorem KO(S:TB)(node:Int)(ats:List At):∃m,(S.row node ats).1.l=S.1.l++m/\∀b∈m,b∈ats:=yY ats S.1
structure YJ (s:At->Bool) (p:Nat) (pk:fP):Prop where
 aX:TW s (aI p) (je p pk.aX.length)
 vars:∀j,j<pk.vars.length->TW s (aI p) (jo p j (pk.vars.getD j default).values.length)
theorem Gd.vars{s:At->Bool}{S:TB}(h:Gd s S){p:Nat}{node:Int}(hn:node=0\/fK S.1.l (aI p) node){vs:List eP}:∀j,(∀k,k<j->TW s (aI p) (jo p k (vs.getD k default).values.length))->Gd s (S.vars node p vs j)/\(node=0\/fK (S.vars node p vs j).1.l (aI p) node)
 |0,_=>⟨h,hn⟩
 |j+1,hx=>by
  obtain⟨h1,h2⟩:=Gd.vars h hn (vs:=vs) j (fun k hk=>hx k zAB)
  obtain⟨m,hm,-⟩:=KO (S.vars node p vs j) node (jo p j (vs.getD j default).values.length)
  refine⟨h1.row h2 (hx j zAB),?_⟩
  rw[TB.vars,hm]
  exact h2.imp id fK.mono
theorem Gd.pack{s:At->Bool}{S:TB}(h:Gd s S){p:Nat}{pk:fP}(X:YJ s p pk):Gd s (S.pack p pk):=by
 obtain⟨T,B⟩:=S;obtain⟨h1,h2⟩:=h.num (aI p);obtain⟨m,hm,-⟩:=KO ((T.num (aI p)).1,B) (T.num (aI p)).2 (je p pk.aX.length);have h3:=h1.row h2 X.aX;have h4:(T.num (aI p)).2=0\/fK (TB.row ((T.num (aI p)).1,B) (T.num (aI p)).2 (je p pk.aX.length)).1.l (aI p) (T.num (aI p)).2:=by rw[hm];exact h2.imp id fK.mono
 exact(h3.vars h4 _ X.vars).1
theorem Gd.choices{s:At->Bool}{x:aF}:∀(l:List Nat) {S:TB},Gd s S->(∀p∈l,YJ s p (x.pack p))->Gd s (S.choices x l)
 | [],_,h,_=>h
 |p::l,S,h,X=>Gd.choices l (S:=S.pack p (x.pack p)) (h.pack (X p qQ)) (fun q hq=>X q (yE _ hq))
theorem ah0{s:At->Bool}{l:List At}(hl:l.length<=65536){z:Int}(h0:z≠0)(h:z.natAbs<=l.length){m:List Bool}(hm:∀i,i<l.length->m.getD i false=s (l.getD i default)):WL z m=lit s l z:=by
 have hw:wr z=false:=by unfold wr G6;rw[Bool.or_eq_false_iff,yC,yC];omega
 unfold WL lit;rw[hw,hm _ zAB];simp only[Bool.false_eq_true,if_false];split;·rw[qP zAB];cases s (l.getD (z.natAbs-1) default)<;>rfl
 rw[qX zAB];cases s (l.getD (z.natAbs-1) default)<;>rfl
theorem acy{s:At->Bool}{l:List At}{i:Nat}(hi:i<l.length):(l.map s).getD i false=s (l.getD i default):=by rw[qC,qC,List.getElem?_map,qA hi];rfl
theorem Gd.holds{s:At->Bool}{S:TB}(h:Gd s S):holdsB S.2.cls (S.1.l.map s)=true:=by unfold holdsB;rw[List.all_eq_true];intro f hf;obtain⟨z,hz,ht⟩:=h.cl f hf;rw[yU];exact⟨z,hz,by rw[ah0 (qR h.ok.len h.ok.lim) ht.1 ht.2.1 fun i hi=>acy hi];exact ht.2.2⟩
def Hr(s:At->Bool)(l:List At)(cls:List (List Int))(n:Nat):Prop:= ∃f∈cls,∀z∈f,z≠0/\z.natAbs<=l.length/\lit s l z=decide (z.natAbs-1=n)
theorem Hr.mono{s:At->Bool}{l m:List At}{cls ds:List (List Int)}{n:Nat}(h:Hr s l cls n):Hr s (l++m) (cls++ds) n:=by obtain⟨f,hf,h⟩:=h;refine⟨f,List.mem_append_left _ hf,fun z hz=>?_⟩;obtain⟨h1,h2,h3⟩:=h z hz;exact⟨h1,by rw[qK];omega,by rw[YI h1 h2];exact h3⟩
theorem afr{x:Int}(h0:x≠0)(h1:x.natAbs<=65536):ig.Lit x:=by refine⟨⟨by omega,by omega⟩,?_⟩;unfold wr G6;rw[Bool.or_eq_false_iff,yC,yC];omega
theorem G8{c:List Int}(hl:∀x∈c,x≠0/\x.natAbs<=65536)(hne:∀x∈c,-x∉c):∃f,form c=some f/\∀x,x∈f↔x∈c:=by
 have hlit:∀x∈c,ig.Lit x:=fun x hx=>afr (hl x hx).1 (hl x hx).2;have hl2:∀x∈tY c,ig.Lit x:=fun x hx=>hlit x ((oU c x).1 hx);have hs:=EX c;have habs:mX (tY c):=by
  unfold Strict at hs;unfold mX;refine hs.imp_of_mem fun{x y} hx hy hxy=>?_;rw[lt_iff,(hl2 x hx).abs,(hl2 y hy).abs]at hxy;rcases hxy with h1| ⟨h1,h2⟩;·omega
  exfalso;have:y= -x:=zAB;rw[this]at hy;exact hne x ((oU c x).1 hx) ((oU c (-x)).1 hy)
 refine⟨tY c,?_,oU c⟩;unfold form;rw[abK hlit];simp only[Bool.false_eq_true,if_false];rw[AV habs hl2];rfl
theorem TY:∀(l:List (List Int)) (B:kD),(∀c∈l,∀x∈c,x≠0/\x.natAbs<=65536)->B.cls.length+l.length<=262144->(B.adds l).cls=B.cls++l.filterMap form
 | [],B,_,_=>by simp[kD.adds]
 |c::l,B,hl,hb=>by
  simp only[qN]at hb
  have e:B.adds (c::l)=(B.add c).adds l:=rfl
  rw[e]
  have hadd:(B.add c).cls=B.cls++[c].filterMap form:=by
   unfold kD.add
   rw[Qq (hl c qQ)]
   simp only[Bool.false_eq_true,if_false]
   cases hf:form c with
   |none=>simp[hf]
   |some f=>
    simp only
    rw[if_neg zAB]
    simp[hf]
  have hlen:(B.add c).cls.length<=B.cls.length+1:=by
   rw[hadd,qK]
   have:=List.length_filterMap_le form [c]
   simp only[List.length_singleton]at this
   omega
  rw[TY l (B.add c) (fun d hd=>hl d (yE _ hd)) zAB,hadd,yW,<-List.filterMap_append]
  rfl
theorem Full.aoF{s:At->Bool}{l:List At}(hl:l.length<=65536)(hnd:l.Nodup){a:At}{ats:List At}{node:Int}{ns:List Int}(F:Full l a ats node ns)(X:TW s a ats)(ha:a∉ats)(hat:ats.Nodup){n:Nat}(hn:n<l.length)(hm:l.getD n default=a\/l.getD n default∈ats):∃c∈yc node ns,(∀x∈c,-x∉c)/\∀z∈c,z≠0/\z.natAbs<=l.length/\lit s l z=decide (z.natAbs-1=n):=by
 have hp:0<node:=F.node.1;have hpi:∀i,i<ats.length->0<ns.getD i 0:=fun i hi=>(F.get i hi).1; -- whose place is it
 have key:∀b z,fK l b z->(z.natAbs-1=n↔b=l.getD n default):=fun b z hz=>by
  constructor;·rintro rfl;exact hz.2.2.symm
  rintro rfl;exact hz.uniq hnd hn
 have hinj:∀i j,i<ats.length->j<ats.length->ats.getD i default=ats.getD j default->i=j:=fun i j hi hj e=>by rw[qC,qC,qA hi,qA hj]at e;exact(List.getElem_inj hat).1 e
 have hmem:∀i,i<ats.length->ats.getD i default∈ats:=fun i hi=>by rw[qC,qA hi];exact qZ hi
 have hna:∀i,i<ats.length->ats.getD i default≠a:=fun i hi e=>ha (e▸hmem i hi);have hne:∀i,i<ats.length->ns.getD i 0≠node:=fun i hi e=>by have:=F.get i hi;rw[e]at this;exact hna i hi (this.inj F.node)
 have l1: -node::ns∈yc node ns:=qQ;have l2:∀i,i<ats.length->[-(ns.getD i 0),node]∈yc node ns:=fun i hi=>
  yE _ (List.mem_append_right _ (yD.2 ⟨_,F.at_mem hi,rfl⟩))
 have l3:∀i j,i<j->j<ats.length->[-(ns.getD i 0),-(ns.getD j 0)]∈yc node ns:=fun i j hij hj=>
  yE _ (List.mem_append_left _ (acw hij (by rw[F.len];exact hj)))
 have n1:∀x∈ -node::ns,-x∉ -node::ns:=by
  intro x hx h;rcases qY.1 hx with rfl|hx
  ·rcases qY.1 h with h|h;·omega
   obtain⟨i,hi,e⟩:=F.mem h;exact hne i hi zAB
  obtain⟨i,hi,rfl⟩:=F.mem hx;have:=hpi i hi;rcases qY.1 h with h|h;·exact hne i hi zAB
  obtain⟨j,hj,e⟩:=F.mem h;have:=hpi j hj;omega
 have n2:∀i,i<ats.length->∀x∈[-(ns.getD i 0),node],-x∉[-(ns.getD i 0),node]:=by intro i hi x hx h;have:=hpi i hi;have:=hne i hi;simp only[qY,List.not_mem_nil,or_false]at hx h;omega
 have n3:∀i j,i<ats.length->j<ats.length->∀x∈[-(ns.getD i 0),-(ns.getD j 0)],-x∉[-(ns.getD i 0),-(ns.getD j 0)]:=by intro i j hi hj x hx h;have:=hpi i hi;have:=hpi j hj;simp only[qY,List.not_mem_nil,or_false]at hx h;omega
 have pos:∀{b z},fK l b z->z≠0/\z.natAbs<=l.length/\lit s l z=s b:=fun h=>⟨by have:=h.1;omega,h.2.1,h.lit⟩;have neg:∀{b z},fK l b z-> -z≠0/\(-z).natAbs<=l.length/\lit s l (-z)= !s b/\(-z).natAbs-1=z.natAbs-1:=fun h=>⟨by have:=h.1;omega,by have:=h.2.1;omega,h.ak7,by omega⟩;rcases hm with hm|hm
 ·-- the node itself
  have kn:node.natAbs-1=n:=(key a node F.node).2 hm.symm;have ki:∀i,i<ats.length->¬((ns.getD i 0).natAbs-1=n):=fun i hi e=>hna i hi (((key _ _ (F.get i hi)).1 e).trans hm);cases hs:s a
  ·refine⟨_,l1,n1,fun z hz=>?_⟩;rcases qY.1 hz with rfl|hz;·obtain⟨p1,p2,p3,p4⟩:=neg F.node;exact⟨p1,p2,by rw[p3,p4,hs,qX kn];rfl⟩
   obtain⟨i,hi,rfl⟩:=F.mem hz;obtain⟨p1,p2,p3⟩:=pos (F.get i hi);exact⟨p1,p2,by rw[p3,X.1 hs i hi,qP (ki i hi)]⟩
  obtain⟨i,hi,h⟩:=X.2 hs;refine⟨_,l2 i hi,n2 i hi,fun z hz=>?_⟩;simp only[qY,List.not_mem_nil,or_false]at hz;rcases hz with rfl|rfl;·obtain⟨p1,p2,p3,p4⟩:=neg (F.get i hi);exact⟨p1,p2,by rw[p3,p4,(h i hi).2 rfl,qP (ki i hi)];rfl⟩
  obtain⟨p1,p2,p3⟩:=pos F.node;exact⟨p1,p2,by rw[p3,hs,qX kn]⟩
 obtain⟨i,hi',e⟩:=List.mem_iff_getElem.1 hm;have hi:=hi';have ei:ats.getD i default=l.getD n default:=by rw[qC,qA hi];exact e
 have kn:¬(node.natAbs-1=n):=fun h=>hna i hi (ei.trans ((key a node F.node).1 h).symm);have ki:(ns.getD i 0).natAbs-1=n:=(key _ _ (F.get i hi)).2 ei;have kj:∀j,j<ats.length->j≠i->¬((ns.getD j 0).natAbs-1=n):=fun j hj hji h=>hji (hinj j i hj hi (((key _ _ (F.get j hj)).1 h).trans ei.symm));cases hs:s a
 ·refine⟨_,l2 i hi,n2 i hi,fun z hz=>?_⟩;simp only[qY,List.not_mem_nil,or_false]at hz;rcases hz with rfl|rfl;·obtain⟨p1,p2,p3,p4⟩:=neg (F.get i hi);exact⟨p1,p2,by rw[p3,p4,X.1 hs i hi,qX ki];rfl⟩
  obtain⟨p1,p2,p3⟩:=pos F.node;exact⟨p1,p2,by rw[p3,hs,qP kn]⟩
 obtain⟨k,hk,h⟩:=X.2 hs;by_cases ek:k=i
 ·subst ek;refine⟨_,l1,n1,fun z hz=>?_⟩;rcases qY.1 hz with rfl|hz;·obtain⟨p1,p2,p3,p4⟩:=neg F.node;exact⟨p1,p2,by rw[p3,p4,hs,qP kn];rfl⟩
  obtain⟨j,hj,rfl⟩:=F.mem hz;obtain⟨p1,p2,p3⟩:=pos (F.get j hj);refine⟨p1,p2,?_⟩;rw[p3];by_cases ej:j=k;·subst ej;rw[(h j hj).2 rfl,qX ki]
  rw[qP (kj j hj ej)];cases hh:s (ats.getD j default);·rfl
  exact absurd ((h j hj).1 hh) ej
 have hsi:s (ats.getD i default)=false:=by
  cases hh:s (ats.getD i default);·rfl
  exact absurd ((h i hi).1 hh) (fun e=>ek e.symm)
 have hsk:s (ats.getD k default)=true:=(h k hk).2 rfl;have ci:∀z,z= -(ns.getD i 0)\/z= -(ns.getD k 0)->z≠0/\z.natAbs<=l.length/\lit s l z=decide (z.natAbs-1=n):=by
  rintro z (rfl|rfl);·obtain⟨p1,p2,p3,p4⟩:=neg (F.get i hi);exact⟨p1,p2,by rw[p3,p4,hsi,qX ki];rfl⟩
  obtain⟨p1,p2,p3,p4⟩:=neg (F.get k hk);exact⟨p1,p2,by rw[p3,p4,hsk,qP (kj k hk ek)];rfl⟩
 rcases Nat.lt_or_gt_of_ne ek with hki|hik;·refine⟨_,l3 k i hki hi,n3 k i hk hi,fun z hz=>ci z ?_⟩;simp only[qY,List.not_mem_nil,or_false]at hz;exact hz.symm
 refine⟨_,l3 i k hik hk,n3 i k hi hk,fun z hz=>ci z ?_⟩;simpa only[qY,List.not_mem_nil,or_false]using hz
structure Gx (s:At->Bool) (S:TB) (K N:Nat):Prop where
 gd:Gd s S
 room:S.1.l.length<=K
 few:S.2.cls.length<=N
 Qr:S.1.full=false
 lim:S.1.limit=5000
theorem Qs(T:Tab)(a:At):(T.num a).1.limit=T.limit:=by
 unfold Tab.num;split;·rfl
 split<;>rfl
theorem Ua:∀(ats:List At) (T:Tab),(T.nums ats).1.limit=T.limit
 | [],_=>rfl
 |a::r,T=>by rw[Tab.nums,Ua r,Qs]
theorem KP{T:Tab}(h:T.l.length<T.limit)(a:At):(T.num a).1.full=T.full/\(T.num a).1.l.length<=T.l.length+1/\(T.num a).2≠0:=by
 unfold Tab.num;split;·rename_i hm;refine⟨rfl,by show T.l.length<=_;omega,?_⟩;simp only[numOf,if_pos hm];omega
 rw[if_neg zAB];refine⟨rfl,?_,by show((T.l.length:Int)+1)≠0;omega⟩;show(T.l++[a]).length<=_;rw[qK];simp
theorem OU:∀(ats:List At) {T:Tab},T.l.length+ats.length<=T.limit->(T.nums ats).1.full=T.full/\(T.nums ats).1.l.length<=T.l.length+ats.length/\∀z∈(T.nums ats).2,z≠0
 | [],T,_=>⟨rfl,qH _,fun z hz=>by cases hz⟩
 |a::r,T,h=>by
  simp only[qN]at h
  obtain⟨h1,h2,h3⟩:=KP (T:=T) zAB a
  obtain⟨k1,k2,k3⟩:=OU r (T:=(T.num a).1) (by rw[Qs];omega)
  refine⟨by rw[Tab.nums];exact k1.trans h1,by rw[Tab.nums];simp only[qN];exact qR k2 zAB,fun z hz=>?_⟩
  rw[Tab.nums]at hz
  rcases qY.1 hz with rfl|hz
  ·exact h3
  ·exact k3 z hz
theorem Z4(row:List Int)(i:Nat):(kE row i).length<=row.length:=by unfold kE;simp
theorem acz(row:List Int):(rO row).length<=row.length*row.length:=by
 unfold rO;have:∀i,(nM row i).length<=i*row.length:=by
  intro i
  induction i with
  |zero=>simp[nM]
  |succ i ih=>
   rw[AZ,qK,Nat.succ_mul]
   have:=Z4 row i
   omega
 exact this _
def YK(s:At->Bool)(S:TB)(a:At):Prop:= ∀n,n<S.1.l.length->S.1.l.getD n default≠a->Hr s S.1.l S.2.cls n
theorem Gx.row{s:At->Bool}{S:TB}{K N:Nat}(h:Gx s S K N){a:At}{ats:List At}{node:Int}(hn:fK S.1.l a node)(X:TW s a ats)(ha:a∉ats)(hat:ats.Nodup)(hsz:ats.length<=10)(hK:K<=4000)(hN:N<=100000)(hc:YK s S a):Gx s (S.row node ats) (K+10) (N+111)/\fK (S.row node ats).1.l a node/\∀n,n<(S.row node ats).1.l.length->Hr s (S.row node ats).1.l (S.row node ats).2.cls n:=by
 obtain⟨T,B⟩:=S;obtain⟨m,hm,hmm⟩:=yY ats T;have hg:=h.gd.row (.inr hn) X;have hlim:T.limit=5000:=h.lim;have hroom:T.l.length<=K:=h.room;obtain⟨q1,q2,q3⟩:=OU ats (T:=T) zAB;obtain⟨n1,k1⟩:=Qp ats h.gd.ok h.gd.nd;have hok:=(Tab.sW ats h.gd.ok).1;have hl:(T.nums ats).1.l.length<=65536:=qR hok.len hok.lim;have hn':fK (T.nums ats).1.l a node:=by rw[hm];exact hn.mono
 have hz:¬(node=0\/(T.nums ats).2.contains 0=true):=by
  rintro(e|e);·have:=hn.1;omega
  rw[List.contains_iff_mem]at e;exact q3 0 e rfl
 have F:=Full.of (.inr hn') k1 hz;have ak8:=F.rng hl;have hone:B.one node (T.nums ats).2=B.adds (yc node (T.nums ats).2):=by unfold kD.one;rw[if_neg hz]
 have hlen:(yc node (T.nums ats).2).length<=111:=by
  unfold yc;simp only[qN,qK,qM];have h1:=acz (T.nums ats).2;have h2:(T.nums ats).2.length<=10:=by rw[k1.1];exact hsz
  have h3:(T.nums ats).2.length*(T.nums ats).2.length<=10*10:=Nat.mul_le_mul h2 h2;omega
 have hfew:B.cls.length<=N:=h.few;have hcls:(B.one node (T.nums ats).2).cls=B.cls++(yc node (T.nums ats).2).filterMap form:=by rw[hone];exact TY _ _ ak8 zAB
 refine⟨⟨hg,?_,?_,?_,?_⟩,hn',fun n hlt=>?_⟩;·show(T.nums ats).1.l.length<=K+10;omega
 ·show(B.one node (T.nums ats).2).cls.length<=N+111;rw[hcls,qK];have:=List.length_filterMap_le form (yc node (T.nums ats).2);omega
 ·show(T.nums ats).1.full=false;rw[q1];exact h.Qr
 ·show(T.nums ats).1.limit=5000;rw[Ua];exact hlim
 show Hr s (T.nums ats).1.l (B.one node (T.nums ats).2).cls n;have hlt':n<(T.nums ats).1.l.length:=hlt;by_cases hin:(T.nums ats).1.l.getD n default=a\/(T.nums ats).1.l.getD n default∈ats;·obtain⟨c,h1,h2,h3⟩:=F.aoF (s:=s) hl n1 X ha hat hlt' hin;obtain⟨f,hf,hfm⟩:=G8 (ak8 c h1) h2;rw[hcls];exact⟨f,List.mem_append_right _ (List.mem_filterMap.2 ⟨c,h1,hf⟩),fun z hz=>h3 z ((hfm z).1 hz)⟩
 rw[not_or]at hin;have hold:n<T.l.length:=by
  rcases yK n T.l.length with h|h;·exact h
  exfalso;refine hin.2 (hmm _ ?_);rw[hm,qC,yN h,qA (by rw[hm,qK]at hlt';omega)];exact qZ _
 have e1:(T.nums ats).1.l.getD n default=T.l.getD n default:=by rw[hm];exact KJ hold
 rw[hcls,hm];exact(hc n hold (by show T.l.getD n default≠a;rw[<-e1];exact hin.1)).mono
theorem OV{p n:Nat}{a:At}:a∈je p n↔ ∃i,i<n/\a=kF p i:=by unfold je;exact zEF
theorem OW{p j n:Nat}{a:At}:a∈jo p j n↔ ∃i,i<n/\a=lZ p j i:=by unfold jo;exact zEF
theorem acA(p n:Nat):aI p∉je p n:=fun h=>by
 obtain⟨i,-,e⟩:=OV.1 h
 have:=congrArg Prod.fst e
 simp[aI,kF]at this
theorem acB(p j n:Nat):aI p∉jo p j n:=fun h=>by
 obtain⟨i,-,e⟩:=OW.1 h
 have:=congrArg Prod.fst e
 simp[aI,lZ]at this
theorem OX{f:Nat->At}(h:∀i j,f i=f j->i=j)(n:Nat):((List.range n).map f).Nodup:=by unfold List.Nodup;rw[List.pairwise_map];exact List.pairwise_lt_range.imp fun{a b} hab e=>by have:=h a b e;omega
theorem Ub(p n:Nat):(je p n).Nodup:=OX (fun i j e=>by
 have:=congrArg (fun a:At=>a.2.2.1) e
 simp[kF]at this
 omega) n
theorem Uc(p j n:Nat):(jo p j n).Nodup:=OX (fun i k e=>by
 have:=congrArg (fun a:At=>a.2.2.2) e
 simp[lZ]at this
 omega) n
theorem Gx.vars{s:At->Bool}{S:TB}{K N:Nat}(h:Gx s S K N){p:Nat}{node:Int}(hn:fK S.1.l (aI p) node){vs:List eP}(hs:∀v∈vs,v.values.length<=10)(hK:K<=2000)(hN:N<=50000)(hc:∀n,n<S.1.l.length->Hr s S.1.l S.2.cls n):
  ∀j,j<=vs.length->j<=4->(∀k,k<j->TW s (aI p) (jo p k (vs.getD k default).values.length))->
  Gx s (S.vars node p vs j) (K+10*j) (N+111*j)/\fK (S.vars node p vs j).1.l (aI p) node/\∀n,n<(S.vars node p vs j).1.l.length->Hr s (S.vars node p vs j).1.l (S.vars node p vs j).2.cls n
 |0,_,_,_=>⟨h,hn,hc⟩
 |j+1,h1,h2,hx=>by
  obtain⟨g1,g2,g3⟩:=Gx.vars h hn hs hK hN hc j zBt zBU (fun k hk=>hx k zAB)
  have hl:(jo p j (vs.getD j default).values.length).length<=10:=by
   unfold jo
   rw[qM,List.length_range]
   refine hs _ ?_
   rw[qC,qA zAB]
   exact qZ _
  have:=g1.row g2 (hx j zBt) (acB p j _) (Uc p j _) hl zBU zAB (fun n hn _=>g3 n hn)
  rw[TB.vars,Nat.mul_succ,Nat.mul_succ,<-Nat.add_assoc,<-Nat.add_assoc]
  exact this
structure acC (pk:fP):Prop where
 aX:pk.aX.length<=10
 vars:pk.vars.length<=4
 vals:∀v∈pk.vars,v.values.length<=10
theorem Gx.pack{s:At->Bool}{S:TB}{K N:Nat}(h:Gx s S K N){p:Nat}{pk:fP}(X:YJ s p pk)(ok:acC pk)(hK:K<=1000)(hN:N<=20000)(hc:∀n,n<S.1.l.length->Hr s S.1.l S.2.cls n):Gx s (S.pack p pk) (K+51) (N+555)/\∀n,n<(S.pack p pk).1.l.length->Hr s (S.pack p pk).1.l (S.pack p pk).2.cls n:=by
 obtain⟨T,B⟩:=S;obtain⟨h1,h2⟩:=h.gd.num (aI p);obtain⟨m,hm,hmm⟩:=Bo T (aI p);have hlim:T.limit=5000:=h.lim;have hroom:T.l.length<=K:=h.room;obtain⟨q1,q2,q3⟩:=KP (T:=T) zAB (aI p);have hnum:=h2.resolve_left q3;have g0:Gx s ((T.num (aI p)).1,B) (K+1) N:=⟨h1,by show(T.num (aI p)).1.l.length<=_;omega,h.few,by show(T.num (aI p)).1.full=false;rw[q1];exact h.Qr,by show(T.num (aI p)).1.limit=5000;rw[Qs];exact hlim⟩;have c0:YK s ((T.num (aI p)).1,B) (aI p):=fun n hlt hne=>by
  have hlt':n<(T.num (aI p)).1.l.length:=hlt;have hne':(T.num (aI p)).1.l.getD n default≠aI p:=hne;show Hr s (T.num (aI p)).1.l B.cls n;have hold:n<T.l.length:=by
   rcases yK n T.l.length with h|h;·exact h
   exfalso;refine hne' (hmm _ ?_);rw[hm,qC,yN h,qA (by rw[hm,qK]at hlt';omega)];exact qZ _
  have:=(hc n hold).mono (m:=m) (ds:=[]);rw[List.append_nil]at this;rw[hm];exact this
 obtain⟨g1,k1,c1⟩:=g0.row hnum X.aX (acA p _) (Ub p _) (by unfold je;rw[qM,List.length_range];exact ok.aX) zBU zAB c0;obtain⟨g2,-,c2⟩:=g1.vars k1 ok.vals zBU zAB c1 pk.vars.length (qH _) ok.vars X.vars;have hv:=ok.vars;refine⟨⟨g2.gd,qR g2.room zBU,qR g2.few zAB,g2.Qr,g2.lim⟩,c2⟩
theorem Gx.choices{s:At->Bool}{x:aF}:∀(l:List Nat) {S:TB} {K N:Nat},Gx s S K N->(∀n,n<S.1.l.length->Hr s S.1.l S.2.cls n)->K+51*l.length<=1000->N+555*l.length<=20000->(∀p∈l,YJ s p (x.pack p)/\acC (x.pack p))->
  Gx s (S.choices x l) (K+51*l.length) (N+555*l.length)/\∀n,n<(S.choices x l).1.l.length->Hr s (S.choices x l).1.l (S.choices x l).2.cls n
 | [],_,_,_,h,hc,_,_,_=>⟨h,hc⟩
 |p::l,S,K,N,h,hc,hK,hN,X=>by
  simp only[qN,Nat.mul_succ]at hK hN⊢
  obtain⟨X1,X2⟩:=X p qQ
  obtain⟨g1,c1⟩:=h.pack X1 X2 zBU zAB hc
  have:=Gx.choices l (S:=S.pack p (x.pack p)) g1 c1 zBU zAB (fun q hq=>X q (yE _ hq))
  rw[show K+(51*l.length+51)=K+51+51*l.length by omega,show N+(555*l.length+555)=N+555+555*l.length by omega]
  exact this
structure Less (L:Nat) (T1 T2:Tab):Prop where
 l:T1.l=T2.l.take L
 full:T1.full=decide (L<T2.l.length)
 lim:T1.limit=L
 room:T2.full=false
 aoG:T2.limit=5000
theorem Less.num{L:Nat}{T1 T2:Tab}(h:Less L T1 T2)(hl:T2.l.length<5000)(a:At):Less L (T1.num a).1 (T2.num a).1:=by
 obtain⟨h1,h2,h3,h4,h5⟩:=h;unfold Tab.num;by_cases m2:a∈T2.l
 ·rw[if_pos m2];by_cases m1:a∈T1.l;·rw[if_pos m1];exact⟨h1,h2,h3,h4,h5⟩
  rw[if_neg m1];have hlt:L<T2.l.length:=by
   rcases yK L T2.l.length with h|h;·exact h
   rw[qI h]at h1;rw[h1]at m1;exact absurd m2 m1
  rw[if_pos (by rw[h3,h1,List.length_take];omega)];exact⟨h1,by show true=_;rw[qX hlt],h3,h4,h5⟩
 have m1:a∉T1.l:=fun h=>m2 (by rw[h1]at h;exact List.mem_of_mem_take h);rw[if_neg m1,if_neg m2,if_neg (show¬T2.limit<=T2.l.length by omega)];split
 ·rename_i hc;rw[h3,h1,List.length_take]at hc;refine⟨?_,?_,h3,h4,h5⟩;·show T1.l=(T2.l++[a]).take L;rw[List.take_append_of_le_length zAB];exact h1
  show true=decide (L<(T2.l++[a]).length);rw[qX];simp;omega
 rename_i hc;rw[h3,h1,List.length_take]at hc;refine⟨?_,?_,h3,h4,h5⟩;·show T1.l++[a]=(T2.l++[a]).take L;rw[h1,qI (show T2.l.length<=L by omega),qI zAU]
 show T1.full=decide (L<(T2.l++[a]).length);rw[h2,qP zAB,qP];simp;omega
theorem Less.nums:∀(ats:List At) {L:Nat} {T1 T2:Tab},Less L T1 T2->T2.l.length+ats.length<=5000->Less L (T1.nums ats).1 (T2.nums ats).1
 | [],_,_,_,h,_=>h
 |a::r,L,T1,T2,h,hl=>by
  simp only[qN]at hl
  rw[Tab.nums,Tab.nums]
  have hlim:=h.aoG
  have:=(KP (T:=T2) zAB a).2.1
  exact Less.nums r (h.num zBU a) zAB
def afs(x:aF)(l:List Nat)(a:At):Prop:= ∃p∈l,a=aI p\/(∃i,i<(x.pack p).aX.length/\a=kF p i)\/ ∃j k,j<(x.pack p).vars.length/\k<((x.pack p).vars.getD j default).values.length/\a=lZ p j k
def AllOf(P:At->Prop)(S:TB):Prop:= ∀a∈S.1.l,P a
theorem AllOf.row{P:At->Prop}{S:TB}(h:AllOf P S){ats:List At}(ha:∀a∈ats,P a)(node:Int):AllOf P (S.row node ats):=fun a hm=>by
 obtain⟨m,e,hmm⟩:=KO S node ats
 rw[e]at hm
 rcases qW.1 hm with hm|hm
 ·exact h a hm
 ·exact ha a (hmm a hm)
theorem AllOf.choices{x:aF}{l0:List Nat}:∀(l:List Nat) {S:TB},AllOf (afs x l0) S->(∀p∈l,p∈l0)->AllOf (afs x l0) (S.choices x l)
 | [],_,h,_=>h
 |p::l,S,h,hl=>by
  refine AllOf.choices l (S:=S.pack p (x.pack p)) ?_ (fun q hq=>hl q (yE _ hq))
  have hp:=hl p qQ
  obtain⟨T,B⟩:=S
  have h1:AllOf (afs x l0) ((T.num (aI p)).1,B):=fun a ha=>by
   obtain⟨m,e,hmm⟩:=Bo T (aI p)
   have ha':a∈(T.num (aI p)).1.l:=ha
   rw[e]at ha'
   rcases qW.1 ha' with ha'|ha'
   ·exact h a ha'
   ·exact⟨p,hp,.inl (hmm a ha')⟩
  have h2:=h1.row (ats:=je p (x.pack p).aX.length) (fun a ha=>by obtain⟨i,hi,rfl⟩:=OV.1 ha;exact⟨p,hp,.inr (.inl ⟨i,hi,rfl⟩)⟩) (T.num (aI p)).2
  have h3:∀j,j<=(x.pack p).vars.length->AllOf (afs x l0) ((TB.row ((T.num (aI p)).1,B) (T.num (aI p)).2 (je p (x.pack p).aX.length)).vars (T.num (aI p)).2 p (x.pack p).vars j):=by
   intro j
   induction j with
   |zero=>exact fun _=>h2
   |succ j ih=>exact fun hj=>(ih zAB).row (fun a ha=>by obtain⟨i,hi,rfl⟩:=OW.1 ha;exact⟨p,hp,.inr (.inr ⟨j,i,hj,hi,rfl⟩)⟩) _
  exact h3 _ (qH _)
end rJ
namespace rJ
theorem Z5(p n:Nat):(je p n).length=n:=by unfold je;simp
theorem Z7(p j n:Nat):(jo p j n).length=n:=by unfold jo;simp
def B0:kD:=⟨[],false,false⟩
theorem iQ{x:aF}{l:List Nat}(hl:∀p∈l,p<x.packs.length){p:Nat}(hp:p∈l):x.pack p∈x.packs:=by unfold aF.pack;rw[qC,qA (hl p hp)];exact qZ _
section
variable {x:aF} {q:dH} (h:YH x q) {l:List Nat} (hl:∀p∈l,p<x.packs.length) (hn:l.Nodup) (by_:List Nat)
include h hl
end
end rJ
end Go.Proofs.YtdmmebjjojimiaaGreatDoor
