/- Package edge: Edges.; Package edge, plain: the clause of a place: it isn't there, or a root's rule or an edge in -/
import Derived.Test.YtdmmebjjojimiaaGreatDoorG40
set_option maxRecDepth 100000
set_option maxHeartbeats 8000000
set_option linter.all false
namespace Go.Proofs
theorem zD9{p:Prop}(h:p:=by
 intro e he
 unfold ES.goes at he
 dsimp only at he
 rcases mem_push.1 he with h1|rfl
 ·exact h e h1
 ·exact⟨hp,ht⟩):p:=h
end Go.Proofs
namespace Go.Proofs.YtdmmebjjojimiaaGreatDoor
open Go.RowKit
def KB(E:ES):Prop:= ∀e∈keysOf E.2.of,e.1<=1000/\e.2<=1000
theorem KB.goes{E:ES}(h:KB E){p t:Nat}(hp:p<=1000)(ht:t<=1000)(a:Int):KB (E.goes p t a).1:=by exact zD9
theorem KB.with{E:ES}(h:KB E)(S:TB)(P:dO)(hP:P.of=E.2.of):KB (S,P):=by intro e he;exact h e (by rw[<-hP];exact he)
theorem aF.VA{x:aF}{s:Str}{t:Nat}(h:t∈x.dh s):t<x.packs.length:=by unfold aF.dh aF.iI at h;exact yI.1 (List.mem_filter.1 h).1
theorem KB.depend{E:ES}(h:KB E)(x:aF)(l:List Nat)(names:List Str)(r:Nat){p:Nat}(k:Nat)(d:tJ)(hx:x.packs.length<=1000)(hp:p<=1000):KB (E.depend x l names r p k d):=by
 unfold ES.depend;dsimp only;split;·have hf:=x.pY d.on.name;exact(KB.goes (h.with _ _ rfl) hp (by have:=hf;omega) _).with _ _ rfl
 split;·exact h.with _ _ rfl
 have hpr:∀t∈x.dh d.on.name,t<=1000:=fun t ht=>by have:=aF.VA ht;omega
 generalize x.dh d.on.name=ts at hpr⊢;have key:∀(ts:List Nat) (E:ES),(∀t∈ts,t<=1000)->KB E->∀A:Int,KB (ts.foldl (fun E t=>
   let D:=E.1.num (aI t)
   let G:=ES.goes (D.1,E.2) p t A
   (G.1.1.bG [-A,-D.2,G.2],G.1.2)) E):=by
  intro ts
  induction ts with
  |nil=>exact fun E _ h _=>h
  |cons t r ih=>
   intro E ht h A
   rw[List.foldl_cons]
   exact ih _ (fun u hu=>ht u (yE _ hu)) ((KB.goes (h.with _ _ rfl) hp (ht t qQ) A).with _ _ rfl) A
 exact key ts _ hpr (h.with _ _ (by rfl)) _
theorem KB.rule{E:ES}(h:KB E)(x:aF)(q:dH)(l:List Nat)(names:List Str)(r:Nat){y:bW}(hx:x.packs.length<=1000)(hy:y.pack<=1000):KB (E.rule x q l names r y):=by
 unfold ES.rule;split;·exact h.with _ _ (JF _ _ _ _ _ _)
 split;·exact h.depend x l names r _ _ hx zAB
 split;·exact h.with _ _ (xB _ _ _ _ _ _)
 exact h
theorem KB.rules{E:ES}(h:KB E)(x:aF)(q:dH)(l:List Nat)(names:List Str)(rs:List bW)(hx:x.packs.length<=1000)(hy:∀y∈rs,y.pack<=1000):∀r,KB (E.rules x q l names rs r)
 |0=>h
 |r+1=>by
  refine(KB.rules h x q l names rs hx hy r).rule x q l names r hx ?_
  rcases yK r rs.length with hr|hr
  ·exact hy _ (getD_in hr)
  ·rw[qC,List.getElem?_eq_none hr]
   show(default:bW).pack<=1000
   decide
def oL{κ:Type}[DecidableEq κ]{t k:TypeId}(K:CU κ t k)(w:World)(m:Nat):Prop:=rD K w (fun k=>if k=m then (1,0)else (0,0)) 1 m [] (fun _=>dF)
theorem oL.made{κ:Type}[DecidableEq κ]{t k:TypeId}(K:CU κ t k)(w:World):oL K (w.alloc (.map #[] 0)) w.heap.size:=rD.made K w _ zAF
theorem oL.keep{κ:Type}[DecidableEq κ]{t k:TypeId}{K:CU κ t k}{w w':World}{m:Nat}(h:oL K w m){F:Nat->Prop}(ho:Only F w w')(hF:¬F m):oL K w' m:=
 rD.keep h ho (fun k hk=>by
  have e:k=m:=by
   by_cases e:k=m
   ·exact e
   ·simp[e]at hk
  rw[e];exact hF) (Agree.refl _ _)
theorem oL.at{κ:Type}[DecidableEq κ]{t k:TypeId}{K:CU κ t k}{w:World}{m:Nat}(h:oL K w m){g:Tag}{τ:Nat}(hg:g m=(τ,0)):rD K w g τ m [] (fun _=>dF):=
 ⟨h.own,fun x hx=>by simp[keysOf]at hx,fun _ _=>rfl,hg,by simp[keysOf],fun x hx=>by simp[keysOf]at hx,fun e he=>by cases he⟩
section
variable {w w':World} {gt gb:Tag} {c bt bb:Nat} {G:GL} {Bs:Nat} {D:xC} {S:TB}
theorem Ya{w:World}{g:Tag}{τ sb n:Nat}{names:List Str}(hn:names.length=n)(h:w.ownsRow 0 78 1 (.slice (some ⟨sb,0,none⟩) n n) n (List.replicate n dF))(hg:g sb=(τ,0)):uY w g τ (.slice (some ⟨sb,0,none⟩) n n) (List.replicate n dF) (List.replicate names.length []):=by
 subst hn;refine⟨by simp,⟨by simpa using h,fun k hk=>?_⟩,fun i hi=>?_,fun l hl z hz=>?_⟩;·simp[Value.ownBlock]at hk;rw[<-hk];exact hg
 ·have hi':i<names.length:=by simpa using hi
  have e1:(List.replicate names.length dF).getD i dF=dF:=by simp[qC,hi']
  have e2:(List.replicate names.length ([]:List Int)).getD i []=[]:=by simp[qC,hi']
  rw[e1,e2];exact Row.nil _ _ _ _
 obtain⟨-,rfl⟩:=List.mem_replicate.1 hl;cases hz
theorem jl.start{w W:World}(H:xP w gt gb c bt bb G Bs D S)(o:O0 w W){m1 m2 px sb n:Nat}{nv:Value}(hm1:oL KE W m1)(hm2:oL KI W m2)(hb:W.heap[px]? =some (.cells #[.pointer (some ⟨c,0,none⟩),nv,.map (some m1),.slice (some ⟨sb,0,none⟩) n n,.map (some m2)] 153 (0,0)))(hn:D.names.length=n)(RY:W.ownsRow 0 9 1 nv n (fH D.names))(hsv:W.ownsRow 0 78 1 (.slice (some ⟨sb,0,none⟩) n n) n (List.replicate n dF))(hnb:∀k,nv.ownBlock=some k->w.heap.size<=k/\k<m1)(h1:w.heap.size<=m1)(h2:m1<m2)(h3:m2<px)(h4:px<sb)(h5:sb<W.heap.size)(hok:∀s∈D.names,okS s):∃gp:Tag,jl W gt gb gp ⟨c,bt,bb,px,m1,m2,G,nv,.slice (some ⟨sb,0,none⟩) n n⟩ Bs D (S,⟨[],List.replicate D.names.length [],[]⟩)/\∀k,Mine gp k->w.heap.size<=k:=by
 obtain⟨gp,hgp⟩:∃gp:Tag,gp=fun k=>if k=m1 then (1,0)else if k=sb then (2,0)else if k=m2 then (3,0)else (0,0):=⟨_,rfl⟩
 have g1:gp m1=(1,0):=by rw[hgp];simp
 have g2:gp sb=(2,0):=by rw[hgp];simp;omega
 have g3:gp m2=(3,0):=by rw[hgp];show(if m2=m1 then ((1,0):Nat×Nat)else if m2=sb then (2,0)else if m2=m2 then (3,0)else (0,0))=(3,0);rw[if_neg zBU,if_neg zAB,if_pos rfl]
 have g0:∀k,k≠m1->k≠sb->k≠m2->gp k=(0,0):=fun k a b d=>by rw[hgp];simp[a,b,d]
 have hM:∀k,Mine gp k->k=m1\/k=sb\/k=m2:=fun k hk=>by
  by_cases a:k=m1;·exact .inl a
  by_cases b:k=sb;·exact .inr (.inl b)
  by_cases d:k=m2;·exact .inr (.inr d)
  exact absurd (congrArg Prod.fst (g0 k a b d)) hk
 have hlow:∀k,Mine gp k->w.heap.size<=k:=fun k hk=>by rcases hM k hk with h|h|h<;>omega
 have hgt:∀k,w.heap.size<=k->¬(Mine gt k\/Mine gb k):=fun k hk hm=>by
  obtain⟨V,hV⟩:=H.gr.tab;obtain⟨U,hU⟩:=H.gr.Fb;rcases hm with hm|hm;·exact hm (hV.fresh k hk)
  exact hm (hU.fresh k hk)
 have hc:c<w.heap.size:=bU H.gr.blk;refine⟨gp,⟨H.aH o,⟨_,hm1.at g1⟩,⟨_,Ya hn hsv g2⟩,by simp,⟨_,hm2.at g3⟩,hb,?_,?_,by rw[hn];exact RY,?_,hok,fun k hk=>qR H.le (hlow k hk),fun k hk hm=>?_,fun k hk=>?_⟩,hlow⟩
 ·rintro(hm|hm);·exact hgt px zAB hm
  rcases hM _ hm with h|h|h<;>simp at h<;>omega
 ·show(gp c).1=0;rw[g0 c zBl zBU zAB]
 ·intro k hk;have hk2:w.heap.size<=k/\k<m1:=hnb k hk;rintro(hm|hm);·exact hgt k hk2.1 hm
  rcases hM _ hm with h|h|h<;>omega
 ·exact hgt k (hlow k hm) hk
 rw[g0 k zBl zBU zAB]
theorem bF.grx{w W W2:World}{gp:Tag}{X:MW}{E:ES}(h:bF W gt gb gp X Bs D E W2)(o:O0 w W)(hlow:∀k,Mine gp k->w.heap.size<=k):aZ w gt gb X.c X.bt X.bb X.G Bs D E.1 W2:=by
 obtain⟨gt',gb',lS,H2,A1,A2,A3,O⟩:=h;refine⟨gt',gb',H2.gx,fun k hk=>A1 k (by have:=o.size;omega),fun k hk=>A2 k (by have:=o.size;omega),(o.mono fun _ f=>f.elim).trans O fun k hk=>?_⟩;rcases hk with hk|hk;·exact .inl hk
 exact .inr (hlow k hk)
structure EdQ (D:xC):Prop where
 r:EdR D
 nm:D.names=D.x.names D.q
 sm:uj D.x
 nok:∀s∈D.names,okS s
 z:∃M,Sizes D.x D.q M 30
 ll:D.l.length<=1000
theorem Yb(S:TB)(D:xC):ES.back (S.lg D.x D.q D.l D.names D.rs) D=S.edges D.x D.q D.l D.names D.rs:=rfl
theorem agm(H:xP w gt gb c bt bb G Bs D S)(hQ:EdQ D):Calls Tryz.prog 23 #[.pointer (some ⟨c,0,none⟩)] w fun e w'=>e= .returned (.tuple #[])/\aZ w gt gb c bt bb G Bs D (S.edges D.x D.q D.l D.names D.rs) w':=by
 have HQ:=zh hQ;obtain⟨S9,XC⟩:=ze (S.edges D.x D.q D.l D.names D.rs);rw[XC];have HS9:=zh XC;have H0:=zh H;obtain⟨nn,hnn⟩:=ze D.names.length;have HNn:=zh hnn;have hnl:=hQ.r.g.nl;rw[hnn]at hnl;obtain⟨u1,u2,eu,r1,r2⟩:=H.Ef;simp only[List.cons.injEq,and_true]at eu;obtain⟨eu1,eu2⟩:=eu;obtain⟨a1,c1,e1,-,-⟩:=r1.shape;obtain⟨a2,c2,e2,-,-⟩:=r2.shape;obtain⟨u3,eu3,r3⟩:=H.ZY;simp only[List.cons.injEq,and_true]at eu3;obtain⟨a3,c3,e3,-,-⟩:=r3.shape;obtain⟨n1,hn1⟩:=ze D.x.packs.length;obtain⟨n2,hn2⟩:=ze D.x.cO.length;obtain⟨n3,hn3⟩:=ze D.q.roots.length;rw[<-eu1,hn1]at e1;rw[<-eu2,hn2]at e2;rw[<-eu3,hn3]at e3;have Ig:Hid (∀W,O0 w W->Calls Tryz.prog 78 #[.pointer (some ⟨c,0,none⟩)] W fun e w'=>e= .returned (.agg #[.slice a1 n1 c1,.slice a2 n2 c2])/\O0 W w'):=fun W hW=>jQ (H0.out.gr.aH hW) e1 e2;have amI:Hid (∀W,O0 w W->Calls Tryz.prog 79 #[.pointer (some ⟨c,0,none⟩)] W fun e w'=>e= .returned (.agg #[.slice a3 n3 c3])/\O0 W w'):=fun W hW=>Ll (H0.out.gr.aH hW) e3;have MS:Hid (∀W,O0 w W->Calls Tryz.prog 77 #[.agg #[.slice a1 n1 c1,.slice a2 n2 c2],.agg #[.slice a3 n3 c3]] W fun e w'=> ∃v,e= .returned v/\w'.ownsRow 0 9 1 v nn (fH D.names)/\(∀k,v.ownBlock=some k->W.heap.size<=k)/\O0 W w'):=fun W hW=>by have h1:=(H0.out.aH hW).Ef;have h2:=(H0.out.aH hW).ZY;rw[e1,e2]at h1;rw[e3]at h2;have h:=agb h1 h2 HQ.out.sm HQ.out.r.roots;rw[<-HQ.out.nm,HNn.out]at h;exact h
 have hmm:= @run_makeMap Tryz.prog;clear H hQ XC hnn r1 r2 r3 eu1 eu2 eu3 e1 e2 e3 hn1 hn2 hn3 u1 u2 u3;go_enter Tryz.func23,Tryz.ntmps23;go_wp2_with fail;refine(Ig.out w zr).mono ?_;rintro e w1 ⟨rfl,O1⟩;have aW:=zh O1;clear O1;go_wp2_with fail;refine(amI.out w1 aW.out).mono ?_;rintro e w2 ⟨rfl,O2⟩;have iO:=zh (aW.out.same O2);clear O2;go_wp2_with fail;refine(MS.out w2 iO.out).mono ?_;rintro e w3 ⟨nv,rfl,RY,hnb,O3⟩;have uw:=zh (iO.out.same O3);have TJ:=zh RY;have Cm:Hid (∀k,nv.ownBlock=some k->w.heap.size<=k/\k<w3.heap.size):=fun k hk=>⟨qR iO.out.size (hnb k hk),dP TJ.out hk⟩;obtain⟨na,nc,rfl,-,-⟩:=aJ RY;clear O3 RY hnb Ig amI MS;obtain⟨px,hpx⟩:=ze (w3.heap.size+1+1);obtain⟨w6,hw6⟩:=zB (((w3.alloc (.map #[] 0)).alloc (.map #[] 0)).alloc (.cells #[.pointer (some ⟨c,0,none⟩),.slice na nn nc,.map (some w3.heap.size),dF,.map (some (w3.heap.size+1))] 153));have HM:Hid (oL KE w6 w3.heap.size/\oL KI w6 (w3.heap.size+1)/\O0 w3 w6/\w6.heap.size=w3.heap.size+3/\w6.heap[px]? =some (.cells #[.pointer (some ⟨c,0,none⟩),.slice na nn nc,.map (some w3.heap.size),dF,.map (some (w3.heap.size+1))] 153 (0,0))):=by have hM1:oL KE (w3.alloc (.map #[] 0)) w3.heap.size:=oL.made _ _;have hM2:oL KI ((w3.alloc (.map #[] 0)).alloc (.map #[] 0)) (w3.alloc (.map #[] 0)).heap.size:=oL.made _ _;have e1:(w3.alloc (.map #[] 0)).heap.size=w3.heap.size+1:=zAF;rw[e1]at hM2;rw[hw6];refine⟨hM1.keep (((Only.refl (fun _=>False) _).alloc _).alloc _) (fun f=>f),hM2.keep ((Only.refl (fun _=>False) _).alloc _) (fun f=>f),((zr.alloc _).alloc _).alloc _,by simp,?_⟩;refine alloc_at ?_;rw[<-hpx];simp
 have k1:w6.cell? ⟨w3.heap.size+1+1,1,none⟩=some (.slice na nn nc):=by rw[hpx,aj HM.out.2.2.2.2];rfl
 rw[hw6]at k1;go_wp2_with (at_make;go_must (refine wpM (bytes:=24) (z:=dF) Tryz.underlying66 zk rfl rfl _ _ rfl nn rfl rfl rfl rfl zAB zBV ?_));intro w7 r1 r2 r3;try rw[<-hw6]at r2
 clear k1 hw6 r3;obtain⟨sb,hsb⟩:=ze (px+1);have aqx:sb<w7.heap.size:=by have h1:=r2.size;have h2:=HM.out.2.2.2.1;have h3:=dP r1 rfl;(try simp at h3);omega
 rw[hsb]at r1;rw[hsb];try rw[hpx]
 have aqy:sb=w3.heap.size+3:=zAB;have hb7:=aC HM.out.2.2.2.2 r2 (fun f=>f);have q3:w7.cell? ⟨px,3,none⟩=some dF:=by rw[aj hb7];rfl
 have qf:=jW hb7 3;have HB8:Hid ((w7.setCell ⟨px,3,none⟩ (.slice (some ⟨sb,0,none⟩) nn nn)).heap[px]? =some (.cells #[.pointer (some ⟨c,0,none⟩),.slice na nn nc,.map (some w3.heap.size),.slice (some ⟨sb,0,none⟩) nn nn,.map (some (w3.heap.size+1))] 153 (0,0))):=mQ hb7 3 _;have oP:Only (fun k=>k=px) w7 (w7.setCell ⟨px,3,none⟩ (.slice (some ⟨sb,0,none⟩) nn nn)):=(Only.refl (fun k=>k=px) w7).setCell (p:=⟨px,3,none⟩) (.inl rfl) _;have JM:Hid (O0 w (w7.setCell ⟨px,3,none⟩ (.slice (some ⟨sb,0,none⟩) nn nn))):=((uw.out.same HM.out.2.2.1).same r2).trans oP fun k hk=>.inr (by have:=uw.out.size;omega);have GR:=jl.start H0.out JM.out (m1:=w3.heap.size) (m2:=w3.heap.size+1) (px:=px) (sb:=sb) (n:=nn) (nv:=.slice na nn nc) (HM.out.1.keep ((r2.mono fun _ f=>f.elim).same oP) (by omega)) (HM.out.2.1.keep ((r2.mono fun _ f=>f.elim).same oP) zBt) HB8.out HNn.out (aG (aG TJ.out (HM.out.2.2.1.same r2) (fun _ _ f=>f)) oP (fun k hk e=>by have:=(Cm.out k hk).2;omega)) (aG r1 oP (fun k hk e=>by simp[Value.ownBlock]at hk;omega)) Cm.out uw.out.size zBl zBU zAB (by have:=oP.size;omega) HQ.out.nok;obtain⟨gp,hEd,hlow⟩:=GR;have aqz:=zh hlow;have aqA:Hid ((ES.back (S.lg D.x D.q D.l D.names D.rs) D)=S9):=by rw[Yb];exact HS9.out
 have HRl:=zh (afS hEd HQ.out.r (N:=0) ⟨by simp,fun k=>by simp[dD],fun k=>by rw[qC,List.getElem?_replicate];split<;>simp,by simp,fun k=>by simp[dD]⟩ zAB);clear r1 r2 oP hb7 hEd hlow hsb aqy aqx HM TJ Cm HB8;go_wp2_with fail;refine HRl.out.mono ?_;rintro e w9 ⟨rfl,gt9,gb9,gp9,H9,A9,B9,C9,O9⟩;have X4:uS (S.lg D.x D.q D.l D.names D.rs).2 900000:=(uS.rules (N:=0) (E:=(S,⟨[],List.replicate D.names.length [],[]⟩)) ⟨by simp,fun k=>by simp[dD],fun k=>by rw[qC,List.getElem?_replicate];split<;>simp,by simp,fun k=>by simp[dD]⟩ D.x D.q D.l D.names D.rs HQ.out.r.g.mid.packs D.rs.length).mono (by have:=HQ.out.r.rl;omega);have hof:(S.lg D.x D.q D.l D.names D.rs).2.of.length<=60000:=by obtain⟨M,hz⟩:=HQ.out.z;have h:=Us (S,⟨[],List.replicate D.names.length [],[]⟩) D.l D.names D.rs hz D.rs.length;have h2:=HQ.out.r.rl;have h3:(S.lg D.x D.q D.l D.names D.rs).2.of.length<=0+D.rs.length*(30+1):=h;omega
 have hkb:∀e∈(S.lg D.x D.q D.l D.names D.rs).2.edges,e.1<=1000/\e.2<=1000:=by
  have hk:=KB.rules (E:=(S,⟨[],List.replicate D.names.length [],[]⟩)) (fun e he=>by simp[keysOf]at he) D.x D.q D.l D.names D.rs HQ.out.r.g.mid.packs (fun y hy=>by
   rw[HQ.out.r.rs]at hy
   have hpk:=HQ.out.r.g.mid.packs
   rcases zZ hy with⟨k,hk,rfl⟩| ⟨p,k,hp,hk,rfl⟩| ⟨p,k,hp,hk,rfl⟩
   ·show(-1:Int)<=1000;decide
   ·have:=HQ.out.r.g.lt p hp;show(p:Int)<=1000;omega
   ·have:=HQ.out.r.g.lt p hp;show(p:Int)<=1000;omega) D.rs.length
  intro e he;unfold dO.edges at he;exact hk e ((List.mergeSort_perm _ _).mem_iff.1 he)
 have HBk:=zh (ajg (E:=S.lg D.x D.q D.l D.names D.rs) H9 HQ.out.r X4 hof hkb HQ.out.ll);have HTo:Hid (∀E2 W,bF w9 gt9 gb9 gp9 ⟨c,bt,bb,px,w3.heap.size,w3.heap.size+1,G,.slice na nn nc,.slice (some ⟨sb,0,none⟩) nn nn⟩ Bs D E2 W->aZ w gt gb c bt bb G Bs D E2.1 W):=fun E2 W h=>bF.grx (X:=⟨c,bt,bb,px,w3.heap.size,w3.heap.size+1,G,.slice na nn nc,.slice (some ⟨sb,0,none⟩) nn nn⟩) (bF.trans A9 B9 C9 O9 h) JM.out aqz.out;clear H9 A9 B9 C9 O9 X4 hof hkb HRl;go_wp2_with fail;refine HBk.out.mono ?_;rintro e w10 ⟨rfl,h10⟩;have h11:=HTo.out _ _ h10;rw[aqA.out]at h11;have D9:=zh h11;clear h10 h11 HBk HTo;go_wp2_with fail;go_end0;exact⟨rfl,D9.out⟩
end
def Ey(T:Tab)(t:Nat)(f:List Int):Prop:= ∀z∈f,(∃n,z= -n/\rJ.fK T.l (aI t) n)\/ ∃a,(DK a\/BD a)/\rJ.fK T.l a z
theorem Ey.gr{T T':Tab}{t:Nat}{f:List Int}(h:Ey T t f)(g:fD T T'):Ey T' t f:=by
 obtain⟨⟨m,hm⟩,-⟩:=g;intro z hz;rw[hm];rcases h z hz with⟨n,h1,h2⟩| ⟨a,h1,h2⟩;·exact .inl ⟨n,h1,h2.mono⟩
 exact .inr ⟨a,h1,h2.mono⟩
theorem aaV{E:BS}(h:kM BD E.1.1 E.2)(P:dO)(e:Nat×Nat):kM BD (E.edge P e).1.1 (E.edge P e).2:=by have h1:=(h.gr (TB.oJ E.1 (iV e.1 e.2))).push e.2 (TB.Xu E.1 (iV e.1 e.2) (K:=BD) ⟨_,_,rfl⟩);unfold BS.edge;dsimp only;exact h1.gr ((((TB.oJ _ (aI e.1)).tr (TB.tC _ _)).tr (TB.oJ _ (aI e.2))).tr ((TB.tC _ _).tr (TB.tC _ _)))
theorem MC(P:dO):∀(es:List (Nat×Nat)) {B:BS},kM BD B.1.1 B.2->kM BD (es.foldl (fun B e=>BS.edge B P e) B).1.1 (es.foldl (fun B e=>BS.edge B P e) B).2
 | [],_,h=>h
 |e::r,_,h=>MC P r (aaV h P e)
theorem aeh{K:At->Prop}{T:Tab}{z:Int}(h:QF K T z)(hf:T.full=false):∃a,K a/\rJ.fK T.l a z:=by
 rcases h with⟨-,h⟩|h;·rw[hf]at h;cases h
 exact h
theorem agn{t:Nat}{a:At}(h:DK a\/BD a):aI t≠a:=by rintro rfl;rcases h with⟨r,h⟩| ⟨p,u,h⟩<;>simp[aI,fG,iV]at h
theorem RJ{S:TB}{P:dO}{into:List (Nat×List Int)}{t:Nat}(hr:kM DK S.1 P.roots)(hi:kM BD S.1 into)(hl:(S.place P into t).1.l.length<=65536)(hf:(S.place P into t).1.full=false)(hc:S.2.cls.length<262144):∃f∈(S.place P into t).2.cls,Ey (S.place P into t).1 t f:=by
 have eT:(S.place P into t).1=(S.num (aI t)).1.1:=TB.Un _ _;rw[eT]at hl hf⊢;have g:=TB.oJ S (aI t);have hn:=aeh (TB.Xu S (aI t) (K:=fun a=>a=aI t) rfl) hf;obtain⟨_,rfl,hn⟩:=hn;have hrow:∀z∈dD P.roots t++dD into t,∃a,(DK a\/BD a)/\rJ.fK (S.num (aI t)).1.1.l a z:=fun z hz=>by
  rcases qW.1 hz with hz|hz;·obtain⟨a,h1,h2⟩:=aeh ((hr.gr g).get t z hz) hf;exact⟨a,.inl h1,h2⟩
  obtain⟨a,h1,h2⟩:=aeh ((hi.gr g).get t z hz) hf;exact⟨a,.inr h1,h2⟩
 have hall:∀z∈ -(S.num (aI t)).2::(dD P.roots t++dD into t),z≠0/\z.natAbs<=65536:=fun z hz=>by
  rcases qY.1 hz with rfl|hz;·have h1:=hn.1;have h2:=hn.2.1;exact zCx
  obtain⟨a,-,h⟩:=hrow z hz;have h1:=h.1;have h2:=h.2.1;exact zCx
 have hop:∀z∈ -(S.num (aI t)).2::(dD P.roots t++dD into t),-z∉ -(S.num (aI t)).2::(dD P.roots t++dD into t):=fun z hz hm=>by
  have key:∀w∈dD P.roots t++dD into t,w=(S.num (aI t)).2->False:=fun w hw e=>by obtain⟨a,h1,h2⟩:=hrow w hw;rw[e]at h2;exact agn h1 (hn.inj h2)
  have h0:=hn.1;rcases qY.1 hz with rfl|hz
  ·rcases qY.1 hm with e|hm;·omega
   exact key _ hm zAB
  rcases qY.1 hm with e|hm;·exact key z hz zAB
  obtain⟨a,-,h⟩:=hrow z hz;obtain⟨b,-,h'⟩:=hrow _ hm;have:=h.1;have:=h'.1;omega
 obtain⟨f,h1,h2⟩:=rJ.G8 hall hop;have hz0:(-(S.num (aI t)).2::(dD P.roots t++dD into t)).contains 0=false:=by
  cases hcon:(-(S.num (aI t)).2::(dD P.roots t++dD into t)).contains 0 with
  |false=>rfl
  |true=>exact absurd rfl (hall 0 (List.contains_iff_mem.1 hcon)).1
 have e:(S.place P into t).2.cls=S.2.cls++[f]:=by unfold TB.place TB.bG;rw[hz0,if_neg zAF];show(kD.add S.2 _).cls=_;unfold kD.add;rw[rJ.Qq hall,if_neg zAF,h1];dsimp only;rw[if_neg zAB]
 rw[e];refine⟨f,List.mem_append_right _ (yJ.2 rfl),fun z hz=>?_⟩;rcases qY.1 ((h2 z).1 hz)with rfl|hz;·exact .inl ⟨_,rfl,hn⟩
 exact .inr (hrow z hz)
theorem agp{T T':Tab}(g:fD T T')(h:T'.full=false):T.full=false:=by
 cases e:T.full with
 |false=>rfl
 |true=>rw[g.2 e]at h;cases h
theorem DX(P:dO)(into:List (Nat×List Int)){t:Nat}:∀(l:List Nat) {S:TB},t∈l->kM DK S.1 P.roots->kM BD S.1 into->(l.foldl (fun S t=>TB.place S P into t) S).1.l.length<=65536->(l.foldl (fun S t=>TB.place S P into t) S).1.full=false->S.2.cls.length+l.length<=262144->∃f∈(l.foldl (fun S t=>TB.place S P into t) S).2.cls,Ey (l.foldl (fun S t=>TB.place S P into t) S).1 t f
 | [],S,h,_,_,_,_,_=>by cases h
 |u::r,S,h,hr,hi,hl,hf,hc=>by
  have g0:=Gr.place S P into u
  have g1:=Gr.iW (fun S t=>TB.place S P into t) 1 1 (fun S t=>Gr.place S P into t) r (S.place P into u)
  rw[List.foldl_cons]at hl hf⊢
  rw[qN]at hc
  by_cases ht:t∈r
  ·refine DX P into r ht (hr.gr g0.tab) (hi.gr g0.tab) hl hf ?_
   obtain⟨ds,e1,e2⟩:=g0.cls
   rw[e1,qK]
   omega
  ·rcases qY.1 h with rfl|h
   ·obtain⟨⟨m,hm⟩,-⟩:=g1.tab
    obtain⟨f,h1,h2⟩:=RJ (t:=t) hr hi (by rw[hm,qK]at hl;omega) (agp g1.tab hf) zAB
    obtain⟨ds,e1,-⟩:=g1.cls
    exact⟨f,by rw[e1];exact List.mem_append_left _ h1,h2.gr g1.tab⟩
   ·exact absurd h ht
theorem VB(S:TB){x:aF}{q:dH}(l:List Nat)(names:List Str)(rs:List bW){M V C K N:Nat}(z:Sizes x q M V)(h1C:2*M+6<=C)(h2C:M+5*V+3<=C)(hK:rs.length*C+names.length*(V+1)+l.length<=K)(hN:rs.length*(2*M+2*V+8)+rs.length*C+names.length*(V*V+2)+l.length<=N)(h1:S.1.l.length+K<=S.1.limit)(h2:S.1.limit<=65536)(h3:S.1.full=false)(h4:S.2.cls.length+N<=190000){t:Nat}(ht:t∈l):∃f∈(S.edges x q l names rs).2.cls,Ey (S.edges x q l names rs).1 t f:=by
 have G:=(Gr.edges S l names rs z h1C h2C).up hK hN;have hfull:(S.edges x q l names rs).1.full=false:=by rw[G.full zAB];exact h3
 have hlen:(S.edges x q l names rs).1.l.length<=65536:=by have:=G.len;omega
 have hcls:(S.edges x q l names rs).2.cls.length<=190000:=by obtain⟨ds,e1,e2⟩:=G.cls;rw[e1,qK];omega
 unfold TB.edges at hfull hlen hcls⊢;dsimp only at hfull hlen hcls⊢;have hE:yZ S.1 (S.lg x q l names rs):=yZ.rules (E:=(S,⟨[],List.replicate names.length [],[]⟩)) ⟨fD.rfl',fun e he=>by cases he⟩ x q l names rs _;generalize S.lg x q l names rs=E at hE hfull hlen hcls⊢;have hB:kM BD (E.2.edges.foldl (fun B e=>BS.edge B E.2 e) (E.1,[])).1.1 (E.2.edges.foldl (fun B e=>BS.edge B E.2 e) (E.1,[])).2:=MC E.2 _ (fun e he=>by cases he);have gB:∀(es:List (Nat×Nat)) (B:BS),fD B.1.1 (es.foldl (fun B e=>BS.edge B E.2 e) B).1.1:=fun es=>by
  induction es with
  |nil=>exact fun B=>fD.rfl'
  |cons e r ih=>exact fun B=>(Gr.edge B E.2 e).tab.tr (ih _)
 have hR:=hE.rt.gr (gB E.2.edges (E.1,[]));generalize E.2.edges.foldl (fun B e=>BS.edge B E.2 e) (E.1,[])=B at hB hR hfull hlen hcls⊢;have gN:=(Gr.iW (fun S i=>TB.name S x E.2 i (names.getD i ByteArray.empty)) (V*V+V+2) (V*V+V+2) (fun S i=>(Gr.name S x E.2 i _ (z.Hz _)).up zBU zAB) (List.range names.length) B.1).tab;have hR':=hR.gr gN;have hB':=hB.gr gN;generalize (List.range names.length).foldl (fun S i=>TB.name S x E.2 i (names.getD i ByteArray.empty)) B.1=D at hR' hB' hfull hlen hcls⊢;have gD:=Gr.iW (fun S t=>TB.place S E.2 B.2 t) 1 1 (fun S t=>Gr.place S E.2 B.2 t) l D;refine DX E.2 B.2 l ht hR' hB' hlen hfull ?_;obtain⟨ds,e1,e2⟩:=gD.cls;rw[e1,qK]at hcls;omega
theorem aei{row:List Int}(hr:∀z∈row,0<=z)(h0:row.contains 0=false):∀c∈rO row,Neg c:=by
 intro c hc;obtain⟨i,j,h1,h2,rfl⟩:=rJ.KN hc;have hm:row.getD i 0∈row:=by rw[qC,qA zAB];exact qZ _
 refine⟨-(row.getD i 0),qQ,?_⟩;have h3:=hr _ hm;have h4:row.getD i 0≠0:=fun e=>by rw[e]at hm;rw[List.contains_iff_mem.2 hm]at h0;cases h0
 omega
theorem aN.one(hF:iM){B:kD}(h:aN B){node:Int}{row:List Int}(hn:0<=node)(hr:∀z∈row,0<=z):aN (B.one node row):=by
 unfold kD.one;by_cases hc:node=0\/row.contains 0=true;·rw[if_pos hc];exact h
 rw[if_neg hc];have h0:row.contains 0=false:=by
  cases e:row.contains 0 with
  |false=>rfl
  |true=>exact absurd (.inr e) hc
 have hn0:node≠0:=fun e=>hc (.inl e);refine aN.adds hF h fun c hm=>?_;unfold yc at hm;rcases qY.1 hm with rfl|hm;·exact⟨-node,qQ,by omega⟩
 rcases qW.1 hm with hm|hm;·exact aei hr h0 c hm
 obtain⟨n,h1,rfl⟩:=yD.1 hm;refine⟨-n,qQ,?_⟩;have h3:=hr n h1;have h4:n≠0:=fun e=>by rw[e]at h1;rw[List.contains_iff_mem.2 h1]at h0;cases h0
 omega
theorem aN.aej(hF:iM){S:TB}(h:aN S.2){node:Int}(hn:0<=node)(ats:List At):aN (S.row node ats).2:=aN.one hF h hn (QD ats S.1)
theorem aN.vars(hF:iM){S:TB}(h:aN S.2){node:Int}(hn:0<=node)(p:Nat)(vs:List eP):∀j,aN (S.vars node p vs j).2
 |0=>h
 |j+1=>(aN.vars hF h hn p vs j).aej hF hn _
theorem aN.pack(hF:iM){S:TB}(h:aN S.2)(p:Nat)(pk:fP):aN (S.pack p pk).2:=aN.vars hF (S:=TB.row ((S.1.num (aI p)).1,S.2) (S.1.num (aI p)).2 (je p pk.aX.length)) (aN.aej hF (S:=((S.1.num (aI p)).1,S.2)) h (lJ _ _) _) (lJ _ _) _ _ _
theorem aN.choices(hF:iM)(x:aF):∀(l:List Nat) {S:TB},aN S.2->aN (S.choices x l).2
 | [],_,h=>h
 |p::r,S,h=>aN.choices hF x r (S:=S.pack p (x.pack p)) (h.pack hF p _)
theorem Zt:iM:=fun xs f h z hz=>by
 unfold ig.form at h
 split at h
 ·cases h
 ·split at h
  ·cases h
  ·cases h
   exact(ig.oU xs z).2 hz
theorem Gq{α:Type}[Inhabited α]{P:α->Prop}{l:List α}(h:∀a∈l,P a)(h0:P default)(i:Nat):P (l.getD i default):=by
 rw[qC];cases e:l[i]? with
 |none=>exact h0
 |some a=>exact h a (qT e)
def uP(n:Nat)(s:gZ):Prop:=s.sets.length<=n
structure RN (p:fP):Prop where
 aX:p.aX.length<=10
 deps:∀d∈p.deps,uP 20 d.cond/\uP 20 d.on
 cons:∀c∈p.cons,uP 20 c.cond/\uP 20 c.with'
theorem MF:RN default:=⟨qE _,fun d h=>(by cases h),fun c h=>(by cases h)⟩
theorem aek{x:aF}{q:dH}(h8:x.packs.length<=8)(hp:∀p∈x.packs,RN p)(hr:∀r∈q.roots,uP 20 r.spec):Sizes x q 34 8:=by
 have hP:∀i,RN (x.pack i):=fun i=>Gq hp MF i;have hW:∀{s:gZ},uP 20 s->rC x 34 s:=fun{s} h p=>by have h1:=(hP p).aX;unfold uP at h;omega
 refine⟨fun i=>hW (Gq (P:=fun r:Dn=>uP 20 r.spec) hr (qE _) i),fun p i=>?_,fun p i=>?_,fun s=>?_⟩;·obtain⟨h1,h2⟩:=Gq (P:=fun d:tJ=>uP 20 d.cond/\uP 20 d.on) (hP p).deps ⟨qE _,qE _⟩ i;exact⟨hW h1,hW h2⟩
 ·obtain⟨h1,h2⟩:=Gq (P:=fun c:xX=>uP 20 c.cond/\uP 20 c.with') (hP p).cons ⟨qE _,qE _⟩ i;exact⟨hW h1,hW h2⟩
 unfold aF.dh aF.iI;exact qR (yO _ _) (by rw[List.length_range];exact h8)
section
variable {w w':World} {B:Nat}
theorem Ae{e t:TypeId}{s n b:Nat}{v:Value}{xs:List Value}{c:Array Value}{f:Nat×Nat}(hne:e≠t)(h:w.ownsRow 0 e s v n xs)(hb:w.heap[b]? =some (.cells c t f)):v.ownBlock≠some b:=by
 intro h2;rcases h.2 with⟨rfl,_⟩| ⟨g,cap,cur,rfl,-,hg,-⟩;·cases h2
 simp only[Value.ownBlock,qG]at h2;subst h2;rw[hb]at hg;simp only[qG,Obj.cells.injEq]at hg;exact hne hg.2.1.symm
def Gs(P:List (CD×Value)):List Value:=P.flatMap fun p=>[.int .i64 p.1.rel,p.2]
theorem aaW(a b:List (CD×Value)):Gs (a++b)=Gs a++Gs b:=List.flatMap_append
theorem aaX(l:List (CD×Value)){i j:Nat}(hi:i<l.length)(hj:j<2):(Gs l)[i*2+j]? =[Value.int .i64 (l[i]'hi).1.rel,(l[i]'hi).2][j]? :=by
 unfold Gs;induction l generalizing i with
 |nil=>simp at hi
 |cons x r ih=>
  rw[List.flatMap_cons];cases i with
  |zero=>rw[Nat.zero_mul,Nat.zero_add,yM zA1];rfl
  |succ i=>rw[yN zAU];rw[show(i+1)*2+j-[Value.int .i64 x.1.rel,x.2].length=i*2+j by simp;omega,ih zAv];simp
structure MG (w0 w:World) (v:Value) (P:List (CD×Value)):Prop where
 own:w.ownsRow 0 155 2 v P.length (Gs P)
 new:∀k,v.ownBlock=some k->w0.heap.size<=k
 vals:∀p∈P,w.ownsRow 0 3 1 p.2 p.1.vals.length (p.1.vals.map cI)
 rng:∀p∈P,bg p.1.rel/\∀z∈p.1.vals,bg z
theorem MG.only{w0 w1 w2:World}{v:Value}{P:List (CD×Value)}{F:Nat->Prop}(h:MG w0 w1 v P)(ho:Only F w1 w2)(hF:∀k,F k->w1.heap.size<=k):MG w0 w2 v P:=
 ⟨aG h.own ho (fun k hk f=>by have:=dP h.own hk;have:=hF k f;omega),h.new,fun p hp=>aG (h.vals p hp) ho (fun k hk f=>by have:=dP (h.vals p hp) hk;have:=hF k f;omega),h.rng⟩
theorem MG.app{w0 w1 w2:World}{v v':Value}{P:List (CD×Value)}{c:CD}{vv:Value}(h:MG w0 w1 v P)(hs:w0.heap.size<=w1.heap.size)(s1:w2.ownsRow 0 155 2 v' (P.length+1) (Gs P++[.int .i64 c.rel,vv]))(o:Only (fun k=>v.ownBlock=some k) w1 w2)(a:AB w1 v v' (P.length+1))(hv:w1.ownsRow 0 3 1 vv c.vals.length (c.vals.map cI))(hr:bg c.rel/\∀z∈c.vals,bg z):MG w0 w2 v' (P++[(c,vv)]):=by
 have ne:∀{vv n xs},w1.ownsRow 0 3 1 vv n xs->w2.ownsRow 0 3 1 vv n xs:=fun hh=>aG hh o (fun k hk f=>by
  rcases h.own.2 with⟨e,_⟩| ⟨g,cap,cur,e,-,hg,-⟩
  ·rw[e]at f;cases f
  ·rw[e]at f
   simp only[Value.ownBlock,qG]at f
   subst f
   exact Ae zAD hh hg hk)
 refine⟨by rw[aaW];simpa[Gs]using s1,fun k hk=>?_,fun p hp=>?_,fun p hp=>?_⟩;·exact zCm
 ·rcases qW.1 hp with hp|hp;·exact ne (h.vals p hp)
  rw[yJ.1 hp];exact ne hv
 rcases qW.1 hp with hp|hp;·exact h.rng p hp
 rw[yJ.1 hp];exact hr
theorem MG.put{w0 w1:World}{v:Value}{P:List (CD×Value)}{b i:Nat}{c:Array Value}{f:Nat×Nat}{t:TypeId}(h:MG w0 w1 v P)(hb:w1.heap[b]? =some (.cells c t f))(h1:155≠t)(h2:3≠t)(u:Value):MG w0 (w1.setCell ⟨b,i,none⟩ u) v P:=by have o:Only (fun k=>k=b) w1 (w1.setCell ⟨b,i,none⟩ u):=(Only.refl (fun k=>k=b) w1).setCell (p:=⟨b,i,none⟩) (.inl rfl) _;exact⟨aG h.own o (fun k hk e=>Ae h1 h.own hb (by rw[<-e];exact hk)),h.new,fun p hp=>aG (h.vals p hp) o (fun k hk e=>Ae h2 (h.vals p hp) hb (by rw[<-e];exact hk)),h.rng⟩
theorem MG.read{w0:World}{v:Value}{P:List (CD×Value)}(h:MG w0 w v P):aQ 2 CC w.heap.size w v (P.map Prod.fst):=by
 have h0:w.ownsRow 0 155 2 v (P.map Prod.fst).length (Gs P):=by rw[qM];exact h.own
 refine aQ.dV h0 fun i hi=>?_;rw[qM]at hi;have hm:P[i]∈P:=qZ hi;refine⟨[.int .i64 P[i].1.rel,P[i].2],rfl,fun j u hu=>?_,?_⟩;·have hj:j<2:=(qJ.1 hu).1;rw[aaX P hi hj];exact hu
 rw[List.getElem_map];have hv:=h.vals _ hm;refine⟨P[i].2,rfl,(h.rng _ hm).1,?_⟩;refine aQ.dV hv fun j hj=>⟨[.int .i64 P[i].1.vals[j]],rfl,fun a u hu=>?_,rfl,(h.rng _ hm).2 _ (qZ hj)⟩;obtain rfl:a=0:=by have:=(qJ.1 hu).1;simpa using this
 simp at hu;subst hu;simp[hj]
end
section
variable {w w':World} {B:Nat}
structure SoP (g:GD) (a:At) (b:Bool):Prop where
 node:a.1=1->b=Xk g.c a.2.1
 on:a.1=5\/a.1=6\/a.1=7->b=true->adM g
 any:b=true->adM g\/Xk g.c a.2.1=true
def Zu(g:GD)(a:At)(w w':World)(e:Ending):Prop:= ∃b,e= .returned (.bool b)/\SoP g a b/\O0 w w'
theorem Zu.there{g:GD}{a:At}{e:Ending}(h:Rt (Xk g.c a.2.1=true) w w' e)(h1:a.1≠1)(h5:¬(a.1=5\/a.1=6\/a.1=7)):Zu g a w w' e:=by obtain⟨b,he,hb,ho⟩:=h;exact⟨b,he,⟨fun h=>absurd h h1,fun h=>absurd h h5,fun h=>.inr (hb h)⟩,ho⟩
theorem Zu.any{g:GD}{a:At}{e:Ending}(h:Rt (adM g) w w' e)(h1:a.1≠1):Zu g a w w' e:=by obtain⟨b,he,hb,ho⟩:=h;exact⟨b,he,⟨fun h=>absurd h h1,fun _=>hb,fun h=>.inl (hb h)⟩,ho⟩
end
def jh(P:At->Prop)(T:Tab):Prop:= ∀a∈T.l,P a
section
variable {P:At->Prop}
theorem jh.num{T:Tab}(h:jh P T){a:At}(ha:P a):jh P (T.num a).1:=by
 unfold Tab.num;split;·exact h
 split;·exact h
 intro b hb;rcases qW.1 hb with hb|hb;·exact h b hb
 simp at hb;rw[hb];exact ha
theorem jh.nums:∀(l:List At) {T:Tab},jh P T->(∀a∈l,P a)->jh P (T.nums l).1
 | [],_,h,_=>h
 |a::r,T,h,ha=>jh.nums r (h.num (ha a qQ)) fun b hb=>ha b (yE _ hb)
theorem jh.bG{S:TB}(h:jh P S.1)(l:List Int):jh P (S.bG l).1:=by unfold TB.bG;split<;>exact h
theorem jh.help{S:TB}(h:jh P S.1)(hh:∀j:Nat,P (hA j)):jh P S.help.1.1:=jh.num (T:={S.1 with helps:=qB S.1}) h (hh _)
theorem jh.set{S:TB}(h:jh P S.1)(hh:∀j:Nat,P (hA j)){p:Nat}{aX:List lV}(hr:∀i,i<aX.length->P (kF p i))(l:List jm):jh P (S.set p aX l).1.1:=by
 have h1:jh P (S.nums (ru p aX l)).1.1:=jh.nums _ h fun a ha=>by unfold ru at ha;obtain⟨i,hi,rfl⟩:=yD.1 ha;exact hr i (yI.1 (List.mem_filter.1 hi).1)
 have h2:=h1.help hh;unfold TB.set;dsimp only;split<;>exact h2
theorem agq{vars:List eP}{s:kC}{j:Nat}(h:QC vars s=some j):j<vars.length/\(kR (fun t=>decide (t=s.value)) (vars.getD j default).values).toNat<=(vars.getD j default).values.length:=by
 unfold QC at h;refine⟨yI.1 (List.mem_of_find?_eq_some h),?_⟩;rcases oq (fun t=>decide (t=s.value)) (vars.getD j default).values with h| ⟨k,h,hk,-⟩;·rw[h];exact qE _
 rw[h];omega
theorem jh.value{S:TB}(h:jh P S.1){p:Nat}{vars:List eP}(hv:∀j k,j<vars.length->k<=(vars.getD j default).values.length->P (lZ p j k))(s:kC):jh P (S.value p vars s).1.1:=by
 unfold TB.value;split;·exact h
 rename_i j hj;obtain⟨h1,h2⟩:=agq hj;exact h.num (hv j _ h1 h2)
theorem jh.values{p:Nat}{vars:List eP}(hv:∀j k,j<vars.length->k<=(vars.getD j default).values.length->P (lZ p j k)):∀(l:List kC) {S:TB},jh P S.1->jh P (S.values p vars l).1.1
 | [],_,h=>h
 |s::r,S,h=>jh.values hv r (h.value hv s)
theorem aF.Iq{x:aF}{s:Str}{t:Nat}(h:t∈x.dh s):t<x.packs.length:=by unfold aF.dh aF.iI at h;exact yI.1 (List.mem_filter.1 h).1
structure AtW (P:At->Prop) (x:aF) (l:List Nat):Prop where
 lt:∀p∈l,p<x.packs.length
 help:∀j:Nat,P (hA j)
 node:∀p,p<x.packs.length->P (aI p)
 rel:∀p i,p<x.packs.length->i<(x.pack p).aX.length->P (kF p i)
 val:∀p j k,p<x.packs.length->j<(x.pack p).vars.length->k<=((x.pack p).vars.getD j default).values.length->P (lZ p j k)
 act:∀p k,p<x.packs.length->k<=1000000->P (lX p k)
 edg:∀p t,p<x.packs.length->t<x.packs.length->P (iV p t)
 meet:∀p r c,p<x.packs.length->r<=1000000->c<=1->P (dw p r c)
 need:∀m,m<=1000000->P (fU m)
 rul:∀r,r<=1000000->P (fG r)
variable {x:aF} {l:List Nat}
theorem jh.meet(W:AtW P x l){S:TB}(h:jh P S.1)(p:Nat){r c:Nat}(hr:r<=1000000)(hc:c<=1)(s:gZ):jh P (S.meet x l p r c s).1.1:=by
 unfold TB.meet;by_cases h1:p∉l;·rw[if_pos h1];exact h
 rw[if_neg h1];have hp:=W.lt p (Classical.not_not.1 h1);by_cases h2:dw p r c∈S.1.l;·rw[if_pos h2];exact h
 rw[if_neg h2];dsimp only;have hN:jh P (S.num (dw p r c)).1.1:=h.num (W.meet p r c hp hr hc);have hD:jh P ((S.num (dw p r c)).1.num (aI p)).1.1:=hN.num (W.node p hp);generalize ((S.num (dw p r c)).1.num (aI p))=D at hD⊢;have hE:jh P (if eU s.spans=true then ((D.1,[D.2]):TB×List Int)else ((D.1.set p (x.pack p).aX s.spans).1,[D.2,(D.1.set p (x.pack p).aX s.spans).2])).1.1:=by
  by_cases hc:eU s.spans=true;·rw[if_pos hc];exact hD
  rw[if_neg hc];exact hD.set W.help (fun i hi=>W.rel p i hp hi) _
 generalize (if eU s.spans=true then ((D.1,[D.2]):TB×List Int)else ((D.1.set p (x.pack p).aX s.spans).1,[D.2,(D.1.set p (x.pack p).aX s.spans).2]))=E at hE⊢;have hV:=jh.values (fun j k hj hk=>W.val p j k hp hj hk) s.sets hE;by_cases hc:0<(S.num (dw p r c)).2/\(E.2++(E.1.values p (x.pack p).vars s.sets).2).contains 0=false;·rw[if_pos hc];exact hV
 rw[if_neg hc];exact hV
theorem PU{names:List Str}(hn:names.length<=1000000)(s:Str):(bY names s).toNat<=1000000:=by
 unfold bY;rcases oq (fun t=>decide (t=s)) names with h| ⟨k,h,hk,-⟩;·rw[h];decide
 rw[h];omega
theorem jh.root(W:AtW P x l){E:ES}(h:jh P E.1.1){names:List Str}(hn:names.length<=1000000){r:Nat}(hr:r<=1000000)(s:gZ):jh P (E.root x l names r s).1.1:=by
 have h0:jh P (E.1.num (fG r)).1.1:=h.num (W.rul r hr);unfold ES.root;dsimp only;by_cases h1:0<=x.find s.name;·rw[if_pos h1];exact(h0.meet W _ hr zAB s).bG _
 rw[if_neg h1];by_cases h2:bY names s.name<0;·rw[if_pos h2];exact h0.bG _
 rw[if_neg h2];exact jh.bG (S:=((E.1.num (fG r)).1.num (fU (bY names s.name).toNat)).1) (h0.num (W.need _ (PU hn _))) _
theorem jh.uN{β:Type}(f:ES->β->ES):∀(l:List β) {E:ES},(∀E,∀b∈l,jh P E.1.1->jh P (f E b).1.1)->jh P E.1.1->jh P (l.foldl f E).1.1
 | [],_,_,h=>h
 |b::r,E,hf,h=>jh.uN f r (fun E c hc=>hf E c (yE _ hc)) (hf E b qQ h)
theorem jh.iW{β:Type}(f:TB->β->TB):∀(l:List β) {S:TB},(∀S,∀b∈l,jh P S.1->jh P (f S b).1)->jh P S.1->jh P (l.foldl f S).1
 | [],_,_,h=>h
 |b::r,S,hf,h=>jh.iW f r (fun S c hc=>hf S c (yE _ hc)) (hf S b qQ h)
theorem jh.depend(W:AtW P x l){E:ES}(h:jh P E.1.1){names:List Str}(hn:names.length<=1000000){r p k:Nat}(hr:r<=1000000)(hp:p<x.packs.length)(hk:k<=1000000)(d:tJ):jh P (E.depend x l names r p k d).1.1:=by
 unfold ES.depend;dsimp only;have hA:jh P (E.1.num (lX p k)).1.1:=h.num (W.act p k hp hk);have hR:jh P ((E.1.num (lX p k)).1.num (fG r)).1.1:=hA.num (W.rul r hr);have hW:=hR.meet W p hr (by omega:0<=1) d.cond;generalize ((E.1.num (lX p k)).1.num (fG r)).1.meet x l p r 0 d.cond=V at hW⊢;generalize ((E.1.num (lX p k)).1.num (fG r)).2=R;generalize (E.1.num (lX p k)).2=A;have hS:jh P (if [A,R,V.2].contains 0=true then V.1 else ((V.1.1,V.1.2.adds (nC A [R,V.2])):TB)).1:=by
  by_cases hc:[A,R,V.2].contains 0=true;·rw[if_pos hc];exact hW
  rw[if_neg hc];exact hW
 generalize (if [A,R,V.2].contains 0=true then V.1 else ((V.1.1,V.1.2.adds (nC A [R,V.2])):TB))=S at hS⊢;have hg:∀(E:ES) (t:Nat),t<x.packs.length->jh P E.1.1->jh P (E.goes p t A).1.1.1:=fun E t ht hE=>jh.num hE (W.edg p t hp ht);by_cases h1:0<=x.find d.on.name;·rw[if_pos h1];exact(hg (_,E.2) _ (by have:=x.pY d.on.name;omega) ((hS.meet W _ hr zAB d.on).bG _)).bG _
 rw[if_neg h1];by_cases h2:bY names d.on.name<0;·rw[if_pos h2];exact hS.bG _
 rw[if_neg h2];have hN:jh P (S.num (fU (bY names d.on.name).toNat)).1.1:=hS.num (W.need _ (PU hn _));exact jh.uN _ _ (fun E b hb hE=>(hg ((E.1.num (aI b)).1,E.2) b (aF.Iq hb) (jh.num hE (W.node b (aF.Iq hb)))).bG _) (hN.bG _)
theorem jh.conflict(W:AtW P x l){E:ES}(h:jh P E.1.1){r:Nat}(hr:r<=1000000)(p:Nat)(c:xX):jh P (E.conflict x l r p c).1.1:=by
 unfold ES.conflict;dsimp only;have hR:jh P (E.1.num (fG r)).1.1:=h.num (W.rul r hr);have hW:=hR.meet W p hr (by omega:0<=1) c.cond;by_cases h1:c.with'.name=ByteArray.empty;·rw[if_pos h1];exact hW.bG _
 rw[if_neg h1];by_cases h2:0<=x.find c.with'.name/\(x.find c.with'.name).toNat∈l;·rw[if_pos h2];exact(hW.meet W _ hr zAB c.with').bG _
 rw[if_neg h2];exact hW
def MH(x:aF)(y:bW):Prop:=y.kind=2->y.pack.toNat<x.packs.length/\y.idx.toNat<=1000000
theorem jh.rule(W:AtW P x l){E:ES}(h:jh P E.1.1)(q:dH){names:List Str}(hn:names.length<=1000000){r:Nat}(hr:r<=1000000){y:bW}(hy:MH x y):jh P (E.rule x q l names r y).1.1:=by
 unfold ES.rule;by_cases h1:y.kind=1;·rw[if_pos h1];exact h.root W hn hr _
 rw[if_neg h1];by_cases h2:y.kind=2;·rw[if_pos h2];exact h.depend W hn hr (hy h2).1 (hy h2).2 _
 rw[if_neg h2];by_cases h3:y.kind=3;·rw[if_pos h3];exact h.conflict W hr _ _
 rw[if_neg h3];exact h
theorem jh.rules(W:AtW P x l){E:ES}(h:jh P E.1.1)(q:dH){names:List Str}(hn:names.length<=1000000){rs:List bW}(hy:∀y∈rs,MH x y):∀r,r<=rs.length->r<=1000000->jh P (E.rules x q l names rs r).1.1
 |0,_,_=>h
 |r+1,h1,h2=>(jh.rules W h q hn hy r zBt zBl).rule W q hn zBU (hy _ (getD_in zAB))
theorem jh.edge(W:AtW P x l){B:BS}(h:jh P B.1.1)(Q:dO){e:Nat×Nat}(he:e.1<x.packs.length/\e.2<x.packs.length):jh P (B.edge Q e).1.1:=by unfold BS.edge;dsimp only;have h1:jh P (B.1.num (iV e.1 e.2)).1.1:=h.num (W.edg _ _ he.1 he.2);have h2:jh P ((B.1.num (iV e.1 e.2)).1.num (aI e.1)).1.1:=h1.num (W.node _ he.1);have h3:=h2.bG [-(B.1.num (iV e.1 e.2)).2,((B.1.num (iV e.1 e.2)).1.num (aI e.1)).2];have h4:jh P ((((B.1.num (iV e.1 e.2)).1.num (aI e.1)).1.bG [-(B.1.num (iV e.1 e.2)).2,((B.1.num (iV e.1 e.2)).1.num (aI e.1)).2]).num (aI e.2)).1.1:=h3.num (W.node _ he.2);exact(h4.bG _).bG _
theorem jh.aem(W:AtW P x l)(Q:dO):∀(es:List (Nat×Nat)) {B:BS},(∀e∈es,e.1<x.packs.length/\e.2<x.packs.length)->jh P B.1.1->jh P (es.foldl (fun B e=>BS.edge B Q e) B).1.1
 | [],_,_,h=>h
 |e::r,B,he,h=>jh.aem W Q r (fun f hf=>he f (yE _ hf)) (h.edge W Q (he e qQ))
theorem jh.pairs{S:TB}(h:jh P S.1)(n:Int)(row:List Int):jh P (S.pairs n row).1:=jh.iW _ _ (fun _ _ _ hS=>jh.iW _ _ (fun _ _ _ hS=>hS.bG _) hS) h
theorem jh.name(W:AtW P x l){S:TB}(h:jh P S.1)(Q:dO){i:Nat}(hi:i<=1000000)(s:Str):jh P (S.name x Q i s).1:=by
 unfold TB.name;dsimp only;have h1:jh P (S.num (fU i)).1.1:=h.num (W.need i hi);have h2:jh P (((S.num (fU i)).1.bG (-(S.num (fU i)).2::Q.needs.getD i [])).nums ((x.dh s).map aI)).1.1:=jh.nums _ (h1.bG _) fun a ha=>by obtain⟨t,ht,rfl⟩:=yD.1 ha;exact W.node t (aF.Iq ht)
 exact(h2.bG _).pairs _ _
theorem jh.place(W:AtW P x l){S:TB}(h:jh P S.1)(Q:dO)(into:List (Nat×List Int)){t:Nat}(ht:t<x.packs.length):jh P (S.place Q into t).1:=jh.bG (S:=(S.num (aI t)).1) (h.num (W.node t ht)) _
def ahl(x:aF)(Q:dO):Prop:= ∀e∈Q.of.map Prod.fst,e.1<x.packs.length/\e.2<x.packs.length
theorem jh.edges(W:AtW P x l){S:TB}(h:jh P S.1)(q:dH){names:List Str}(hn:names.length<=1000000){rs:List bW}(hy:∀y∈rs,MH x y)(hr:rs.length<=1000000)(hk:ahl x (S.lg x q l names rs).2):jh P (S.edges x q l names rs).1:=by have h1:jh P (S.lg x q l names rs).1.1:=jh.rules W (E:=(S,_)) h q hn hy rs.length (qH _) hr;unfold TB.edges;dsimp only;generalize S.lg x q l names rs=E at h1 hk⊢;refine jh.iW _ _ (fun S t ht hS=>hS.place W _ _ (W.lt t ht)) (jh.iW _ _ (fun S i hi hS=>hS.name W _ (by have:=yI.1 hi;omega) _) (jh.aem W _ _ (fun e he=>?_) h1));unfold dO.edges at he;exact hk e ((List.mergeSort_perm _ _).mem_iff.1 he)
end
end Go.Proofs.YtdmmebjjojimiaaGreatDoor
