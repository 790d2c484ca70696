/- Package edge: Edges.; Package edge, plain: the clause of a place: it isn't there, or a root's rule or an edge in -/
import Derived.Test.YtdmmebjjojimiaaGreatDoorG41
import Derived.Test.YtdmmebjjojimiaaGreatDoorG35
set_option maxRecDepth 100000
set_option maxHeartbeats 8000000
set_option linter.all false
namespace Go.Proofs
theorem zC3{p:Prop}(h:p:=by
 intro e he
 unfold ES.goes at he
 dsimp only at he
 rcases mem_push.1 he with h1|rfl
 ·exact h e h1
 ·exact⟨hp,ht⟩):p:=h
end Go.Proofs
namespace Go.Proofs.YtdmmebjjojimiaaGreatDoor
open Go.RowKit
def KB(E:ES):Prop:= ∀e∈keysOf E.2.of,e.1<=1000/\e.2<=1000
theorem KB.goes{E:ES}(h:KB E){p t:Nat}(hp:p<=1000)(ht:t<=1000)(a:Int):KB (E.goes p t a).1:=by exact zC3
theorem KB.with{E:ES}(h:KB E)(S:TB)(P:dR)(hP:P.of=E.2.of):KB (S,P):=by intro e he;exact h e (by rw[<-hP];exact he)
theorem aC.Qi{x:aC}{s:Str}{t:Nat}(h:t∈x.bZ s):t<x.packs.length:=by unfold aC.bZ aC.jH at h;exact yI.1 (List.mem_filter.1 h).1
theorem KB.depend{E:ES}(h:KB E)(x:aC)(l:List Nat)(names:List Str)(r:Nat){p:Nat}(k:Nat)(d:oO)(hx:x.packs.length<=1000)(hp:p<=1000):KB (E.depend x l names r p k d):=by
 unfold ES.depend;dsimp only;split;·have hf:=x.rG d.on.name;exact(KB.goes (h.with _ _ rfl) hp (by have:=hf;omega) _).with _ _ rfl
 split;·exact h.with _ _ rfl
 have hpr:∀t∈x.bZ d.on.name,t<=1000:=fun t ht=>by have:=aC.Qi ht;omega
 generalize x.bZ d.on.name=ts at hpr⊢;have key:∀(ts:List Nat) (E:ES),(∀t∈ts,t<=1000)->KB E->∀A:Int,KB (ts.foldl (fun E t=>
   let D:=E.1.num (aG t)
   let G:=ES.goes (D.1,E.2) p t A
   (G.1.1.aV [-A,-D.2,G.2],G.1.2)) E):=by
  intro ts
  induction ts with
  |nil=>exact fun E _ h _=>h
  |cons t r ih=>
   intro E ht h A
   rw[List.foldl_cons]
   exact ih _ (fun u hu=>ht u (yE _ hu)) ((KB.goes (h.with _ _ rfl) hp (ht t qQ) A).with _ _ rfl) A
 exact key ts _ hpr (h.with _ _ (by rfl)) _
theorem KB.rule{E:ES}(h:KB E)(x:aC)(q:dG)(l:List Nat)(names:List Str)(r:Nat){y:bG}(hx:x.packs.length<=1000)(hy:y.pack<=1000):KB (E.rule x q l names r y):=by
 unfold ES.rule;split;·exact h.with _ _ (Em _ _ _ _ _ _)
 split;·exact h.depend x l names r _ _ hx zBB
 split;·exact h.with _ _ (rQ _ _ _ _ _ _)
 exact h
theorem KB.rules{E:ES}(h:KB E)(x:aC)(q:dG)(l:List Nat)(names:List Str)(rs:List bG)(hx:x.packs.length<=1000)(hy:∀y∈rs,y.pack<=1000):∀r,KB (E.rules x q l names rs r)
 |0=>h
 |r+1=>by
  refine(KB.rules h x q l names rs hx hy r).rule x q l names r hx ?_
  rcases yK r rs.length with hr|hr
  ·exact hy _ (getD_in hr)
  ·rw[qC,List.getElem?_eq_none hr]
   show(default:bG).pack<=1000
   decide
def kW{κ:Type}[DecidableEq κ]{t k:TypeId}(K:wS κ t k)(w:World)(m:Nat):Prop:=lU K w (fun k=>if k=m then (1,0)else (0,0)) 1 m [] (fun _=>bK)
theorem kW.made{κ:Type}[DecidableEq κ]{t k:TypeId}(K:wS κ t k)(w:World):kW K (w.alloc (.map #[] 0)) w.heap.size:=lU.made K w _ zAE
theorem kW.keep{κ:Type}[DecidableEq κ]{t k:TypeId}{K:wS κ t k}{w w':World}{m:Nat}(h:kW K w m){F:Nat->Prop}(ho:Only F w w')(hF:¬F m):kW K w' m:=
 lU.keep h ho (fun k hk=>by
  have e:k=m:=by
   by_cases e:k=m
   ·exact e
   ·simp[e]at hk
  rw[e];exact hF) (Agree.refl _ _)
theorem kW.at{κ:Type}[DecidableEq κ]{t k:TypeId}{K:wS κ t k}{w:World}{m:Nat}(h:kW K w m){g:Tag}{τ:Nat}(hg:g m=(τ,0)):lU K w g τ m [] (fun _=>bK):=
 ⟨h.own,fun x hx=>by simp[keysOf]at hx,fun _ _=>rfl,hg,by simp[keysOf],fun x hx=>by simp[keysOf]at hx,fun e he=>by cases he⟩
section
variable {w w':World} {gt gb:Tag} {c bt bb:Nat} {G:BJ} {Bs:Nat} {D:rU} {S:TB}
theorem TA{w:World}{g:Tag}{τ sb n:Nat}{names:List Str}(hn:names.length=n)(h:w.ownsRow 0 78 1 (.slice (some ⟨sb,0,none⟩) n n) n (List.replicate n bK))(hg:g sb=(τ,0)):pF w g τ (.slice (some ⟨sb,0,none⟩) n n) (List.replicate n bK) (List.replicate names.length []):=by
 subst hn;refine⟨by simp,⟨by simpa using h,fun k hk=>?_⟩,fun i hi=>?_,fun l hl z hz=>?_⟩;·simp[Value.ownBlock]at hk;rw[<-hk];exact hg
 ·have hi':i<names.length:=by simpa using hi
  have e1:(List.replicate names.length bK).getD i bK=bK:=by simp[qC,hi']
  have e2:(List.replicate names.length ([]:List Int)).getD i []=[]:=by simp[qC,hi']
  rw[e1,e2];exact Row.nil _ _ _ _
 obtain⟨-,rfl⟩:=List.mem_replicate.1 hl;cases hz
theorem gI.start{w W:World}(H:sD w gt gb c bt bb G Bs D S)(o:O0 w W){m1 m2 px sb n:Nat}{nv:Value}(hm1:kW KE W m1)(hm2:kW KI W m2)(hb:W.heap[px]? =some (.cells #[.pointer (some ⟨c,0,none⟩),nv,.map (some m1),.slice (some ⟨sb,0,none⟩) n n,.map (some m2)] 153 (0,0)))(hn:D.names.length=n)(MI:W.ownsRow 0 9 1 nv n (dZ D.names))(hsv:W.ownsRow 0 78 1 (.slice (some ⟨sb,0,none⟩) n n) n (List.replicate n bK))(hnb:∀k,nv.ownBlock=some k->w.heap.size<=k/\k<m1)(h1:w.heap.size<=m1)(h2:m1<m2)(h3:m2<px)(h4:px<sb)(h5:sb<W.heap.size)(hok:∀s∈D.names,okS s):∃gp:Tag,gI W gt gb gp ⟨c,bt,bb,px,m1,m2,G,nv,.slice (some ⟨sb,0,none⟩) n n⟩ Bs D (S,⟨[],List.replicate D.names.length [],[]⟩)/\∀k,Mine gp k->w.heap.size<=k:=by
 obtain⟨gp,hgp⟩:∃gp:Tag,gp=fun k=>if k=m1 then (1,0)else if k=sb then (2,0)else if k=m2 then (3,0)else (0,0):=⟨_,rfl⟩
 have g1:gp m1=(1,0):=by rw[hgp];simp
 have g2:gp sb=(2,0):=by rw[hgp];simp;omega
 have g3:gp m2=(3,0):=by rw[hgp];show(if m2=m1 then ((1,0):Nat×Nat)else if m2=sb then (2,0)else if m2=m2 then (3,0)else (0,0))=(3,0);rw[if_neg zAB,if_neg zBB,if_pos rfl]
 have g0:∀k,k≠m1->k≠sb->k≠m2->gp k=(0,0):=fun k a b d=>by rw[hgp];simp[a,b,d]
 have hM:∀k,Mine gp k->k=m1\/k=sb\/k=m2:=fun k hk=>by
  by_cases a:k=m1;·exact .inl a
  by_cases b:k=sb;·exact .inr (.inl b)
  by_cases d:k=m2;·exact .inr (.inr d)
  exact absurd (congrArg Prod.fst (g0 k a b d)) hk
 have hlow:∀k,Mine gp k->w.heap.size<=k:=fun k hk=>by rcases hM k hk with h|h|h<;>omega
 have hgt:∀k,w.heap.size<=k->¬(Mine gt k\/Mine gb k):=fun k hk hm=>by
  obtain⟨V,hV⟩:=H.gr.tab;obtain⟨U,hU⟩:=H.gr.G8;rcases hm with hm|hm;·exact hm (hV.fresh k hk)
  exact hm (hU.fresh k hk)
 have hc:c<w.heap.size:=bf H.gr.blk;refine⟨gp,⟨H.aF o,⟨_,hm1.at g1⟩,⟨_,TA hn hsv g2⟩,by simp,⟨_,hm2.at g3⟩,hb,?_,?_,by rw[hn];exact MI,?_,hok,fun k hk=>qR H.le (hlow k hk),fun k hk hm=>?_,fun k hk=>?_⟩,hlow⟩
 ·rintro(hm|hm);·exact hgt px zBB hm
  rcases hM _ hm with h|h|h<;>simp at h<;>omega
 ·show(gp c).1=0;rw[g0 c zBL zAB zBB]
 ·intro k hk;have hk2:w.heap.size<=k/\k<m1:=hnb k hk;rintro(hm|hm);·exact hgt k hk2.1 hm
  rcases hM _ hm with h|h|h<;>omega
 ·exact hgt k (hlow k hm) hk
 rw[g0 k zBL zAB zBB]
theorem aQ.grx{w W W2:World}{gp:Tag}{X:G9}{E:ES}(h:aQ W gt gb gp X Bs D E W2)(o:O0 w W)(hlow:∀k,Mine gp k->w.heap.size<=k):aN w gt gb X.c X.bt X.bb X.G Bs D E.1 W2:=by
 obtain⟨gt',gb',jC,H2,A1,A2,A3,O⟩:=h;refine⟨gt',gb',H2.gx,fun k hk=>A1 k (by have:=o.size;omega),fun k hk=>A2 k (by have:=o.size;omega),(o.mono fun _ f=>f.elim).trans O fun k hk=>?_⟩;rcases hk with hk|hk;·exact .inl hk
 exact .inr (hlow k hk)
structure EdQ (D:rU):Prop where
 r:EdR D
 nm:D.names=D.x.names D.q
 sm:sQ D.x
 Yy:∀s∈D.names,okS s
 z:∃M,Sizes D.x D.q M 30
 ll:D.l.length<=1000
theorem TD(S:TB)(D:rU):ES.back (S.kM D.x D.q D.l D.names D.rs) D=S.edges D.x D.q D.l D.names D.rs:=rfl
theorem abT(H:sD w gt gb c bt bb G Bs D S)(hQ:EdQ D):Calls Tryz.prog 23 #[.pointer (some ⟨c,0,none⟩)] w fun e w'=>e= .returned (.tuple #[])/\aN w gt gb c bt bb G Bs D (S.edges D.x D.q D.l D.names D.rs) w':=by
 have HQ:=zh hQ;obtain⟨S9,RN⟩:=ze (S.edges D.x D.q D.l D.names D.rs);rw[RN];have Xg:=zh RN;have H0:=zh H;obtain⟨nn,hnn⟩:=ze D.names.length;have HNn:=zh hnn;have hnl:=hQ.r.g.nl;rw[hnn]at hnl;obtain⟨u1,u2,eu,r1,r2⟩:=H.yZ;simp only[List.cons.injEq,and_true]at eu;obtain⟨eu1,eu2⟩:=eu;obtain⟨a1,c1,e1,-,-⟩:=r1.shape;obtain⟨a2,c2,e2,-,-⟩:=r2.shape;obtain⟨u3,eu3,r3⟩:=H.VA;simp only[List.cons.injEq,and_true]at eu3;obtain⟨a3,c3,e3,-,-⟩:=r3.shape;obtain⟨n1,hn1⟩:=ze D.x.packs.length;obtain⟨n2,hn2⟩:=ze D.x.cO.length;obtain⟨n3,hn3⟩:=ze D.q.roots.length;rw[<-eu1,hn1]at e1;rw[<-eu2,hn2]at e2;rw[<-eu3,hn3]at e3;have CX:Hid (∀W,O0 w W->Calls Tryz.prog 78 #[.pointer (some ⟨c,0,none⟩)] W fun e w'=>e= .returned (.agg #[.slice a1 n1 c1,.slice a2 n2 c2])/\O0 W w'):=fun W hW=>iH (H0.out.gr.aF hW) e1 e2;have aiv:Hid (∀W,O0 w W->Calls Tryz.prog 79 #[.pointer (some ⟨c,0,none⟩)] W fun e w'=>e= .returned (.agg #[.slice a3 n3 c3])/\O0 W w'):=fun W hW=>FZ (H0.out.gr.aF hW) e3;have Kt:Hid (∀W,O0 w W->Calls Tryz.prog 77 #[.agg #[.slice a1 n1 c1,.slice a2 n2 c2],.agg #[.slice a3 n3 c3]] W fun e w'=> ∃v,e= .returned v/\w'.ownsRow 0 9 1 v nn (dZ D.names)/\(∀k,v.ownBlock=some k->W.heap.size<=k)/\O0 W w'):=fun W hW=>by have h1:=(H0.out.aF hW).yZ;have h2:=(H0.out.aF hW).VA;rw[e1,e2]at h1;rw[e3]at h2;have h:=abD h1 h2 HQ.out.sm HQ.out.r.roots;rw[<-HQ.out.nm,HNn.out]at h;exact h
 have hmm:= @run_makeMap Tryz.prog;clear H hQ RN hnn r1 r2 r3 eu1 eu2 eu3 e1 e2 e3 hn1 hn2 hn3 u1 u2 u3;go_enter Tryz.func23,Tryz.ntmps23;go_wp2_with fail;refine(CX.out w zr).mono ?_;rintro e w1 ⟨rfl,O1⟩;have bg:=zh O1;clear O1;go_wp2_with fail;refine(aiv.out w1 bg.out).mono ?_;rintro e w2 ⟨rfl,O2⟩;have jG:=zh (bg.out.same O2);clear O2;go_wp2_with fail;refine(Kt.out w2 jG.out).mono ?_;rintro e w3 ⟨nv,rfl,MI,hnb,O3⟩;have uP:=zh (jG.out.same O3);have NK:=zh MI;have zq:Hid (∀k,nv.ownBlock=some k->w.heap.size<=k/\k<w3.heap.size):=fun k hk=>⟨qR jG.out.size (hnb k hk),dn NK.out hk⟩;obtain⟨na,nc,rfl,-,-⟩:=aH MI;clear O3 MI hnb CX aiv Kt;obtain⟨px,hpx⟩:=ze (w3.heap.size+1+1);obtain⟨w6,hw6⟩:=zB (((w3.alloc (.map #[] 0)).alloc (.map #[] 0)).alloc (.cells #[.pointer (some ⟨c,0,none⟩),.slice na nn nc,.map (some w3.heap.size),bK,.map (some (w3.heap.size+1))] 153));have HM:Hid (kW KE w6 w3.heap.size/\kW KI w6 (w3.heap.size+1)/\O0 w3 w6/\w6.heap.size=w3.heap.size+3/\w6.heap[px]? =some (.cells #[.pointer (some ⟨c,0,none⟩),.slice na nn nc,.map (some w3.heap.size),bK,.map (some (w3.heap.size+1))] 153 (0,0))):=by have hM1:kW KE (w3.alloc (.map #[] 0)) w3.heap.size:=kW.made _ _;have hM2:kW KI ((w3.alloc (.map #[] 0)).alloc (.map #[] 0)) (w3.alloc (.map #[] 0)).heap.size:=kW.made _ _;have e1:(w3.alloc (.map #[] 0)).heap.size=w3.heap.size+1:=zAE;rw[e1]at hM2;rw[hw6];refine⟨hM1.keep (((Only.refl (fun _=>False) _).alloc _).alloc _) (fun f=>f),hM2.keep ((Only.refl (fun _=>False) _).alloc _) (fun f=>f),((zr.alloc _).alloc _).alloc _,by simp,?_⟩;refine alloc_at ?_;rw[<-hpx];simp
 have k1:w6.cell? ⟨w3.heap.size+1+1,1,none⟩=some (.slice na nn nc):=by rw[hpx,aj HM.out.2.2.2.2];rfl
 rw[hw6]at k1;go_wp2_with (at_make;go_must (refine wpM (bytes:=24) (z:=bK) Tryz.underlying66 zk rfl rfl _ _ rfl nn rfl rfl rfl rfl zBB zBC ?_));intro w7 r1 r2 r3;try rw[<-hw6]at r2
 clear k1 hw6 r3;obtain⟨sb,hsb⟩:=ze (px+1);have alX:sb<w7.heap.size:=by have h1:=r2.size;have h2:=HM.out.2.2.2.1;have h3:=dn r1 rfl;(try simp at h3);omega
 rw[hsb]at r1;rw[hsb];try rw[hpx]
 have alY:sb=w3.heap.size+3:=zBB;have hb7:=ak HM.out.2.2.2.2 r2 (fun f=>f);have q3:w7.cell? ⟨px,3,none⟩=some bK:=by rw[aj hb7];rfl
 have qf:=iV hb7 3;have HB8:Hid ((w7.setCell ⟨px,3,none⟩ (.slice (some ⟨sb,0,none⟩) nn nn)).heap[px]? =some (.cells #[.pointer (some ⟨c,0,none⟩),.slice na nn nc,.map (some w3.heap.size),.slice (some ⟨sb,0,none⟩) nn nn,.map (some (w3.heap.size+1))] 153 (0,0))):=jM hb7 3 _;have oP:Only (fun k=>k=px) w7 (w7.setCell ⟨px,3,none⟩ (.slice (some ⟨sb,0,none⟩) nn nn)):=(Only.refl (fun k=>k=px) w7).setCell (p:=⟨px,3,none⟩) (.inl rfl) _;have Zf:Hid (O0 w (w7.setCell ⟨px,3,none⟩ (.slice (some ⟨sb,0,none⟩) nn nn))):=((uP.out.same HM.out.2.2.1).same r2).trans oP fun k hk=>.inr (by have:=uP.out.size;omega);have MN:=gI.start H0.out Zf.out (m1:=w3.heap.size) (m2:=w3.heap.size+1) (px:=px) (sb:=sb) (n:=nn) (nv:=.slice na nn nc) (HM.out.1.keep ((r2.mono fun _ f=>f.elim).same oP) (by omega)) (HM.out.2.1.keep ((r2.mono fun _ f=>f.elim).same oP) zBR) HB8.out HNn.out (aB (aB NK.out (HM.out.2.2.1.same r2) (fun _ _ f=>f)) oP (fun k hk e=>by have:=(zq.out k hk).2;omega)) (aB r1 oP (fun k hk e=>by simp[Value.ownBlock]at hk;omega)) zq.out uP.out.size zBL zAB zBB (by have:=oP.size;omega) HQ.out.Yy;obtain⟨gp,hEd,hlow⟩:=MN;have alZ:=zh hlow;have al0:Hid ((ES.back (S.kM D.x D.q D.l D.names D.rs) D)=S9):=by rw[TD];exact Xg.out
 have HRl:=zh (abm hEd HQ.out.r (N:=0) ⟨by simp,fun k=>by simp[bT],fun k=>by rw[qC,List.getElem?_replicate];split<;>simp,by simp,fun k=>by simp[bT]⟩ zBB);clear r1 r2 oP hb7 hEd hlow hsb alY alX HM NK zq HB8;go_wp2_with fail;refine HRl.out.mono ?_;rintro e w9 ⟨rfl,gt9,gb9,gp9,H9,A9,B9,C9,O9⟩;have HP9:oL (S.kM D.x D.q D.l D.names D.rs).2 900000:=(oL.rules (N:=0) (E:=(S,⟨[],List.replicate D.names.length [],[]⟩)) ⟨by simp,fun k=>by simp[bT],fun k=>by rw[qC,List.getElem?_replicate];split<;>simp,by simp,fun k=>by simp[bT]⟩ D.x D.q D.l D.names D.rs HQ.out.r.g.mid.packs D.rs.length).mono (by have:=HQ.out.r.rl;omega);have hof:(S.kM D.x D.q D.l D.names D.rs).2.of.length<=60000:=by obtain⟨M,hz⟩:=HQ.out.z;have h:=OD (S,⟨[],List.replicate D.names.length [],[]⟩) D.l D.names D.rs hz D.rs.length;have h2:=HQ.out.r.rl;have h3:(S.kM D.x D.q D.l D.names D.rs).2.of.length<=0+D.rs.length*(30+1):=h;omega
 have hkb:∀e∈(S.kM D.x D.q D.l D.names D.rs).2.edges,e.1<=1000/\e.2<=1000:=by
  have hk:=KB.rules (E:=(S,⟨[],List.replicate D.names.length [],[]⟩)) (fun e he=>by simp[keysOf]at he) D.x D.q D.l D.names D.rs HQ.out.r.g.mid.packs (fun y hy=>by
   rw[HQ.out.r.rs]at hy
   have hpk:=HQ.out.r.g.mid.packs
   rcases uH hy with⟨k,hk,rfl⟩| ⟨p,k,hp,hk,rfl⟩| ⟨p,k,hp,hk,rfl⟩
   ·show(-1:Int)<=1000;decide
   ·have:=HQ.out.r.g.lt p hp;show(p:Int)<=1000;omega
   ·have:=HQ.out.r.g.lt p hp;show(p:Int)<=1000;omega) D.rs.length
  intro e he;unfold dR.edges at he;exact hk e ((List.mergeSort_perm _ _).mem_iff.1 he)
 have HBk:=zh (aeU (E:=S.kM D.x D.q D.l D.names D.rs) H9 HQ.out.r HP9 hof hkb HQ.out.ll);have HTo:Hid (∀E2 W,aQ w9 gt9 gb9 gp9 ⟨c,bt,bb,px,w3.heap.size,w3.heap.size+1,G,.slice na nn nc,.slice (some ⟨sb,0,none⟩) nn nn⟩ Bs D E2 W->aN w gt gb c bt bb G Bs D E2.1 W):=fun E2 W h=>aQ.grx (X:=⟨c,bt,bb,px,w3.heap.size,w3.heap.size+1,G,.slice na nn nc,.slice (some ⟨sb,0,none⟩) nn nn⟩) (aQ.trans A9 B9 C9 O9 h) Zf.out alZ.out;clear H9 A9 B9 C9 O9 HP9 hof hkb HRl;go_wp2_with fail;refine HBk.out.mono ?_;rintro e w10 ⟨rfl,h10⟩;have h11:=HTo.out _ _ h10;rw[al0.out]at h11;have yS:=zh h11;clear h10 h11 HBk HTo;go_wp2_with fail;go_end0;exact⟨rfl,yS.out⟩
end
def zC(T:Tab)(t:Nat)(f:List Int):Prop:= ∀z∈f,(∃n,z= -n/\rZ.dJ T.l (aG t) n)\/ ∃a,(xM a\/vS a)/\rZ.dJ T.l a z
theorem zC.gr{T T':Tab}{t:Nat}{f:List Int}(h:zC T t f)(g:fG T T'):zC T' t f:=by
 obtain⟨⟨m,hm⟩,-⟩:=g;intro z hz;rw[hm];rcases h z hz with⟨n,h1,h2⟩| ⟨a,h1,h2⟩;·exact .inl ⟨n,h1,h2.mono⟩
 exact .inr ⟨a,h1,h2.mono⟩
theorem WV{E:BS}(h:jc vS E.1.1 E.2)(P:dR)(e:Nat×Nat):jc vS (E.edge P e).1.1 (E.edge P e).2:=by have h1:=(h.gr (TB.ng E.1 (gY e.1 e.2))).push e.2 (TB.Rz E.1 (gY e.1 e.2) (K:=vS) ⟨_,_,rfl⟩);unfold BS.edge;dsimp only;exact h1.gr ((((TB.ng _ (aG e.1)).tr (TB.uz _ _)).tr (TB.ng _ (aG e.2))).tr ((TB.uz _ _).tr (TB.uz _ _)))
theorem GY(P:dR):∀(es:List (Nat×Nat)) {B:BS},jc vS B.1.1 B.2->jc vS (es.foldl (fun B e=>BS.edge B P e) B).1.1 (es.foldl (fun B e=>BS.edge B P e) B).2
 | [],_,h=>h
 |e::r,_,h=>GY P r (WV h P e)
theorem ZV{K:At->Prop}{T:Tab}{z:Int}(h:KW K T z)(hf:T.full=false):∃a,K a/\rZ.dJ T.l a z:=by
 rcases h with⟨-,h⟩|h;·rw[hf]at h;cases h
 exact h
theorem abU{t:Nat}{a:At}(h:xM a\/vS a):aG t≠a:=by rintro rfl;rcases h with⟨r,h⟩| ⟨p,u,h⟩<;>simp[aG,eH,gY]at h
theorem L9{S:TB}{P:dR}{into:List (Nat×List Int)}{t:Nat}(hr:jc xM S.1 P.roots)(hi:jc vS S.1 into)(hl:(S.place P into t).1.l.length<=65536)(hf:(S.place P into t).1.full=false)(hc:S.2.cls.length<262144):∃f∈(S.place P into t).2.cls,zC (S.place P into t).1 t f:=by
 have eT:(S.place P into t).1=(S.num (aG t)).1.1:=TB.OB _ _;rw[eT]at hl hf⊢;have g:=TB.ng S (aG t);have hn:=ZV (TB.Rz S (aG t) (K:=fun a=>a=aG t) rfl) hf;obtain⟨_,rfl,hn⟩:=hn;have hrow:∀z∈bT P.roots t++bT into t,∃a,(xM a\/vS a)/\rZ.dJ (S.num (aG t)).1.1.l a z:=fun z hz=>by
  rcases qW.1 hz with hz|hz;·obtain⟨a,h1,h2⟩:=ZV ((hr.gr g).get t z hz) hf;exact⟨a,.inl h1,h2⟩
  obtain⟨a,h1,h2⟩:=ZV ((hi.gr g).get t z hz) hf;exact⟨a,.inr h1,h2⟩
 have hall:∀z∈ -(S.num (aG t)).2::(bT P.roots t++bT into t),z≠0/\z.natAbs<=65536:=fun z hz=>by
  rcases qY.1 hz with rfl|hz;·have h1:=hn.1;have h2:=hn.2.1;exact zCC
  obtain⟨a,-,h⟩:=hrow z hz;have h1:=h.1;have h2:=h.2.1;exact zCC
 have hop:∀z∈ -(S.num (aG t)).2::(bT P.roots t++bT into t),-z∉ -(S.num (aG t)).2::(bT P.roots t++bT into t):=fun z hz hm=>by
  have key:∀w∈bT P.roots t++bT into t,w=(S.num (aG t)).2->False:=fun w hw e=>by obtain⟨a,h1,h2⟩:=hrow w hw;rw[e]at h2;exact abU h1 (hn.inj h2)
  have h0:=hn.1;rcases qY.1 hz with rfl|hz
  ·rcases qY.1 hm with e|hm;·omega
   exact key _ hm zBB
  rcases qY.1 hm with e|hm;·exact key z hz zBB
  obtain⟨a,-,h⟩:=hrow z hz;obtain⟨b,-,h'⟩:=hrow _ hm;have:=h.1;have:=h'.1;omega
 obtain⟨f,h1,h2⟩:=rZ.Ce hall hop;have hz0:(-(S.num (aG t)).2::(bT P.roots t++bT into t)).contains 0=false:=by
  cases hcon:(-(S.num (aG t)).2::(bT P.roots t++bT into t)).contains 0 with
  |false=>rfl
  |true=>exact absurd rfl (hall 0 (List.contains_iff_mem.1 hcon)).1
 have e:(S.place P into t).2.cls=S.2.cls++[f]:=by unfold TB.place TB.aV;rw[hz0,if_neg zAE];show(jf.add S.2 _).cls=_;unfold jf.add;rw[rZ.KF hall,if_neg zAE,h1];dsimp only;rw[if_neg zBB]
 rw[e];refine⟨f,List.mem_append_right _ (yJ.2 rfl),fun z hz=>?_⟩;rcases qY.1 ((h2 z).1 hz)with rfl|hz;·exact .inl ⟨_,rfl,hn⟩
 exact .inr (hrow z hz)
theorem abV{T T':Tab}(g:fG T T')(h:T'.full=false):T.full=false:=by
 cases e:T.full with
 |false=>rfl
 |true=>rw[g.2 e]at h;cases h
theorem xZ(P:dR)(into:List (Nat×List Int)){t:Nat}:∀(l:List Nat) {S:TB},t∈l->jc xM S.1 P.roots->jc vS S.1 into->(l.foldl (fun S t=>TB.place S P into t) S).1.l.length<=65536->(l.foldl (fun S t=>TB.place S P into t) S).1.full=false->S.2.cls.length+l.length<=262144->∃f∈(l.foldl (fun S t=>TB.place S P into t) S).2.cls,zC (l.foldl (fun S t=>TB.place S P into t) S).1 t f
 | [],S,h,_,_,_,_,_=>by cases h
 |u::r,S,h,hr,hi,hl,hf,hc=>by
  have g0:=Gr.place S P into u
  have g1:=Gr.fO (fun S t=>TB.place S P into t) 1 1 (fun S t=>Gr.place S P into t) r (S.place P into u)
  rw[List.foldl_cons]at hl hf⊢
  rw[qN]at hc
  by_cases ht:t∈r
  ·refine xZ P into r ht (hr.gr g0.tab) (hi.gr g0.tab) hl hf ?_
   obtain⟨ds,e1,e2⟩:=g0.cls
   rw[e1,qK]
   omega
  ·rcases qY.1 h with rfl|h
   ·obtain⟨⟨m,hm⟩,-⟩:=g1.tab
    obtain⟨f,h1,h2⟩:=L9 (t:=t) hr hi (by rw[hm,qK]at hl;omega) (abV g1.tab hf) zBB
    obtain⟨ds,e1,-⟩:=g1.cls
    exact⟨f,by rw[e1];exact List.mem_append_left _ h1,h2.gr g1.tab⟩
   ·exact absurd h ht
theorem Qj(S:TB){x:aC}{q:dG}(l:List Nat)(names:List Str)(rs:List bG){M V C K N:Nat}(z:Sizes x q M V)(h1C:2*M+6<=C)(h2C:M+5*V+3<=C)(hK:rs.length*C+names.length*(V+1)+l.length<=K)(hN:rs.length*(2*M+2*V+8)+rs.length*C+names.length*(V*V+2)+l.length<=N)(h1:S.1.l.length+K<=S.1.limit)(h2:S.1.limit<=65536)(h3:S.1.full=false)(h4:S.2.cls.length+N<=190000){t:Nat}(ht:t∈l):∃f∈(S.edges x q l names rs).2.cls,zC (S.edges x q l names rs).1 t f:=by
 have G:=(Gr.edges S l names rs z h1C h2C).up hK hN;have hfull:(S.edges x q l names rs).1.full=false:=by rw[G.full zBB];exact h3
 have hlen:(S.edges x q l names rs).1.l.length<=65536:=by have:=G.len;omega
 have hcls:(S.edges x q l names rs).2.cls.length<=190000:=by obtain⟨ds,e1,e2⟩:=G.cls;rw[e1,qK];omega
 unfold TB.edges at hfull hlen hcls⊢;dsimp only at hfull hlen hcls⊢;have hE:sU S.1 (S.kM x q l names rs):=sU.rules (E:=(S,⟨[],List.replicate names.length [],[]⟩)) ⟨fG.rfl',fun e he=>by cases he⟩ x q l names rs _;generalize S.kM x q l names rs=E at hE hfull hlen hcls⊢;have hB:jc vS (E.2.edges.foldl (fun B e=>BS.edge B E.2 e) (E.1,[])).1.1 (E.2.edges.foldl (fun B e=>BS.edge B E.2 e) (E.1,[])).2:=GY E.2 _ (fun e he=>by cases he);have gB:∀(es:List (Nat×Nat)) (B:BS),fG B.1.1 (es.foldl (fun B e=>BS.edge B E.2 e) B).1.1:=fun es=>by
  induction es with
  |nil=>exact fun B=>fG.rfl'
  |cons e r ih=>exact fun B=>(Gr.edge B E.2 e).tab.tr (ih _)
 have hR:=hE.rt.gr (gB E.2.edges (E.1,[]));generalize E.2.edges.foldl (fun B e=>BS.edge B E.2 e) (E.1,[])=B at hB hR hfull hlen hcls⊢;have gN:=(Gr.fO (fun S i=>TB.name S x E.2 i (names.getD i ByteArray.empty)) (V*V+V+2) (V*V+V+2) (fun S i=>(Gr.name S x E.2 i _ (z.CQ _)).up zAB zBB) (List.range names.length) B.1).tab;have hR':=hR.gr gN;have hB':=hB.gr gN;generalize (List.range names.length).foldl (fun S i=>TB.name S x E.2 i (names.getD i ByteArray.empty)) B.1=D at hR' hB' hfull hlen hcls⊢;have gD:=Gr.fO (fun S t=>TB.place S E.2 B.2 t) 1 1 (fun S t=>Gr.place S E.2 B.2 t) l D;refine xZ E.2 B.2 l ht hR' hB' hlen hfull ?_;obtain⟨ds,e1,e2⟩:=gD.cls;rw[e1,qK]at hcls;omega
theorem ZW{row:List Int}(hr:∀z∈row,0<=z)(h0:row.contains 0=false):∀c∈mD row,Neg c:=by
 intro c hc;obtain⟨i,j,h1,h2,rfl⟩:=rZ.Fv hc;have hm:row.getD i 0∈row:=by rw[qC,qA zBB];exact qZ _
 refine⟨-(row.getD i 0),qQ,?_⟩;have h3:=hr _ hm;have h4:row.getD i 0≠0:=fun e=>by rw[e]at hm;rw[List.contains_iff_mem.2 hm]at h0;cases h0
 omega
theorem aI.one(hF:fK){B:jf}(h:aI B){node:Int}{row:List Int}(hn:0<=node)(hr:∀z∈row,0<=z):aI (B.one node row):=by
 unfold jf.one;by_cases hc:node=0\/row.contains 0=true;·rw[if_pos hc];exact h
 rw[if_neg hc];have h0:row.contains 0=false:=by
  cases e:row.contains 0 with
  |false=>rfl
  |true=>exact absurd (.inr e) hc
 have hn0:node≠0:=fun e=>hc (.inl e);refine aI.adds hF h fun c hm=>?_;unfold sO at hm;rcases qY.1 hm with rfl|hm;·exact⟨-node,qQ,by omega⟩
 rcases qW.1 hm with hm|hm;·exact ZW hr h0 c hm
 obtain⟨n,h1,rfl⟩:=yD.1 hm;refine⟨-n,qQ,?_⟩;have h3:=hr n h1;have h4:n≠0:=fun e=>by rw[e]at h1;rw[List.contains_iff_mem.2 h1]at h0;cases h0
 omega
theorem aI.ZX(hF:fK){S:TB}(h:aI S.2){node:Int}(hn:0<=node)(ats:List At):aI (S.row node ats).2:=aI.one hF h hn (KU ats S.1)
theorem aI.vars(hF:fK){S:TB}(h:aI S.2){node:Int}(hn:0<=node)(p:Nat)(vs:List fE):∀j,aI (S.vars node p vs j).2
 |0=>h
 |j+1=>(aI.vars hF h hn p vs j).ZX hF hn _
theorem aI.pack(hF:fK){S:TB}(h:aI S.2)(p:Nat)(pk:eP):aI (S.pack p pk).2:=aI.vars hF (S:=TB.row ((S.1.num (aG p)).1,S.2) (S.1.num (aG p)).2 (gJ p pk.aP.length)) (aI.ZX hF (S:=((S.1.num (aG p)).1,S.2)) h (jy _ _) _) (jy _ _) _ _ _
theorem aI.choices(hF:fK)(x:aC):∀(l:List Nat) {S:TB},aI S.2->aI (S.choices x l).2
 | [],_,h=>h
 |p::r,S,h=>aI.choices hF x r (S:=S.pack p (x.pack p)) (h.pack hF p _)
theorem U1:fK:=fun xs f h z hz=>by
 unfold fA.form at h
 split at h
 ·cases h
 ·split at h
  ·cases h
  ·cases h
   exact(fA.kZ xs z).2 hz
theorem BD{α:Type}[Inhabited α]{P:α->Prop}{l:List α}(h:∀a∈l,P a)(h0:P default)(i:Nat):P (l.getD i default):=by
 rw[qC];cases e:l[i]? with
 |none=>exact h0
 |some a=>exact h a (qT e)
def oK(n:Nat)(s:fQ):Prop:=s.sets.length<=n
structure Mc (p:eP):Prop where
 aP:p.aP.length<=10
 deps:∀d∈p.deps,oK 20 d.cond/\oK 20 d.on
 cons:∀c∈p.cons,oK 20 c.cond/\oK 20 c.with'
theorem GZ:Mc default:=⟨qE _,fun d h=>(by cases h),fun c h=>(by cases h)⟩
theorem ZY{x:aC}{q:dG}(h8:x.packs.length<=8)(hp:∀p∈x.packs,Mc p)(hr:∀r∈q.roots,oK 20 r.spec):Sizes x q 34 8:=by
 have hP:∀i,Mc (x.pack i):=fun i=>BD hp GZ i;have hW:∀{s:fQ},oK 20 s->lT x 34 s:=fun{s} h p=>by have h1:=(hP p).aP;unfold oK at h;omega
 refine⟨fun i=>hW (BD (P:=fun r:zM=>oK 20 r.spec) hr (qE _) i),fun p i=>?_,fun p i=>?_,fun s=>?_⟩;·obtain⟨h1,h2⟩:=BD (P:=fun d:oO=>oK 20 d.cond/\oK 20 d.on) (hP p).deps ⟨qE _,qE _⟩ i;exact⟨hW h1,hW h2⟩
 ·obtain⟨h1,h2⟩:=BD (P:=fun c:uh=>oK 20 c.cond/\oK 20 c.with') (hP p).cons ⟨qE _,qE _⟩ i;exact⟨hW h1,hW h2⟩
 unfold aC.bZ aC.jH;exact qR (yO _ _) (by rw[List.length_range];exact h8)
end Go.Proofs.YtdmmebjjojimiaaGreatDoor
