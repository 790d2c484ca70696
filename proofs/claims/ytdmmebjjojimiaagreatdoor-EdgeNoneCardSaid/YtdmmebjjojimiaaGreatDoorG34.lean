/- Package edge: Edges.; Law 14: which atoms of a ground's table are so, helps too. Printed by gen_so4.py. -/
import Derived.Test.YtdmmebjjojimiaaGreatDoorG33
import Derived.Test.YtdmmebjjojimiaaGreatDoorG31
set_option maxRecDepth 100000
set_option maxHeartbeats 8000000
set_option linter.all false
namespace Go.Proofs
theorem zD1{p:Prop}(h:p:=by
 intro e he
 unfold ES.goes at he
 dsimp only at he
 rcases mem_push.1 he with h1|rfl
 ·exact h e h1
 ·exact⟨hp,ht⟩):p:=h
end Go.Proofs
namespace Go.Proofs.YtdmmebjjojimiaaGreatDoor
open Go.RowKit
def KB(E:ES):Prop:= ∀e∈keysOf E.2.of,e.1<=1000/\e.2<=1000
theorem KB.goes{E:ES}(h:KB E){p t:Nat}(hp:p<=1000)(ht:t<=1000)(a:Int):KB (E.goes p t a).1:=by exact zD1
theorem KB.with{E:ES}(h:KB E)(S:TB)(P:iM)(hP:P.of=E.2.of):KB (S,P):=by intro e he;exact h e (by rw[<-hP];exact he)
theorem aH.VL{x:aH}{s:Str}{t:Nat}(h:t∈x.eG s):t<x.packs.length:=by unfold aH.eG aH.jI at h;exact yI.1 (List.mem_filter.1 h).1
theorem KB.depend{E:ES}(h:KB E)(x:aH)(l:List Nat)(names:List Str)(r:Nat){p:Nat}(k:Nat)(d:uY)(hx:x.packs.length<=1000)(hp:p<=1000):KB (E.depend x l names r p k d):=by
 unfold ES.depend;dsimp only;split;·have hf:=x.vP d.on.name;exact(KB.goes (h.with _ _ rfl) hp (by have:=hf;omega) _).with _ _ rfl
 split;·exact h.with _ _ rfl
 have hpr:∀t∈x.eG d.on.name,t<=1000:=fun t ht=>by have:=aH.VL ht;omega
 generalize x.eG d.on.name=ts at hpr⊢;have key:∀(ts:List Nat) (E:ES),(∀t∈ts,t<=1000)->KB E->∀A:Int,KB (ts.foldl (fun E t=>
   let D:=E.1.num (aJ t)
   let G:=ES.goes (D.1,E.2) p t A
   (G.1.1.dD [-A,-D.2,G.2],G.1.2)) E):=by
  intro ts
  induction ts with
  |nil=>exact fun E _ h _=>h
  |cons t r ih=>
   intro E ht h A
   rw[List.foldl_cons]
   exact ih _ (fun u hu=>ht u (yE _ hu)) ((KB.goes (h.with _ _ rfl) hp (ht t qQ) A).with _ _ rfl) A
 exact key ts _ hpr (h.with _ _ (by rfl)) _
theorem KB.rule{E:ES}(h:KB E)(x:aH)(q:fV)(l:List Nat)(names:List Str)(r:Nat){y:dH}(hx:x.packs.length<=1000)(hy:y.pack<=1000):KB (E.rule x q l names r y):=by
 unfold ES.rule;split;·exact h.with _ _ (Kz _ _ _ _ _ _)
 split;·exact h.depend x l names r _ _ hx zBk
 split;·exact h.with _ _ (yh _ _ _ _ _ _)
 exact h
theorem KB.rules{E:ES}(h:KB E)(x:aH)(q:fV)(l:List Nat)(names:List Str)(rs:List dH)(hx:x.packs.length<=1000)(hy:∀y∈rs,y.pack<=1000):∀r,KB (E.rules x q l names rs r)
 |0=>h
 |r+1=>by
  refine(KB.rules h x q l names rs hx hy r).rule x q l names r hx ?_
  rcases yK r rs.length with hr|hr
  ·exact hy _ (getD_in hr)
  ·rw[qC,List.getElem?_eq_none hr]
   show(default:dH).pack<=1000
   decide
def qj{κ:Type}[DecidableEq κ]{t k:TypeId}(K:FT κ t k)(w:World)(m:Nat):Prop:=sO K w (fun k=>if k=m then (1,0)else (0,0)) 1 m [] (fun _=>bP)
theorem qj.made{κ:Type}[DecidableEq κ]{t k:TypeId}(K:FT κ t k)(w:World):qj K (w.alloc (.map #[] 0)) w.heap.size:=sO.made K w _ zAM
theorem qj.keep{κ:Type}[DecidableEq κ]{t k:TypeId}{K:FT κ t k}{w w':World}{m:Nat}(h:qj K w m){F:Nat->Prop}(ho:Only F w w')(hF:¬F m):qj K w' m:=
 sO.keep h ho (fun k hk=>by
  have e:k=m:=by
   by_cases e:k=m
   ·exact e
   ·simp[e]at hk
  rw[e];exact hF) (Agree.refl _ _)
theorem qj.at{κ:Type}[DecidableEq κ]{t k:TypeId}{K:FT κ t k}{w:World}{m:Nat}(h:qj K w m){g:Tag}{τ:Nat}(hg:g m=(τ,0)):sO K w g τ m [] (fun _=>bP):=
 ⟨h.own,fun x hx=>by simp[keysOf]at hx,fun _ _=>rfl,hg,by simp[keysOf],fun x hx=>by simp[keysOf]at hx,fun e he=>by cases he⟩
section
variable {w w':World} {gt gb:Tag} {c bt bb:Nat} {G:NU} {Bs:Nat} {D:Dn} {S:TB}
theorem Yb{w:World}{g:Tag}{τ sb n:Nat}{names:List Str}(hn:names.length=n)(h:w.ownsRow 0 78 1 (.slice (some ⟨sb,0,none⟩) n n) n (List.replicate n bP))(hg:g sb=(τ,0)):vV w g τ (.slice (some ⟨sb,0,none⟩) n n) (List.replicate n bP) (List.replicate names.length []):=by
 subst hn;refine⟨by simp,⟨by simpa using h,fun k hk=>?_⟩,fun i hi=>?_,fun l hl z hz=>?_⟩;·simp[Value.ownBlock]at hk;rw[<-hk];exact hg
 ·have hi':i<names.length:=by simpa using hi
  have e1:(List.replicate names.length bP).getD i bP=bP:=by simp[qC,hi']
  have e2:(List.replicate names.length ([]:List Int)).getD i []=[]:=by simp[qC,hi']
  rw[e1,e2];exact Row.nil _ _ _ _
 obtain⟨-,rfl⟩:=List.mem_replicate.1 hl;cases hz
theorem jW.start{w W:World}(H:DV w gt gb c bt bb G Bs D S)(o:O0 w W){m1 m2 px sb n:Nat}{nv:Value}(hm1:qj KE W m1)(hm2:qj KI W m2)(hb:W.heap[px]? =some (.cells #[.pointer (some ⟨c,0,none⟩),nv,.map (some m1),.slice (some ⟨sb,0,none⟩) n n,.map (some m2)] 153 (0,0)))(hn:D.names.length=n)(ZJ:W.ownsRow 0 9 1 nv n (fD D.names))(hsv:W.ownsRow 0 78 1 (.slice (some ⟨sb,0,none⟩) n n) n (List.replicate n bP))(hnb:∀k,nv.ownBlock=some k->w.heap.size<=k/\k<m1)(h1:w.heap.size<=m1)(h2:m1<m2)(h3:m2<px)(h4:px<sb)(h5:sb<W.heap.size)(hok:∀s∈D.names,okS s):∃gp:Tag,jW W gt gb gp ⟨c,bt,bb,px,m1,m2,G,nv,.slice (some ⟨sb,0,none⟩) n n⟩ Bs D (S,⟨[],List.replicate D.names.length [],[]⟩)/\∀k,Mine gp k->w.heap.size<=k:=by
 obtain⟨gp,hgp⟩:∃gp:Tag,gp=fun k=>if k=m1 then (1,0)else if k=sb then (2,0)else if k=m2 then (3,0)else (0,0):=⟨_,rfl⟩
 have g1:gp m1=(1,0):=by rw[hgp];simp
 have g2:gp sb=(2,0):=by rw[hgp];simp;omega
 have g3:gp m2=(3,0):=by rw[hgp];show(if m2=m1 then ((1,0):Nat×Nat)else if m2=sb then (2,0)else if m2=m2 then (3,0)else (0,0))=(3,0);rw[if_neg zAC,if_neg zBk,if_pos rfl]
 have g0:∀k,k≠m1->k≠sb->k≠m2->gp k=(0,0):=fun k a b d=>by rw[hgp];simp[a,b,d]
 have hM:∀k,Mine gp k->k=m1\/k=sb\/k=m2:=fun k hk=>by
  by_cases a:k=m1;·exact .inl a
  by_cases b:k=sb;·exact .inr (.inl b)
  by_cases d:k=m2;·exact .inr (.inr d)
  exact absurd (congrArg Prod.fst (g0 k a b d)) hk
 have hlow:∀k,Mine gp k->w.heap.size<=k:=fun k hk=>by rcases hM k hk with h|h|h<;>omega
 have hgt:∀k,w.heap.size<=k->¬(Mine gt k\/Mine gb k):=fun k hk hm=>by
  obtain⟨V,hV⟩:=H.gr.tab;obtain⟨U,hU⟩:=H.gr.Jy;rcases hm with hm|hm;·exact hm (hV.fresh k hk)
  exact hm (hU.fresh k hk)
 have hc:c<w.heap.size:=dR H.gr.blk;refine⟨gp,⟨H.aN o,⟨_,hm1.at g1⟩,⟨_,Yb hn hsv g2⟩,by simp,⟨_,hm2.at g3⟩,hb,?_,?_,by rw[hn];exact ZJ,?_,hok,fun k hk=>qR H.le (hlow k hk),fun k hk hm=>?_,fun k hk=>?_⟩,hlow⟩
 ·rintro(hm|hm);·exact hgt px zBk hm
  rcases hM _ hm with h|h|h<;>simp at h<;>omega
 ·show(gp c).1=0;rw[g0 c zBy zAC zBk]
 ·intro k hk;have hk2:w.heap.size<=k/\k<m1:=hnb k hk;rintro(hm|hm);·exact hgt k hk2.1 hm
  rcases hM _ hm with h|h|h<;>omega
 ·exact hgt k (hlow k hm) hk
 rw[g0 k zBy zAC zBk]
theorem bV.grx{w W W2:World}{gp:Tag}{X:NV}{E:ES}(h:bV W gt gb gp X Bs D E W2)(o:O0 w W)(hlow:∀k,Mine gp k->w.heap.size<=k):fE w gt gb X.c X.bt X.bb X.G Bs D E.1 W2:=by
 obtain⟨gt',gb',nM,H2,A1,A2,A3,O⟩:=h;refine⟨gt',gb',H2.gx,fun k hk=>A1 k (by have:=o.size;omega),fun k hk=>A2 k (by have:=o.size;omega),(o.mono fun _ f=>f.elim).trans O fun k hk=>?_⟩;rcases hk with hk|hk;·exact .inl hk
 exact .inr (hlow k hk)
structure EdQ (D:Dn):Prop where
 r:EdR D
 nm:D.names=D.x.names D.q
 sm:rM D.x
 nok:∀s∈D.names,okS s
 z:∃M,Sizes D.x D.q M 30
 ll:D.l.length<=1000
theorem Yc(S:TB)(D:Dn):ES.back (S.pF D.x D.q D.l D.names D.rs) D=S.edges D.x D.q D.l D.names D.rs:=rfl
theorem Zk(H:DV w gt gb c bt bb G Bs D S)(hQ:EdQ D):Calls Tryz.prog 23 #[.pointer (some ⟨c,0,none⟩)] w fun e w'=>e= .returned (.tuple #[])/\fE w gt gb c bt bb G Bs D (S.edges D.x D.q D.l D.names D.rs) w':=by
 have HQ:=zh hQ;obtain⟨S9,XM⟩:=ze (S.edges D.x D.q D.l D.names D.rs);rw[XM];have HS9:=zh XM;have H0:=zh H;obtain⟨nn,hnn⟩:=ze D.names.length;have XH:=zh hnn;have hnl:=hQ.r.g.nl;rw[hnn]at hnl;obtain⟨u1,u2,eu,r1,r2⟩:=H.BI;simp only[List.cons.injEq,and_true]at eu;obtain⟨eu1,eu2⟩:=eu;obtain⟨a1,c1,e1,-,-⟩:=r1.shape;obtain⟨a2,c2,e2,-,-⟩:=r2.shape;obtain⟨u3,eu3,r3⟩:=H.LQ;simp only[List.cons.injEq,and_true]at eu3;obtain⟨a3,c3,e3,-,-⟩:=r3.shape;obtain⟨n1,hn1⟩:=ze D.x.packs.length;obtain⟨n2,hn2⟩:=ze D.x.iH.length;obtain⟨n3,hn3⟩:=ze D.q.roots.length;rw[<-eu1,hn1]at e1;rw[<-eu2,hn2]at e2;rw[<-eu3,hn3]at e3;have OV:Hid (∀W,O0 w W->Calls Tryz.prog 78 #[.pointer (some ⟨c,0,none⟩)] W fun e w'=>e= .returned (.agg #[.slice a1 n1 c1,.slice a2 n2 c2])/\O0 W w'):=fun W hW=>mF (H0.out.gr.aN hW) e1 e2;have amH:Hid (∀W,O0 w W->Calls Tryz.prog 79 #[.pointer (some ⟨c,0,none⟩)] W fun e w'=>e= .returned (.agg #[.slice a3 n3 c3])/\O0 W w'):=fun W hW=>MR (H0.out.gr.aN hW) e3;have J3:Hid (∀W,O0 w W->Calls Tryz.prog 77 #[.agg #[.slice a1 n1 c1,.slice a2 n2 c2],.agg #[.slice a3 n3 c3]] W fun e w'=> ∃v,e= .returned v/\w'.ownsRow 0 9 1 v nn (fD D.names)/\(∀k,v.ownBlock=some k->W.heap.size<=k)/\O0 W w'):=fun W hW=>by have h1:=(H0.out.aN hW).BI;have h2:=(H0.out.aN hW).LQ;rw[e1,e2]at h1;rw[e3]at h2;have h:=afU h1 h2 HQ.out.sm HQ.out.r.roots;rw[<-HQ.out.nm,XH.out]at h;exact h
 have hmm:= @run_makeMap Tryz.prog;clear H hQ XM hnn r1 r2 r3 eu1 eu2 eu3 e1 e2 e3 hn1 hn2 hn3 u1 u2 u3;go_enter Tryz.func23,Tryz.ntmps23;go_wp2_with fail;refine(OV.out w zr).mono ?_;rintro e w1 ⟨rfl,O1⟩;have bM:=zh O1;clear O1;go_wp2_with fail;refine(amH.out w1 bM.out).mono ?_;rintro e w2 ⟨rfl,O2⟩;have fK:=zh (bM.out.same O2);clear O2;go_wp2_with fail;refine(J3.out w2 fK.out).mono ?_;rintro e w3 ⟨nv,rfl,ZJ,hnb,O3⟩;have mO:=zh (fK.out.same O3);have ZK:=zh ZJ;have Wn:Hid (∀k,nv.ownBlock=some k->w.heap.size<=k/\k<w3.heap.size):=fun k hk=>⟨qR fK.out.size (hnb k hk),dX ZK.out hk⟩;obtain⟨na,nc,rfl,-,-⟩:=aC ZJ;clear O3 ZJ hnb OV amH J3;obtain⟨px,hpx⟩:=ze (w3.heap.size+1+1);obtain⟨w6,hw6⟩:=zB (((w3.alloc (.map #[] 0)).alloc (.map #[] 0)).alloc (.cells #[.pointer (some ⟨c,0,none⟩),.slice na nn nc,.map (some w3.heap.size),bP,.map (some (w3.heap.size+1))] 153));have HM:Hid (qj KE w6 w3.heap.size/\qj KI w6 (w3.heap.size+1)/\O0 w3 w6/\w6.heap.size=w3.heap.size+3/\w6.heap[px]? =some (.cells #[.pointer (some ⟨c,0,none⟩),.slice na nn nc,.map (some w3.heap.size),bP,.map (some (w3.heap.size+1))] 153 (0,0))):=by have hM1:qj KE (w3.alloc (.map #[] 0)) w3.heap.size:=qj.made _ _;have hM2:qj KI ((w3.alloc (.map #[] 0)).alloc (.map #[] 0)) (w3.alloc (.map #[] 0)).heap.size:=qj.made _ _;have e1:(w3.alloc (.map #[] 0)).heap.size=w3.heap.size+1:=zAM;rw[e1]at hM2;rw[hw6];refine⟨hM1.keep (((Only.refl (fun _=>False) _).alloc _).alloc _) (fun f=>f),hM2.keep ((Only.refl (fun _=>False) _).alloc _) (fun f=>f),((zr.alloc _).alloc _).alloc _,by simp,?_⟩;refine alloc_at ?_;rw[<-hpx];simp
 have k1:w6.cell? ⟨w3.heap.size+1+1,1,none⟩=some (.slice na nn nc):=by rw[hpx,ah HM.out.2.2.2.2];rfl
 rw[hw6]at k1;go_wp2_with (at_make;go_must (refine wpM (bytes:=24) (z:=bP) Tryz.underlying66 zk rfl rfl _ _ rfl nn rfl rfl rfl rfl zBk zBl ?_));intro w7 r1 r2 r3;try rw[<-hw6]at r2
 clear k1 hw6 r3;obtain⟨sb,hsb⟩:=ze (px+1);have arn:sb<w7.heap.size:=by have h1:=r2.size;have h2:=HM.out.2.2.2.1;have h3:=dX r1 rfl;(try simp at h3);omega
 rw[hsb]at r1;rw[hsb];try rw[hpx]
 have aro:sb=w3.heap.size+3:=zBk;have hb7:=aF HM.out.2.2.2.2 r2 (fun f=>f);have q3:w7.cell? ⟨px,3,none⟩=some bP:=by rw[ah hb7];rfl
 have qf:=iG hb7 3;have HB8:Hid ((w7.setCell ⟨px,3,none⟩ (.slice (some ⟨sb,0,none⟩) nn nn)).heap[px]? =some (.cells #[.pointer (some ⟨c,0,none⟩),.slice na nn nc,.map (some w3.heap.size),.slice (some ⟨sb,0,none⟩) nn nn,.map (some (w3.heap.size+1))] 153 (0,0))):=jX hb7 3 _;have oP:Only (fun k=>k=px) w7 (w7.setCell ⟨px,3,none⟩ (.slice (some ⟨sb,0,none⟩) nn nn)):=(Only.refl (fun k=>k=px) w7).setCell (p:=⟨px,3,none⟩) (.inl rfl) _;have Iu:Hid (O0 w (w7.setCell ⟨px,3,none⟩ (.slice (some ⟨sb,0,none⟩) nn nn))):=((mO.out.same HM.out.2.2.1).same r2).trans oP fun k hk=>.inr (by have:=mO.out.size;omega);have NT:=jW.start H0.out Iu.out (m1:=w3.heap.size) (m2:=w3.heap.size+1) (px:=px) (sb:=sb) (n:=nn) (nv:=.slice na nn nc) (HM.out.1.keep ((r2.mono fun _ f=>f.elim).same oP) (by omega)) (HM.out.2.1.keep ((r2.mono fun _ f=>f.elim).same oP) zB7) HB8.out XH.out (aI (aI ZK.out (HM.out.2.2.1.same r2) (fun _ _ f=>f)) oP (fun k hk e=>by have:=(Wn.out k hk).2;omega)) (aI r1 oP (fun k hk e=>by simp[Value.ownBlock]at hk;omega)) Wn.out mO.out.size zBy zAC zBk (by have:=oP.size;omega) HQ.out.nok;obtain⟨gp,hEd,hlow⟩:=NT;have arp:=zh hlow;have arq:Hid ((ES.back (S.pF D.x D.q D.l D.names D.rs) D)=S9):=by rw[Yc];exact HS9.out
 have HRl:=zh (afA hEd HQ.out.r (N:=0) ⟨by simp,fun k=>by simp[fA],fun k=>by rw[qC,List.getElem?_replicate];split<;>simp,by simp,fun k=>by simp[fA]⟩ zBk);clear r1 r2 oP hb7 hEd hlow hsb aro arn HM ZK Wn HB8;go_wp2_with fail;refine HRl.out.mono ?_;rintro e w9 ⟨rfl,gt9,gb9,gp9,H9,A9,B9,C9,O9⟩;have Xm:vK (S.pF D.x D.q D.l D.names D.rs).2 900000:=(vK.rules (N:=0) (E:=(S,⟨[],List.replicate D.names.length [],[]⟩)) ⟨by simp,fun k=>by simp[fA],fun k=>by rw[qC,List.getElem?_replicate];split<;>simp,by simp,fun k=>by simp[fA]⟩ D.x D.q D.l D.names D.rs HQ.out.r.g.mid.packs D.rs.length).mono (by have:=HQ.out.r.rl;omega);have hof:(S.pF D.x D.q D.l D.names D.rs).2.of.length<=60000:=by obtain⟨M,hz⟩:=HQ.out.z;have h:=UW (S,⟨[],List.replicate D.names.length [],[]⟩) D.l D.names D.rs hz D.rs.length;have h2:=HQ.out.r.rl;have h3:(S.pF D.x D.q D.l D.names D.rs).2.of.length<=0+D.rs.length*(30+1):=h;omega
 have hkb:∀e∈(S.pF D.x D.q D.l D.names D.rs).2.edges,e.1<=1000/\e.2<=1000:=by
  have hk:=KB.rules (E:=(S,⟨[],List.replicate D.names.length [],[]⟩)) (fun e he=>by simp[keysOf]at he) D.x D.q D.l D.names D.rs HQ.out.r.g.mid.packs (fun y hy=>by
   rw[HQ.out.r.rs]at hy
   have hpk:=HQ.out.r.g.mid.packs
   rcases vX hy with⟨k,hk,rfl⟩| ⟨p,k,hp,hk,rfl⟩| ⟨p,k,hp,hk,rfl⟩
   ·show(-1:Int)<=1000;decide
   ·have:=HQ.out.r.g.lt p hp;show(p:Int)<=1000;omega
   ·have:=HQ.out.r.g.lt p hp;show(p:Int)<=1000;omega) D.rs.length
  intro e he;unfold iM.edges at he;exact hk e ((List.mergeSort_perm _ _).mem_iff.1 he)
 have HBk:=zh (aiV (E:=S.pF D.x D.q D.l D.names D.rs) H9 HQ.out.r Xm hof hkb HQ.out.ll);have HTo:Hid (∀E2 W,bV w9 gt9 gb9 gp9 ⟨c,bt,bb,px,w3.heap.size,w3.heap.size+1,G,.slice na nn nc,.slice (some ⟨sb,0,none⟩) nn nn⟩ Bs D E2 W->fE w gt gb c bt bb G Bs D E2.1 W):=fun E2 W h=>bV.grx (X:=⟨c,bt,bb,px,w3.heap.size,w3.heap.size+1,G,.slice na nn nc,.slice (some ⟨sb,0,none⟩) nn nn⟩) (bV.trans A9 B9 C9 O9 h) Iu.out arp.out;clear H9 A9 B9 C9 O9 Xm hof hkb HRl;go_wp2_with fail;refine HBk.out.mono ?_;rintro e w10 ⟨rfl,h10⟩;have h11:=HTo.out _ _ h10;rw[arq.out]at h11;have Fz:=zh h11;clear h10 h11 HBk HTo;go_wp2_with fail;go_end0;exact⟨rfl,Fz.out⟩
end
end Go.Proofs.YtdmmebjjojimiaaGreatDoor
namespace Go.Proofs
theorem zDM{p:Prop}(h:p:=by
 go_ret2
 exact⟨_,_,[],rfl,Ints.fH (xs:=[]) (World.ownsRow_nil _ _ _ _) (fun z hz=>by cases hz),(fun y hy=>by cases hy),(fun k hk=>by cases hk),xw.out⟩):p:=h
end Go.Proofs
namespace Go.Proofs.YtdmmebjjojimiaaGreatDoor
open Go.RowKit
section
variable {w w':World} {B:Nat}
def zA:At:=(0,0,0,0)
theorem ad1{g:Tag}{b:Nat}{V:WX}{T:Tab}(H:TabAt w g b V T)(z:Int)(hz:bU z)(hn:¬(1<=z/\z<=(T.l.length:Int))):Calls Tryz.prog 85 #[.pointer (some ⟨b,0,none⟩),.int .i64 z] w fun e w'=>e= .returned (.tuple #[jS zA,.bool false])/\O0 w w':=by
 obtain⟨n,hn2⟩:=ze T.l.length;obtain⟨W1,hW1⟩:=zB (w.alloc (.cells #[.int .u8 0,.int .i64 0,.int .i64 0,.int .i64 0] 89));have O1:O0 w W1:=zAp;have HB1:Hid (W1.heap[w.heap.size]? =some (.cells #[.int .u8 0,.int .i64 0,.int .i64 0,.int .i64 0] 89)):=by rw[hW1];exact qL w _
 have HLn:=zh (Fq (H.only O1 (fun _ _ f=>f)));have bM:=zh O1;rw[hn2]at HLn hn;unfold jS zA;clear O1 H hn2;go_enter Tryz.func85,Tryz.ntmps85;by_cases c1:z<1;·go_wp2_with (refine wpList_store_row rfl 89 (.tmp 4) (.tmp 14) rfl w.heap.size #[.int .u8 0,.int .i64 0,.int .i64 0,.int .i64 0] rfl rfl 89 #[.int .u8 0,.int .i64 0,.int .i64 0,.int .i64 0] (by rw[<-hW1];exact HB1.out) zk rfl (by simp[Value.oneCell']) ?_);rw[<-hW1];exact zCt
 have c2:(n:Int)<z:=by omega
 go_wp2_with fail;rw[<-hW1];clear hW1;refine HLn.out.mono ?_;rintro e w2 ⟨rfl,rfl⟩;go_wp2_with (refine wpList_store_row rfl 89 (.tmp 4) (.tmp 14) rfl w.heap.size #[.int .u8 0,.int .i64 0,.int .i64 0,.int .i64 0] rfl rfl 89 #[.int .u8 0,.int .i64 0,.int .i64 0,.int .i64 0] HB1.out zk rfl (by simp[Value.oneCell']) ?_);exact zCt
def ad2(T:Tab)(row:List Int):Prop:= ∀z∈row,1<=z/\z<=(T.l.length:Int)
def ai8(T:Tab)(w w':World)(e:Ending):Prop:= ∃(v:Value) (ok:Bool) (row:List Int),e= .returned (.tuple #[v,.bool ok])/\Ints w' v row/\ad2 T row/\(∀k,Value.blk v=some k->w.heap.size<=k)/\O0 w w'
theorem afV{m:Int}(hm:1<=m/\m<=1000000):IntKind.i64.wrap (-m)= -m:=by rw[qD];omega
theorem VN{gt gb:Tag}{c bt bb:Nat}{G:NU}{T:Tab}{Bd:lu}(H:nD w gt gb c bt bb G T Bd){v:Value}{f:List Int}(hI:Ints w v f)(hl:f.length<=1099511627)(m:Int)(hm:1<=m/\m<=1000000):Calls Tryz.prog 86 #[.pointer (some ⟨c,0,none⟩),v,.int .i64 m] w fun e w'=>ai8 T w w' e:=by
 obtain⟨nt,hnt⟩:=ze T.l.length;have Ja:=zh hnt;have XO:Hid (∀W,O0 w W->Calls Tryz.prog 66 #[.pointer (some ⟨c,0,none⟩)] W fun e w'=>e= .returned (.pointer (some ⟨bt,0,none⟩))/\w'=W):=fun W hW=>wY (H.aN hW);have HNo:Hid (∀W,O0 w W->∀z,bU z->¬(1<=z/\z<=(nt:Int))->Calls Tryz.prog 85 #[.pointer (some ⟨bt,0,none⟩),.int .i64 z] W fun e w'=>e= .returned (.tuple #[jS zA,.bool false])/\O0 W w'):=fun W hW z hz hn=>by obtain⟨V,hV⟩:=(H.aN hW).tab;rw[<-Ja.out]at hn;exact ad1 hV z hz hn
 have ars:Hid (∀W,O0 w W->∀i:Nat,i<nt->Calls Tryz.prog 85 #[.pointer (some ⟨bt,0,none⟩),.int .i64 ((i:Int)+1)] W fun e w'=>e= .returned (.tuple #[jS (T.l.getD i default),.bool true])/\O0 W w'):=fun W hW i hi=>by obtain⟨V,hV⟩:=(H.aN hW).tab;exact Jm hV i (by rw[Ja.out];exact hi)
 obtain⟨ao,cap,rfl,g1,g2⟩:=hI.shape;obtain⟨nf,hnf⟩:=ze f.length;have HNf:=zh hnf;have HI:=zh hI;rw[hnf]at g1 hl⊢;have hnm:=afV hm;have Wn:Hid (nt<=65536):=by obtain⟨V,hV⟩:=H.tab;rw[<-Ja.out];exact qR hV.len hV.lim
 clear H hI hnt hnf;go_enter Tryz.func86,Tryz.ntmps86;go_wp2_with fail;go_loopw [8,9,16] (fun vr vf vi dG=>Hid (O0 w dG)/\∃i:Nat,vi= .int .i64 i/\i<=nf/\∃(bf:Bool) (row:List Int),vf= .bool bf/\Hid (dG.ownsRow 0 3 1 vr row.length (row.map cI))/\Hid (ad2 T row)/\Hid (∀k,vr.ownBlock=some k->w.heap.size<=k)/\row.length<=i) (fun _ _ v _=>nf-(RowKit.intOf v).toNat);case atStart=>exact⟨show Hid _ from Only.refl _ _,0,rfl,qE _,false,[],rfl,World.ownsRow_nil _ _ _ _,(fun z hz=>by cases hz),(fun k hk=>by cases hk),qH _⟩
 case round=>
  obtain⟨dG,rfl⟩:=zB wr;obtain⟨gV,i,rfl,hi,bf,row,rfl,HV,HR,HB,hrl⟩:=hrel;obtain⟨nr,hnr⟩:=ze row.length;rw[hnr]at HV hrl;have QY:=zh hnr;obtain⟨ar,cr,rfl,-,-⟩:=aC HV.out;clear hnr;by_cases ci:i<nf
  ·have jh:=zw (i+1);obtain⟨z,hz⟩:=zG f i (by rw[HNf.out];exact ci);obtain⟨bl,ol,hbl,U6⟩:=ints_at HI.out hz;subst hbl;have gl:=U6.out dG gV.out;have hzi:bU z:=HI.out.range z (qT hz);have awJ: -9223372036854775808<=z/\z<=9223372036854775807:=by unfold bU at hzi;omega
   by_cases cz:z= -m
   ·have Gj:(z== -m)=true:=by rw[beq_iff_eq];exact cz
    clear hz U6;go_wp2_with fail;go_roundw;case rel=>exact⟨gV,i+1,by first|rfl|go_num,by omega,true,row,rfl,by rw[QY.out];exact HV,HR,HB,by have:=QY.out;omega⟩
    case measure=>simp[RowKit.intOf]<;>omega
   have Gj:(z== -m)=false:=by rw[yC];exact cz
   clear hz U6;go_wp2_with fail;refine(XO.out dG gV.out).mono ?_;rintro e w1 ⟨rfl,rfl⟩;clear gl;by_cases cin:1<=z/\z<=(nt:Int)
   ·obtain⟨j,rfl⟩:∃j:Nat,z=(j:Int)+1:=⟨(z-1).toNat,by omega⟩;have hj:j<nt:=zBk;have VA:=zh (ars.out w1 gV.out j hj);obtain⟨x,hx⟩:=ze (T.l.getD j default);rw[hx]at VA;clear hx;unfold jS at VA;go_wp2_with fail;refine VA.out.mono ?_;rintro e w2 ⟨rfl,O2⟩;have fK:=zh (gV.out.same O2);have aru:=zh O2;clear O2 VA;obtain⟨W4,xM⟩:=zB (w2.alloc (.cells #[.int .u8 x.1,.int .i64 x.2.1,.int .i64 x.2.2.1,.int .i64 x.2.2.2] 89));have xw:Hid (O0 w W4):=by rw[xM];exact fK.out.alloc _
    have b4:W4.heap[w2.heap.size]? =some (.cells #[.int .u8 x.1,.int .i64 x.2.1,.int .i64 x.2.2.1,.int .i64 x.2.2.2] 89):=by rw[xM];exact qL w2 _
    have a0:=ah b4 0;clear b4;by_cases ck:x.1=2
    ·have ck1:(x.1==2)=true:=by rw[beq_iff_eq];exact ck
     clear ck;rw[xM]at a0;have HAp:Hid (O0 w1 (w2.alloc (.cells #[.int .u8 x.1,.int .i64 x.2.1,.int .i64 x.2.2.1,.int .i64 x.2.2.2] 89))):=aru.out.alloc _;go_wp2_with (at_builtin;go_must (refine tC (u:=.int .i64 ((j:Int)+1)) kJ rfl (.tmp 38) (.tmp 40) rfl rfl rfl (by have h:=cell_new0 (w2.alloc (.cells #[.int .u8 x.1,.int .i64 x.2.1,.int .i64 x.2.2.1,.int .i64 x.2.2.2] 89)) (.int .i64 ((j:Int)+1)) 3;simpa using h) rfl (aI HV.out (HAp.out.alloc _) (fun _ _ f=>f)) zBk zBl ?_));intro v5 w5 s1 s2 s3;have FI:Hid (O0 w w5):=(gV.out.same (HAp.out.alloc _)).trans s2 fun k hk=>.inr (HB.out k hk);have HB5:Hid (∀k,v5.ownBlock=some k->w.heap.size<=k):=by
      intro k hk;obtain⟨g,cap',rfl,-,-,h|h⟩:=s3;·exact zDD
      simp[Value.ownBlock]at hk;subst hk;have:=fK.out.size;simp at h;omega
     have HV5:Hid (w5.ownsRow 0 3 1 v5 (row++[(j:Int)+1]).length ((row++[(j:Int)+1]).map cI)):=by have:=QY.out;simp only[qK,List.map_append,this];exact s1
     have HR5:Hid (ad2 T (row++[(j:Int)+1])):=fun y hy=>by
      rcases qW.1 hy with h|h;·exact HR.out y h
      simp at h;rw[h,Ja.out];omega
     obtain⟨g6,c6,rfl,-,-,-⟩:=s3;clear s1 s2 xM a0;go_wp2_with fail;go_roundw;case rel=>exact⟨FI,i+1,by first|rfl|go_num,by omega,bf,row++[(j:Int)+1],rfl,HV5,HR5,HB5,by have:=QY.out;simp;omega⟩
     case measure=>simp[RowKit.intOf]<;>omega
    have ck1:(x.1==2)=false:=by rw[yC];exact ck
    clear ck;rw[xM]at a0;go_wp2_with fail;rw[<-xM];clear xM a0;exact zDM
   have VA:=zh (HNo.out w1 gV.out z hzi cin);unfold jS zA at VA;go_wp2_with fail;refine VA.out.mono ?_;rintro e w2 ⟨rfl,O2⟩;have fK:=zh (gV.out.same O2);clear O2 VA;obtain⟨W4,xM⟩:=zB (w2.alloc (.cells #[.int .u8 0,.int .i64 0,.int .i64 0,.int .i64 0] 89));have xw:Hid (O0 w W4):=by rw[xM];exact fK.out.alloc _
   go_wp2_with fail;rw[<-xM];clear xM;exact zDM
  obtain rfl:nf=i:=by omega
  go_wp2_with fail;go_ret2;refine⟨_,_,row,rfl,Ints.fH (by rw[QY.out];exact HV.out) (fun y hy=>?_),HR.out,fun k hk=>HB.out k hk,gV.out⟩;have:=HR.out y hy;have hnb:=Wn.out;rw[Ja.out]at this;exact zCw
structure sQ (T:Tab) (m0 m1:List Bool):Prop where
 len:m1.length=m0.length
 same:∀i,(T.l.getD i default).1≠9->m1.getD i false=m0.getD i false
 none:(∀i,m0.getD i false=false)->∀i,m1.getD i false=false
theorem sQ.refl(T:Tab)(m:List Bool):sQ T m m:=⟨rfl,fun _ _=>rfl,fun h=>h⟩
theorem QB(m:List Bool)(i j:Nat)(b:Bool):(m.set i b).getD j false=if i=j/\j<m.length then b else m.getD j false:=by
 rw[qC,List.getElem?_set];by_cases h:i=j
 ·subst h;by_cases hi:i<m.length;·simp[hi]
  simp[hi,qC]
 simp[h,qC]
theorem sQ.set{T:Tab}{m0 m:List Bool}(h:sQ T m0 m){i n:Nat}(hi:(T.l.getD i default).1=9){b:Bool}(hb:(∀i,m.getD i false=false)->b=false):sQ T m0 (m.set i b):=by
 refine⟨by rw[List.length_set];exact h.len,fun j hj=>?_,fun h0 j=>?_⟩
 ·rw[QB];by_cases e:i=j/\j<m.length;·rw[<-e.1]at hj;exact absurd hi hj
  rw[if_neg e];exact h.same j hj
 rw[QB];split;·exact hb (h.none h0)
 exact h.none h0 j
theorem VO{csm:List Value}{m:GD}(hm:GC B w csm m){gt gb:Tag}{c bt bb:Nat}{G:NU}{T:Tab}{Bd:lu}(H:nD w gt gb c bt bb G T Bd)(hgr:GR m)(hat:∀a∈T.l,AtF m.x.packs.length a):Calls Tryz.prog 30 #[.pointer (some ⟨c,0,none⟩),.agg csm.toArray] w fun e w'=> ∃(go:Nat) (m0 ms:List Bool),e= .returned (.slice (some ⟨go,0,none⟩) T.l.length T.l.length)/\w'.ownsRow 0 4 1 (.slice (some ⟨go,0,none⟩) T.l.length T.l.length) T.l.length (ms.map Value.bool)/\m0.length=T.l.length/\(∀i,i<T.l.length->SoP m (T.l.getD i default) (m0.getD i false))/\sQ T m0 ms/\w.heap.size<=go/\O0 w w':=by
 obtain⟨aaO,aaP,aaQ,aaR,aaS,aaT,aaU,aaV,aaW,amJ,amK,amL,afW,afX,afY,rfl,akb,akc,akd,ake,akf,akg,auk,aul,aog,aoh,akh,aki,akj,aum,aoi,F_m⟩:=kV hm;clear hm;obtain⟨W0,hW0,bW,nR,aG⟩:=N8 w (.slice aaO aaP aaQ) (.slice aaR aaS aaT) (.slice aaU aaV aaW) (.slice amJ amK amL) (.slice afW afX afY) 60;obtain⟨arv,ai9,aja,ajb,arw,amM⟩:=F_m W0 bW.out;clear F_m;obtain⟨nt,hnt⟩:=ze T.l.length;have Ja:=zh hnt;have aqO:nt<=65536:=zBY;have HH:=zh H;have HMo:=zh (XZ (arv.out W0 zr) (H.aN bW.out) hgr hat);rw[hnt]at HMo;clear H hgr hat hnt;obtain⟨k0,k1,k2,k3,k4⟩:=aG.out W0 zr;rw[hW0]at k0 k1 k2 k3 k4;go_enter Tryz.func30,Tryz.ntmps30;go_wp2_with fail;rw[<-hW0]at k0 k1 k2 k3 k4⊢;clear hW0;refine HMo.out.mono ?_;rintro e w5 ⟨go,m0,rfl,hV,hm0,hso,hgo,O5⟩;have FI:=zh O5;have HGo:=zh hgo;have HM0:=zh hm0;have HSo:=zh hso;have HG5:Hid (∀W,Only (fun k=>k=go) w5 W->nD W gt gb c bt bb G T Bd):=fun W hW=>by
  have h1:=HH.out.aN (bW.out.same FI.out);have hge:=qR bW.out.size HGo.out;refine h1.only hW (fun k hk e=>?_) (fun e=>?_)
  ·obtain⟨V,hV⟩:=HH.out.tab;obtain⟨U,hU⟩:=HH.out.Jy;rcases hk with hk|hk;·exact hk (hV.fresh k zBk)
   exact hk (hU.fresh k zBk)
  have:=dR HH.out.blk;omega
 have arx:Hid (go<w5.heap.size):=dX hV rfl;have HV0:=zh hV;clear O5 hgo hm0 hso hV HMo;clear k0 k1 k2 k3 k4;go_wp2_with fail;go_loopw [20] (fun vi dG=>Hid (Only (fun k=>k=go) w5 dG)/\∃i:Nat,vi= .int .i64 i/\i<=nt/\∃ms:List Bool,Hid (dG.ownsRow 0 4 1 (.slice (some ⟨go,0,none⟩) nt nt) nt (ms.map Value.bool))/\Hid (sQ T m0 ms)) (fun v _=>nt-(RowKit.intOf v).toNat);case atStart=>exact⟨show Hid _ from Only.refl _ _,0,rfl,qE _,m0,HV0,show Hid _ from sQ.refl _ _⟩
 case round=>
  obtain⟨dG,rfl⟩:=zB wr;clear HV0;obtain⟨SX,i,rfl,hi,ms,HV,HHt⟩:=hrel;by_cases ci:i<nt
  ·have jh:=zw (i+1);obtain⟨V,hV⟩:=(HG5.out dG SX.out).tab;have VA:=zh (Jm hV i zBS);have HTb:=zh (wY (HG5.out dG SX.out));obtain⟨x,hx⟩:=ze (T.l.getD i default);have HXi:=zh hx;rw[hx]at VA;unfold jS at VA;clear hV hx V;go_wp2_with fail;refine HTb.out.mono ?_;rintro e w2 ⟨rfl,hw2⟩;have hw2:=hw2.symm;subst hw2;go_wp2_with fail;refine VA.out.mono ?_;rintro e w3 ⟨rfl,O3⟩;have arz:=zh O3;obtain⟨W4,xM⟩:=zB (w3.alloc (.cells #[.int .u8 x.1,.int .i64 x.2.1,.int .i64 x.2.2.1,.int .i64 x.2.2.2] 89));have aaD:Hid (O0 dG W4):=by rw[xM];exact arz.out.alloc _
   have b4:W4.heap[w3.heap.size]? =some (.cells #[.int .u8 x.1,.int .i64 x.2.1,.int .i64 x.2.2.1,.int .i64 x.2.2.2] 89):=by rw[xM];exact qL w3 _
   have a0:=ah b4 0;clear O3 HTb VA b4;by_cases c9:x.1=9
   ·have c91:(x.1==9)=true:=by rw[beq_iff_eq];exact c9
    have HK9:Hid ((T.l.getD i default).1=9):=by rw[HXi.out];exact c9
    clear c9;rw[xM]at a0;go_wp2_with fail;rw[<-xM];clear xM a0 c91;have HGw:=zh (HG5.out W4 (SX.out.same (aaD.out.mono fun _ f=>f.elim)));refine(pW HGw.out).mono ?_;rintro e w5b ⟨rfl,rfl⟩;have Qi:Hid (Calls Tryz.prog 29 #[.pointer (some ⟨bb,0,none⟩)] w5b fun e w'=> ∃v us,e= .returned v/\CG w5b w' v us Bd.cls/\O0 w5b w'):=by obtain⟨V,hV⟩:=HGw.out.Jy;exact CS hV
    have HSh:Hid (∀k,(Bd.cls.getD k []).length<=1099511627):=fun k=>by
     obtain⟨V,hV⟩:=HGw.out.Jy;rcases yK k Bd.cls.length with h|h;·exact hV.short _ (getD_in h)
     rw[qC,List.getElem?_eq_none h];exact qE _
    have HFw:Hid (Bd.cls.length<=262144):=by obtain⟨V,hV⟩:=HGw.out.Jy;exact hV.few
    go_wp2_with fail;refine Qi.out.mono ?_;rintro e w6 ⟨vc,us,rfl,hOw,O6⟩;have arB:Hid (O0 dG w6):=aaD.out.same O6;have hCs:=hOw.Uf;obtain⟨acl,ccl,rfl,FM,gc2⟩:=hCs.shape;obtain⟨nc,hnc⟩:=ze Bd.cls.length;have YF:=zh hnc;have hfw:=HFw.out;rw[hnc]at hCs FM hfw⊢;have HCs:=zh hCs;clear O6 hOw hCs hnc Qi HGw HFw;go_wp2_with fail;go_loopw [38] (fun vk jJ=>Hid (O0 w6 jJ)/\∃k:Nat,vk= .int .i64 k/\k<=nc) (fun v _=>nc-(RowKit.intOf v).toNat);case atStart=>exact⟨show Hid _ from Only.refl _ _,0,rfl,qE _⟩
    case round=>
     obtain⟨jJ,rfl⟩:=zB wr;obtain⟨ajd,k,rfl,hk⟩:=hrel;have mX:Hid (O0 dG jJ):=arB.out.same ajd.out;by_cases ck:k<nc
     ·have TR:=zw (k+1);obtain⟨bcl,ocl,vc,ecl,-,hcell,hIc⟩:=(HCs.out.aN ajd.out).at (k:=k) (by rw[YF.out];exact ck);subst ecl;have hlc:(Bd.cls.getD k []).length<=1099511627:=HSh.out k;obtain⟨fc,hfc⟩:=ze (Bd.cls.getD k []);rw[hfc]at hIc hlc;have RN:=zh hIc;obtain⟨avc,cvc,rfl,-,-⟩:=hIc.shape;obtain⟨nvc,ad3⟩:=ze fc.length;rw[ad3]at RN hcell;have HDf:=zh (VN (HG5.out jJ (SX.out.same (mX.out.mono fun _ f=>f.elim))) RN.out zBk ((i:Int)+1) ⟨by omega,by omega⟩);clear hfc hIc hlc ad3;go_wp2_with fail;refine HDf.out.mono ?_;rintro e w7 ⟨v7,ok7,row,rfl,V8,hRn,hBr,O7⟩;have amP:=zh (ajd.out.same O7);have amQ:Hid (O0 dG w7):=mX.out.same O7;have arF:Hid (Only (fun k=>k=go) w5 w7):=SX.out.same (amQ.out.mono fun _ f=>f.elim);obtain⟨a7,c7,e7,-,-⟩:=V8.shape;clear O7 HDf;cases ok7 with
      |false=>
       subst e7;clear V8 hRn hBr;go_wp2_with fail;go_roundw;case rel=>exact⟨amP,k+1,by first|rfl|go_num,by omega⟩
       case measure=>simp[RowKit.intOf]<;>omega
      |true=>
       have hgk:=HGo.out;clear e7 a7 c7;obtain⟨nz,hnz⟩:=ze row.length;have HNz:=zh hnz;obtain⟨az,cz,rfl,VX,gz2⟩:=V8.shape;rw[hnz]at VX V8;have HIr:=zh V8;have HRn:=zh hRn;have HBr:Hid (∀k,Value.blk (.slice az nz cz)=some k->k≠go):=fun k hk e=>by rw[hnz]at hBr;have h1:=hBr k hk;have h2:=mX.out.size;have h3:=arx.out;have h4:=SX.out.size;omega
       rw[hnz];clear hnz V8 hRn hBr hgk;have yx:Hid (Only (fun k=>k=go) w5 w7):=arF.out;go_wp2_with fail;go_loopw [53] (fun vz wrz=>Hid (Only (fun k=>k=go) w5 wrz)/\Hid (Only (fun k=>k=go) w7 wrz)/\∃z:Nat,vz= .int .i64 z/\z<=nz/\∃ms:List Bool,Hid (wrz.ownsRow 0 4 1 (.slice (some ⟨go,0,none⟩) nt nt) nt (ms.map Value.bool))/\Hid (sQ T m0 ms)) (fun v _=>nz-(RowKit.intOf v).toNat);case atStart=>exact⟨yx,show Hid _ from Only.refl _ _,0,rfl,qE _,ms,show Hid _ from aI HV.out amQ.out (fun _ _ f=>f),HHt⟩
       case round=>
        obtain⟨wrz,rfl⟩:=zB wr;clear yx HV HHt;clear ms;obtain⟨Vy,amR,z,rfl,hz,ms,HV,HHt⟩:=hrel;have hml:ms.length=nt:=by rw[HHt.out.len];exact HM0.out
        by_cases czz:z<nz
        ·have ewz:=zw (z+1);obtain⟨q,hq⟩:=zG row z (by rw[HNz.out];exact czz);have hqr:=HRn.out q (qT hq);obtain⟨qn,rfl⟩:∃n:Nat,q=(n:Int)+1:=⟨(q-1).toNat,by omega⟩;have hqn:qn<nt:=by rw[Ja.out]at hqr;omega
         have hIz:Ints wrz (.slice az nz cz) row:=HIr.out.only' amR.out (fun _ k hk e=>HBr.out k hk e);obtain⟨bl,ol,hbl,U6⟩:=ints_at hIz hq;subst hbl;have gl:=U6.out wrz zr;have ewq:IntKind.i64.wrap ((qn:Int)+1-1)=(qn:Int):=by rw[qD];omega
         obtain⟨b1,hb1⟩:=ze (ms.getD i false);obtain⟨b2,hb2⟩:=ze (ms.getD qn false);have qc1:wrz.cell? ⟨go,i,none⟩=some (.bool b1):=by rw[HV.out.cellAt i zAC,List.getElem?_map,<-hb1,qC,qA zBk];rfl
         have qc2:wrz.cell? ⟨go,qn,none⟩=some (.bool b2):=by rw[HV.out.cellAt qn zAC,List.getElem?_map,<-hb2,qC,qA zBk];rfl
         have qf:=HV.out.frozenAt i;have NT:Hid (∀b:Bool,((∀i,ms.getD i false=false)->b=false)->Only (fun k=>k=go) w5 (wrz.setCell ⟨go,i,none⟩ (.bool b))/\Only (fun k=>k=go) w7 (wrz.setCell ⟨go,i,none⟩ (.bool b))/\(wrz.setCell ⟨go,i,none⟩ (.bool b)).ownsRow 0 4 1 (.slice (some ⟨go,0,none⟩) nt nt) nt ((ms.set i b).map Value.bool)/\sQ T m0 (ms.set i b)):=fun b hb=>by refine⟨Vy.out.setCell (p:=⟨go,i,none⟩) (.inl rfl) _,amR.out.setCell (p:=⟨go,i,none⟩) (.inl rfl) _,?_,HHt.out.set (n:=qn) HK9.out hb⟩;rw[List.map_set];exact(HV.out.stored i (.bool b)).1
         clear hq hIz U6 hml hqr;cases b1 with
         |true=>
          have HS2:=zh (NT.out true (fun h=>by rw[h i]at hb1;cases hb1));clear qc2 hb1 hb2 NT;go_wp2_with fail;go_roundw;case rel=>exact⟨HS2.out.1,HS2.out.2.1,z+1,by first|rfl|go_num,by omega,ms.set i true,HS2.out.2.2.1,HS2.out.2.2.2⟩
          case measure=>simp[RowKit.intOf]<;>omega
         |false=>
          have HS2:=zh (NT.out b2 (fun h=>by rw[<-hb2];exact h qn));clear hb1 hb2 NT;go_wp2_with fail;go_roundw;case rel=>exact⟨HS2.out.1,HS2.out.2.1,z+1,by first|rfl|go_num,by omega,ms.set i b2,HS2.out.2.2.1,HS2.out.2.2.2⟩
          case measure=>simp[RowKit.intOf]<;>omega
        obtain rfl:nz=z:=by omega
        go_wp2_with fail;go_roundw;case rel=>exact⟨Vy,i+1,by first|rfl|go_num,by omega,ms,HV,HHt⟩
        case measure=>simp[RowKit.intOf]<;>omega
     obtain rfl:nc=k:=by omega
     go_wp2_with fail;go_roundw;case rel=>exact⟨show Hid _ from SX.out.same (mX.out.mono fun _ f=>f.elim),i+1,by first|rfl|go_num,by omega,ms,show Hid _ from aI HV.out mX.out (fun _ _ f=>f),HHt⟩
     case measure=>simp[RowKit.intOf]<;>omega
   have c91:(x.1==9)=false:=by rw[yC];exact c9
   clear c9;rw[xM]at a0;go_wp2_with fail;rw[<-xM];clear xM a0;go_roundw;case rel=>exact⟨show Hid _ from SX.out.same (aaD.out.mono fun _ f=>f.elim),i+1,by first|rfl|go_num,by omega,ms,show Hid _ from aI HV.out aaD.out (fun _ _ f=>f),HHt⟩
   case measure=>simp[RowKit.intOf]<;>omega
  obtain rfl:nt=i:=by omega
  go_wp2_with fail;go_ret;have hnt:=Ja.out;exact⟨go,m0,ms,by rw[hnt];rfl,by rw[hnt];exact HV.out,by rw[hnt];exact HM0.out,by rw[hnt];exact HSo.out,HHt.out,qR bW.out.size HGo.out,(bW.out.same FI.out).trans SX.out fun k hk=>.inr (by have:=HGo.out;have:=bW.out.size;omega)⟩
end
theorem aaX(row:List Int):(tq row).length<=row.length*row.length:=by
 have h:∀k,(oI row k).length<=k*row.length:=fun k=>by
  induction k with
  |zero=>simp[oI]
  |succ k ih=>
   rw[CV,qK,Nat.succ_mul]
   have:(lX row k).length<=row.length:=by unfold lX;simp
   omega
 exact h row.length
theorem ad5(node:Int)(row:List Int):(zN node row).length<=row.length*row.length+row.length+1:=by have:=aaX row;unfold zN;simp;omega
theorem Gr.acV(S:TB)(node:Int)(ats:List At){n:Nat}(hn:ats.length<=n):Gr S (S.row node ats) n (n*n+n+1):=by
 have h1:=Gr.nums ats S;have e:(S.1.nums ats).2.length=ats.length:=lM ats S.1;unfold TB.row lu.one;have hm:=Nat.mul_le_mul hn hn;split;·exact h1.up hn (qE _)
 have h2:=h1.tr (Gr.adds (S.nums ats).1 (zN node (S.1.nums ats).2));have:=ad5 node (S.1.nums ats).2;rw[e]at this;exact h2.up zAC zBk
theorem Gr.vars(S:TB)(node:Int)(p:Nat){vs:List kS}(h:∀v∈vs,v.values.length<=10):∀j,Gr S (S.vars node p vs j) (10*j) (111*j)
 |0=>Gr.rfl'
 |j+1=>by
  have h0:(vs.getD j default).values.length<=10:=by
   rcases yK j vs.length with hj|hj
   ·exact h _ (getD_in hj)
   ·rw[qC,List.getElem?_eq_none hj];exact qE _
  exact((Gr.vars S node p h j).tr (Gr.acV _ node (kG p j (vs.getD j default).values.length) (n:=10) (by rw[xA.ZU];exact h0))).up zAC zBk
theorem Gr.pack(S:TB)(p:Nat){pk:iT}(h1:pk.bY.length<=10)(h2:pk.vars.length<=4)(h3:∀v∈pk.vars,v.values.length<=10):Gr S (S.pack p pk) 51 555:=by unfold TB.pack;have g1:=(Gr.num S (aJ p)).tr (Gr.acV (S.num (aJ p)).1 (S.1.num (aJ p)).2 (ku p pk.bY.length) (n:=10) (by rw[xA.ZT];exact h1));exact(g1.tr (Gr.vars _ (S.1.num (aJ p)).2 p h3 pk.vars.length)).up zAC zBk
theorem Gr.choices(x:aH):∀(l:List Nat) (S:TB),(∀p∈l,(x.pack p).bY.length<=10/\(x.pack p).vars.length<=4/\∀v∈(x.pack p).vars,v.values.length<=10)->Gr S (S.choices x l) (51*l.length) (555*l.length)
 | [],_,_=>Gr.rfl'
 |p::r,S,h=>by
  obtain⟨h1,h2,h3⟩:=h p qQ
  exact((Gr.pack S p h1 h2 h3).tr (Gr.choices x r _ fun q hq=>h q (yE _ hq))).up (by rw[qN];omega) zBW
theorem iQ.nums:∀(l:List At) {T:Tab},iQ T->iQ (T.nums l).1
 | [],_,h=>h
 |a::r,_,h=>iQ.nums r (h.num a)
theorem iQ.agY{S:TB}(h:iQ S.1)(node:Int)(p:Nat)(vs:List kS):∀j,iQ (S.vars node p vs j).1
 |0=>h
 |j+1=>iQ.nums _ (iQ.agY h node p vs j)
theorem iQ.choices(x:aH):∀(l:List Nat) {S:TB},iQ S.1->iQ (S.choices x l).1
 | [],_,h=>h
 |p::r,S,h=>iQ.choices x r (S:=S.pack p (x.pack p)) (iQ.agY (S:=TB.row ((S.1.num (aJ p)).1,S.2) (S.1.num (aJ p)).2 (ku p (x.pack p).bY.length)) (iQ.nums _ (h.num _)) _ _ _ _)
structure jf (x:aH) (q:fV):Prop where
 sm:rM x
 ch:GZ x q
 sp:∀z∈q.roots,jc z.spec
variable {x:aH} {q:fV}
theorem jf.aje(h:jf x q):∀p∈x.packs,Rz p:=fun p hp=>⟨(h.ch.all p hp).bY,fun d hd=>⟨((h.sm.all p hp).abw d hd).2.1,((h.sm.all p hp).abw d hd).1.1⟩,fun c hc=>⟨((h.sm.all p hp).abx c hc).1.1,((h.sm.all p hp).abx c hc).2.1⟩⟩
theorem jf.sizes(h:jf x q):Sizes x q 34 8:=acW h.ch.packs h.aje fun r hr=>(h.sp r hr).1
theorem jf.mid(h:jf x q):Fv x:=⟨by have:=h.ch.packs;omega,fun p hp=>by have:=(h.ch.all p hp).bY;omega,fun p hp=>by have:=(h.ch.all p hp).vars.1;omega,fun p hp v hv=>by have:=((h.ch.all p hp).vars.2 v hv).2;omega⟩
theorem jf.lt(_:jf x q):∀p∈x.closure q.names,p<x.packs.length:=fun _ hp=>(aH.lH.1 hp).lt
theorem jf.len(h:jf x q):(x.closure q.names).length<=8:=by have:=x.qm q.names;have:=h.ch.packs;omega
theorem zu{α β:Type}{f:α->List β}{M:Nat}:∀{l:List α},(∀y∈l,(f y).length<=M)->(l.flatMap f).length<=M*l.length
 | [],_=>qE _
 |a::r,h=>by
  rw[List.flatMap_cons,qK,qN,Nat.mul_succ]
  have h1:=h a qQ
  have h2:=zu (l:=r) fun y hy=>h y (yE _ hy)
  omega
theorem jf.rules(h:jf x q):(dV x q (x.closure q.names)).length<=200:=by
 unfold dV;rw[qK];have h1:(eU q q.roots.length).length=q.roots.length:=by unfold eU;simp
 have h2:=zu (f:=jr x) (M:=24) (l:=x.closure q.names) fun p hp=>by have ok:=h.ch.all _ (aH.iW (h.lt p hp));have a:=ok.deps;have b:=ok.cons;unfold jr jL lN;simp;omega
 have:=h.len;have:=h.ch.roots;rw[h1];omega
theorem jf.names(h:jf x q):(x.names q).length<=136:=by
 refine qR (x.QA q) ?_;unfold aH.sees;refine qR (yO _ _) ?_;rw[qK];have h1:q.names.length=q.roots.length:=by unfold fV.names;simp
 have h2:=zu (f:=fun p=>(x.pack p).deps.map fun d=>d.on.name) (M:=16) (l:=x.closure q.names) fun p hp=>by have:=(h.ch.all _ (aH.iW (h.lt p hp))).deps;simp;omega
 have:=h.len;have:=h.ch.roots;omega
noncomputable def VP (x:aH) (q:fV):Dn:=⟨x,q,x.closure q.names,dV x q (x.closure q.names),x.names q⟩
theorem jf.edq(h:jf x q)(hok:∀s∈x.names q,okS s):EdQ (VP x q):=by
 have hn:=h.names;have hr:=h.rules;have hl:=h.len;have sd:=fun p hp d hd=>(h.sm.all p hp).abw d hd;have sc:=fun p hp d hd=>(h.sm.all p hp).abx d hd;unfold jc at sd sc;have sr:=h.sp;unfold jc at sr;refine⟨⟨⟨h.lt,h.mid,?_⟩,rfl,?_,?_,fun p hp=>?_,fun p hp=>?_,fun r hr=>?_,fun p hp d hd=>?_,fun p hp d hd=>?_⟩,rfl,h.sm,hok,⟨34,fun i=>h.sizes.root i,fun p i=>h.sizes.dep p i,fun p i=>h.sizes.con p i,fun s=>qR (h.sizes.Jg s) zBk⟩,?_⟩;·show(x.names q).length<=_;omega
 ·show(dV x q (x.closure q.names)).length<=800;omega
 ·have:=h.ch.roots;show q.roots.length<=_;omega
 ·have:=(h.ch.all p hp).deps;omega
 ·have:=(h.ch.all p hp).cons;omega
 ·have:=(sr r hr).1;omega
 ·have:=sd p hp d hd;omega
 ·have:=sc p hp d hd;omega
 show(x.closure q.names).length<=_;omega
def T20:Tab:=⟨[],20000,0,false⟩
noncomputable def Bg (x:aH) (q:fV):TB:=TB.edges (TB.choices (T20,xA.B0) x (x.closure q.names)) x q (x.closure q.names) (x.names q) (dV x q (x.closure q.names))
theorem jf.gr(h:jf x q):Gr (T20,xA.B0) (TB.choices (T20,xA.B0) x (x.closure q.names)) 408 4440:=by
 have:=h.len;exact(Gr.choices x (x.closure q.names) (T20,xA.B0) fun p hp=>by
  have ok:=h.ch.all _ (aH.iW (h.lt p hp))
  exact⟨ok.bY,ok.vars.1,fun v hv=>by have:=(ok.vars.2 v hv).2;omega⟩).up zAC zBk
theorem jf.place(h:jf x q){t:Nat}(ht:t∈x.closure q.names):∃f∈(Bg x q).2.cls,AX (Bg x q).1 t f:=by have g:=h.gr;have hn:=h.names;have hr:=h.rules;have hl:=h.len;obtain⟨ds,e1,e2⟩:=g.cls;have e3:(T20,xA.B0).2.cls=([]:List (List Int)):=rfl;have e4:(T20,xA.B0).1.l=([]:List At):=rfl;have e5:(T20,xA.B0).1.limit=20000:=rfl;have hlen:=g.len;have hlim:=g.lim;rw[e4,List.length_nil]at hlen;rw[e5]at hlim;have hfl:=g.full (by rw[e4,e5,List.length_nil];omega);rw[e3,List.nil_append]at e1;refine UZ (K:=16640) (N:=60000) _ _ _ _ h.sizes (C:=77) (by omega) (by omega) zB7 zBy zAC zBk hfl (by rw[e1];omega) ht
theorem jf.neg(_:jf x q):aO (Bg x q).2:=(aO.choices YZ x _ (S:=(T20,xA.B0)) (fun c hc=>by cases hc)).edges YZ _ _ _ _ _
theorem DW{x:aH}{p:Nat}(hp:p<x.packs.length):x.pack p∈x.packs:=aH.iW hp
theorem jf.atw(h:jf x q):AtW (AtF x.packs.length) x (x.closure q.names):=by
 refine⟨h.lt,fun j=>.inr (.inr ⟨j,rfl⟩),fun p hp=>.inl ⟨p,hp,.inl rfl⟩,fun p i hp hi=>.inl ⟨p,hp,.inr (.inl ⟨i,?_,rfl⟩)⟩,fun p j k hp hj hk=>.inl ⟨p,hp,.inr (.inr (.inl ⟨j,k,?_,?_,rfl⟩))⟩,fun p k hp hk=>.inl ⟨p,hp,.inr (.inr (.inr (.inl ⟨k,hk,rfl⟩)))⟩,fun p t hp ht=>.inl ⟨p,hp,.inr (.inr (.inr (.inr (.inl ⟨t,?_,rfl⟩))))⟩,fun p r c hp hr hc=>.inl ⟨p,hp,.inr (.inr (.inr (.inr (.inr ⟨r,c,hr,by omega,rfl⟩))))⟩,fun m hm=>.inr (.inl ⟨m,hm,.inl rfl⟩),fun r hr=>.inr (.inl ⟨r,hr,.inr rfl⟩)⟩;·have:=(h.ch.all _ (DW hp)).bY;omega
 ·have:=(h.ch.all _ (DW hp)).vars.1;omega
 ·have:=((h.ch.all _ (DW hp)).vars.2 _ (getD_in hj)).2;omega
 have:=h.ch.packs;omega
theorem QC{E:ES}{n p t:Nat}(h:∀e∈E.2.of.map Prod.fst,e.1<n/\e.2<n)(hp:p<n)(ht:t<n)(a:Int):∀e∈(E.goes p t a).1.2.of.map Prod.fst,e.1<n/\e.2<n:=by exact zD1
theorem jf.ad6(h:jf x q):∀y∈dV x q (x.closure q.names),Nv x y:=fun y hy=>by
 intro hk
 rcases vX hy with⟨k,hk',rfl⟩| ⟨p,k,hp,hk',rfl⟩| ⟨p,k,hp,hk',rfl⟩
 ·simp at hk
 ·have:=(h.ch.all _ (DW (h.lt p hp))).deps
  exact⟨by have:=h.lt p hp;simpa using this,by simp;omega⟩
 ·simp at hk
theorem KI.depend{n:Nat}{E:ES}(h:∀e∈E.2.of.map Prod.fst,e.1<n/\e.2<n)(hx:n=x.packs.length)(l:List Nat)(names:List Str)(r:Nat){p:Nat}(k:Nat)(d:uY)(hp:p<n):∀e∈(E.depend x l names r p k d).2.of.map Prod.fst,e.1<n/\e.2<n:=by
 unfold ES.depend;dsimp only;split;·exact QC (E:=(_,E.2)) h hp (by have:=x.vP d.on.name;omega) _
 split;·exact h
 have hpr:∀t∈x.eG d.on.name,t<n:=fun t ht=>by have:=aH.VL ht;omega
 generalize x.eG d.on.name=ts at hpr⊢;have key:∀(ts:List Nat) (E:ES) (A:Int),(∀t∈ts,t<n)->(∀e∈E.2.of.map Prod.fst,e.1<n/\e.2<n)->∀e∈(ts.foldl (fun E t=>
   let D:=E.1.num (aJ t)
   let G:=ES.goes (D.1,E.2) p t A
   (G.1.1.dD [-A,-D.2,G.2],G.1.2)) E).2.of.map Prod.fst,e.1<n/\e.2<n:=by
  intro ts
  induction ts with
  |nil=>exact fun E A _ h=>h
  |cons t r ih=>
   intro E A ht h
   rw[List.foldl_cons]
   exact ih _ A (fun u hu=>ht u (yE _ hu)) (QC (E:=((E.1.num (aJ t)).1,E.2)) h hp (ht t qQ) A)
 exact key ts _ _ hpr h
theorem jf.keys(h:jf x q)(S:TB):agN x (S.pF x q (x.closure q.names) (x.names q) (dV x q (x.closure q.names))).2:=by
 have key:∀(rs:List dH) (E:ES),(∀y∈rs,Nv x y)->(∀e∈E.2.of.map Prod.fst,e.1<x.packs.length/\e.2<x.packs.length)->∀r,r<=rs.length->∀e∈(E.rules x q (x.closure q.names) (x.names q) rs r).2.of.map Prod.fst,e.1<x.packs.length/\e.2<x.packs.length:=by
  intro rs E hy h0 r
  induction r with
  |zero=>exact fun _=>h0
  |succ r ih=>
   intro hr
   have h1:=ih zBk
   have hy1:=hy _ (getD_in (l:=rs) (i:=r) zBk)
   show∀e∈(ES.rule (E.rules x q (x.closure q.names) (x.names q) rs r) x q (x.closure q.names) (x.names q) r (rs.getD r default)).2.of.map Prod.fst,_
   generalize E.rules x q (x.closure q.names) (x.names q) rs r=E1 at h1⊢
   generalize rs.getD r default=y at hy1⊢
   unfold ES.rule
   by_cases c1:y.kind=1
   ·rw[if_pos c1,Kz];exact h1
   ·rw[if_neg c1]
    by_cases c2:y.kind=2
    ·rw[if_pos c2];exact KI.depend h1 rfl _ _ _ _ _ (hy1 c2).1
    ·rw[if_neg c2]
     by_cases c3:y.kind=3
     ·rw[if_pos c3,yh];exact h1
     ·rw[if_neg c3];exact h1
 exact key _ _ h.ad6 (fun e he=>by cases he) _ (qH _)
theorem jf.forms(h:jf x q):∀a∈(Bg x q).1.l,AtF x.packs.length a:=by
 have h0:jQ (AtF x.packs.length) (TB.choices (T20,xA.B0) x (x.closure q.names)).1:=fun a ha=>by
  obtain⟨p,hp,hh⟩:=xA.acw (x:=x) (T:=T20) rfl xA.B0 a ha;have hlt:=h.lt p hp;have hm:=aH.iW hlt;have hr:=(h.ch.all _ hm).bY;have hv:=(h.ch.all _ hm).vars;rcases hh with e| ⟨i,hi,e⟩| ⟨j,k,hj,hk,e⟩;·exact .inl ⟨p,hlt,.inl e⟩
  ·exact .inl ⟨p,hlt,.inr (.inl ⟨i,by omega,e⟩)⟩
  have h2:=(hv.2 _ (getD_in hj)).2;have h3:=hv.1;exact .inl ⟨p,hlt,.inr (.inr (.inl ⟨j,k,by omega,by omega,e⟩))⟩
 exact jQ.edges h.atw h0 q (by have:=h.names;omega) h.ad6 (by have:=h.rules;omega) (h.keys _)
theorem none_true{g:GD}{T:Tab}{B:lu}(hn:aO B)(hf:∀a∈T.l,AtF g.x.packs.length a)(hon:¬sN g){m0 ms:List Bool}(hlen:m0.length=T.l.length)(hso:∀i,i<T.l.length->SoP g (T.l.getD i default) (m0.getD i false))(hh:sQ T m0 ms)(hno:∀p:Nat,fQ g.c (p:Int)=false):iE.holdsB B.cls ms=true:=by
 refine U0 hn (hh.none fun i=>?_);rcases yK i T.l.length with hi|hi
 ·cases hb:m0.getD i false with
  |false=>rfl
  |true=>
   rcases(hso i hi).any hb with h|h;·exact absurd h hon
   exfalso;have ha:=hf (T.l.getD i default) (by rw[qC,qA hi];exact qZ hi);have hp:∃p:Nat,(T.l.getD i default).2.1=(p:Int):=by generalize T.l.getD i default=a at ha;rcases ha with⟨p,-,rfl| ⟨i,-,rfl⟩| ⟨j,k,-,-,rfl⟩| ⟨k,-,rfl⟩| ⟨t,-,rfl⟩| ⟨r,c,-,-,rfl⟩⟩| ⟨m,-,rfl|rfl⟩| ⟨j,rfl⟩<;>exact⟨_,rfl⟩
   obtain⟨p,e⟩:=hp;rw[e,hno p]at h;cases h
 rw[qC,List.getElem?_eq_none zBk];rfl
theorem Yd{g:GD}{T:Tab}{B:lu}(hl:T.l.length<=65536)(hnd:T.l.Nodup){t:Nat}(ht:fQ g.c (t:Int)=true){f:List Int}(hf:f∈B.cls)(hbr:AX T t f)(hon:¬sN g){m0 ms:List Bool}(hso:∀i,i<T.l.length->SoP g (T.l.getD i default) (m0.getD i false))(hh:sQ T m0 ms):iE.holdsB B.cls ms=false:=by
 refine Ry hl hbr hf (s:=fun a=>if a=aJ t then true else if a∈T.l then m0.getD (T.l.idxOf a) false else false) (fun i hi h9=>?_) zAM (fun a ha=>?_)
 ·have hmem:T.l.getD i default∈T.l:=by rw[qC,qA hi];exact qZ hi
  rw[hh.same i h9];have e0:T.l.getD i default=T.l[i]:=by rw[qC,qA hi];rfl
  by_cases e:T.l.getD i default=aJ t;·rw[if_pos e];have:=(hso i hi).node (by rw[e];rfl);rw[e]at this;rw[this];exact ht
  rw[if_neg e,if_pos hmem];have e2:T.l.idxOf (T.l.getD i default)=i:=by rw[e0];exact hnd.idxOf_getElem i hi
  rw[e2]
 have hne:a≠aJ t:=fun e=>YX ha e.symm;rw[if_neg hne];by_cases hm:a∈T.l
 ·rw[if_pos hm];have hi:=List.idxOf_lt_length_of_mem hm;have e0:T.l.getD (T.l.idxOf a) default=a:=by rw[qC,qA hi];exact List.getElem_idxOf hi
  have h:=(hso _ hi).on;rw[e0]at h;cases hb:m0.getD (T.l.idxOf a) false with
  |false=>rfl
  |true=>exact absurd (h (by rcases ha with⟨r,rfl⟩| ⟨p,u,rfl⟩<;>simp[iK,lC]) hb) hon
 rw[if_neg hm]
def JU:List jY:=[⟨bs [],bs []⟩]
def oD:aH:=⟨[⟨bs [97],0,[⟨bs [49],false⟩],[],[],[⟨⟨bs [98],JU,[]⟩,⟨bs [],JU,[]⟩,0⟩],[],[]⟩,⟨bs [98],0,[⟨bs [49],false⟩],[],[],[],[],[]⟩],[]⟩
def lU:fV:=⟨[⟨⟨bs [97],JU,[]⟩,0⟩]⟩
theorem af0:oD.targets (bs [97])=[0]:=by decide
theorem af2:oD.targets (bs [98])=[1]:=by decide
theorem Ig:oD.closure lU.names=[0,1]:=by have h0:oD.Reach lU.names 0:=.root (s:=bs [97]) (by simp[fV.names,lU]) (by rw[af0];simp);have h1:oD.Reach lU.names 1:=.step (k:=0) (d:=⟨⟨bs [98],JU,[]⟩,⟨bs [],JU,[]⟩,0⟩) h0 (by simp[aH.pack,oD]) (by rw[af2];simp);unfold aH.closure;rw[show List.range oD.packs.length=[0,1] from rfl];simp[h0,h1]
theorem NH:oD.names lU=[]:=by
 have h:oD.sees lU=[]:=by unfold aH.sees;rw[Ig];decide
 have h2:=oD.QA lU;rw[h]at h2;exact yF (by simpa using h2)
def SY:List dH:=[⟨1,-1,0,0⟩,⟨2,0,0,0⟩]
theorem Ye:dV oD lU [0,1]=SY:=by rfl
def T14:Tab:=⟨[],1000,0,false⟩
def QD:List At:=[iK 0,dU 0 0 1,aJ 0,lW 0 0,iK 1,dU 0 1 0,dU 1 1 1,aJ 1,lC 0 1]
def amS:List (List Int):=[[-2,3],[2,-3],[-1,2],[-6,3],[6,-3],[-4,5],[-4,6],[4,-5,-6],[-7,8],[7,-8],[-4,7],[-4,9],[-9,3],[-9,8],[-9,4],[-3,1],[-8,9]]
theorem aaZ:(TB.pF (T14,xA.B0) oD lU [0,1] [] SY).2.of=[((0,1),[4])]:=by rfl
theorem Ih:(TB.pF (T14,xA.B0) oD lU [0,1] [] SY).2.edges=[(0,1)]:=by unfold iM.edges;rw[aaZ];exact List.mergeSort_singleton _
theorem amT:(TB.edges (T14,xA.B0) oD lU [0,1] [] SY).1=⟨QD,1000,0,false⟩:=by unfold TB.edges;dsimp only;rw[Ih];kernel_rfl
theorem agZ:(TB.edges (T14,xA.B0) oD lU [0,1] [] SY).2=xA.B0.adds amS:=by unfold TB.edges;dsimp only;rw[Ih];kernel_rfl
theorem QE:∀(cs:List (List Int)) (B:lu) {f:List Int},f∈B.cls->f∈(B.adds cs).cls
 | [],_,_,h=>h
 |c::r,B,f,h=>QE r (B.add c) (by
  unfold lu.add
  split
  ·exact h
  ·split
   ·exact h
   ·split
    ·exact h
    ·exact List.mem_append_left _ h)
theorem af4(B:lu)(c:List Int):(B.add c).cls.length<=B.cls.length+1:=by
 unfold lu.add;split;·exact Nat.le_succ _
 split;·exact Nat.le_succ _
 split;·exact Nat.le_succ _
 simp
theorem NI{c f:List Int}(hf:iE.form c=some f)(hw:c.any iE.wr=false):∀(cs:List (List Int)) (B:lu),c∈cs->B.cls.length+cs.length<=262144->f∈(B.adds cs).cls
 | [],_,h,_=>by cases h
 |d::r,B,h,hl=>by
  rw[qN]at hl
  show f∈((B.add d).adds r).cls
  rcases qY.1 h with rfl|h
  ·refine QE r _ ?_
   unfold lu.add
   rw[if_neg (by rw[hw];simp),hf]
   dsimp only
   rw[if_neg zBk]
   exact List.mem_append_right _ qQ
  ·exact NI hf hw r (B.add d) h (by have:=af4 B d;omega)
theorem VQ(a b:Int)(ha:a≠0/\a.natAbs<=65536)(hb:b≠0/\b.natAbs<=65536)(h:a≠ -b):∃f,iE.form [a,b]=some f/\[a,b].any iE.wr=false:=by
 have hl:∀x∈[a,b],x≠0/\x.natAbs<=65536:=fun x hx=>by
  simp at hx;rcases hx with rfl|rfl;·exact ha
  exact hb
 obtain⟨f,hf,-⟩:=xA.zM hl (fun x hx=>by
  simp at hx
  rcases hx with rfl|rfl<;>simp<;>omega)
 exact⟨f,hf,xA.G5 hl⟩
theorem amU:∃f1 f2,iE.form [-4,9]=some f1/\iE.form [-4,7]=some f2/\f1∈(TB.edges (T14,xA.B0) oD lU [0,1] [] SY).2.cls/\f2∈(TB.edges (T14,xA.B0) oD lU [0,1] [] SY).2.cls:=by
 obtain⟨f1,h1,w1⟩:=VQ (-4) 9 zB1 zBl zAG;obtain⟨f2,h2,w2⟩:=VQ (-4) 7 zB1 zBl zAG;refine⟨f1,f2,h1,h2,?_,?_⟩;·rw[agZ];exact NI h1 w1 _ _ zBl zAG
 rw[agZ];exact NI h2 w2 _ _ zBl zAG
theorem Yf:numOf QD (lW 0 0)=4/\numOf QD (lC 0 1)=9/\numOf QD (dU 1 1 1)=7:=by decide
theorem Zl:jf oD lU:=by
 refine⟨⟨by decide,by decide,fun p hp=>?_⟩,⟨by decide,fun p hp=>?_,by decide⟩,by decide⟩;·simp only[oD,qY,List.not_mem_nil,or_false]at hp;rcases hp with rfl|rfl<;>exact⟨by decide,by decide,by decide,by decide,by decide,by decide,by decide⟩
 simp only[oD,qY,List.not_mem_nil,or_false]at hp;rcases hp with rfl|rfl<;>exact⟨by decide,by decide,⟨by decide,fun v hv=>by cases hv⟩,by decide,by decide,by decide⟩
end Go.Proofs.YtdmmebjjojimiaaGreatDoor
namespace Go.Proofs
theorem zBu{p:Prop}(h:p:=by first|exact((Only.refl _ wc).alloc _).drewN _|exact((Only.refl _ wc).drewN _).alloc _):p:=h
theorem zE8{p:Prop}(h:p:=by
 intro v5 w5 R5 O5 N5
 have hle:j+1+(o.length-j)=(o.take j++[x]++o.drop j).length:=zAd
 have R5b:w5.ownsRow 0 3 1 v5 (o.take j++[x]++o.drop j).length ((o.take j++[x]++o.drop j).map cI):=by rw[<-hle];simpa using R5
 have Wy:∀k,v5.ownBlock=some k->wc.heap.size<=k:=by
  intro k hk
  rcases N5 k hk with h|h
  ·simp[Value.ownBlock]at h;omega
  ·have:=OW4.size;omega
 have OW5:O0 w w5:=(O2.same OW4).trans O5 fun i hi=>by simp[Value.ownBlock]at hi;have:=O2.size;exact .inr zBk
 obtain⟨g5,c5,rfl,_,_⟩:=fJ R5b zAd
 have hlen5:(o.take j++[x]++o.drop j).length<=k+1:=zAd
 have hn6:=Wy g5 rfl
 clear R5 O5 N5 Wy
 go_wp2_with fail
 go_roundw
 case rel=>exact⟨k+1,g5,c5,_,by go_num,by omega,rfl,hlen5,HG.out,R5b,by have:=O2.size;omega,OW5⟩
 case measure=>simp[intOf];omega):p:=h
theorem zFD{p:Prop}(h:p:=by
 intro ad had t u hu
 obtain rfl:=Option.some.inj had
 have htj:t<j:=by
  have:=(qJ.1 hu).1
  simp at this;omega
 show(wc.alloc (.cells #[] 3)).cell? _=_
 rw[Go.WideShapes.add_plain,Nat.zero_add,World.cell?_alloc_past _ _ _ hlt2,qo R2 zBk,<-hu]
 simp[qC,List.getElem?_take,htj,show t<o.length by omega,cI]):p:=h
theorem zFE{p:Prop}(h:p:=by
 intro ad had t u hu
 obtain rfl:=Option.some.inj had
 have htj:t<o.length-j:=by
  have:=(qJ.1 hu).1
  simpa using this
 rw[Go.WideShapes.add_plain,qo R2d zBk,<-hu]
 simp[qC,show j+t<o.length by omega,cI]):p:=h
theorem zEP{p:Prop}(h:p:=by
 intro k hk
 rcases N3 k hk with h|h
 ·simp[Value.ownBlock]at h;omega
 ·simp at h;omega):p:=h
theorem zEn{p:Prop}(h:p:=by
 rcases qW.1 hy with h|h
 ·exact G.lit y h
 ·simp at h;subst h;exact hx):p:=h
theorem zEr{p:Prop}(h:p:=by
 rcases h4 with h|h
 ·exact hn3 _ h
 ·have:=OW3.size;simp at h;omega):p:=h
end Go.Proofs
namespace Go.Proofs.YtdmmebjjojimiaaGreatDoor
open Go.RowKit
namespace iE
structure Yg (xs o:List Int):Prop where
 lit:∀x∈xs,Lit x
 ord:nG o
 mem:∀y,y∈o↔y∈xs
def Less(o:List Int)(x:Int)(k:Nat):Prop:=k<=o.length/\∀j,j<k->(o.getD j 0).natAbs<x.natAbs
theorem Yg.same{xs o:List Int}{x:Int}(G:Yg xs o)(hx:Lit x)(hm:x∈o):Yg (xs++[x]) o:=by
 refine⟨fun y hy=>?_,G.ord,fun y=>?_⟩;·exact zEn
 rw[G.mem,qW];simp only[yJ];exact⟨.inl,fun h=>h.elim id (fun e=>by subst e;exact(G.mem _).1 hm)⟩
theorem Yg.put{xs o:List Int}{x:Int}(G:Yg xs o)(hx:Lit x){k:Nat}(hL:Less o x k)(hk:k<o.length->x.natAbs<(o.getD k 0).natAbs):Yg (xs++[x]) (o.take k++[x]++o.drop k):=by
 have hsplit:∀y,y∈o↔y∈o.take k\/y∈o.drop k:=fun y=>by rw[<-qW,List.take_append_drop]
 refine⟨fun y hy=>?_,?_,fun y=>?_⟩;·exact zEn
 ·have hP:=G.ord;unfold nG at*;have h1:∀y∈o.take k,y.natAbs<x.natAbs:=by
   intro y hy;obtain⟨j,hj,rfl⟩:=List.getElem_of_mem hy;have hj':j<k:=by simp at hj;omega
   have:=hL.2 j hj';have hlen:=hL.1;simpa[qC,show j<o.length by omega]using this
  have h2:∀y∈o.drop k,x.natAbs<y.natAbs:=by
   intro y hy;obtain⟨j,hj,rfl⟩:=List.getElem_of_mem hy;simp at hj;have hk1:k<o.length:=zBk;have h3:=hk hk1;have e:o.getD k 0=o[k]:=by simp[qC,hk1]
   rw[e]at h3;rw[List.getElem_drop];rcases Nat.eq_zero_or_pos j with rfl|hj0;·simpa using h3
   have:=(List.pairwise_iff_getElem.1 hP) k (k+j) hk1 zAC zBk;omega
  rw[yW,List.pairwise_append];refine⟨hP.sublist (List.take_sublist _ _),?_,?_⟩;·rw[List.singleton_append,List.pairwise_cons];exact⟨h2,hP.sublist (List.drop_sublist _ _)⟩
  intro a ha b hb;rw[List.singleton_append,qY]at hb;rcases hb with rfl|hb;·exact h1 a ha
  have:=h1 a ha;have:=h2 b hb;omega
 rw[qW,qW,qW,yJ,<-G.mem,hsplit];constructor
 ·rintro((h|h)|h);·exact .inl (.inl h)
  ·exact .inr h
  exact .inl (.inr h)
 rintro((h|h)|h);·exact .inl (.inl h)
 ·exact .inr h
 exact .inl (.inr h)
theorem natAbs_eq{x y:Int}(h1:¬y.natAbs<x.natAbs)(h2:y≠ -x)(h3:y≠x):x.natAbs<y.natAbs:=by omega
end iE
def wG(w:World)(xs:List Int)(e:Ending)(w':World):Prop:=
 match iE.form xs with
 |none=> ∃v,e= .returned (.tuple #[v,.bool false])/\w'.ownsRow 0 3 1 v 0 []/\(∀k,v.ownBlock=some k->w.heap.size<=k)/\O0 w w'
 |some l=> ∃v,e= .returned (.tuple #[v,.bool true])/\w'.ownsRow 0 3 1 v l.length (l.map cI)/\(∀k,v.ownBlock=some k->w.heap.size<=k)/\O0 w w'
theorem QF{w:World}{v:Value}{xs:List Int}(hI:Ints w v xs)(hb:xs.length<=1099511627):Calls Tryz.prog 68 #[v] w (wG w xs):=by
 obtain⟨ao,cap,rfl,hl,hm⟩:=hI.shape;go_enter Tryz.func68,Tryz.ntmps68;go_wp2_with fail;go_loopw [4,11] (fun vo v wr=> ∃(k g c0:Nat) (o:List Int),v= .int .i64 k/\k<=xs.length/\vo= .slice (some ⟨g,0,none⟩) o.length c0/\o.length<=k/\iE.Yg (xs.take k) o/\wr.ownsRow 0 3 1 (.slice (some ⟨g,0,none⟩) o.length c0) o.length (o.map cI)/\w.heap.size<=g/\O0 w wr) (fun _ v _=>xs.length-(intOf v).toNat);case atStart=>refine⟨0,w.heap.size,0,[],rfl,qE _,rfl,qH _,⟨by simp,by simp[iE.nG],by simp⟩,wI w,qH _,zr.alloc _⟩
 case round=>
  obtain⟨k,g,c0,o,rfl,hk,rfl,hok,G1,R1,hg,O1⟩:=hrel;by_cases c:k<xs.length
  ·obtain⟨b,off,rfl,hbb,hc⟩:=(hI.aN O1).cells _ _ _ rfl zBk;have hcell:=hc k c;have hts:=Ws xs k c;have hmem:xs.getD k 0∈xs:=by rw[qC,qA c];exact qZ c
   have hr:=hI.range' k;clear hc;generalize hx:xs.getD k 0=x at*;have HX:=zh hx;have HTS:=zh hts;clear hx hts;cases hw:iE.wr x
   ·have af5:iE.Lit x:=⟨hr,hw⟩;have HW:=zh hw;clear hw;go_wp2_with fail;refine(wU x hr false HW.out).mono ?_;rintro e w' ⟨rfl,rfl⟩;have hoL:∀i,i<o.length->iE.Lit (o.getD i 0):=fun i hi=>G1.lit _ ((G1.mem _).1 (by rw[qC,qA hi];exact qZ hi));have HOL:=zh hoL;clear hoL;go_upto_block 2 with fail;go_cut [6] (fun v wx=> ∃j:Nat,v= .int .i64 j/\iE.Less o x j/\(j<o.length->¬(o.getD j 0).natAbs<x.natAbs)/\wx.ownsRow 0 3 1 (.slice (some ⟨g,0,none⟩) o.length c0) o.length (o.map cI)/\O0 w wx);case first=>
     go_wp2_with fail;go_loopw [6] (fun v wr=> ∃j:Nat,v= .int .i64 j/\j<=o.length/\iE.Less o x j/\wr.ownsRow 0 3 1 (.slice (some ⟨g,0,none⟩) o.length c0) o.length (o.map cI)/\O0 w wr) (fun v _=>o.length-(intOf v).toNat);case atStart=>exact⟨0,rfl,qE _,⟨qE _,fun j hj=>by omega⟩,R1,O1⟩
     case round=>
      clear R1 O1 hcell;obtain⟨j,rfl,hj,hL,R2,O2⟩:=hrel;have HL:=zh hL;clear hL;by_cases cj:j<o.length
      ·obtain⟨b',off',he,_,hc'⟩:=(hI.aN O2).cells _ _ _ rfl zBk;simp only[qG,qO,and_true]at he;obtain⟨rfl,rfl⟩:=he;have q1:=hc' k c;rw[HX.out]at q1;have q2:wr.cell? ⟨g,j,none⟩=some (.int .i64 (o.getD j 0)):=qo R2 cj;have hy:=HOL.out j cj;have e1:(j:Int)<(o.length:Int):=zBk;have e2:(k:Int)<(xs.length:Int):=zBk;have e3:decide ((j:Int)<(o.length:Int))=true:=qX e1;clear hc';have ax:=fun W=>(GL (w:=W) x hr HW.out).mono fun _ _ h=>(⟨h.1,h.2.symm⟩:_/\_=W);have ay:=fun W=>(GL (w:=W) (o.getD j 0) hy.r hy.w).mono fun _ _ h=>(⟨h.1,h.2.symm⟩:_/\_=W);have HAX:=zh ax;have HAY:=zh ay;clear ax ay;generalize hyy:o.getD j 0=y at*;have HYY:=zh hyy;clear hyy;by_cases hlt:y.natAbs<x.natAbs
       ·have e4:decide (y.natAbs<x.natAbs)=true:=qX hlt;generalize hxa:x.natAbs=xa at*;generalize hya:y.natAbs=ya at*;have HXA:=zh hxa;have HYA:=zh hya;clear hxa hya;go_wp2_with fail;go_quiet (first
         | (go_at_call_of 98 (Value.int IntKind.i64 y);exact Calls.quiet_of_same (HAY.out _))
         | (go_at_call_of 98 (Value.int IntKind.i64 x);exact Calls.quiet_of_same (HAX.out _)))
        go_wp2_with fail;go_roundw;case rel=>
         refine⟨j+1,by go_num,by omega,⟨by omega,fun i hi=>?_⟩,R2,O2.drewN _⟩;rcases yK i j with h1|h1;·exact HL.out.2 i h1
         rw[show i=j by omega,HYY.out,HXA.out,HYA.out];exact hlt
        case measure=>simp[intOf];omega
       have e4:decide (y.natAbs<x.natAbs)=false:=qP hlt;generalize hxa:x.natAbs=xa at*;generalize hya:y.natAbs=ya at*;have HXA:=zh hxa;have HYA:=zh hya;clear hxa hya;go_wp2_with fail;go_quiet (first
        | (go_at_call_of 98 (Value.int IntKind.i64 y);exact Calls.quiet_of_same (HAY.out _))
        | (go_at_call_of 98 (Value.int IntKind.i64 x);exact Calls.quiet_of_same (HAX.out _)))
       go_wp2_with fail;go_meet;exact⟨j,rfl,HL.out,fun _=>by rw[HYY.out,HYA.out];exact hlt,R2,O2.drewN _⟩
      have e1:decide ((j:Int)<(o.length:Int))=false:=qP zBk;go_wp2_with fail;go_quiet (fail);go_wp2_with fail;go_meet;exact⟨j,rfl,HL.out,fun h=>absurd h cj,R2,O2.drewN _⟩
    case rest=>
     clear R1 O1 hcell;obtain⟨j,rfl,hL,hN,R2,O2⟩:=hcut;have HL:=zh hL;have HN:=zh hN;clear hL hN;obtain⟨b',off',he,amV,hc'⟩:=(hI.aN O2).cells _ _ _ rfl zBk;simp only[qG,qO,and_true]at he;obtain⟨rfl,rfl⟩:=he;have q1:=hc' k c;rw[HX.out]at q1;have e2:(k:Int)<(xs.length:Int):=zBk;obtain⟨nx,ajf⟩:=zB (-x);have hnx:IntKind.i64.wrap (-x)=nx:=by rw[ajf];exact af5.wrap
     have HNX:=zh ajf;clear ajf;clear hc';by_cases cj:j<o.length
     ·have q2:wc.cell? ⟨g,j,none⟩=some (.int .i64 (o.getD j 0)):=qo R2 cj;have e1:(j:Int)<(o.length:Int):=zBk;have e3:decide ((j:Int)<(o.length:Int))=true:=qX e1;have hmo:o.getD j 0∈o:=by rw[qC,qA cj];exact qZ cj
      by_cases y1:o.getD j 0=nx
      ·have hform:iE.form xs=none:=by refine iE.abN hI.range hmem ?_;have:=(G1.mem _).1 hmo;rw[y1,HNX.out]at this;exact List.mem_of_mem_take this
       have HF:=zh hform;clear hform;have e4:(o.getD j 0==nx)=true:=beq_iff_eq.2 y1;clear y1 hmo;generalize o.getD j 0=y at*;go_wp2_with fail;go_quiet (fail);go_wp2_with fail;go_ret2;unfold wG;rw[HF.out];exact⟨_,rfl,wI _,fun k hk=>by simp[Value.ownBlock]at hk;have:=O2.size;simp at hk⊢;omega,(O2.drewN _).alloc _⟩
      by_cases y2:o.getD j 0=x
      ·have hgr:=G1.same af5 (by rw[<-y2];exact hmo);rw[<-HTS.out]at hgr;have HG:=zh hgr;have e4:(o.getD j 0==nx)=false:=yC.2 y1;have e5:(o.getD j 0==x)=true:=beq_iff_eq.2 y2;clear hgr y1 y2 hmo;generalize o.getD j 0=y at*;go_wp2_with fail;go_quiet (fail);go_wp2_with fail;go_quiet (fail);go_wp2_with fail;go_roundw;case rel=>exact⟨k+1,g,c0,o,by go_num,by omega,rfl,by omega,HG.out,R2,hg,O2.drewN _⟩
       case measure=>simp[intOf];omega
      have hK:j<o.length->x.natAbs<(o.getD j 0).natAbs:=fun h=>iE.natAbs_eq (HN.out h) (by rw[<-HNX.out];exact y1) y2;have hgr:=G1.put af5 HL.out hK;rw[<-HTS.out]at hgr;have HG:=zh hgr;clear hgr;have e4:(o.getD j 0==nx)=false:=yC.2 y1;have e5:(o.getD j 0==x)=false:=yC.2 y2;clear y1 y2 hmo hK;generalize hyy:o.getD j 0=y at*;clear hyy;go_wp2_with fail;go_quiet (fail);go_wp2_with fail;go_quiet (fail);have hjl:=HL.out.1;have hlt2:=dX R2 (k:=g) rfl;obtain⟨_,_,OJ,hoc,_⟩:=aC R2;simp only[qU]at OJ;obtain⟨-,-,rfl⟩:=OJ;go_wp2_with (at_builtin;go_must (refine KO kJ (n:=0) (v:=.slice (some ⟨wc.heap.size,0,none⟩) 0 0) (xs:=[]) (ao:=some ⟨g,0,none⟩) (m:=j) (c:=c0) (news:=(o.take j).map cI) rfl (.tmp 72) (.tmp 75) rfl rfl ?ajg rfl ?al zBz ?ad8 (zy _) zAC zBk ?aK));case ajg=>exact wI wc
      case al=>simp;omega
      case ad8=>exact zFD
      case aK=>
       intro v3 w3 R3 O3 N3;have R3b:w3.ownsRow 0 3 1 v3 j ((o.take j).map cI):=by simpa using R3
       have hn3:∀k,v3.ownBlock=some k->wc.heap.size<=k:=by exact zEP
       have OW3:O0 wc w3:=Only.trans zBu O3 (fun i hi=>by simp[Value.ownBlock]at hi;exact .inr zBk);have R2c:=aI R2 OW3 (fun _ _ f=>f);have q3:=q1;rw[<-World.cell?_of_block (w:=wc) (OW3.block b amV (fun f=>f))]at q3;obtain⟨a3,c3,rfl,_,_⟩:=aC R3b;have hlt3:=dX R2c (k:=g) rfl;clear R3 O3 N3 q1;go_wp2_with (at_builtin;go_must (refine tC kJ (u:=.int .i64 x) (n:=j) (v:=.slice a3 j c3) (xs:=(o.take j).map cI) rfl (.tmp 77) (.tmp 82) rfl rfl rfl ?bc rfl ?ajh zAC zBk ?bK));case bc=>exact cell_new0 w3 _ _
       case ajh=>exact R3b.alloc _
       case bK=>
        intro v4 w4 R4 O4 S4;have R4b:w4.ownsRow 0 3 1 v4 (j+1) ((o.take j++[x]).map cI):=by simpa[cI]using R4
        obtain⟨g4,c4,rfl,_,_,h4⟩:=S4;have hn4:wc.heap.size<=g4:=by exact zEr
        have OW4:O0 wc w4:=(OW3.alloc _).trans O4 fun i hi=>.inr (hn3 i hi);have R2d:=aI R2 OW4 (fun _ _ f=>f);have hlt4:=dX R2d (k:=g) rfl;clear R4 O4 h4 q3;go_wp2_with (at_builtin;go_must (refine KO kJ (n:=j+1) (v:=.slice (some ⟨g4,0,none⟩) (j+1) c4) (xs:=(o.take j++[x]).map cI) (ao:=some ⟨g,j,none⟩) (m:=o.length-j) (c:=c0-j) (news:=(o.drop j).map cI) rfl (.tmp 84) (.tmp 87) rfl rfl ?aji rfl ?cl zBz ?ad9 (zy _) zAC zBk ?cK));case aji=>exact R4b
        case cl=>simp
        case ad9=>exact zFE
        case cK=>exact zE8
     have e1:decide ((j:Int)<(o.length:Int))=false:=qP zBk;go_wp2_with fail;go_quiet (fail);go_wp2_with fail;go_quiet (fail);have hK:j<o.length->x.natAbs<(o.getD j 0).natAbs:=fun h=>absurd h cj;have hgr:=G1.put af5 HL.out hK;rw[<-HTS.out]at hgr;have HG:=zh hgr;clear hK hgr;have hjl:=HL.out.1;have hlt2:=dX R2 (k:=g) rfl;obtain⟨_,_,OJ,hoc,_⟩:=aC R2;simp only[qU]at OJ;obtain⟨-,-,rfl⟩:=OJ;go_wp2_with (at_builtin;go_must (refine KO kJ (n:=0) (v:=.slice (some ⟨wc.heap.size,0,none⟩) 0 0) (xs:=[]) (ao:=some ⟨g,0,none⟩) (m:=j) (c:=c0) (news:=(o.take j).map cI) rfl (.tmp 72) (.tmp 75) rfl rfl ?ajg rfl ?al zBz ?ad8 (zy _) zAC zBk ?aK));case ajg=>exact wI wc
     case al=>simp;omega
     case ad8=>exact zFD
     case aK=>
      intro v3 w3 R3 O3 N3;have R3b:w3.ownsRow 0 3 1 v3 j ((o.take j).map cI):=by simpa using R3
      have hn3:∀k,v3.ownBlock=some k->wc.heap.size<=k:=by exact zEP
      have OW3:O0 wc w3:=Only.trans zBu O3 (fun i hi=>by simp[Value.ownBlock]at hi;exact .inr zBk);have R2c:=aI R2 OW3 (fun _ _ f=>f);have q3:=q1;rw[<-World.cell?_of_block (w:=wc) (OW3.block b amV (fun f=>f))]at q3;obtain⟨a3,c3,rfl,_,_⟩:=aC R3b;have hlt3:=dX R2c (k:=g) rfl;clear R3 O3 N3 q1;go_wp2_with (at_builtin;go_must (refine tC kJ (u:=.int .i64 x) (n:=j) (v:=.slice a3 j c3) (xs:=(o.take j).map cI) rfl (.tmp 77) (.tmp 82) rfl rfl rfl ?bc rfl ?ajh zAC zBk ?bK));case bc=>exact cell_new0 w3 _ _
      case ajh=>exact R3b.alloc _
      case bK=>
       intro v4 w4 R4 O4 S4;have R4b:w4.ownsRow 0 3 1 v4 (j+1) ((o.take j++[x]).map cI):=by simpa[cI]using R4
       obtain⟨g4,c4,rfl,_,_,h4⟩:=S4;have hn4:wc.heap.size<=g4:=by exact zEr
       have OW4:O0 wc w4:=(OW3.alloc _).trans O4 fun i hi=>.inr (hn3 i hi);have R2d:=aI R2 OW4 (fun _ _ f=>f);have hlt4:=dX R2d (k:=g) rfl;clear R4 O4 h4 q3;by_cases hcj:c0=j
       ·have hjo:j=o.length:=by omega
        subst hjo;subst hcj;go_wp2_with (at_builtin;go_must (refine KO kJ (n:=o.length+1) (v:=.slice (some ⟨g4,0,none⟩) (o.length+1) c4) (xs:=(o.take o.length++[x]).map cI) (ao:=some ⟨g,0,none⟩) (m:=0) (c:=0) (news:=[]) rfl (.tmp 84) (.tmp 87) rfl rfl ?down rfl ?dl (by simp) ?amZ zBz zAC zBk ?dK));case down=>exact R4b
        case dl=>rfl
        case amZ=>intro ad had t u hu;obtain rfl:=Option.some.inj had;simp at hu
        case dK=>
         intro v5 w5 R5 O5 N5;have hle:o.length+1+0=(o.take o.length++[x]++o.drop o.length).length:=zAM;have R5b:w5.ownsRow 0 3 1 v5 (o.take o.length++[x]++o.drop o.length).length ((o.take o.length++[x]++o.drop o.length).map cI):=by rw[<-hle];simpa using R5
         have Wy:∀k,v5.ownBlock=some k->wc.heap.size<=k:=by
          intro k hk;rcases N5 k hk with h|h;·simp[Value.ownBlock]at h;omega
          have:=OW4.size;omega
         have OW5:O0 w w5:=(O2.same OW4).trans O5 fun i hi=>by simp[Value.ownBlock]at hi;have:=O2.size;exact .inr zBk
         obtain⟨g5,c5,rfl,_,_⟩:=fJ R5b zAM;have hlen5:(o.take o.length++[x]++o.drop o.length).length<=k+1:=zAd;have hn6:=Wy g5 rfl;clear R5 O5 N5 Wy;go_wp2_with fail;go_roundw;case rel=>exact⟨k+1,g5,c5,_,by go_num,by omega,rfl,hlen5,HG.out,R5b,by have:=O2.size;omega,OW5⟩
         case measure=>simp[intOf];omega
       go_wp2_with (at_builtin;go_must (refine KO kJ (n:=j+1) (v:=.slice (some ⟨g4,0,none⟩) (j+1) c4) (xs:=(o.take j++[x]).map cI) (ao:=some ⟨g,j,none⟩) (m:=o.length-j) (c:=c0-j) (news:=(o.drop j).map cI) rfl (.tmp 84) (.tmp 87) rfl rfl ?aji rfl ?cl zBz ?ad9 (zy _) zAC zBk ?cK));case aji=>exact R4b
       case cl=>simp
       case ad9=>exact zFE
       case cK=>exact zE8
   have HW:=zh hw;clear hw;have hform:=iE.WS hmem HW.out;have HF:=zh hform;clear hform;go_wp2_with fail;refine(wU x hr true HW.out).mono ?_;rintro e w' ⟨rfl,rfl⟩;go_wp2_with fail;go_ret2;unfold wG;rw[HF.out];exact⟨_,rfl,wI wr,fun k hk=>by simp[Value.ownBlock]at hk;have:=O1.size;omega,O1.alloc _⟩
  have hk':k=xs.length:=by omega
  subst hk';have hform:iE.form xs=some o:=by have:=G1;rw[List.take_length]at this;exact iE.zM this.lit this.ord this.mem
  have HF:=zh hform;clear hform;go_wp2_with fail;go_ret2;unfold wG;rw[HF.out];exact⟨_,rfl,R1,fun k hk=>by simp[Value.ownBlock]at hk;omega,O1⟩
end Go.Proofs.YtdmmebjjojimiaaGreatDoor
