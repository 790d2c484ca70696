/- Package graph, exact: active (a row of wishes of one's own). Printed by gen_gw9.py.; Package graph, exact: roots, depends. Printed by gen_gwa.py. -/
import Derived.Test.YtdmmebjjojimiaaGreatDoorG33
set_option maxRecDepth 100000
set_option maxHeartbeats 8000000
set_option linter.all false
namespace Go.Proofs
theorem zCE{p:Prop}(h:p:=by rw[<-vV];exact zr.alloc _):p:=h
theorem zCJ{p:Prop}(h:p:=by rw[<-vV];exact qL bD _):p:=h
end Go.Proofs
namespace Go.Proofs.YtdmmebjjojimiaaGreatDoor
open Go.RowKit
section
variable {w w':World} {B:Nat}
attribute [local irreducible] wpQuiet
theorem afh{ao:Option Addr}{len cap i:Nat}{xs:List iW}{y:iW}(h:aS 3 dJ B w (.slice ao len cap) xs)(hx:xs[i]? =some y):∃(b off:Nat) (a1:Option Addr) (n1 c1:Nat) (a2:Option Addr) (n2 c2:Nat),ao=some ⟨b,off,none⟩/\y.spans.length=n1/\y.sets.length=n2/\okS y.name/\∀W,O0 w W->W.rangeAt b (off+i*3) [.string y.name,.slice a1 n1 c1,.slice a2 n2 c2]/\aS 2 fE B W (.slice a1 n1 c1) y.spans/\aS 2 dO B W (.slice a2 n2 c2) y.sets/\dJ B W [.string y.name,.slice a1 n1 c1,.slice a2 n2 c2] y:=by obtain⟨b,off,cs,rfl,hb,hB,-,hr,hC⟩:=h.placed hx;have hC0:=hC;obtain⟨v1,v2,rfl,ok1,r1,r2⟩:=hC;obtain⟨a1,c1,rfl,-,-⟩:=r1.shape;obtain⟨a2,c2,rfl,-,-⟩:=r2.shape;exact⟨b,off,a1,_,c1,a2,_,c2,rfl,rfl,rfl,ok1,fun W ho=>⟨gq hr hb hB (Kp.dV ho),r1.keep fE.keep (Kp.dV ho),r2.keep dO.keep (Kp.dV ho),dJ.keep hC0 (Kp.dV ho)⟩⟩
theorem Zv{g:Nat}{l:List Value}{t:TypeId}(h:w.heap[g]? =some (.cells l.toArray t (0,0))){j:Nat}{u:Value}(hu:l[j]? =some u):w.cell? ((⟨g,0,none⟩:Addr).add j)=some u:=by rw[Go.WideShapes.add_plain,Nat.zero_add,aj h];simpa using hu
theorem ajM:Gu Tryz.prog 251 108 3 64:=Gu.mk' (z:=.agg #[.string .empty,Qn,Qn]) Tryz.underlying251 zk rfl zAH
structure AP (B Z:Nat) (w:World) (v:Value) (l:List iW):Prop where
 row:∃cs,w.ownsRow 0 108 3 v l.length cs/\cs.length=l.length*3/\∀i (hi:i<l.length),∃c,c.length=3/\(∀j u,c[j]? =some u->cs[i*3+j]? =some u)/\dJ B w c l[i]
 new:∀k,v.ownBlock=some k->Z<=k
theorem AP.nil{Z:Nat}:AP B Z w (.slice none 0 0) []:=⟨⟨[],World.ownsRow_nil _ _ _ _,rfl,fun i hi=>by simp at hi⟩,fun k hk=>by cases hk⟩
theorem AP.only{Z:Nat}{v:Value}{l:List iW}(h:AP B Z w v l)(o:O0 w w'):AP B Z w' v l:=by
 obtain⟨⟨cs,h1,h2,h3⟩,h4⟩:=h;exact⟨⟨cs,aW h1 o (fun _ _ f=>f),h2,fun i hi=>by
  obtain⟨c,g1,g2,g3⟩:=h3 i hi
  exact⟨c,g1,g2,dJ.keep g3 (Kp.dV o)⟩⟩,h4⟩
theorem AP.read{Z:Nat}{v:Value}{l:List iW}(h:AP B Z w v l)(hB:B<=w.heap.size):aS 3 dJ w.heap.size w v l:=by obtain⟨⟨cs,h1,h2,h3⟩,h4⟩:=h;exact aS.xC h1 fun i hi=>by obtain⟨c,g1,g2,g3⟩:=h3 i hi;exact⟨c,g1,g2,dJ.lift g3 hB (qH _)⟩
theorem AP.push{Z:Nat}{F:Nat->Prop}{v':Value}{l:List iW}{cs c:List Value}{s:iW}(h:∀i (hi:i<l.length),∃c,c.length=3/\(∀j u,c[j]? =some u->cs[i*3+j]? =some u)/\dJ B w c l[i])(hl:cs.length=l.length*3)(hc:c.length=3)(hs:dJ B w c s)(o:Only F w w')(hF:∀k,F k->B<=k)(r:w'.ownsRow 0 108 3 v' (l.length+1) (cs++c))(hn:∀k,v'.ownBlock=some k->Z<=k):AP B Z w' v' (l++[s]):=by
 refine⟨⟨cs++c,by rw[qK,List.length_singleton];exact r,by simp[hl,hc,Nat.add_mul],fun i hi=>?_⟩,hn⟩;rw[qK,List.length_singleton]at hi;by_cases hi2:i<l.length
 ·obtain⟨c2,g1,g2,g3⟩:=h i hi2;refine⟨c2,g1,fun j u hu=>?_,?_⟩;·have:=g2 j u hu;rw[yM (qJ.1 this).1];exact this
  rw[List.getElem_append_left hi2];exact dJ.keep g3 (Kp.ahQ o hF)
 obtain rfl:i=l.length:=by omega
 refine⟨c,hc,fun j u hu=>?_,?_⟩;·rw[<-hl,yN zAA,Nat.add_sub_cancel_left];exact hu
 rw[List.getElem_append_right (qH _)];simp only[Nat.sub_self,List.getElem_cons_zero];exact dJ.keep hs (Kp.ahQ o hF)
def KF(n:aC)(l:List Aj):List iW:=(l.filter fun d=>jr n d.cond).map Aj.on
theorem acp{n:aC}{l:List Aj}{i:Nat}{d:Aj}(h:l[i]? =some d):KF n (l.take (i+1))=KF n (l.take i)++(if jr n d.cond=true then [d.on]else []):=by
 unfold KF;rw[List.take_add_one,h,List.filter_append,List.map_append];congr 1;by_cases hh:jr n d.cond=true;·rw[if_pos hh];simp[hh]
 rw[if_neg hh];simp[hh]
theorem XB(n:aC)(l:List Aj):(KF n l).length<=l.length:=by unfold KF;rw[qM];exact yO _ _
theorem KG{bp:Nat}{x:aQ}{q:dD}{g:List aC}(hc:lH B w bp x q g){zQ:List Value}{n:aC}(hn:dH B w zQ n)(hf:0<=x.find n.name)(hdl:(bY x n).deps.length<=1000000)(hB:B<=w.heap.size)(hL:Laid w):Calls Tryz.prog 197 #[.pointer (some ⟨bp,0,none⟩),.agg zQ.toArray] w fun e w'=> ∃v,e= .returned v/\aS 3 dJ w'.heap.size w' v (mQ x n)/\O0 w w':=by
 have hn0:=hn;obtain⟨v5,v6,rfl,-,-,r5,r6⟩:=hn;obtain⟨a5,c5,rfl,-,-⟩:=r5.shape;obtain⟨a6,c6,rfl,-,-⟩:=r6.shape;obtain⟨n5,h5⟩:=ze n.sets.length;obtain⟨n6,h6⟩:=ze n.needs.length;rw[h5]at r5 hn0⊢;rw[h6]at r6 hn0⊢;obtain⟨W0,hW0,aV,jK,aF⟩:=QN w (.string n.name) (.string n.version) (.slice a5 n5 c5) (.slice a6 n6 c6) 83;obtain⟨OI,qm,kS⟩:=Jm (hc.only aV.out) (dH.keep hn0 (Kp.dV aV.out)) hf;obtain⟨F9,Gf,Gg,Ea,Eb,Ec,Ep,Es,Et,Gh,xB,Gi,FB,DJ,FC,Gj,Gl,Gm,zY,gd1,hd1,gd2,hd2,gd3,hd3,gd4,hd4,gd5,hd5,gd6,hd6,Nd1,Nd2,Nd3,SH,Nd5,Nd6,Fd⟩:=iO qm;subst zY;obtain⟨HKd,OJ,Ky,Kz,Hu,KA,OL⟩:=Fd W0 zr;replace kS:=zh kS;clear Fd qm;have vG:Hid (∀W,O0 W0 W->dH B W [.string n.name,.string n.version,.slice a5 n5 c5,.slice a6 n6 c6] n):=fun W hW=>dH.keep hn0 (Kp.dV (aV.out.same hW));have NV:Hid (Laid W0):=hL.only aV.out;have HB0:Hid (B<=W0.heap.size):=qR hB aV.out.size;have hfv:=fun W=>Jf (.string (bY x n).name) (.int .i64 (bY x n).line) (.slice F9 Gf Gg) (.slice Ea Eb Ec) (.slice Ep Es Et) (.slice Gh xB Gi) (.slice FB DJ FC) (.slice Gj Gl Gm) W;have hnd:xB<=1000000:=by rw[<-SH.out];exact hdl
 have hact:mQ x n=KF n ((bY x n).deps.take xB):=by rw[qI (yG SH.out)];rfl
 rw[hact];clear hact;have hW0':=hW0.symm;obtain⟨k0,k1,k2,k3⟩:=aF.out W0 zr;clear hn0 r5 r6 h5 h6 hc hW0 hL hB hdl hf;go_enter Tryz.func197,Tryz.ntmps197;go_wp2_with fail;clear hW0' k0 k1 k2 k3;refine(kS.out W0 zr).mono ?_;rintro e w1 ⟨rfl,O1⟩;have aI:=zh O1;clear O1;go_wp2_with fail;clear hfv;go_loopw [5,13] (fun vo vi bD=>Hid (O0 W0 bD)/\∃i:Nat,vi= .int .i64 i/\i<=xB/\Hid (AP B W0.heap.size bD vo (KF n ((bY x n).deps.take i)))) (fun _ v _=>xB-(RowKit.intOf v).toNat);case atStart=>exact⟨aI,0,rfl,qE _,zh AP.nil⟩
 case round=>
  obtain⟨bD,rfl⟩:=zB wr;clear aI;obtain⟨gK,i,rfl,hi,HV⟩:=hrel;obtain⟨vo,rfl⟩:=zB u5;by_cases ci:i<xB
  ·have iE:=zw (i+1);obtain⟨yz,hxz⟩:=zG ((bY x n).deps) i zCX;obtain⟨JD,vP,vW,vX,vY,wS,wU,wV,sU,sV,sW,sD,ru,sF,qc,wC,EP,ER,Eh,AX,He,NC,jM⟩:=Aq (Hu.out W0 zr) hxz;first|subst qc| (simp only[qG,qO,and_true]at qc;obtain⟨rfl,rfl⟩:=qc)
   have jd:=zh jM;have vS:=zh hxz;clear jM hxz wC EP ER Eh;have Yo:Hid (∀W,O0 W0 W->aS 2 fE B W (.slice vW vX vY) yz.on.spans):=fun W ho=>(jd.out W ho).2.1;have TQ:Hid (∀W,O0 W0 W->aS 2 dO B W (.slice wS wU wV) yz.on.sets):=fun W ho=>(jd.out W ho).2.2.1;have JQ:Hid (∀W,O0 W0 W->aS 2 fE B W (.slice sU sV sW) yz.cond.spans):=fun W ho=>(jd.out W ho).2.2.2.1;have Gx:Hid (∀W,O0 W0 W->aS 2 dO B W (.slice sD ru sF) yz.cond.sets):=fun W ho=>(jd.out W ho).2.2.2.2.1;obtain⟨hb,hhb⟩:=ze (jr n yz.cond);have HH:Hid (∀W,O0 W0 W->Calls Tryz.prog 202 #[.agg #[.string n.name,.string n.version,.slice a5 n5 c5,.slice a6 n6 c6],.agg #[.string yz.cond.name,.slice sU sV sW,.slice sD ru sF]] W fun e w'=>e= .returned (.bool hb)/\O0 W w'):=fun W hW=>by rw[<-hhb];exact OB (vG.out W hW) (⟨_,_,rfl,He,JQ.out W hW,Gx.out W hW⟩:dJ B W [.string yz.cond.name,.slice sU sV sW,.slice sD ru sF] yz.cond) (NV.out.only hW)
   have HSn:Hid (KF n ((bY x n).deps.take (i+1))=KF n ((bY x n).deps.take i)++(if hb=true then [yz.on]else [])):=by rw[<-hhb];exact acp vS.out
   obtain⟨lo,hlo⟩:=ze (KF n ((bY x n).deps.take i));have ao9:lo.length<=i:=by rw[<-hlo];refine qR (XB _ _) ?_;rw[List.length_take];omega
   rw[hlo]at HSn HV;clear hhb hlo;obtain⟨tJ,vV⟩:=ze (bD.alloc (.cells #[.string yz.on.name,.slice vW vX vY,.slice wS wU wV,.string yz.cond.name,.slice sU sV sW,.slice sD ru sF,.int .i64 yz.line] 132));have Am:Hid (tJ.heap[bD.heap.size]? =some (.cells #[.string yz.on.name,.slice vW vX vY,.slice wS wU wV,.string yz.cond.name,.slice sU sV sW,.slice sD ru sF,.int .i64 yz.line] 132 (0,0))):=zCJ;have qp:Hid (O0 bD tJ):=zCE;have MI:Hid (O0 W0 tJ):=gK.out.same qp.out;have HZb:Hid (∀W,O0 tJ W->W.cell? ⟨bD.heap.size,0,none⟩=some (.string yz.on.name)/\W.cell? ⟨bD.heap.size,1,none⟩=some (.slice vW vX vY)/\W.cell? ⟨bD.heap.size,2,none⟩=some (.slice wS wU wV)/\W.cell? ⟨bD.heap.size,3,none⟩=some (.string yz.cond.name)/\W.cell? ⟨bD.heap.size,4,none⟩=some (.slice sU sV sW)/\W.cell? ⟨bD.heap.size,5,none⟩=some (.slice sD ru sF)):=fun W hW=>by have b1:=aA Am.out hW (fun f=>f);exact⟨by rw[aj b1];rfl,by rw[aj b1];rfl,by rw[aj b1];rfl,by rw[aj b1];rfl,by rw[aj b1];rfl,by rw[aj b1];rfl⟩
   have hr1:=zh (jd.out bD gK.out).1;obtain⟨k0,k1,k2,k3⟩:=aF.out tJ MI.out;obtain⟨-,-,-,z3,z4,z5⟩:=HZb.out tJ zr;go_wp2_with (refine wpList_load_mid rfl 132 (.tmp 15) rfl JD (vP+i*7) rfl _ _ hr1.out Tryz.underlying132 rfl zk ?_);clear vV hr1 k0 k1 k2 k3 z3 z4 z5;refine(HH.out tJ MI.out).mono ?_;rintro e w9 ⟨rfl,O9⟩;have fK:=zh (MI.out.same O9);have apa:=zh (qp.out.same O9);obtain⟨z0,z1,z2,-,-,-⟩:=HZb.out w9 O9;have Tn:=zh (HV.out.only apa.out);clear O9 HV HZb HH;cases hb with
   |false=>
    have uN:Hid (AP B W0.heap.size w9 vo (KF n ((bY x n).deps.take (i+1)))):=by have h:=HSn.out;rw[if_neg zAP,List.append_nil]at h;rw[h];exact Tn
    go_wp2_with fail;go_roundw;case rel=>exact⟨fK,i+1,by first|rfl|go_num,by omega,uN⟩
    case measure=>simp[RowKit.intOf]<;>omega
   |true=>
    obtain⟨⟨cs9,hw1,hw2,hw3⟩,hw4⟩:=Tn.out;obtain⟨nl,hnl⟩:=ze lo.length;have Ak:=zh hnl;rw[hnl]at hw1 ao9;have afi:Hid (∀W,O0 w9 W->W.ownsRow 0 108 3 vo nl cs9):=fun W o=>aW hw1 o (fun _ _ f=>f);have HP:=zh (And.intro hw2 (And.intro hw3 hw4));clear hw1 hw2 hw3 hw4 Tn hnl;go_wp2_with (at_builtin;go_must (refine ahj ajM rfl (.tmp 21) (.tmp 24) rfl rfl (afi.out _ (zr.alloc _)) rfl (news:=[.string yz.on.name,.slice vW vX vY,.slice wS wU wV]) rfl (by intro h;cases h) (fun ad hd j u hu=>by cases hd;exact Zv (by exact qL _ _) hu) (by intro u hu;simp at hu;rcases hu with rfl|rfl|rfl<;>rfl) zAA zHZ ?_));intro VG cap5 w5 r1 r2 r3;have O5:Only (fun k=>vo.ownBlock=some k) w9 w5:=((Only.refl (fun _=>False) w9).alloc _ |>.mono fun _ f=>f.elim).same r2;have xK:Hid (O0 W0 w5):=fK.out.trans O5 fun k hk=>.inr (HP.out.2.2 k hk);have uN:Hid (AP B W0.heap.size w5 (.slice VG (nl+1) cap5) (KF n ((bY x n).deps.take (i+1)))):=by
     have h:=HSn.out;first|rw[if_pos rfl]at h|rw[if_pos trivial]at h
     rw[h];have hN:=Ak.out;refine AP.push HP.out.2.1 HP.out.1 rfl (⟨_,_,rfl,AX,Yo.out w9 fK.out,TQ.out w9 fK.out⟩:dJ B w9 [.string yz.on.name,.slice vW vX vY,.slice wS wU wV] yz.on) O5 (fun k hk=>qR HB0.out (HP.out.2.2 k hk)) (by rw[hN];exact r1) fun k hk=>?_;rcases r3 k hk with h|h;·exact HP.out.2.2 k h
     have:=fK.out.size;simp at h;omega
    clear r1 r2 r3 O5 z0 z1 z2;go_wp2_with fail;go_roundw;case rel=>exact⟨xK,i+1,by first|rfl|go_num,by omega,uN⟩
    case measure=>simp[RowKit.intOf]<;>omega
  obtain rfl:xB=i:=by omega
  go_wp2_with fail;go_ret;exact⟨_,rfl,HV.out.read (qR HB0.out gK.out.size),aV.out.same gK.out⟩
end
end Go.Proofs.YtdmmebjjojimiaaGreatDoor
namespace Go.Proofs
theorem zAM{p:Prop}(h:p:=by(intro w hSw;(try dsimp only at hSw);obtain⟨k0,k1,k2⟩:=aF.out w hSw;obtain⟨p0,p1,p2,p3⟩:=oZ.out w (aV.out.same hSw);have pc:=Tq.out w (aV.out.same hSw);go_simp<;>(try with_reducible rfl))):p:=h
theorem zAR{p:Prop}(h:p:=by(intro w hSw;(try dsimp only at hSw);obtain⟨p0,p1,p2,p3⟩:=oZ.out w (aI.out.same (iP.out.same hSw));obtain⟨n0,n1,n2⟩:=CP.out w hSw;go_simp<;>(try with_reducible rfl))):p:=h
theorem zCC{p:Prop}(h:p:=by exact((Only.refl (fun _=>False) tJ)).drew):p:=h
theorem zFv{p:Prop}(h:p:=by
 have aI:=zh o1
 clear hR O1 o1 HAc
 go_wp2_with fail
 refine vG.out.mono ?_
 rintro e w2 ⟨rfl,O2⟩
 have eF:=zh (aI.out.same O2)
 clear O2
 exact zEH):p:=h
end Go.Proofs
namespace Go.Proofs.YtdmmebjjojimiaaGreatDoor
open Go.RowKit
section
variable {w w':World} {B:Nat}
attribute [local irreducible] wpQuiet
theorem lH.lift{B' bp:Nat}{x:aQ}{q:dD}{g:List aC}(h:lH B w bp x q g)(h1:B<=B')(h2:B'<=w.heap.size):lH B' w bp x q g:=by obtain⟨lC,Ba,CS,g1,g2,g3,g4⟩:=h.parts;exact⟨lC,Ba,CS,fO.lift g1 h1 h2,mg.lift g2 h1 h2,rU.lift g3 h1 h2,g4⟩
theorem afj(w:World)(v0 v1 v2 v3 v4:Value)(t0 t1:TypeId):∃W0,W0=((w.alloc (.cells #[v0] t0)).alloc (.cells #[v1,v2,v3,v4] t1))/\Hid (O0 w W0)/\Hid (W0.heap.size=w.heap.size+2)/\Hid (∀W,O0 W0 W->W.cell? ⟨w.heap.size,0,none⟩=some v0/\W.cell? ⟨w.heap.size+1,0,none⟩=some v1/\W.cell? ⟨w.heap.size+1,1,none⟩=some v2/\W.cell? ⟨w.heap.size+1,2,none⟩=some v3/\W.cell? ⟨w.heap.size+1,3,none⟩=some v4):=by obtain⟨W0,hW0⟩:=zB ((w.alloc (.cells #[v0] t0)).alloc (.cells #[v1,v2,v3,v4] t1));refine⟨W0,hW0,by rw[hW0];exact(zr.alloc _).alloc _,by rw[hW0];simp[Hid],fun W ho=>?_⟩;have b0:W0.heap[w.heap.size]? =some (.cells #[v0] t0):=zBG;have d0:=aA b0 ho (fun f=>f);have b1:W0.heap[w.heap.size+1]? =some (.cells #[v1,v2,v3,v4] t1):=zCo;have d1:=aA b1 ho (fun f=>f);exact⟨by rw[aj d0];rfl,by rw[aj d1];rfl,by rw[aj d1];rfl,by rw[aj d1];rfl,by rw[aj d1];rfl⟩
theorem afk{bp:Nat}{x:aQ}{q:dD}{g:List aC}(hc:lH B w bp x q g)(hL:Laid w):Calls Tryz.prog 115 #[.pointer (some ⟨bp,0,none⟩)] w fun e w'=>iY (dB [(4,uy x q g)]) w w' e:=by
 have Jp:=zh hc;obtain⟨a1,n1,c1,a2,n2,c2,a3,n3,c3,a4,n4,c4,-,N3,-,-,g3,-,oZ,eX,-,-,-,acr,-⟩:=hc.open;have hn3:n3<=9223372036854775807:=by obtain⟨_,_,_,hb1,hb2⟩:=(acr.out w zr).shape;rw[<-N3.out];omega
 have NV:=zh hL;have aV:Hid (O0 w w):=Only.refl _ _;clear hc hL;obtain⟨rc,rs,hr⟩:∃c s,dB [(4,uy x q g)]=(c,s):=⟨_,_,rfl⟩;have aZ:=zh hr;rw[hr];unfold iY;dsimp only;obtain⟨W1,hW1⟩:=ze (w.alloc (.cells #[.int .u8 0,.string ⟨#[]⟩] 38));have aI:Hid (O0 w W1):=zAc;have iM:Hid (∀W,O0 W1 W->W.heap[w.heap.size]? =some (.cells #[.int .u8 0,.string ⟨#[]⟩] 38 (0,0))):=fun W ho=>by exact zDn
 have wZ:Hid (O0 W1 W1):=Only.refl _ _;clear hr;obtain⟨p0,p1,p2,p3⟩:=oZ.out W1 aI.out;go_enter Tryz.func115,Tryz.ntmps115;go_wp2_with fail;clear hW1 p0 p1 p2 p3;have fQ:=wZ;go_loopw [11] (fun vi bD=>Hid (O0 W1 bD)/\∃i:Nat,vi= .int .i64 i/\i<=n3/\Hid ((q.roots.take i).any (xW x g)=false)) (fun v _=>n3-(RowKit.intOf v).toNat);case atStart=>exact⟨fQ,0,rfl,qE _,show Hid _ from rfl⟩
 case round=>
  obtain⟨bD,rfl⟩:=zB wr;clear fQ;obtain⟨jD,i,rfl,hi,HQ⟩:=hrel;by_cases ci:i<n3
  ·have iE:=zw (i+1);obtain⟨yr,hxr⟩:=zG q.roots i (by rw[N3.out];omega);obtain⟨bkr,Ou,Ew,Ey,Ez,EC,ED,EF,her,Fe,Fg,Ov,Y8,zM⟩:=pU (acr.out w zr) hxr;first|subst her| (simp only[qG,qO,and_true]at her;obtain⟨rfl,rfl⟩:=her)
   have GL:=zh zM;have QJ:=zh hxr;clear zM hxr Fe Fg;have abH:Hid (∀W,O0 w W->aS 2 fE B W (.slice Ew Ey Ez) yr.spec.spans):=fun W ho=>(GL.out W ho).2.1;have abI:Hid (∀W,O0 w W->aS 2 dO B W (.slice EC ED EF) yr.spec.sets):=fun W ho=>(GL.out W ho).2.2.1;obtain⟨f,hf⟩:=ze (x.find yr.spec.name);obtain⟨mb,hmb⟩:=ze (Bd g yr.spec);have hW:xW x g yr=(decide (0<=f)&& !mb):=by unfold xW;rw[hf,hmb]
   obtain⟨tJ,vV⟩:=ze (bD.alloc (.cells #[.string yr.spec.name,.slice Ew Ey Ez,.slice EC ED EF,.int .i64 yr.line] 110));have Am:Hid (tJ.heap[bD.heap.size]? =some (.cells #[.string yr.spec.name,.slice Ew Ey Ez,.slice EC ED EF,.int .i64 yr.line] 110 (0,0))):=zCJ;have iP:Hid (O0 W1 tJ):=by rw[<-vV];exact jD.out.alloc _
   have HF:Hid (∀W,O0 tJ W->Calls Tryz.prog 182 #[.agg #[.slice a1 n1 c1,.slice a2 n2 c2],.string yr.spec.name] W fun e w'=>e= .returned (.int .i64 f)/\O0 W w'):=fun W hW=>by rw[<-hf];exact rX (eX.out W (aI.out.same (iP.out.same hW))) _
   have HM:Hid (∀W,O0 tJ W->Calls Tryz.prog 195 #[.pointer (some ⟨bp,0,none⟩),.agg #[.string yr.spec.name,.slice Ew Ey Ez,.slice EC ED EF]] W fun e w'=>e= .returned (.bool mb)/\O0 W w'):=fun W hW=>by have o:=aI.out.same (iP.out.same hW);rw[<-hmb];exact Zp (Jp.out.only o) (⟨_,_,rfl,Ov,abH.out W o,abI.out W o⟩:dJ B W [.string yr.spec.name,.slice Ew Ey Ez,.slice EC ED EF] yr.spec) (NV.out.only o)
   have CP:Hid (∀W,O0 tJ W->W.cell? ⟨bD.heap.size,0,none⟩=some (.string yr.spec.name)/\W.cell? ⟨bD.heap.size,1,none⟩=some (.slice Ew Ey Ez)/\W.cell? ⟨bD.heap.size,2,none⟩=some (.slice EC ED EF)):=fun W hW=>by exact zHB
   have HRs:Hid (∀W,O0 tJ W->W.rangeAt bD.heap.size 0 [.string yr.spec.name,.slice Ew Ey Ez,.slice EC ED EF]):=fun W hW i u hu=>by obtain⟨k1,k2,k3⟩:=CP.out W hW;exact zD5
   have hr1:=zh (GL.out bD (aI.out.same jD.out)).1;clear hf hmb Am;go_wp2_with (refine wpList_load_mid rfl 110 (.tmp 13) rfl bkr (Ou+i*4) rfl _ _ hr1.out Tryz.underlying110 rfl zk ?_);clear vV hr1;by_cases h0:0<=f
   ·have d0:decide (0<=f)=true:=qX h0;rw[d0,yR]at hW;cases mb with
    |false=>
     refine aU (fun w'=>O0 tJ w') zk zk zCC ?_;iterate 3 refine qV ?_
     refine qV ?_ (hy:=zAR);iterate 2 refine qV ?_
     refine qV ?_ (hy:=zAR);refine bF (v:=.int .i64 f) (f:=182) (args:= #[.agg #[.slice a1 n1 c1,.slice a2 n2 c2],.string yr.spec.name]) (by rfl) ?_ ?_ ?_;·exact zDQ
     ·exact zDj
     try simp only[Act.put,fA,fD,fB,dW,dX,dY]
     iterate 4 refine qV ?_
     refine bM (b:=bD.heap.size) (off:=0) (by rfl) rfl rfl (fun w hSw=>HRs.out w hSw) Tryz.underlying108 rfl zk ?_;try simp only[Act.put,fA,fD,fB,dW,dX,dY]
     refine bF (v:=.bool false) (f:=195) (args:= #[.pointer (some ⟨bp,0,none⟩),.agg #[.string yr.spec.name,.slice Ew Ey Ez,.slice EC ED EF]]) (by rfl) ?_ ?_ ?_;·exact zDQ
     ·exact zET
     try simp only[Act.put,fA,fD,fB,dW,dX,dY]
     iterate 2 refine qV ?_
     refine wpQuiet_nil ?_;(intro w9 dR;have fK:=zh dR;clear dR);have jZ:=zh (iP.out.same fK.out);obtain⟨n0,n1,n2⟩:=CP.out w9 fK.out;obtain⟨rfl,rfl⟩:4=rc/\yr.spec.name=rs:=by have h:dB [(4,uy x q g)]=(4,yr.spec.name):=zCI;exact zDS
     go_wp2_with (refine wpList_store_row rfl 38 (.tmp 2) (.tmp 34) rfl w.heap.size #[.int .u8 4,.string yr.spec.name] rfl rfl 38 #[.int .u8 0,.string ⟨#[]⟩] (iM.out w9 jZ.out) zk rfl zk ?_);refine cO (p:=2) rfl rfl rfl (run_loadVar_row _ _ _ _ _ (0,0) _ (setRow_heap _ _ _ _ _ _ (iM.out w9 jZ.out)) Tryz.underlying38 rfl zk) ?_;exact zEE
    |true=>
     refine aU (fun w'=>O0 tJ w') zk zk zCC ?_;iterate 3 refine qV ?_
     refine qV ?_ (hy:=zAR);iterate 2 refine qV ?_
     refine qV ?_ (hy:=zAR);refine bF (v:=.int .i64 f) (f:=182) (args:= #[.agg #[.slice a1 n1 c1,.slice a2 n2 c2],.string yr.spec.name]) (by rfl) ?_ ?_ ?_;·exact zDQ
     ·exact zDj
     try simp only[Act.put,fA,fD,fB,dW,dX,dY]
     iterate 4 refine qV ?_
     refine bM (b:=bD.heap.size) (off:=0) (by rfl) rfl rfl (fun w hSw=>HRs.out w hSw) Tryz.underlying108 rfl zk ?_;try simp only[Act.put,fA,fD,fB,dW,dX,dY]
     refine bF (v:=.bool true) (f:=195) (args:= #[.pointer (some ⟨bp,0,none⟩),.agg #[.string yr.spec.name,.slice Ew Ey Ez,.slice EC ED EF]]) (by rfl) ?_ ?_ ?_;·exact zDQ
     ·exact zET
     try simp only[Act.put,fA,fD,fB,dW,dX,dY]
     iterate 2 refine qV ?_
     refine wpQuiet_nil ?_;(intro w9 dR;have fK:=zh dR;clear dR);have jZ:=zh (iP.out.same fK.out);obtain⟨n0,n1,n2⟩:=CP.out w9 fK.out;exact zGS
   have d0:decide (0<=f)=false:=qP h0;rw[d0,yQ]at hW;refine aU (fun w'=>O0 tJ w') zk zk zCC ?_;iterate 3 refine qV ?_
   refine qV ?_ (hy:=zAR);iterate 2 refine qV ?_
   refine qV ?_ (hy:=zAR);refine bF (v:=.int .i64 f) (f:=182) (args:= #[.agg #[.slice a1 n1 c1,.slice a2 n2 c2],.string yr.spec.name]) (by rfl) ?_ ?_ ?_;·exact zDQ
   ·exact zDj
   try simp only[Act.put,fA,fD,fB,dW,dX,dY]
   iterate 2 refine qV ?_
   iterate 5 refine qS ?_
   refine qV ?_;refine wpQuiet_nil ?_;(intro w9 dR;have fK:=zh dR;clear dR);have jZ:=zh (iP.out.same fK.out);obtain⟨n0,n1,n2⟩:=CP.out w9 fK.out;have pI:Hid ((q.roots.take (i+1)).any (xW x g)=false):=zh (eY QJ.out HQ.out (hW));exact zD1
  obtain rfl:n3=i:=by omega
  have hq:uy x q g=none:=OO (by
   have h:=HQ.out
   rw[qI (yG N3.out)]at h
   exact h)
  obtain⟨rfl,rfl⟩:0=rc/\ByteArray.empty=rs:=by
   have h:dB [(4,uy x q g)]=(0,ByteArray.empty):=by rw[hq];rfl
   exact zDS
  go_wp2_with (refine wpList_store_row rfl 38 (.tmp 2) (.tmp 36) rfl w.heap.size #[.int .u8 0,.string ByteArray.empty] rfl rfl 38 #[.int .u8 0,.string ⟨#[]⟩] (iM.out bD jD.out) zk rfl zk ?_);refine cO (p:=2) rfl rfl rfl (run_loadVar_row _ _ _ _ _ (0,0) _ (setRow_heap _ _ _ _ _ _ (iM.out bD jD.out)) Tryz.underlying38 rfl zk) ?_;exact⟨rfl,(aV.out.same (aI.out.same jD.out)).trans (aK _ _ _) fun k hk=>.inr zAO⟩
theorem XC{bp bc:Nat}{x:aQ}{q:dD}{g:List aC}(hc:lH B w bp x q g)(hcc:∀W,O0 w W->W.cell? ⟨bc,0,none⟩=some (.pointer (some ⟨bp,0,none⟩)))(hL:Laid w){css:List Value}{s:iW}(hs:dJ B w css s):Calls Tryz.prog 198 #[.agg css.toArray,.pointer (some ⟨bc,0,none⟩)] w fun e w'=>e= .returned (.bool (decide (0<=x.find s.name)&& !Bd g s))/\O0 w w':=by
 have Tq:=zh hcc;obtain⟨a1,n1,c1,a2,n2,c2,a3,n3,c3,a4,n4,c4,-,-,-,-,-,-,oZ,eX,-,-,-,-,-⟩:=hc.open;have hs0:=hs;obtain⟨v5,v6,rfl,-,r5,r6⟩:=hs;obtain⟨a5,c5,rfl,-,-⟩:=r5.shape;obtain⟨a6,c6,rfl,-,-⟩:=r6.shape;obtain⟨n5,h5⟩:=ze s.spans.length;obtain⟨n6,h6⟩:=ze s.sets.length;rw[h5]at r5 hs0;rw[h6]at r6 hs0;try rw[h5]
 try rw[h6]
 obtain⟨W0,hW0,aV,jK,aF⟩:=al1 w (.string s.name) (.slice a5 n5 c5) (.slice a6 n6 c6) 108;have HRs:Hid (∀W,O0 W0 W->W.rangeAt w.heap.size 0 [.string s.name,.slice a5 n5 c5,.slice a6 n6 c6]):=fun W hW i u hu=>by obtain⟨k1,k2,k3⟩:=aF.out W hW;exact zD5
 obtain⟨f,hf⟩:=ze (x.find s.name);obtain⟨mb,hmb⟩:=ze (Bd g s);have HF:Hid (∀W,O0 W0 W->Calls Tryz.prog 182 #[.agg #[.slice a1 n1 c1,.slice a2 n2 c2],.string s.name] W fun e w'=>e= .returned (.int .i64 f)/\O0 W w'):=fun W hW=>by rw[<-hf];exact rX (eX.out W (aV.out.same hW)) _
 have HM:Hid (∀W,O0 W0 W->Calls Tryz.prog 195 #[.pointer (some ⟨bp,0,none⟩),.agg #[.string s.name,.slice a5 n5 c5,.slice a6 n6 c6]] W fun e w'=>e= .returned (.bool mb)/\O0 W w'):=fun W hW=>by rw[<-hmb];exact Zp (hc.only (aV.out.same hW)) (dJ.keep hs0 (Kp.dV (aV.out.same hW))) (hL.only (aV.out.same hW))
 rw[hf,hmb];obtain⟨rr,hrr⟩:∃b,(decide (0<=f)&& !mb)=b:=⟨_,rfl⟩;rw[hrr];have hW0':=hW0.symm;clear hf hmb hs0 r5 r6 h5 h6 hc hcc hL hW0;go_enter Tryz.func198,Tryz.ntmps198;go_wp2_with fail;clear hW0';by_cases h0:0<=f
 ·have d0:decide (0<=f)=true:=qX h0;rw[d0,yR]at hrr;subst hrr;refine aU (fun w'=>O0 W0 w') zk zk zA2 ?_;refine qV ?_ (hy:=zAM);iterate 2 refine qV ?_
  refine qV ?_ (hy:=zAM);refine qV ?_;refine qV ?_ (hy:=zAM);refine bF (v:=.int .i64 f) (f:=182) (args:= #[.agg #[.slice a1 n1 c1,.slice a2 n2 c2],.string s.name]) (by rfl) ?_ ?_ ?_;·exact zDQ
  ·exact zDj
  try simp only[Act.put,fA,fD,fB,dW,dX,dY]
  iterate 2 refine qV ?_
  refine qV ?_ (hy:=zAM);refine bM (b:=w.heap.size) (off:=0) (by rfl) rfl rfl (fun w hSw=>HRs.out w hSw) Tryz.underlying108 rfl zk ?_;try simp only[Act.put,fA,fD,fB,dW,dX,dY]
  refine bF (v:=.bool mb) (f:=195) (args:= #[.pointer (some ⟨bp,0,none⟩),.agg #[.string s.name,.slice a5 n5 c5,.slice a6 n6 c6]]) (by rfl) ?_ ?_ ?_;·exact zDQ
  ·exact zET
  try simp only[Act.put,fA,fD,fB,dW,dX,dY]
  iterate 3 refine qV ?_
  exact zDb
 have d0:decide (0<=f)=false:=qP h0;rw[d0,yQ]at hrr;subst hrr;refine aU (fun w'=>O0 W0 w') zk zk zA2 ?_;refine qV ?_ (hy:=zAM);iterate 2 refine qV ?_
 refine qV ?_ (hy:=zAM);refine qV ?_;refine qV ?_ (hy:=zAM);refine bF (v:=.int .i64 f) (f:=182) (args:= #[.agg #[.slice a1 n1 c1,.slice a2 n2 c2],.string s.name]) (by rfl) ?_ ?_ ?_;·exact zDQ
 ·exact zDj
 try simp only[Act.put,fA,fD,fB,dW,dX,dY]
 iterate 2 refine qV ?_
 iterate 4 refine qS ?_
 iterate 2 refine qV ?_
 exact zDb
theorem Zw:∀args w,(callFunc 198 args).run Tryz.prog w= .ok (.enter 198 args) w:=enters_of Tryz.func198 zk rfl
theorem Zx{bp bc:Nat}{x:aQ}{q:dD}{g:List aC}(hc:lH B w bp x q g)(hcc:∀W,O0 w W->W.cell? ⟨bc,0,none⟩=some (.pointer (some ⟨bp,0,none⟩)))(hL:Laid w):lF dJ B 198 #[.pointer (some ⟨bc,0,none⟩)] (fun s=>decide (0<=x.find s.name)&& !Bd g s) w:=fun W cs s o hs=>XC (hc.only o) (fun V hV=>hcc V (o.same hV)) (hL.only o) hs
theorem Zy{bp:Nat}{x:aQ}{q:dD}{g:List aC}(hc:lH B w bp x q g){zQ:List Value}{n:aC}(hn:dH B w zQ n)(hf:0<=x.find n.name)(hdl:(bY x n).deps.length<=1000000)(hB:B<=w.heap.size)(hL:Laid w)(ix:Int):Calls Tryz.prog 117 #[.pointer (some ⟨bp,0,none⟩),.int .i64 ix,.agg zQ.toArray] w fun e w'=>e= .returned (.bool (BQ x g n))/\O0 w w':=by have hn0:=hn;obtain⟨v5,v6,rfl,-,-,r5,r6⟩:=hn;obtain⟨a5,c5,rfl,-,-⟩:=r5.shape;obtain⟨a6,c6,rfl,-,-⟩:=r6.shape;obtain⟨n5,h5⟩:=ze n.sets.length;obtain⟨n6,h6⟩:=ze n.needs.length;rw[h5]at r5 hn0⊢;rw[h6]at r6 hn0⊢;obtain⟨W0,hW0,aV,jK,aF⟩:=afj w (.pointer (some ⟨bp,0,none⟩)) (.string n.name) (.string n.version) (.slice a5 n5 c5) (.slice a6 n6 c6) 180 83;have HAc:=zh (KG (hc.only aV.out) (dH.keep hn0 (Kp.dV aV.out)) hf hdl (qR hB aV.out.size) (hL.only aV.out));have oZ:=zh hc;have NV:=zh hL;have EU:=zh hB;have hW0':=hW0.symm;obtain⟨r,hr⟩:=ze (BQ x g n);rw[hr];have HR:=zh hr;obtain⟨k0,k1,k2,k3,k4⟩:=aF.out W0 zr;clear hn0 r5 r6 h5 h6 hc hW0 hL hB hdl hf hr;go_enter Tryz.func117,Tryz.ntmps117;go_wp2_with fail;clear hW0' k0 k1 k2 k3 k4;refine HAc.out.mono ?_;rintro e w1 ⟨v,rfl,hR,O1⟩;have o1:=aV.out.same O1;have vG:=zh (D9 hR Zw (Zx (bc:=w.heap.size) ((oZ.out.only o1).lift (qR EU.out o1.size) (qH _)) (fun W hW=>(aF.out W (O1.same hW)).1) (NV.out.only o1)) r (by rw[zV];exact HR.out));exact zFv
end
section
variable {w w':World} {B:Nat}
attribute [local irreducible] wpQuiet
def aaI(x:aQ)(g:List aC):Prop:= ∀n∈g,0<=x.find n.name/\(bY x n).deps.length<=1000000
theorem ajN(w:World)(v0 v1:Value)(t0 t1:TypeId):∃W0,W0=((w.alloc (.cells #[v0] t0)).alloc (.cells #[v1] t1))/\Hid (O0 w W0)/\Hid (W0.heap.size=w.heap.size+2)/\Hid (∀W,O0 W0 W->W.cell? ⟨w.heap.size,0,none⟩=some v0/\W.cell? ⟨w.heap.size+1,0,none⟩=some v1):=by obtain⟨W0,hW0⟩:=zB ((w.alloc (.cells #[v0] t0)).alloc (.cells #[v1] t1));refine⟨W0,hW0,by rw[hW0];exact(zr.alloc _).alloc _,by rw[hW0];simp[Hid],fun W ho=>?_⟩;have b0:W0.heap[w.heap.size]? =some (.cells #[v0] t0):=zBG;have d0:=aA b0 ho (fun f=>f);have b1:W0.heap[w.heap.size+1]? =some (.cells #[v1] t1):=zCo;have d1:=aA b1 ho (fun f=>f);exact⟨by rw[aj d0];rfl,by rw[aj d1];rfl⟩
theorem afm(s:Str)(gs:Nat)(hg:w.cell? ⟨gs,0,none⟩=some (.string s)):lF mM B 280 #[.pointer (some ⟨gs,0,none⟩)] (fun p=>decide (p.spec.name=s)) w:=by
 intro W cs x hO hC;obtain⟨q1,rfl,⟨v1,v2,rfl,-⟩,-⟩:=hC;have hlt:gs<w.heap.size:=World.block_lt_of_cell? _ _ hg;have hg2:W.cell? ⟨gs,0,none⟩=some (.string s):=by exact zEF
 have hgW:gs<W.heap.size:=World.block_lt_of_cell? _ _ hg2;have hd:=fP x.spec.name s;have hne:gs≠W.heap.size:=zAA;clear hg hlt;go_enter Tryz.func280,Tryz.ntmps280;exact zFZ
theorem Pv:∀args w,(callFunc 280 args).run Tryz.prog w= .ok (.enter 280 args) w:=enters_of Tryz.func280 zk rfl
theorem acs(s:Str)(gs:Nat)(hg:w.cell? ⟨gs,0,none⟩=some (.string s)):lF dJ B 283 #[.pointer (some ⟨gs,0,none⟩)] (fun p=>decide (p.name=s)) w:=by
 intro W cs x hO hC;obtain⟨v1,v2,rfl,-⟩:=hC;have hlt:gs<w.heap.size:=World.block_lt_of_cell? _ _ hg;have hg2:W.cell? ⟨gs,0,none⟩=some (.string s):=by exact zEF
 have hgW:gs<W.heap.size:=World.block_lt_of_cell? _ _ hg2;have hd:=fP x.name s;have hne:gs≠W.heap.size:=zAA;clear hg hlt;go_enter Tryz.func283,Tryz.ntmps283;exact zFZ
theorem MJ:∀args w,(callFunc 283 args).run Tryz.prog w= .ok (.enter 283 args) w:=enters_of Tryz.func283 zk rfl
theorem acu{bp bc bn:Nat}{x:aQ}{q:dD}{g:List aC}{s:Str}(hc:lH B w bp x q g)(hcc:∀W,O0 w W->W.cell? ⟨bc,0,none⟩=some (.pointer (some ⟨bp,0,none⟩))/\W.cell? ⟨bn,0,none⟩=some (.string s))(hL:Laid w)(hB:B<=w.heap.size){zQ:List Value}{n:aC}(hn:dH B w zQ n)(hf:0<=x.find n.name)(hdl:(bY x n).deps.length<=1000000):Calls Tryz.prog 282 #[.agg zQ.toArray,.pointer (some ⟨bc,0,none⟩),.pointer (some ⟨bn,0,none⟩)] w fun e w'=>e= .returned (.bool ((mQ x n).any fun t=>decide (t.name=s)))/\O0 w w':=by have hn0:=hn;obtain⟨v5,v6,rfl,-,-,r5,r6⟩:=hn;obtain⟨a5,c5,rfl,-,-⟩:=r5.shape;obtain⟨a6,c6,rfl,-,-⟩:=r6.shape;obtain⟨n5,h5⟩:=ze n.sets.length;obtain⟨n6,h6⟩:=ze n.needs.length;rw[h5]at r5 hn0⊢;rw[h6]at r6 hn0⊢;obtain⟨W0,hW0,aV,jK,aF⟩:=QN w (.string n.name) (.string n.version) (.slice a5 n5 c5) (.slice a6 n6 c6) 83;have HAc:=zh (KG (hc.only aV.out) (dH.keep hn0 (Kp.dV aV.out)) hf hdl (qR hB aV.out.size) (hL.only aV.out));have Tq:=zh hcc;have hW0':=hW0.symm;obtain⟨r,hr⟩:∃r,((mQ x n).any fun t=>decide (t.name=s))=r:=⟨_,rfl⟩;rw[hr];have HR:=zh hr;obtain⟨k0,k1,k2,k3⟩:=aF.out W0 zr;obtain⟨p0,p1⟩:=Tq.out W0 aV.out;clear hn0 r5 r6 h5 h6 hc hW0 hL hB hdl hf hr hcc;go_enter Tryz.func282,Tryz.ntmps282;go_wp2_with fail;clear hW0' k0 k1 k2 k3 p0 p1;refine HAc.out.mono ?_;rintro e w1 ⟨v,rfl,hR,O1⟩;have o1:=aV.out.same O1;have vG:=zh (D9 hR MJ (acs s bn (Tq.out w1 o1).2) r (by rw[zV];exact HR.out));exact zFv
theorem Vf:∀args w,(callFunc 282 args).run Tryz.prog w= .ok (.enter 282 args) w:=enters_of Tryz.func282 zk rfl
theorem afn{bp bc bn:Nat}{x:aQ}{q:dD}{g:List aC}{s:Str}(hc:lH B w bp x q g)(hcc:∀W,O0 w W->W.cell? ⟨bc,0,none⟩=some (.pointer (some ⟨bp,0,none⟩))/\W.cell? ⟨bn,0,none⟩=some (.string s))(hL:Laid w)(hB:B<=w.heap.size)(hd:aaI x g):afl dH B 282 #[.pointer (some ⟨bc,0,none⟩),.pointer (some ⟨bn,0,none⟩)] (fun n=>(mQ x n).any fun t=>decide (t.name=s)) g w:=fun W cs n hm o hn=>acu (hc.only o) (fun V hV=>hcc V (o.same hV)) (hL.only o) (qR hB o.size) hn (hd n hm).1 (hd n hm).2
theorem afo{bp:Nat}{x:aQ}{q:dD}{g:List aC}(hc:lH B w bp x q g)(hL:Laid w)(hB:B<=w.heap.size)(hd:aaI x g)(s:Str):Calls Tryz.prog 199 #[.pointer (some ⟨bp,0,none⟩),.string s] w fun e w'=>e= .returned (.bool (zN x q g s))/\O0 w w':=by
 have Jp:=zh hc;obtain⟨a1,n1,c1,a2,n2,c2,a3,n3,c3,a4,n4,c4,-,-,-,-,-,-,oZ,-,-,-,-,acr,MH⟩:=hc.open;obtain⟨W0,hW0,aV,jK,aF⟩:=ajN w (.pointer (some ⟨bp,0,none⟩)) (.string s) 180 9;obtain⟨b1,hb1⟩:∃b,(q.roots.any fun r=>decide (r.spec.name=s))=b:=⟨_,rfl⟩;obtain⟨b2,hb2⟩:∃b,(g.any fun n=>(mQ x n).any fun t=>decide (t.name=s))=b:=⟨_,rfl⟩;have hr:zN x q g s=(b1||b2):=by unfold zN;rw[hb1,hb2]
 rw[hr];have HC1:=zh (Md (acr.out W0 aV.out) Pv (afm s (w.heap.size+1) (aF.out W0 zr).2) b1 (by rw[zV];exact hb1));have HC2:Hid (∀W,O0 W0 W->Calls Tryz.prog 281 #[.slice a4 n4 c4,.func (.func 282) #[] #[.pointer (some ⟨w.heap.size,0,none⟩),.pointer (some ⟨w.heap.size+1,0,none⟩)]] W fun e w'=>e= .returned (.bool b2)/\O0 W w'):=fun W hW=>
  KH (MH.out W (aV.out.same hW)) Vf (afn (Jp.out.only (aV.out.same hW)) (fun V hV=>aF.out V (hW.same hV)) (hL.only (aV.out.same hW)) (qR hB (aV.out.same hW).size) hd) b2 (by rw[zV];exact hb2)
 have hW0':=hW0.symm;obtain⟨k0,k1⟩:=aF.out W0 zr;obtain⟨p0,p1,p2,p3⟩:=oZ.out W0 aV.out;clear hc hW0 hL hB hd hr hb1 hb2;go_enter Tryz.func199,Tryz.ntmps199;go_wp2_with fail;clear hW0' k0 k1 p0 p1 p2 p3;refine HC1.out.mono ?_;rintro e w1 ⟨rfl,O1⟩;have aI:=zh (aV.out.same O1);have HD:=zh (HC2.out w1 O1);obtain⟨k0,k1⟩:=aF.out w1 O1;obtain⟨p0,p1,p2,p3⟩:=oZ.out w1 aI.out;clear O1 HC1 HC2;cases b1 with
 |true=>exact zEi
 |false=>go_wp2_with fail;refine HD.out.mono ?_;rintro e w2 ⟨rfl,O2⟩;have eF:=zh (aI.out.same O2);clear O2 k0 k1 p0 p1 p2 p3;exact zEH
end
section
variable {w w':World} {B:Nat}
attribute [local irreducible] wpQuiet
theorem apb(w:World)(v0 v1 v2 v3 v4 v5 v6:Value)(t0:TypeId):∃W0,W0=(w.alloc (.cells #[v0,v1,v2,v3,v4,v5,v6] t0))/\Hid (O0 w W0)/\Hid (W0.heap.size=w.heap.size+1)/\Hid (∀W,O0 W0 W->W.cell? ⟨w.heap.size,0,none⟩=some v0/\W.cell? ⟨w.heap.size,1,none⟩=some v1/\W.cell? ⟨w.heap.size,2,none⟩=some v2/\W.cell? ⟨w.heap.size,3,none⟩=some v3/\W.cell? ⟨w.heap.size,4,none⟩=some v4/\W.cell? ⟨w.heap.size,5,none⟩=some v5/\W.cell? ⟨w.heap.size,6,none⟩=some v6):=by obtain⟨W0,hW0⟩:=zB (w.alloc (.cells #[v0,v1,v2,v3,v4,v5,v6] t0));refine⟨W0,hW0,by rw[hW0];exact zr.alloc _,by rw[hW0];simp[Hid],fun W ho=>?_⟩;have b0:W0.heap[w.heap.size]? =some (.cells #[v0,v1,v2,v3,v4,v5,v6] t0):=zBf;have d0:=aA b0 ho (fun f=>f);exact⟨by rw[aj d0];rfl,by rw[aj d0];rfl,by rw[aj d0];rfl,by rw[aj d0];rfl,by rw[aj d0];rfl,by rw[aj d0];rfl,by rw[aj d0];rfl⟩
theorem QU{bp bc bn:Nat}{x:aQ}{q:dD}{g:List aC}(hc:lH B w bp x q g){n:aC}{a5 a6:Option Addr}{n5 c5 n6 c6:Nat}(hn:dH B w [.string n.name,.string n.version,.slice a5 n5 c5,.slice a6 n6 c6] n)(hcc:(∀W,O0 w W->W.cell? ⟨bc,0,none⟩=some (.pointer (some ⟨bp,0,none⟩))/\W.cell? ⟨bn,0,none⟩=some (.string n.name)/\W.cell? ⟨bn,1,none⟩=some (.string n.version)/\W.cell? ⟨bn,2,none⟩=some (.slice a5 n5 c5)/\W.cell? ⟨bn,3,none⟩=some (.slice a6 n6 c6)))(hL:Laid w){csy:List Value}{y:Iq}(hy:vO B w csy y):Calls Tryz.prog 201 #[.agg csy.toArray,.pointer (some ⟨bn,0,none⟩),.pointer (some ⟨bc,0,none⟩)] w fun e w'=>e= .returned (.bool (QM x g n y))/\O0 w w':=by
 obtain⟨q1,q2,rfl,⟨v1,v2,rfl,ok1,r1,r2⟩,⟨v3,v4,rfl,ok2,r3,r4⟩,-⟩:=hy;obtain⟨d1,e1,rfl,-,-⟩:=r1.shape;obtain⟨d2,e2,rfl,-,-⟩:=r2.shape;obtain⟨d3,e3,rfl,-,-⟩:=r3.shape;obtain⟨d4,e4,rfl,-,-⟩:=r4.shape;obtain⟨l1,h1⟩:=ze y.cond.spans.length;obtain⟨l2,h2⟩:=ze y.cond.sets.length;obtain⟨l3,h3⟩:=ze y.with'.spans.length;obtain⟨l4,h4⟩:=ze y.with'.sets.length;rw[h1]at r1⊢;rw[h2]at r2⊢;rw[h3]at r3⊢;rw[h4]at r4⊢;obtain⟨W0,hW0,aV,jK,aF⟩:=apb w (.string y.cond.name) (.slice d1 l1 e1) (.slice d2 l2 e2) (.string y.with'.name) (.slice d3 l3 e3) (.slice d4 l4 e4) (.int .i64 y.line) 160;have Tq:=zh hcc;obtain⟨hb,hhb⟩:=ze (jr n y.cond);obtain⟨mb,hmb⟩:=ze (Bd g y.with');obtain⟨eb,heb⟩:=ze y.with'.name.toList.isEmpty;have hW:QM x g n y=(hb&&(eb||mb)):=by unfold QM;rw[hhb,hmb,BN,heb]
 rw[hW];have HH:=zh (OB (dH.keep hn (Kp.dV aV.out)) (⟨_,_,rfl,ok1,r1.keep fE.keep (Kp.dV aV.out),r2.keep dO.keep (Kp.dV aV.out)⟩:dJ B W0 [.string y.cond.name,.slice d1 l1 e1,.slice d2 l2 e2] y.cond) (hL.only aV.out));have HM:Hid (∀W,O0 W0 W->Calls Tryz.prog 195 #[.pointer (some ⟨bp,0,none⟩),.agg #[.string y.with'.name,.slice d3 l3 e3,.slice d4 l4 e4]] W fun e w'=>e= .returned (.bool mb)/\O0 W w'):=fun W hW=>by have o:=aV.out.same hW;rw[<-hmb];exact Zp (hc.only o) (⟨_,_,rfl,ok2,r3.keep fE.keep (Kp.dV o),r4.keep dO.keep (Kp.dV o)⟩:dJ B W [.string y.with'.name,.slice d3 l3 e3,.slice d4 l4 e4] y.with') (hL.only o)
 rw[hhb]at HH;have hW0':=hW0.symm;clear r1 r2 r3 r4 h1 h2 h3 h4 hc hn hcc hL hW0 hhb hmb hW;obtain⟨pc,m0,m1,m2,m3⟩:=Tq.out W0 aV.out;obtain⟨k0,k1,k2,k3,k4,k5,k6⟩:=aF.out W0 zr;go_enter Tryz.func201,Tryz.ntmps201;go_wp2_with fail;clear hW0';clear pc m0 m1 m2 m3 k0 k1 k2 k3 k4 k5 k6;refine HH.out.mono ?_;rintro e w1 ⟨rfl,O1⟩;have aI:=zh (aV.out.same O1);have HMw:=zh (HM.out w1 O1);obtain⟨pc,m0,m1,m2,m3⟩:=Tq.out w1 aI.out;obtain⟨k0,k1,k2,k3,k4,k5,k6⟩:=aF.out w1 O1;clear O1 HH HM;cases hb with
 |false=>exact zEi
 |true=>
  cases eb with
  |true=>exact zEi
  |false=>go_wp2_with fail;refine HMw.out.mono ?_;rintro e w2 ⟨rfl,O2⟩;have eF:=zh (aI.out.same O2);clear O2 pc m0 m1 m2 m3 k0 k1 k2 k3 k4 k5 k6;exact zEH
theorem Zz:∀args w,(callFunc 201 args).run Tryz.prog w= .ok (.enter 201 args) w:=enters_of Tryz.func201 zk rfl
theorem Vg{bp bc bn:Nat}{x:aQ}{q:dD}{g:List aC}(hc:lH B w bp x q g){n:aC}{a5 a6:Option Addr}{n5 c5 n6 c6:Nat}(hn:dH B w [.string n.name,.string n.version,.slice a5 n5 c5,.slice a6 n6 c6] n)(hcc:(∀W,O0 w W->W.cell? ⟨bc,0,none⟩=some (.pointer (some ⟨bp,0,none⟩))/\W.cell? ⟨bn,0,none⟩=some (.string n.name)/\W.cell? ⟨bn,1,none⟩=some (.string n.version)/\W.cell? ⟨bn,2,none⟩=some (.slice a5 n5 c5)/\W.cell? ⟨bn,3,none⟩=some (.slice a6 n6 c6)))(hL:Laid w):lF vO B 201 #[.pointer (some ⟨bn,0,none⟩),.pointer (some ⟨bc,0,none⟩)] (QM x g n) w:=fun W cs y o hy=>QU (hc.only o) (dH.keep hn (Kp.dV o)) (fun V hV=>hcc V (o.same hV)) (hL.only o) hy
theorem Vh{bp:Nat}{x:aQ}{q:dD}{g:List aC}(hc:lH B w bp x q g){zQ:List Value}{n:aC}(hn:dH B w zQ n)(hf:0<=x.find n.name)(hL:Laid w)(ix:Int):Calls Tryz.prog 120 #[.pointer (some ⟨bp,0,none⟩),.int .i64 ix,.agg zQ.toArray] w fun e w'=>e= .returned (.bool (Bf x g n))/\O0 w w':=by
 have hn0:=hn;obtain⟨v5,v6,rfl,-,-,r5,r6⟩:=hn;obtain⟨a5,c5,rfl,-,-⟩:=r5.shape;obtain⟨a6,c6,rfl,-,-⟩:=r6.shape;obtain⟨n5,h5⟩:=ze n.sets.length;obtain⟨n6,h6⟩:=ze n.needs.length;rw[h5]at r5 hn0⊢;rw[h6]at r6 hn0⊢;obtain⟨W0,hW0,aV,jK,aF⟩:=afj w (.pointer (some ⟨bp,0,none⟩)) (.string n.name) (.string n.version) (.slice a5 n5 c5) (.slice a6 n6 c6) 180 83;obtain⟨OI,qm,kS⟩:=Jm (hc.only aV.out) (dH.keep hn0 (Kp.dV aV.out)) hf;obtain⟨F9,Gf,Gg,Ea,Eb,Ec,Ep,Es,Et,Gh,xB,Gi,FB,DJ,FC,Gj,Gl,Gm,zY,gd1,hd1,gd2,hd2,gd3,hd3,gd4,hd4,gd5,hd5,gd6,hd6,Nd1,Nd2,Nd3,SH,Nd5,Nd6,Fd⟩:=iO qm;subst zY;obtain⟨HKd,OJ,Ky,Kz,Hu,KA,OL⟩:=Fd W0 zr;replace kS:=zh kS;clear Fd qm;have hfv:=fun W=>Xn (.string (bY x n).name) (.int .i64 (bY x n).line) (.slice F9 Gf Gg) (.slice Ea Eb Ec) (.slice Ep Es Et) (.slice Gh xB Gi) (.slice FB DJ FC) (.slice Gj Gl Gm) W;have hW0':=hW0.symm;obtain⟨r,hr⟩:=ze (Bf x g n);rw[hr];have vG:Hid (∀W,O0 W0 W->Calls Tryz.prog 200 #[.slice FB DJ FC,.func (.func 201) #[] #[.pointer (some ⟨w.heap.size+1,0,none⟩),.pointer (some ⟨w.heap.size,0,none⟩)]] W fun e w'=>e= .returned (.bool r)/\O0 W w'):=fun W hW=>
  Mc (KA.out W hW) Zz (Vg (bc:=w.heap.size) (bn:=w.heap.size+1) (hc.only (aV.out.same hW)) (dH.keep hn0 (Kp.dV (aV.out.same hW))) (fun V hV=>aF.out V (hW.same hV)) (hL.only (aV.out.same hW))) r (by rw[zV,<-Jh];exact hr)
 obtain⟨k0,k1,k2,k3,k4⟩:=aF.out W0 zr;clear hn0 r5 r6 h5 h6 hc hW0 hL hf hr;go_enter Tryz.func120,Tryz.ntmps120;go_wp2_with fail;clear hW0' k0 k1 k2 k3 k4;refine(kS.out W0 zr).mono ?_;rintro e w1 ⟨rfl,O1⟩;have aI:=zh (aV.out.same O1);have HD:=zh (vG.out w1 O1);clear O1 vG;go_wp2_with fail;refine HD.out.mono ?_;rintro e w2 ⟨rfl,O2⟩;have eF:=zh (aI.out.same O2);clear O2;exact zEH
end
end Go.Proofs.YtdmmebjjojimiaaGreatDoor
