/- Package check: of, twice, versions, wish. Printed by gen_ck1.py.; Package variant: one, May. -/
import Derived.Test.YtdmmebjjojimiaaGreatDoorG16
set_option maxRecDepth 100000
set_option maxHeartbeats 8000000
set_option linter.all false
namespace Go.Proofs
theorem zAa{p:Prop}(h:p:=by(intro w hSw;obtain⟨k0,k1,k2,k3,k4⟩:=aF.out w hSw;have fJ:=(jq.out w hSw).1;have Bv:=fJ 0 _ rfl;have Qr:=fJ 1 _ rfl;have gy2:=fJ 2 _ rfl;have gy3:=fJ 3 _ rfl;have gy4:=fJ 4 _ rfl;have gy5:=fJ 5 _ rfl;have gy6:=fJ 6 _ rfl;have gy7:=fJ 7 _ rfl;rw[qF]at Bv;clear fJ;go_simp<;>(try with_reducible rfl))):p:=h
theorem zDw{p:Prop}(h:p:=by
 obtain⟨a2,c2,e,h1,h2⟩:=h.shape
 simp only[qU]at e
 obtain⟨rfl,rfl,rfl⟩:=e
 refine⟨⟨ao,cap,by rw[List.length_take];congr 1;omega,by rw[List.length_take];omega,h2⟩,fun ao' len' cap' hv hp=>?_,fun len' cap' hv=>?_⟩
 ·simp only[qU]at hv
  obtain⟨rfl,-,-⟩:=hv
  rw[List.length_take]at hp
  obtain⟨b,off,e2,hb,hB,hc⟩:=h.cells _ _ _ rfl zAA
  refine⟨b,off,e2,hb,hB,fun j hj=>?_⟩
  rw[List.length_take]at hj
  obtain⟨cs,g1,g2,g3⟩:=hc j zAA
  exact⟨cs,g1,g2,by rw[List.getElem_take];exact g3⟩
 ·simp only[qU]at hv
  obtain⟨rfl,rfl,rfl⟩:=hv
  have:=h.nil _ _ rfl
  omega):p:=h
theorem zEb{p:Prop}(h:p:=by
 subst hres
 clear aZ
 go_wp2_with fail
 go_ret
 exact⟨rfl,aV.out.same xK.out⟩):p:=h
theorem zFt{p:Prop}(h:p:=by
 go_wp2_with fail
 go_roundw
 case rel=>exact⟨HOv,j+1,by first|rfl|go_num,by omega,HVv,HBv⟩
 case measure=>simp[RowKit.intOf]<;>omega):p:=h
theorem zGQ{p:Prop}(h:p:=by
 go_wp2_with fail
 go_ret
 exact⟨rfl,oA⟩):p:=h
end Go.Proofs
namespace Go.Proofs.YtdmmebjjojimiaaGreatDoor
open Go.RowKit
section
variable {w w':World} {B:Nat}
attribute [local irreducible] wpQuiet
theorem Om{α:Type}(p:α->Bool)(xs:List α):decide (0<=iK p xs)=xs.any p:=by
 unfold iK;cases h:xs.any p with
 |true=>rw[if_pos rfl];exact qX zAA
 |false=>rw[if_neg zCt];exact qP zAA
theorem Lm{α:Type}(p:α->Bool)(xs:List α):(!xs.any fun a=> !p a)=xs.all p:=by rw[List.all_eq_not_any_not]
theorem abx:∀args w,(callFunc 267 args).run Tryz.prog w= .ok (.enter 267 args) w:=enters_of Tryz.func267 zk rfl
theorem Y2:∀args w,(callFunc 269 args).run Tryz.prog w= .ok (.enter 269 args) w:=enters_of Tryz.func269 zk rfl
theorem ai0(gs:Nat)(s:dM)(h0:w.cell? ⟨gs,0,none⟩=some (.string s.name))(h1:w.cell? ⟨gs,1,none⟩=some (.string s.value)):lF l9 B 269 #[.pointer (some ⟨gs,0,none⟩)] (LX s) w:=by
 intro W cs v hO hC;obtain⟨v1,rfl,-,hv⟩:=hC;obtain⟨a1,c1,rfl,-,-⟩:=hv.shape;obtain⟨n1,hn1⟩:=ze v.values.length;rw[hn1]at hv⊢;have oA:O0 W (W.alloc (.cells #[.string v.name,.slice a1 n1 c1] 145)):=zr.alloc _;have q0:=eH h0 (hO.same oA) (fun f=>f);have q1:=eH h1 (hO.same oA) (fun f=>f);have hd:=fP v.name s.name;obtain⟨r,hr⟩:=ze (iC v.values s.value);have vG:=zh (oN (hv.keep bU.keep (Kp.dV oA)) s.value);rw[hr]at vG;unfold LX;rw[hr];clear h0 h1 hO hv hr hn1;go_enter Tryz.func269,Tryz.ntmps269;by_cases hy:v.name=s.name;·rw[qX hy]at hd⊢;clear hy;rw[yR];go_wp2_with fail;refine vG.out.mono ?_;rintro e w2 ⟨rfl,rfl⟩;exact zGQ
 rw[qP hy]at hd⊢;clear hy;rw[yQ];exact zGQ
theorem alm{gp:Nat}{a:Option Addr}{n c:Nat}(p:iI)(h3:w.cell? ⟨gp,3,none⟩=some (.slice a n c))(hp:aS 2 l9 B w (.slice a n c) p.vars):lF dO B 267 #[.pointer (some ⟨gp,0,none⟩)] (fun s=> !KW p s) w:=by intro W cs s hO hC;obtain⟨rfl,-,-⟩:=hC;have oA:O0 W (W.alloc (.cells #[.string s.name,.string s.value] 117)):=zr.alloc _;have q3:=eH h3 (hO.same oA) (fun f=>f);have b0:(W.alloc (.cells #[.string s.name,.string s.value] 117)).heap[W.heap.size]? =some (.cells #[.string s.name,.string s.value] 117):=qL W _;obtain⟨r,hr⟩:=ze (KW p s);have vG:=zh (LZ (hp.keep l9.keep (Kp.dV (hO.same oA))) Y2 (ai0 W.heap.size s (by rw[aj b0];rfl) (by rw[aj b0];rfl)) r (by rw[Om];exact hr));show Calls Tryz.prog _ _ W fun e w'=>e= .returned (.bool (!KW p s))/\O0 W w';rw[hr];clear h3 hO hp hr b0;go_enter Tryz.func267,Tryz.ntmps267;go_wp2_with fail;refine vG.out.mono ?_;rintro e w2 ⟨rfl,O2⟩;go_wp2_with fail;go_ret;exact⟨rfl,oA.same O2⟩
theorem ai1{LY:List Value}{p:iI}(hp:gY B w LY p){vl:Value}{l:List dM}(hl:aS 2 dO B w vl l):Calls Tryz.prog 186 #[.agg LY.toArray,vl] w fun e w'=>e= .returned (.bool (gU p l))/\O0 w w':=by
 obtain⟨mZ,jL,ng,lN,jA,lQ,gZ,ig,iq,pV,iF,ni,pW,iG,ny,kP,kQ,kR,rfl,zq,zu,zx,zy,lS,lT,BD,BF,BG,BH,uf,ug,pX,uQ,lU,rZ,su,uh,Z5⟩:=iO hp;clear hp;obtain⟨a_l,kH,CO,rfl,Ym,JK,tZ,EL⟩:=tY hl;clear hl;obtain⟨W0,hW0,aV,jK,aF⟩:=aiv w (.string p.name) (.int .i64 p.line) (.slice mZ jL ng) (.slice lN jA lQ) (.slice gZ ig iq) (.slice pV iF ni) (.slice pW iG ny) (.slice kP kQ kR) 101;obtain⟨VO,uj,qy,kJ,um,uo,pY⟩:=Z5 W0 aV.out;clear Z5;have nO:=EL W0 aV.out;clear EL;obtain⟨r,hr⟩:=ze (gU p l);have hr2:(l.any fun s=> !KW p s)= !r:=by rw[<-hr];unfold gU;rw[<-Lm,Bool.not_not]
 rw[hr];have vG:=zh (D5 (nO.out W0 zr) abx (alm (gp:=w.heap.size) p (aF.out W0 zr).2.2.2.1 (qy.out W0 zr)) (!r) (by rw[Om];exact hr2));clear hr hr2;go_enter Tryz.func186,Tryz.ntmps186;go_wp2_with fail;rw[<-hW0];clear hW0;refine vG.out.mono ?_;rintro e w2 ⟨rfl,O2⟩;go_wp2_with fail;go_ret;exact⟨by first|rfl| (rw[Bool.not_not];rfl),aV.out.same O2⟩
theorem aby{ao:Option Addr}{n cap:Nat}{l:List Str}(h:aS 1 bU B w (.slice ao n cap) l){i:Nat}(hi:i<=n):aS 1 bU B w (.slice ao i cap) (l.take i):=by exact zDw
theorem MX{vl:Value}{l:List Str}(hl:aS 1 bU B w vl l):Calls Tryz.prog 183 #[vl] w fun e w'=>e= .returned (.bool (!eu l))/\O0 w w':=by
 obtain⟨a_l,kH,CO,rfl,Ym,JK,tZ,EL⟩:=open_strs hl;clear hl;obtain⟨W0,hW0⟩:=zB w;have aV:Hid (O0 w W0):=zBU;have nO:=EL W0 aV.out;clear EL;obtain⟨r,hr⟩:=ze (!eu l);rw[hr];have aZ:=zh hr;clear hr;subst hW0;go_enter Tryz.func183,Tryz.ntmps183;go_wp2_with fail;go_loopw [7] (fun vi bD=>Hid (O0 W0 bD)/\∃i:Nat,vi= .int .i64 i/\i<=kH/\Hid (eu (l.take i)=true)) (fun v _=>kH-(RowKit.intOf v).toNat);case atStart=>exact⟨show Hid _ from Only.refl _ _,0,rfl,qE _,show Hid _ from by simp[Hid,eu]⟩
 case round=>
  obtain⟨bD,rfl⟩:=zB wr;obtain⟨gK,i,rfl,hi,HNt⟩:=hrel;by_cases ci:i<kH
  ·have iE:=zw (i+1);obtain⟨yu,hxu⟩:=zG l i zAy;obtain⟨X9,GI,heu,aiZ,Oj⟩:=iR (nO.out W0 zr) hxu;first|subst heu| (simp only[qG,qO,and_true]at heu;obtain⟨rfl,rfl⟩:=heu)
   have HEu:=zh Oj;have HXu:=zh hxu;clear Oj hxu;have JF:=(HEu.out bD gK.out).1;have Qj:=JF 0 _ rfl;rw[qF]at Qj;rw[yH]at Qj;clear JF;have abz:∀W,(Instr.slice 81 (.slice (some ⟨X9,GI,none⟩) kH CO) none (some (.int .i64 (i:Int))) none).run Tryz.prog W= .ok (.slice (some ⟨X9,GI,none⟩) i CO) W:=fun W=>by obtain⟨ii,zz,t1,t2,t3,-,-⟩:=iU.info;exact Bc (P:=Tryz.prog) iU.und t1 t3 (some ⟨X9,GI,none⟩) kH i CO zAA W
   have vG:=zh (oN (aby (nO.out bD gK.out) hi) yu);obtain⟨b,hb⟩:=ze (iC (l.take i) yu);rw[hb]at vG;have HTw:=zh (Ld HXu.out HNt.out);rw[hb]at HTw;clear hb;go_wp2_with fail;refine vG.out.mono ?_;rintro e w2 ⟨rfl,rfl⟩;cases b with
   |true=>
    have hf:r=true:=by rw[<-aZ.out,NS (i:=i+1) HTw.out];rfl
    subst hf;clear HTw aZ;exact zDv
   |false=>
    have Oo:Hid (eu (l.take (i+1))=true):=HTw.out;go_wp2_with fail;go_roundw;case rel=>exact⟨gK,i+1,by first|rfl|go_num,by omega,Oo⟩
    case measure=>simp[RowKit.intOf]<;>omega
  obtain rfl:kH=i:=by omega
  have hf:r=false:=by have h:=HNt.out;rw[qI (yG tZ.out)]at h;rw[<-aZ.out,h];rfl
  subst hf;exact zDv
theorem ai2{v:Value}{l:List wu}(h:aS 2 pR B w v l):∀r∈l,okS r.version:=fun r hr=>by
 obtain⟨cs,hC⟩:=h.all r hr
 exact hC.2
theorem Y3{vl:Value}{l:List wu}(hl:aS 2 pR B w vl l)(hlen:l.length<=1000000):Calls Tryz.prog 184 #[vl] w fun e w'=> ∃v,e= .returned v/\aS 1 bU w'.heap.size w' v (l.map wu.version)/\O0 w w':=by
 obtain⟨a_l,CO,rfl,Ym,JK⟩:=hl.shape;obtain⟨kH,e1⟩:=ze l.length;have tZ:=zh e1;rw[e1]at hl Ym hlen⊢;have nO:Hid (∀W,O0 w W->aS 2 pR B W (.slice a_l kH CO) l):=fun W ho=>hl.keep pR.keep (Kp.dV ho);have kU:=zh (ai2 hl);clear e1 hl;obtain⟨W0,hW0⟩:=zB w;subst hW0;go_enter Tryz.func184,Tryz.ntmps184;go_wp2_with fail;go_loopw [3,8] (fun vo vj gV=>Hid (O0 W0 gV)/\∃j:Nat,vj= .int .i64 j/\j<=kH/\Hid (gV.ownsRow 0 9 1 vo j (bZ (sZ l j)))/\Hid (∀k,vo.ownBlock=some k->W0.heap.size<=k)) (fun _ v _=>kH-(RowKit.intOf v).toNat);case atStart=>exact⟨show Hid _ from Only.refl _ _,0,rfl,qE _,World.ownsRow_nil _ _ _ _,fun k hk=>by cases hk⟩
 case round=>
  obtain⟨gV,rfl⟩:=zB wr;obtain⟨GK,j,rfl,hj,HV,HBj⟩:=hrel;by_cases cj:j<kH
  ·have iE:=zw (j+1);obtain⟨yz,hxz⟩:=zG l j zAy;obtain⟨JD,vP,qc,AX,jM⟩:=MQ (nO.out W0 zr) hxz;first|subst qc| (simp only[qG,qO,and_true]at qc;obtain⟨rfl,rfl⟩:=qc)
   have jd:=zh jM;have vS:=zh hxz;clear jM hxz;have oG:Hid (gV.rangeAt JD (vP+j*2) [.string yz.version,.bool yz.old]):=(jd.out gV GK.out).1;have H6z:Hid ((gV.alloc (.cells #[.string ⟨#[]⟩,.bool false] 130)).heap[gV.heap.size]? =some (.cells #[.string ⟨#[]⟩,.bool false] 130)):=qL gV _;have Ya:Hid (((gV.alloc (.cells #[.string ⟨#[]⟩,.bool false] 130)).setRow gV.heap.size #[.string yz.version,.bool yz.old]).heap[gV.heap.size]? =some (.cells #[.string yz.version,.bool yz.old] 130 (0,0))):=setRow_heap _ _ _ _ _ _ H6z.out;have pz:Hid (O0 gV ((gV.alloc (.cells #[.string ⟨#[]⟩,.bool false] 130)).setRow gV.heap.size #[.string yz.version,.bool yz.old])):=(zr.alloc _).trans (aK _ _ _) fun k hk=>.inr (yG hk.symm);have q0:=aj Ya.out 0;obtain⟨ao,co,rfl,-,-⟩:=bg HV.out;go_wp2_with (first
    | (refine wpList_load_mid rfl 130 (.tmp 10) rfl JD (vP+j*2) rfl _ _ oG.out Tryz.underlying130 rfl zk ?_)
    | (refine wpList_store_row rfl 130 (.tmp 5) (.tmp 11) rfl gV.heap.size #[.string yz.version,.bool yz.old] rfl rfl 130 #[.string ⟨#[]⟩,.bool false] H6z.out zk rfl zk ?_)
    | (at_builtin;go_must (refine Ai (u:=.string yz.version) iU rfl (.tmp 12) (.tmp 15) rfl rfl rfl (by have h:=cell_new0 ((gV.alloc (.cells #[.string ⟨#[]⟩,.bool false] 130)).setRow gV.heap.size #[.string yz.version,.bool yz.old]) (.string yz.version) 9;simpa using h) rfl (aW HV.out (pz.out.alloc _) (fun _ _ f=>f)) zAA zHZ ?_)))
   intro v' w2 r1 r2 r3;have HVv:Hid (w2.ownsRow 0 9 1 v' (j+1) (bZ (sZ l (j+1)))):=by rw[KX vS.out];simpa[bZ,Hid]using r1
   have HOv:Hid (O0 W0 w2):=(GK.out.same (pz.out.alloc _)).trans r2 fun k hk=>.inr (HBj.out k hk);have HBv:Hid (∀k,v'.ownBlock=some k->W0.heap.size<=k):=by
    intro k hk;obtain⟨g,cap',rfl,-,-,h|h⟩:=r3;·exact zFq
    simp[Value.ownBlock]at hk;subst hk;have h9:=GK.out.size;simp at h;omega
   obtain⟨g,cap',rfl,-,-,-⟩:=r3;clear r1 r2 q0;exact zFt
  obtain rfl:kH=j:=by omega
  obtain⟨ao,co,rfl,-,-⟩:=bg HV.out;go_wp2_with fail;go_ret;have hall:sZ l kH=l.map wu.version:=by unfold sZ;rw[qI (yG tZ.out)]
  refine⟨_,rfl,?_,GK.out⟩;have h:=HV.out;rw[hall]at h;refine oO (by rw[qM];exact tZ.out) h fun s hs=>?_;obtain⟨r,hr,rfl⟩:=yD.1 hs;exact kU.out r hr
theorem adZ(a b:Str)(W:World):(binOp .eql 128 (.agg #[.string a,.string b]) (.agg #[.string ⟨#[]⟩,.string ⟨#[]⟩])).run Tryz.prog W= .ok (.bool (a.toList.isEmpty&&b.toList.isEmpty)) W:=by
 by_cases h1:a.toList=[]
 ·by_cases h2:b.toList=[];·rw[h1,h2];go_simp
  have e2:b.toList.isEmpty=false:=by rw[List.isEmpty_eq_false_iff];exact h2
  rw[h1,e2];go_simp
 have e1:a.toList.isEmpty=false:=by rw[List.isEmpty_eq_false_iff];exact h1
 rw[e1];go_simp
theorem Y4{lC:List Value}{x:aQ}(hx:fO B w lC x){css:List Value}{s:iW}(hs:dJ B w css s)(hlen:x.packs.length<=1000000):Calls Tryz.prog 107 #[.agg lC.toArray,.agg css.toArray] w fun e w'=>e= .returned (.int .u8 (x.wish s))/\O0 w w':=by
 obtain⟨aP,ak,aJ,aO,aG,aH,rfl,fF,fG,dP,dQ,aB,bJ,mY⟩:=open_rec hx;clear hx;try rw[aB.out]
 obtain⟨lJ,jk,lK,lV,jB,lW,rfl,JM,JO,Nu,Nv,oP,EM,F_s⟩:=FX hs;clear hs;obtain⟨W0,hW0,aV,jK,aF⟩:=ac9 w (.slice aP ak aJ) (.slice aO aG aH) (.string s.name) (.slice lJ jk lK) (.slice lV jB lW) 25 108;obtain⟨eX,bK,bT⟩:=mY W0 aV.out;clear mY;obtain⟨agu,wE,yZ⟩:=F_s W0 aV.out;clear F_s;rw[aB.out]at hlen;obtain⟨f,hf⟩:=ze (x.find s.name);obtain⟨vb,hvb⟩:=ze (x.nZ s.name);obtain⟨sa,hsa⟩:=ze (JL s.spans);have HSa:=zh hsa;have Gw:=x.uM s.name;rw[hf,aB.out]at Gw;have HF:Hid (∀W,O0 W0 W->Calls Tryz.prog 182 #[.agg #[.slice aP ak aJ,.slice aO aG aH],.string s.name] W fun e w'=>e= .returned (.int .i64 f)/\O0 W w'):=fun W hW=>by rw[<-hf];exact rX (eX.out W hW) s.name
 have HVt:Hid (∀W,O0 W0 W->Calls Tryz.prog 156 #[.agg #[.slice aP ak aJ,.slice aO aG aH],.string s.name] W fun e w'=>e= .returned (.bool vb)/\O0 W w'):=fun W hW=>by rw[<-hvb];exact J8 (eX.out W hW) zAg s.name
 obtain⟨r,hr⟩:=ze (x.wish s);rw[hr];have aZ:Hid (r=if 0<=f then (if gU (x.pack f.toNat) s.sets then 0 else 8)
  else if vb then (if 0<jB then 9 else if sa then 0 else 9)else 7):=by
  rw[<-hr,aQ.wish,hf,hvb,EM.out,hsa]
  exact rfl
 clear hf hvb hr hsa;obtain⟨k0,k1,k2,k3,k4⟩:=aF.out W0 zr;rw[hW0]at k0 k1 k2 k3 k4;go_enter Tryz.func107,Tryz.ntmps107;go_wp2_with fail;rw[<-hW0]at k0 k1 k2 k3 k4⊢;clear hW0;refine(HF.out W0 zr).mono ?_;rintro e w1 ⟨rfl,O1⟩;have aI:=zh O1;clear O1 HF k0 k1 k2 k3 k4;obtain⟨k0,k1,k2,k3,k4⟩:=aF.out w1 aI.out;go_upto_region 2 with fail;go_cut [6] (fun v6 wx=>v6= .bool sa/\wx=w1);case first=>
  by_cases hone:jk=1
  ·subst hone;have hrow:=wE.out w1 aI.out;obtain⟨y,hy⟩:∃y,s.spans=[y]:=List.length_eq_one_iff.1 oP.out;have hrow1:aS 2 fE B w1 (.slice lJ s.spans.length lK) s.spans:=by rw[oP.out];exact hrow
   obtain⟨bS,ai3,eS,-,-⟩:=hrow1.at (by rw[oP.out];omega);subst eS;obtain⟨csS,-,hrS,rfl,-,-⟩:=hrow.get (i:=0) (x:=y) (by rw[hy];rfl);have HRS:Hid (w1.rangeAt bS ai3 [.string y.lo,.string y.hi]):=by simpa[Hid]using hrS
   have an7:=adZ y.lo y.hi;have hsp:(y.lo.toList.isEmpty&&y.hi.toList.isEmpty)=sa:=by have:=HSa.out;rw[hy]at this;exact this
   rw[hsp]at an7;clear hrS hrow hrow1 hy hsp;have q3:w1.cell? ⟨bS,ai3,none⟩=some (.string y.lo):=HRS.out 0 _ rfl;have q4:w1.cell? ⟨bS,ai3+1,none⟩=some (.string y.hi):=HRS.out 1 _ rfl;go_wp2_with fail;go_meet;exact⟨rfl,rfl⟩
  have hs0:sa=false:=by
   rw[<-HSa.out];unfold JL;split;·rename_i h;exact absurd (by rw[<-oP.out,h];rfl) hone
   rfl
  have hne:((jk:Int)==1)=false:=zBd;subst hs0;go_wp2_with fail;go_meet;exact⟨rfl,rfl⟩
 case rest=>
  obtain⟨rfl,e9⟩:=hcut;have e9:=e9.symm;subst e9;clear HSa;by_cases hf:0<=f
  ·obtain⟨i,rfl⟩:∃i:Nat,f=i:=⟨f.toNat,by omega⟩;have ci:i<ak:=zAA;obtain⟨yy,hxy⟩:=zG x.packs i zAt;obtain⟨AY,mF,og,jo,oh,sO,sQ,sS,xE,uT,xG,yc,uG,yg,EN,AZ,EO,CV,zA,CW,oq,kF,nP,rQ,qB,uU,uV,yh,Ef,je⟩:=jy (bK.out W0 zr) hxy;first|subst oq| (simp only[qG,qO,and_true]at oq;obtain⟨rfl,rfl⟩:=oq)
   have jq:=zh je;have xR:=zh hxy;clear je hxy kF nP rQ qB uU uV;have Z7:Hid (∀W,O0 W0 W->gY B W [.string yy.name,.int .i64 yy.line,.slice og jo oh,.slice sO sQ sS,.slice xE uT xG,.slice yc uG yg,.slice EN AZ EO,.slice CV zA CW] yy):=fun W ho=>(jq.out W ho).2.2.2.2.2.2.2;have hpk:x.pack i=yy:=zA6;obtain⟨sb,hsb⟩:=ze (gU yy s.sets);have HR2:Hid (r=if sb then 0 else 8):=by have hres:=aZ.out;rw[if_pos hf,yT,hpk,hsb]at hres;exact hres
   clear aZ;have aZ:=HR2;clear HR2;have Ij:Hid (∀W,O0 W0 W->Calls Tryz.prog 186 #[.agg #[.string yy.name,.int .i64 yy.line,.slice og jo oh,.slice sO sQ sS,.slice xE uT xG,.slice yc uG yg,.slice EN AZ EO,.slice CV zA CW],.slice lV jB lW] W fun e w'=>e= .returned (.bool sb)/\O0 W w'):=fun W hW=>by rw[<-hsb];exact ai1 (Z7.out W hW) (yZ.out W hW)
   clear hpk hsb;have hge:decide (0<=(i:Int))=true:=qX zAA;have hlt0:decide ((i:Int)<0)=false:=qP zAA;go_wp2_with fail;refine dn (n:=14) (E:=fun _=>false) (S:=fun W=>O0 W0 W) zk rfl (by exact(aI.out).drew) (fun hHeld=>?_);refine tW 0 ?_;refine tW 1 ?_;refine tW 2 ?_;refine tW 3 ?_;refine tK 4 ?_ (hy:=zAa);refine tW 5 ?_;refine tW 6 ?_;refine tK 7 ?_ (hy:=zAa);refine tW 8 ?_;refine tK 9 ?_ (hy:=zAa);refine tO 10 fun K hK=>?_;(go_simp;refine(Ij.out _ hHeld).mono ?_;rintro e w5 ⟨rfl,o5⟩;try go_wp2_with fail);refine hK.out _ _ ?_ (fun hHeld=>?_);·exact zD8
   clear hK K;try simp only[Act.put,fA,fD,fB,dW,dX,dY]
   refine tW 11 ?_;refine tW 12 ?_;refine tW 13 ?_;refine bV zk ?_ _;have xK:=zh hHeld;clear hHeld;obtain⟨k0,k1,k2,k3,k4⟩:=aF.out w5 xK.out;cases sb with
   |true=>have hres:=aZ.out;rw[if_pos rfl]at hres;exact zEb
   |false=>have hres:=aZ.out;rw[if_neg zAP]at hres;exact zEb
  have HfN:Hid (f<0):=by(simp only[Hid];omega)
  have hge:decide (0<=f)=false:=qP hf;have hlt0:decide (f<0)=true:=qX zAA;go_wp2_with fail;refine(HVt.out w1 aI.out).mono ?_;rintro e w2 ⟨rfl,O2⟩;have eF:=zh (aI.out.same O2);clear O2 k0 k1 k2 k3 k4;obtain⟨k0,k1,k2,k3,k4⟩:=aF.out w2 eF.out;cases vb with
  |false=>have hres:=aZ.out;rw[if_neg (Int.not_le.2 HfN.out),if_neg zAP]at hres;exact zGP
  |true=>
   go_wp2_with fail;refine dn (n:=14) (E:=fun _=>false) (S:=fun W=>O0 W0 W) zk rfl (by exact(eF.out).drew) (fun hHeld=>?_);refine tW 0 ?_;refine tW 1 ?_;refine tW 2 ?_;refine tS 3 ?_;refine tS 4 ?_;refine tS 5 ?_;refine tS 6 ?_;refine tS 7 ?_;refine tS 8 ?_;refine tS 9 ?_;refine tS 10 ?_;refine tS 11 ?_;refine tW 12 ?_;refine tW 13 ?_;refine bV zk ?_ _;have xK:=zh hHeld;clear hHeld k0 k1 k2 k3 k4;obtain⟨k0,k1,k2,k3,k4⟩:=aF.out w2.drew xK.out;cases sa with
   |false=>
    have hres:r=9:=by have h:=aZ.out;simpa[Int.not_le.2 HfN.out]using h
    exact zEb
   |true=>
    by_cases hn:0<jB
    ·have hres:r=9:=by have h:=aZ.out;simpa[Int.not_le.2 HfN.out,hn]using h
     exact zEb
    have hres:r=0:=by have h:=aZ.out;simpa[Int.not_le.2 HfN.out,hn]using h
    exact zEb
end
end Go.Proofs.YtdmmebjjojimiaaGreatDoor
namespace Go.Proofs
theorem zCF{p:Prop}(h:p:=by rw[aZ.out];simp):p:=h
theorem zGq{p:Prop}(h:p:=by exact⟨by rw[aj b1];rfl,by rw[aj b1];rfl⟩):p:=h
end Go.Proofs
namespace Go.Proofs.YtdmmebjjojimiaaGreatDoor
open Go.RowKit
section
variable {w w':World} {B:Nat}
theorem ai5{cs:List Value}{v:jm}(h:l9 B w cs v):Calls Tryz.prog 264 #[.agg cs.toArray] w fun e w'=>e= .returned (.bool (qj v))/\O0 w w':=by
 obtain⟨v1,rfl,hok,hr⟩:=h;obtain⟨ao,c,rfl,-,-⟩:=hr.shape;obtain⟨n,hn⟩:=ze v.values.length;rw[hn]at hr⊢;obtain⟨W0,hW0⟩:=ze (w.alloc (.cells #[.string v.name,.slice ao n c] 145));have jW:Hid (O0 w W0):=zBn;have b0:W0.heap[w.heap.size]? =some (.cells #[.string v.name,.slice ao n c] 145):=by rw[<-hW0];exact qL w _
 have HB:Hid (∀W,O0 W0 W->W.cell? ⟨w.heap.size,0,none⟩=some (.string v.name)/\W.cell? ⟨w.heap.size,1,none⟩=some (.slice ao n c)):=fun W ho=>by have b1:=aA b0 ho (fun f=>f);exact zGq
 have HR:Hid (∀W,O0 W0 W->aS 1 bU B W (.slice ao n c) v.values):=fun W ho=>hr.keep bU.keep (Kp.dV (jW.out.same ho));obtain⟨r1,hr1⟩:=ze (Lk.nameB v.name.toList);obtain⟨r2,hr2⟩:∃r,(v.values.any fun s=> !Lk.gW s.toList)=r:=⟨_,rfl⟩;obtain⟨r3,hr3⟩:=ze (!eu v.values);have HN:=zh (IW (w:=W0) v.name hok r1 hr1);have HA:Hid (∀W,O0 W0 W->Calls Tryz.prog 189 #[.slice ao n c,.func (.func 332) #[] #[]] W fun e w'=>e= .returned (.bool r2)/\O0 W w'):=fun W ho=>
  EY (HR.out W ho) Y1 (aiY W) r2 hr2
 have HT:Hid (n<=4->∀W,O0 W0 W->Calls Tryz.prog 265 #[.slice ao n c] W fun e w'=>e= .returned (.bool r3)/\O0 W w'):=fun h4 W ho=>by rw[<-hr3];exact WI (HR.out W ho) (by rw[hn];omega)
 obtain⟨r,hres⟩:=ze (qj v);have aZ:Hid (r=(r1&&decide (0<n)&&decide (n<=4)&& !r2&& !r3)):=by show _=_;rw[<-hres,<-hr1,<-hr2,<-hr3,<-hn];unfold qj;rw[Bool.not_not,Lm]
 rw[hres];obtain⟨q0,q1⟩:=HB.out W0 zr;clear hr1 hr2 hr3 hres b0 hr hn;go_enter Tryz.func264,Tryz.ntmps264;go_wp2_with fail;refine HN.out.mono ?_;rintro e w1 ⟨rfl,O1⟩;have aI:=zh O1;obtain⟨q0,q1⟩:=HB.out w1 O1;clear O1 HN;have done:∀{b:Bool} {W:World},r=b->O0 W0 W->(Ending.returned (.bool b)= .returned (.bool r)/\O0 w W):=fun h o=>⟨by rw[h],jW.out.same o⟩;clear done;cases r1 with
 |false=>have hf:r=false:=zCF;subst hf;exact zEq
 |true=>
  by_cases h0:0<n
  ·by_cases h4:n<=4
   ·go_wp2_with fail;refine(HA.out w1 aI.out).mono ?_;rintro e w2 ⟨rfl,O2⟩;have eF:=zh (aI.out.same O2);clear O2 HA q0 q1;obtain⟨q0,q1⟩:=HB.out w2 eF.out;cases r2 with
    |true=>have hf:r=false:=zCF;subst hf;exact zEp
    |false=>
     go_wp2_with fail;refine(HT.out h4 w2 eF.out).mono ?_;rintro e w3 ⟨rfl,O3⟩;have hf:r= !r3:=by rw[aZ.out,qX h0,qX h4];simp
     subst hf;go_wp2_with fail;go_ret;exact⟨rfl,jW.out.same (eF.out.same O3)⟩
   have hf:r=false:=by rw[aZ.out,qP h4];simp
   subst hf;exact zEq
  have hf:r=false:=by rw[aZ.out,qP h0];simp
  subst hf;exact zEq
def Dv(l:List jm)(j:Nat):List Str:=(l.take j).map jm.name
theorem UH{l:List jm}{j:Nat}{r:jm}(h:l[j]? =some r):Dv l (j+1)=Dv l j++[r.name]:=by unfold Dv;rw[List.take_add_one,h];simp
theorem ai6{v:Value}{l:List jm}(h:aS 2 l9 B w v l):∀r∈l,okS r.name:=fun r hr=>by
 obtain⟨cs,v1,-,hC,-⟩:=h.all r hr
 exact hC
theorem y8{l:List jm}{j:Nat}{r:jm}(h:l[j]? =some r)(hf:qj r=false):ql l=false:=by
 unfold ql;have:l.all qj=false:=by rw[List.all_eq_false];exact⟨r,qT h,by rw[hf];simp⟩
 rw[this,yQ,yQ]
theorem ai7{vl:Value}{l:List jm}(hl:aS 2 l9 B w vl l)(hlen:l.length<=1000000):Calls Tryz.prog 185 #[vl] w fun e w'=>e= .returned (.bool (ql l))/\O0 w w':=by
 obtain⟨a_l,CO,rfl,Ym,JK⟩:=hl.shape;obtain⟨kH,e1⟩:=ze l.length;have tZ:=zh e1;rw[e1]at hl Ym hlen⊢;have nO:Hid (∀W,O0 w W->aS 2 l9 B W (.slice a_l kH CO) l):=fun W ho=>hl.keep l9.keep (Kp.dV ho);have kU:=zh (ai6 hl);clear e1 hl;obtain⟨r,hres⟩:=ze (ql l);have aZ:=zh hres;rw[hres];obtain⟨W0,hW0⟩:=zB w;subst hW0;clear hres;go_enter Tryz.func185,Tryz.ntmps185;go_wp2_with fail;go_loopw [3,8] (fun vo vj gV=>Hid (O0 W0 gV)/\∃j:Nat,vj= .int .i64 j/\j<=kH/\Hid (gV.ownsRow 0 9 1 vo j (bZ (Dv l j)))/\Hid (∀k,vo.ownBlock=some k->W0.heap.size<=k)/\Hid ((l.take j).all qj=true)) (fun _ v _=>kH-(RowKit.intOf v).toNat);case atStart=>exact⟨show Hid _ from Only.refl _ _,0,rfl,qE _,World.ownsRow_nil _ _ _ _,(fun k hk=>by cases hk),show Hid _ from by simp[Hid]⟩
 case round=>
  obtain⟨gV,rfl⟩:=zB wr;obtain⟨GK,j,rfl,hj,HV,HBj,HAl⟩:=hrel;by_cases cj:j<kH
  ·have iE:=zw (j+1);obtain⟨yz,hxz⟩:=zG l j zAy;obtain⟨JD,vP,az,nz,cz,qc,hnz,AX,jM⟩:=FY (nO.out W0 zr) hxz;first|subst qc| (simp only[qG,qO,and_true]at qc;obtain⟨rfl,rfl⟩:=qc)
   have jd:=zh jM;have vS:=zh hxz;clear jM hxz;have oG:Hid (gV.rangeAt JD (vP+j*2) [.string yz.name,.slice az nz cz]):=(jd.out gV GK.out).1;obtain⟨w6,hw6⟩:=ze (gV.alloc (.cells #[.string ⟨#[]⟩,.slice none 0 0] 145));have H6z:Hid (w6.heap[gV.heap.size]? =some (.cells #[.string ⟨#[]⟩,.slice none 0 0] 145)):=by rw[<-hw6];exact qL gV _
   obtain⟨w7,hw7⟩:=ze (w6.setRow gV.heap.size #[.string yz.name,.slice az nz cz]);have Ya:Hid (w7.heap[gV.heap.size]? =some (.cells #[.string yz.name,.slice az nz cz] 145 (0,0))):=by rw[<-hw7];exact setRow_heap _ _ _ _ _ _ H6z.out
   have pz:Hid (O0 gV w7):=by rw[<-hw7,<-hw6];exact(zr.alloc _).trans (aK _ _ _) fun k hk=>.inr (yG hk.symm)
   have Il:Hid (∀W,O0 w7 W->W.cell? ⟨gV.heap.size,0,none⟩=some (.string yz.name)/\W.cell? ⟨gV.heap.size,1,none⟩=some (.slice az nz cz)):=fun W ho=>by have b1:=aA Ya.out ho (fun f=>f);exact zGq
   obtain⟨ro,hro⟩:=ze (qj yz);have Ko:=zh hro;have QG:Hid (Calls Tryz.prog 264 #[.agg #[.string yz.name,.slice az nz cz]] w7 fun e w'=>e= .returned (.bool ro)/\O0 w7 w'):=by rw[<-hro];exact ai5 (jd.out w7 (GK.out.same pz.out)).2.2
   obtain⟨ao,co,rfl,-,-⟩:=bg HV.out;obtain⟨q0,q1⟩:=Il.out w7 zr;clear hro hnz;go_wp2_with (first
    | (refine wpList_load_mid rfl 145 (.tmp 10) rfl JD (vP+j*2) rfl _ _ oG.out Tryz.underlying145 rfl zk ?_)
    | (refine wpList_store_row rfl 145 (.tmp 5) (.tmp 11) rfl gV.heap.size #[.string yz.name,.slice az nz cz] rfl rfl 145 #[.string ⟨#[]⟩,.slice none 0 0] H6z.out zk rfl zk ?_))
   refine QG.out.mono ?_;rintro e w8 ⟨rfl,O8⟩;have uH:=zh O8;clear q0 q1;obtain⟨q0,q1⟩:=Il.out w8 O8;clear O8 QG oG H6z hw6 hw7 Ya;cases ro with
   |false=>
    have hf:r=false:=by rw[<-aZ.out];exact y8 vS.out Ko.out
    subst hf;go_wp2_with fail;go_ret;exact⟨rfl,GK.out.same (pz.out.same uH.out)⟩
   |true=>
    have fK:=zh (pz.out.same uH.out);go_wp2_with (at_builtin;go_must (refine Ai (u:=.string yz.name) iU rfl (.tmp 15) (.tmp 18) rfl rfl rfl (by have h:=cell_new0 w8 (.string yz.name) 9;simpa using h) rfl (aW HV.out (fK.out.alloc _) (fun _ _ f=>f)) zAA zHZ ?_));intro v' w2 r1 r2 r3;have HVv:Hid (w2.ownsRow 0 9 1 v' (j+1) (bZ (Dv l (j+1)))):=by rw[UH vS.out];simpa[bZ,Hid]using r1
    have HOv:Hid (O0 W0 w2):=(GK.out.same (fK.out.alloc _)).trans r2 fun k hk=>.inr (HBj.out k hk);have HBv:Hid (∀k,v'.ownBlock=some k->W0.heap.size<=k):=by
     intro k hk;obtain⟨g,cap',rfl,-,-,h|h⟩:=r3;·exact zFq
     simp[Value.ownBlock]at hk;subst hk;have h9:=GK.out.size;have h8:=fK.out.size;simp at h;omega
    have an8:Hid ((l.take (j+1)).all qj=true):=by show _=true;rw[List.take_add_one,vS.out,List.all_append,HAl.out];simp[Ko.out]
    obtain⟨g,cap',rfl,-,-,-⟩:=r3;clear r1 r2 q0 q1;go_wp2_with fail;go_roundw;case rel=>exact⟨HOv,j+1,by first|rfl|go_num,by omega,HVv,HBv,an8⟩
    case measure=>simp[RowKit.intOf]<;>omega
  obtain rfl:kH=j:=by omega
  obtain⟨ao,co,rfl,-,-⟩:=bg HV.out;have hall:Dv l kH=l.map jm.name:=by unfold Dv;rw[qI (yG tZ.out)]
  have hal:l.all qj=true:=by have:=HAl.out;rwa[qI (yG tZ.out)]at this
  have hlm:(l.map jm.name).length=kH:=by rw[qM];exact tZ.out
  have hrd:aS 1 bU gV.heap.size gV (.slice ao kH co) (l.map jm.name):=by have h:=HV.out;rw[hall]at h;refine oO hlm h fun s hs=>?_;obtain⟨r,hr,rfl⟩:=yD.1 hs;exact kU.out r hr
  have HT:=zh (WI hrd (by rw[hlm];exact hlen));obtain⟨rt,hrt⟩:=ze (!eu (l.map jm.name));rw[hrt]at HT;have HR2:Hid (r=(decide (kH<=4)&& !rt)):=by show _=_;rw[<-aZ.out,<-hrt];unfold ql;rw[hal,yR,tZ.out,Bool.not_not]
  clear hrt hrd hall hal hlm;by_cases h4:kH<=4
  ·go_wp2_with fail;refine HT.out.mono ?_;rintro e w9 ⟨rfl,O9⟩;have hf:r= !rt:=by rw[HR2.out,qX h4];simp
   subst hf;go_wp2_with fail;go_ret;exact⟨rfl,GK.out.same O9⟩
  have hf:r=false:=by rw[HR2.out,qP h4];simp
  subst hf;go_wp2_with fail;go_ret;exact⟨rfl,GK.out⟩
end
end Go.Proofs.YtdmmebjjojimiaaGreatDoor
namespace Go.Proofs
theorem zBZ{p:Prop}(h:p:=by have:=jK.out;omega):p:=h
theorem zDh{p:Prop}(h:p:=by
 go_wp2_with fail
 go_ret
 exact gy.mk _ rfl zAH hres (aV.out.same (aI.out.same HP2.out))):p:=h
theorem zD4{p:Prop}(h:p:=by exact⟨by rw[aj b1];rfl,by rw[aj b1];rfl,by rw[aj b1];rfl,by rw[aj b1];rfl,by rw[aj b1];rfl,by rw[aj b1];rfl,by rw[aj b1];rfl,by rw[aj b1];rfl⟩):p:=h
theorem zFN{p:Prop}(h:p:=by
 rw[aZ.out,qX hfi,qX ajd,qX (show 0<jo by omega),qX (show jo<=10 by omega),qX (show uG<=16 by omega),qX (show AZ<=8 by omega),qX (show uT<=4 by omega),qX (show zA<=8 by omega)]
 simp):p:=h
theorem zFj{p:Prop}(h:p:=by
 go_wp2_with fail
 go_ret
 exact gy.mk _ rfl zAH hres (aV.out.same (aI.out.same JE.out))):p:=h
theorem zFz{p:Prop}(h:p:=by
 rw[<-hpn,<-aB.out]
 unfold aQ.oH aQ.kE
 have:=yO (fun i=>iC (x.pack i).provides yy.name) (List.range x.packs.length)
 simpa[Hid]using this):p:=h
theorem zGF{p:Prop}(h:p:=by
 show _=_
 rw[<-hok]
 unfold aQ.ou
 dsimp only
 rw[hpk,hf,hpn,htw,hmv,ht3,ht6,Kq.out,Ny4.out,Ny5.out,Ny3.out,Ny6.out]):p:=h
theorem zGW{p:Prop}(h:p:=by
 have hres:decide (((1:Int))=0)=ok:=by
  rw[aZ.out,qP (show¬uG<=16 by omega)]
  simp
 exact zDh):p:=h
theorem zGX{p:Prop}(h:p:=by
 have hres:decide (((1:Int))=0)=ok:=by
  rw[aZ.out,qP (show¬jo<=10 by omega)]
  simp
 exact zDh):p:=h
theorem zGY{p:Prop}(h:p:=by
 have hres:decide (((1:Int))=0)=ok:=by
  rw[aZ.out,qP (show¬zA<=8 by omega)]
  simp
 exact zDh):p:=h
theorem zGZ{p:Prop}(h:p:=by
 have hres:decide (((1:Int))=0)=ok:=by
  rw[aZ.out,qP (show¬uT<=4 by omega)]
  simp
 exact zDh):p:=h
theorem zGa{p:Prop}(h:p:=by
 have hres:decide (((1:Int))=0)=ok:=by
  rw[aZ.out,qP (show¬AZ<=8 by omega)]
  simp
 exact zDh):p:=h
theorem zGc{p:Prop}(h:p:=by
 have hres:decide (((3:Int))=0)=ok:=by
  rw[aZ.out,qP (show¬pn=0 by omega)]
  simp
 exact zDh):p:=h
theorem zG4{p:Prop}(h:p:=by
 subst z1
 have hres:decide (((4:Int))=0)=ok:=by
  rw[aZ.out]
  simp
 exact zDh):p:=h
theorem zG5{p:Prop}(h:p:=by
 go_wp2_with fail
 go_ret
 exact gy.mk _ rfl zAH hres (aV.out.same (aI.out.same xI.out))):p:=h
theorem zG6{p:Prop}(h:p:=by
 go_wp2_with fail
 go_ret
 exact gy.mk _ rfl zAH hres (aV.out.same (aI.out.same rF.out))):p:=h
theorem zG7{p:Prop}(h:p:=by
 go_wp2_with fail
 go_ret
 exact gy.mk _ rfl zAH hres (aV.out.same (aI.out.same Gy.out))):p:=h
theorem zG8{p:Prop}(h:p:=by
 go_wp2_with fail
 go_ret
 exact gy.mk _ rfl zAH hres (aV.out.same (aI.out.same F7.out))):p:=h
theorem zHL{p:Prop}(h:p:=by
 rw[<-hW1,<-hV]
 exact(zr.alloc _).trans (aK _ _ _) fun k hk=>.inr zBZ):p:=h
theorem zHM{p:Prop}(h:p:=by
 rw[hpn]at h1
 obtain⟨a,c,rfl,-,-⟩:=bg h1
 exact⟨a,c,he,h3⟩):p:=h
end Go.Proofs
namespace Go.Proofs.YtdmmebjjojimiaaGreatDoor
open Go.RowKit
section
variable {w w':World} {B:Nat}
def gy(ok:Bool)(w w':World)(e:Ending):Prop:= ∃c:Int,e= .returned (.int .u8 c)/\(0<=c/\c<=255)/\decide (c=0)=ok/\O0 w w'
theorem gy.mk{ok:Bool}(c:Int){w w':World}{e:Ending}(he:e= .returned (.int .u8 c))(hc:0<=c/\c<=255)(hb:decide (c=0)=ok)(ho:O0 w w'):gy ok w w' e:=⟨c,he,hc,hb,ho⟩
theorem ai8{lC:List Value}{x:aQ}(hx:fO B w lC x)(hlen:x.packs.length<=1000000){i:Nat}(hi:i<x.packs.length)(hrel:(x.pack i).jc.length<=1000000)(hvar:(x.pack i).vars.length<=1000000):Calls Tryz.prog 104 #[.agg lC.toArray,.int .i64 (i:Int)] w fun e w'=>gy (x.ou i) w w' e:=by
 obtain⟨aP,ak,aJ,aO,aG,aH,rfl,fF,fG,dP,dQ,aB,bJ,mY⟩:=open_rec hx;clear hx;try rw[aB.out]
 obtain⟨W0,hW0,aV,jK,aF⟩:=LW w (.slice aP ak aJ) (.slice aO aG aH) 25;obtain⟨eX,bK,bT⟩:=mY W0 aV.out;clear mY;clear dP dQ bJ bT;rw[aB.out]at hlen hi;have hfl:=aQ.agG (x:=x) (i:=i) (by rw[aB.out];exact hi);obtain⟨yy,hxy⟩:=zG x.packs i zAt;obtain⟨AY,mF,og,jo,oh,sO,sQ,sS,xE,uT,xG,yc,uG,yg,EN,AZ,EO,CV,zA,CW,oq,kF,nP,rQ,qB,uU,uV,yh,Ef,je⟩:=jy (bK.out W0 zr) hxy;first|subst oq| (simp only[qG,qO,and_true]at oq;obtain⟨rfl,rfl⟩:=oq)
 have Kq:=zh kF;have Ny2:=zh nP;have Ny3:=zh rQ;have Ny4:=zh qB;have Ny5:=zh uU;have Ny6:=zh uV;have jq:=zh je;have xR:=zh hxy;clear je hxy kF nP rQ qB uU uV;have xH:Hid (∀W,O0 W0 W->aS 2 pR B W (.slice og jo oh) yy.jc):=fun W ho=>(jq.out W ho).2.1;have IB:Hid (∀W,O0 W0 W->aS 2 l9 B W (.slice sO sQ sS) yy.vars):=fun W ho=>(jq.out W ho).2.2.1;have UJ:Hid (∀W,O0 W0 W->aS 1 bU B W (.slice xE uT xG) yy.provides):=fun W ho=>(jq.out W ho).2.2.2.1;have Y5:Hid (∀W,O0 W0 W->aS 1 bU B W (.slice CV zA CW) yy.files):=fun W ho=>(jq.out W ho).2.2.2.2.2.2.1;have hpk:x.pack i=yy:=zA6;rw[hpk]at hfl hrel hvar;rw[Kq.out]at hrel;rw[Ny2.out]at hvar;obtain⟨ok,hok⟩:=ze (x.ou i);obtain⟨f,hf⟩:=ze (x.find yy.name);obtain⟨pn,hpn⟩:=ze ((x.oH yy.name).length);obtain⟨tw,htw⟩:=ze (eu (yy.jc.map wu.version));obtain⟨mv,hmv⟩:=ze (ql yy.vars);obtain⟨t3,ht3⟩:=ze (eu yy.provides);obtain⟨t6,ht6⟩:=ze (eu yy.files);have aZ:Hid (ok=(decide (f=(i:Int))&&decide (pn=0)&&decide (0<jo)&&(decide (jo<=10)&&decide (uG<=16)&&decide (AZ<=8)&&decide (uT<=4)&&decide (zA<=8))&&tw&&mv&&t3&&t6)):=by exact zGF
 rw[hok];rw[hf]at hfl;have HF:Hid (∀W,O0 W0 W->Calls Tryz.prog 182 #[.agg #[.slice (some ⟨AY,mF,none⟩) ak aJ,.slice aO aG aH],.string yy.name] W fun e w'=>e= .returned (.int .i64 f)/\O0 W w'):=fun W hW=>by rw[<-hf];exact rX (eX.out W hW) yy.name
 have ZX:Hid (∀W,O0 W0 W->Calls Tryz.prog 165 #[.agg #[.slice (some ⟨AY,mF,none⟩) ak aJ,.slice aO aG aH],.string yy.name] W fun e w'=> ∃a c,e= .returned (.slice a pn c)/\O0 W w'):=fun W hW=>(AU (eX.out W hW) zAg yy.name).mono fun e w' ⟨v,he,h1,_,h3⟩=>by exact zHM
 have HPn:Hid (pn<=ak):=by exact zFz
 have HVr:Hid (∀W,O0 W0 W->Calls Tryz.prog 184 #[.slice og jo oh] W fun e w'=> ∃a c,e= .returned (.slice a jo c)/\aS 1 bU w'.heap.size w' (.slice a jo c) (yy.jc.map wu.version)/\O0 W w'):=fun W hW=>(Y3 (xH.out W hW) (by rw[Kq.out];exact hrel)).mono fun e w' ⟨v,he,h1,h3⟩=>by obtain⟨a,c,rfl,-,-⟩:=h1.shape;rw[qM,Kq.out]at h1 he;exact⟨a,c,he,h1,h3⟩
 have HTw:Hid (∀W a c,aS 1 bU W.heap.size W (.slice a jo c) (yy.jc.map wu.version)->Calls Tryz.prog 183 #[.slice a jo c] W fun e w'=>e= .returned (.bool (!tw))/\O0 W w'):=fun W a c h=>by rw[<-htw];exact MX h
 have HMv:Hid (∀W,O0 W0 W->Calls Tryz.prog 185 #[.slice sO sQ sS] W fun e w'=>e= .returned (.bool mv)/\O0 W w'):=fun W hW=>by rw[<-hmv];exact ai7 (IB.out W hW) (by rw[Ny2.out];exact hvar)
 have HT3:Hid (∀W,O0 W0 W->Calls Tryz.prog 183 #[.slice xE uT xG] W fun e w'=>e= .returned (.bool (!t3))/\O0 W w'):=fun W hW=>by rw[<-ht3];exact MX (UJ.out W hW)
 have HT6:Hid (∀W,O0 W0 W->Calls Tryz.prog 183 #[.slice CV zA CW] W fun e w'=>e= .returned (.bool (!t6))/\O0 W w'):=fun W hW=>by rw[<-ht6];exact MX (Y5.out W hW)
 clear hf hpn htw hmv ht3 ht6 hok hpk;have fJ:=zh (jq.out W0 zr).1;have hs:=jK.out;obtain⟨V,hV⟩:=ze (W0.alloc (.cells #[.string ⟨#[]⟩,.int .i64 0,.slice none 0 0,.slice none 0 0,.slice none 0 0,.slice none 0 0,.slice none 0 0,.slice none 0 0] 101));have H6:Hid (V.heap[w.heap.size+1]? =some (.cells #[.string ⟨#[]⟩,.int .i64 0,.slice none 0 0,.slice none 0 0,.slice none 0 0,.slice none 0 0,.slice none 0 0,.slice none 0 0] 101)):=by rw[<-hV,<-jK.out];exact qL W0 _
 obtain⟨W1,hW1⟩:=ze (V.setRow (w.heap.size+1) #[.string yy.name,.int .i64 yy.line,.slice og jo oh,.slice sO sQ sS,.slice xE uT xG,.slice yc uG yg,.slice EN AZ EO,.slice CV zA CW]);have HB1:Hid (W1.heap[w.heap.size+1]? =some (.cells #[.string yy.name,.int .i64 yy.line,.slice og jo oh,.slice sO sQ sS,.slice xE uT xG,.slice yc uG yg,.slice EN AZ EO,.slice CV zA CW] 101 (0,0))):=by rw[<-hW1];exact setRow_heap _ _ _ _ _ _ H6.out
 have aI:Hid (O0 W0 W1):=by exact zHL
 have Lp:Hid (∀W,O0 W1 W->W.cell? ⟨w.heap.size+1,0,none⟩=some (.string yy.name)/\W.cell? ⟨w.heap.size+1,1,none⟩=some (.int .i64 yy.line)/\W.cell? ⟨w.heap.size+1,2,none⟩=some (.slice og jo oh)/\W.cell? ⟨w.heap.size+1,3,none⟩=some (.slice sO sQ sS)/\W.cell? ⟨w.heap.size+1,4,none⟩=some (.slice xE uT xG)/\W.cell? ⟨w.heap.size+1,5,none⟩=some (.slice yc uG yg)/\W.cell? ⟨w.heap.size+1,6,none⟩=some (.slice EN AZ EO)/\W.cell? ⟨w.heap.size+1,7,none⟩=some (.slice CV zA CW)):=fun W ho=>by have b1:=aA HB1.out ho (fun f=>f);exact zD4
 have VE:Hid (O0 W1 W1):=Only.refl _ _;obtain⟨k0,k1⟩:=aF.out W0 zr;obtain⟨p0,p1,p2,p3,p4,p5,p6,p7⟩:=Lp.out W1 zr;have hk:=aF.out W1 aI.out;obtain⟨m0,m1⟩:=hk;have hW0':=hW0.symm;clear hW0;go_enter Tryz.func104,Tryz.ntmps104;go_wp2_with (first
  | (refine wpList_load_mid rfl 101 (.tmp 9) rfl AY (mF+i*8) rfl _ _ fJ.out Tryz.underlying101 rfl zk ?_)
  | (refine wpList_store_row rfl 101 (.tmp 5) (.tmp 10) rfl (w.heap.size+1) #[.string yy.name,.int .i64 yy.line,.slice og jo oh,.slice sO sQ sS,.slice xE uT xG,.slice yc uG yg,.slice EN AZ EO,.slice CV zA CW] rfl rfl 101 #[.string ⟨#[]⟩,.int .i64 0,.slice none 0 0,.slice none 0 0,.slice none 0 0,.slice none 0 0,.slice none 0 0,.slice none 0 0] H6.out zk rfl zk ?_))
 clear m0 m1;refine(HF.out W1 (aI.out.same VE.out)).mono ?_;rintro e w1 ⟨rfl,O1⟩;have F7:=zh (VE.out.same O1);clear O1 k0 k1 p0 p1 p2 p3 p4 p5 p6 p7;obtain⟨k0,k1⟩:=aF.out w1 (aI.out.same F7.out);obtain⟨p0,p1,p2,p3,p4,p5,p6,p7⟩:=Lp.out w1 F7.out;have hpn:=HPn.out;by_cases hlt:f<(i:Int)
 ·have hres:decide (((2:Int))=0)=ok:=by rw[aZ.out,qP (show¬f=(i:Int) by omega)];simp
  exact zG8
 have hfi:f=(i:Int):=by omega
 go_wp2_with fail;refine(ZX.out w1 (aI.out.same F7.out)).mono ?_;rintro e w2 ⟨ap,cp,rfl,O1⟩;have HP2:=zh (F7.out.same O1);clear O1 k0 k1 p0 p1 p2 p3 p4 p5 p6 p7;obtain⟨k0,k1⟩:=aF.out w2 (aI.out.same HP2.out);obtain⟨p0,p1,p2,p3,p4,p5,p6,p7⟩:=Lp.out w2 HP2.out;by_cases cpn:0<pn;·exact zGc
 have ajd:pn=0:=by omega
 by_cases z1:jo=0;·exact zG4
 have z3:((jo:Int)==0)=false:=by rw[yC];omega
 by_cases q1:10<jo;·exact zGX
 by_cases q2:16<uG;·exact zGW
 by_cases q3:8<AZ;·exact zGa
 by_cases q4:4<uT;·exact zGZ
 by_cases q5:8<zA;·exact zGY
 go_wp2_with fail;refine(HVr.out w2 (aI.out.same HP2.out)).mono ?_;rintro e w3 ⟨a3,c3,rfl,Oq,O1⟩;have kV:=zh (HP2.out.same O1);clear O1 k0 k1 p0 p1 p2 p3 p4 p5 p6 p7;obtain⟨k0,k1⟩:=aF.out w3 (aI.out.same kV.out);obtain⟨p0,p1,p2,p3,p4,p5,p6,p7⟩:=Lp.out w3 kV.out;go_wp2_with fail;refine(HTw.out w3 a3 c3 Oq).mono ?_;rintro e w4 ⟨rfl,O1⟩;have rF:=zh (kV.out.same O1);clear O1 k0 k1 p0 p1 p2 p3 p4 p5 p6 p7;obtain⟨k0,k1⟩:=aF.out w4 (aI.out.same rF.out);obtain⟨p0,p1,p2,p3,p4,p5,p6,p7⟩:=Lp.out w4 rF.out;cases tw with
 |false=>
  have hres:decide (((5:Int))=0)=ok:=by rw[aZ.out];simp
  exact zG6
 |true=>
  go_wp2_with fail;refine(HMv.out w4 (aI.out.same rF.out)).mono ?_;rintro e w5 ⟨rfl,O1⟩;have xI:=zh (rF.out.same O1);clear O1 k0 k1 p0 p1 p2 p3 p4 p5 p6 p7;obtain⟨k0,k1⟩:=aF.out w5 (aI.out.same xI.out);obtain⟨p0,p1,p2,p3,p4,p5,p6,p7⟩:=Lp.out w5 xI.out;cases mv with
  |false=>
   have hres:decide (((6:Int))=0)=ok:=by rw[aZ.out];simp
   exact zG5
  |true=>
   go_wp2_with fail;refine(HT3.out w5 (aI.out.same xI.out)).mono ?_;rintro e w6 ⟨rfl,O1⟩;have JE:=zh (xI.out.same O1);clear O1 k0 k1 p0 p1 p2 p3 p4 p5 p6 p7;obtain⟨k0,k1⟩:=aF.out w6 (aI.out.same JE.out);obtain⟨p0,p1,p2,p3,p4,p5,p6,p7⟩:=Lp.out w6 JE.out;cases t3 with
   |false=>
    have hres:decide (((5:Int))=0)=ok:=by rw[aZ.out];simp
    exact zFj
   |true=>
    go_wp2_with fail;refine(HT6.out w6 (aI.out.same JE.out)).mono ?_;rintro e w7 ⟨rfl,O1⟩;have Gy:=zh (JE.out.same O1);clear O1 k0 k1 p0 p1 p2 p3 p4 p5 p6 p7;obtain⟨k0,k1⟩:=aF.out w7 (aI.out.same Gy.out);obtain⟨p0,p1,p2,p3,p4,p5,p6,p7⟩:=Lp.out w7 Gy.out;cases t6 with
    |false=>
     have hres:decide (((5:Int))=0)=ok:=by rw[aZ.out];simp
     exact zG7
    |true=>
     have hres:decide (((0:Int))=0)=ok:=by exact zFN
     exact zG7
end
end Go.Proofs.YtdmmebjjojimiaaGreatDoor
