/- Package check: of, twice, versions, wish. Printed by gen_ck1.py.; Package variant: one, May. -/
import Derived.Test.YtdmmebjjojimiaaGreatDoorG34
import Derived.Test.YtdmmebjjojimiaaGreatDoorG35
set_option maxRecDepth 100000
set_option maxHeartbeats 8000000
set_option linter.all false
namespace Go.Proofs
theorem zAI{p:Prop}(h:p:=by(intro w hSw;obtain⟨k0,k1,k2,k3,k4⟩:=bJ.out w hSw;have nJ:=(sF.out w hSw).1;have gy0:=nJ 0 _ rfl;have gy1:=nJ 1 _ rfl;have gy2:=nJ 2 _ rfl;have gy3:=nJ 3 _ rfl;have gy4:=nJ 4 _ rfl;have gy5:=nJ 5 _ rfl;have gy6:=nJ 6 _ rfl;have gy7:=nJ 7 _ rfl;rw[qF]at gy0;clear nJ;go_simp<;>(try with_reducible rfl))):p:=h
theorem zAV{p:Prop}(h:p:=by rw[aW.out];exact hlen):p:=h
theorem zAa{p:Prop}(h:p:=by rw[aW.out];omega):p:=h
theorem zAh{p:Prop}(h:p:=by unfold aC.pack;rw[qC,Ti.out];rfl):p:=h
theorem zDu{p:Prop}(h:p:=by
 obtain⟨a2,c2,e,h1,h2⟩:=h.shape
 simp only[qU]at e
 obtain⟨rfl,rfl,rfl⟩:=e
 refine⟨⟨ao,cap,by rw[List.length_take];congr 1;omega,by rw[List.length_take];omega,h2⟩,fun ao' len' cap' hv hp=>?_,fun len' cap' hv=>?_⟩
 ·simp only[qU]at hv
  obtain⟨rfl,-,-⟩:=hv
  rw[List.length_take]at hp
  obtain⟨b,off,e2,hb,hB,hc⟩:=h.cells _ _ _ rfl zBB
  refine⟨b,off,e2,hb,hB,fun j hj=>?_⟩
  rw[List.length_take]at hj
  obtain⟨cs,g1,g2,g3⟩:=hc j zBB
  exact⟨cs,g1,g2,by rw[List.getElem_take];exact g3⟩
 ·simp only[qU]at hv
  obtain⟨rfl,rfl,rfl⟩:=hv
  have:=h.nil _ _ rfl
  omega):p:=h
theorem zBw{p:Prop}(h:p:=by
 subst hres
 clear bH
 go_wp2_with fail
 go_ret
 exact⟨rfl,ig.out.same Aq.out⟩):p:=h
theorem zDA{p:Prop}(h:p:=by
 go_wp2_with fail
 go_ret
 exact⟨rfl,oA⟩):p:=h
end Go.Proofs
namespace Go.Proofs.YtdmmebjjojimiaaGreatDoor
open Go.RowKit
section
variable {w w':World} {B:Nat}
attribute [local irreducible] wpQuiet
theorem GK{α:Type}(p:α->Bool)(xs:List α):decide (0<=jk p xs)=xs.any p:=by
 unfold jk;cases h:xs.any p with
 |true=>rw[if_pos rfl];exact qX zBB
 |false=>rw[if_neg zBF];exact qP zBB
theorem DV{α:Type}(p:α->Bool)(xs:List α):(!xs.any fun a=> !p a)=xs.all p:=by rw[List.all_eq_not_any_not]
theorem WC:∀args w,(callFunc 267 args).run Tryz.prog w= .ok (.enter 267 args) w:=enters_of Tryz.func267 zk rfl
theorem SV:∀args w,(callFunc 269 args).run Tryz.prog w= .ok (.enter 269 args) w:=enters_of Tryz.func269 zk rfl
theorem aex(gs:Nat)(s:jv)(h0:w.cell? ⟨gs,0,none⟩=some (.string s.name))(h1:w.cell? ⟨gs,1,none⟩=some (.string s.value)):rH jF B 269 #[.pointer (some ⟨gs,0,none⟩)] (adl s) w:=by
 intro W cs v hO hC;obtain⟨v1,rfl,-,hv⟩:=hC;obtain⟨a1,c1,rfl,-,-⟩:=hv.shape;obtain⟨n1,hn1⟩:=ze v.values.length;rw[hn1]at hv⊢;have oA:O0 W (W.alloc (.cells #[.string v.name,.slice a1 n1 c1] 145)):=zr.alloc _;have q0:=aK h0 (hO.same oA) (fun f=>f);have q1:=aK h1 (hO.same oA) (fun f=>f);have hd:=BX v.name s.name;obtain⟨r,hr⟩:=ze (lJ v.values s.value);have Vy:=zh (nD (hv.keep dK.keep (Kp.fU oA)) s.value);rw[hr]at Vy;unfold adl;rw[hr];clear h0 h1 hO hv hr hn1;go_enter Tryz.func269,Tryz.ntmps269;by_cases hy:v.name=s.name;·rw[qX hy]at hd⊢;clear hy;rw[yR];go_wp2_with fail;refine Vy.out.mono ?_;rintro e w2 ⟨rfl,rfl⟩;exact zDA
 rw[qP hy]at hd⊢;clear hy;rw[yQ];exact zDA
theorem ahQ{gp:Nat}{a:Option Addr}{n c:Nat}(p:eP)(h3:w.cell? ⟨gp,3,none⟩=some (.slice a n c))(hp:aJ 2 jF B w (.slice a n c) p.vars):rH je B 267 #[.pointer (some ⟨gp,0,none⟩)] (fun s=> !NR p s) w:=by intro W cs s hO hC;obtain⟨rfl,-,-⟩:=hC;have oA:O0 W (W.alloc (.cells #[.string s.name,.string s.value] 117)):=zr.alloc _;have q3:=aK h3 (hO.same oA) (fun f=>f);have b0:(W.alloc (.cells #[.string s.name,.string s.value] 117)).heap[W.heap.size]? =some (.cells #[.string s.name,.string s.value] 117):=qL W _;obtain⟨r,hr⟩:=ze (NR p s);have Vy:=zh (D8 (hp.keep jF.keep (Kp.fU (hO.same oA))) SV (aex W.heap.size s (by rw[aj b0];rfl) (by rw[aj b0];rfl)) r (by rw[GK];exact hr));show Calls Tryz.prog _ _ W fun e w'=>e= .returned (.bool (!NR p s))/\O0 W w';rw[hr];clear h3 hO hp hr b0;go_enter Tryz.func267,Tryz.ntmps267;go_wp2_with fail;refine Vy.out.mono ?_;rintro e w2 ⟨rfl,O2⟩;go_wp2_with fail;go_ret;exact⟨rfl,oA.same O2⟩
theorem aey{csp:List Value}{p:eP}(hp:fF B w csp p){vl:Value}{l:List jv}(hl:aJ 2 je B w vl l):Calls Tryz.prog 186 #[.agg csp.toArray,vl] w fun e w'=>e= .returned (.bool (iG p l))/\O0 w w':=by
 obtain⟨vW,vX,vY,vZ,wu,wz,lV,lW,lX,Bd,lY,wC,Bf,lZ,wE,tN,tV,tX,rfl,PX,PY,PZ,P5,Bg,Bh,Zn,Zo,Zp,Zq,JI,JJ,P6,P7,Bj,GL,GN,JK,F_p⟩:=I7 hp;clear hp;obtain⟨a_l,y8,c_l,rfl,g_l,aa3,ML,F_l⟩:=U9 hl;clear hl;obtain⟨W0,hW0,ig,DU,bJ⟩:=ajo w (.string p.name) (.int .i64 p.line) (.slice vW vX vY) (.slice vZ wu wz) (.slice lV lW lX) (.slice Bd lY wC) (.slice Bf lZ wE) (.slice tN tV tX) 101;obtain⟨aez,JL,Di,xW,JM,JO,GR⟩:=F_p W0 ig.out;clear F_p;have IC:=F_l W0 ig.out;clear F_l;obtain⟨r,hr⟩:=ze (iG p l);have hr2:(l.any fun s=> !NR p s)= !r:=by rw[<-hr];unfold iG;rw[<-DV,Bool.not_not]
 rw[hr];have Vy:=zh (D7 (IC.out W0 zr) WC (ahQ (gp:=w.heap.size) p (bJ.out W0 zr).2.2.2.1 (Di.out W0 zr)) (!r) (by rw[GK];exact hr2));clear hr hr2;go_enter Tryz.func186,Tryz.ntmps186;go_wp2_with fail;rw[<-hW0];clear hW0;refine Vy.out.mono ?_;rintro e w2 ⟨rfl,O2⟩;go_wp2_with fail;go_ret;exact⟨by first|rfl| (rw[Bool.not_not];rfl),ig.out.same O2⟩
theorem WE{ao:Option Addr}{n cap:Nat}{l:List Str}(h:aJ 1 dK B w (.slice ao n cap) l){i:Nat}(hi:i<=n):aJ 1 dK B w (.slice ao i cap) (l.take i):=by exact zDu
theorem Ey{vl:Value}{l:List Str}(hl:aJ 1 dK B w vl l):Calls Tryz.prog 183 #[vl] w fun e w'=>e= .returned (.bool (!fJ l))/\O0 w w':=by
 obtain⟨a_l,y8,c_l,rfl,g_l,aa3,ML,F_l⟩:=open_strs hl;clear hl;obtain⟨W0,hW0⟩:=zB w;have ig:Hid (O0 w W0):=by rw[hW0];exact Only.refl _ _
 have IC:=F_l W0 ig.out;clear F_l;obtain⟨r,hr⟩:=ze (!fJ l);rw[hr];have bH:=zh hr;clear hr;subst hW0;go_enter Tryz.func183,Tryz.ntmps183;go_wp2_with fail;go_loopw [7] (fun vi jq=>Hid (O0 W0 jq)/\∃i:Nat,vi= .int .i64 i/\i<=y8/\Hid (fJ (l.take i)=true)) (fun v _=>y8-(RowKit.intOf v).toNat);case atStart=>exact⟨show Hid _ from Only.refl _ _,0,rfl,qE _,show Hid _ from by simp[Hid,fJ]⟩
 case round=>
  obtain⟨jq,rfl⟩:=zB wr;obtain⟨KR,i,rfl,hi,Q7⟩:=hrel;by_cases ci:i<y8
  ·have jg:=zw (i+1);obtain⟨yu,hxu⟩:=zG l i (by rw[ML.out];omega);obtain⟨bku,aeA,heu,apR,ahT⟩:=TV (IC.out W0 zr) hxu;first|subst heu| (simp only[qG,qO,and_true]at heu;obtain⟨rfl,rfl⟩:=heu)
   have HEu:=zh ahT;have HXu:=zh hxu;clear ahT hxu;have N8:=(HEu.out jq KR.out).1;have gu0:=N8 0 _ rfl;rw[qF]at gu0;rw[yH]at gu0;clear N8;have apS:∀W,(Instr.slice 81 (.slice (some ⟨bku,aeA,none⟩) y8 c_l) none (some (.int .i64 (i:Int))) none).run Tryz.prog W= .ok (.slice (some ⟨bku,aeA,none⟩) i c_l) W:=fun W=>by obtain⟨ii,zz,t1,t2,t3,-,-⟩:=vJ.info;exact IY (P:=Tryz.prog) vJ.und t1 t3 (some ⟨bku,aeA,none⟩) y8 i c_l zBB W
   have Vy:=zh (nD (WE (IC.out jq KR.out) hi) yu);obtain⟨b,hb⟩:=ze (lJ (l.take i) yu);rw[hb]at Vy;have HTw:=zh (Oj HXu.out Q7.out);rw[hb]at HTw;clear hb;go_wp2_with fail;refine Vy.out.mono ?_;rintro e w2 ⟨rfl,rfl⟩;cases b with
   |true=>
    have hf:r=true:=by rw[<-bH.out,FI (i:=i+1) HTw.out];rfl
    subst hf;clear HTw bH;go_wp2_with fail;go_ret;exact⟨rfl,ig.out.same KR.out⟩
   |false=>
    have HN2:Hid (fJ (l.take (i+1))=true):=HTw.out;go_wp2_with fail;go_roundw;case rel=>exact⟨KR,i+1,by first|rfl|go_num,by omega,HN2⟩
    case measure=>simp[RowKit.intOf]<;>omega
  obtain rfl:y8=i:=by omega
  have hf:r=false:=by have h:=Q7.out;rw[qI (yG ML.out)]at h;rw[<-bH.out,h];rfl
  subst hf;go_wp2_with fail;go_ret;exact⟨rfl,ig.out.same KR.out⟩
theorem aeB{v:Value}{l:List jY}(h:aJ 2 nK B w v l):∀r∈l,okS r.version:=fun r hr=>by
 obtain⟨cs,hC⟩:=h.all r hr
 exact hC.2
theorem SX{vl:Value}{l:List jY}(hl:aJ 2 nK B w vl l)(hlen:l.length<=1000000):Calls Tryz.prog 184 #[vl] w fun e w'=> ∃v,e= .returned v/\aJ 1 dK w'.heap.size w' v (l.map jY.version)/\O0 w w':=by
 obtain⟨a_l,c_l,rfl,g_l,aa3⟩:=hl.shape;obtain⟨y8,e1⟩:=ze l.length;have ML:=zh e1;rw[e1]at hl g_l hlen⊢;have IC:Hid (∀W,O0 w W->aJ 2 nK B W (.slice a_l y8 c_l) l):=fun W ho=>hl.keep nK.keep (Kp.fU ho);have NJ:=zh (aeB hl);clear e1 hl;obtain⟨W0,hW0⟩:=zB w;subst hW0;go_enter Tryz.func184,Tryz.ntmps184;go_wp2_with fail;go_loopw [3,8] (fun vo vj jA=>Hid (O0 W0 jA)/\∃j:Nat,vj= .int .i64 j/\j<=y8/\Hid (jA.ownsRow 0 9 1 vo j (dZ (yV l j)))/\Hid (∀k,vo.ownBlock=some k->W0.heap.size<=k)) (fun _ v _=>y8-(RowKit.intOf v).toNat);case atStart=>exact⟨show Hid _ from Only.refl _ _,0,rfl,qE _,World.ownsRow_nil _ _ _ _,fun k hk=>by cases hk⟩
 case round=>
  obtain⟨jA,rfl⟩:=zB wr;obtain⟨Ew,j,rfl,hj,HV,HBj⟩:=hrel;by_cases cj:j<y8
  ·have jg:=zw (j+1);obtain⟨yz,hxz⟩:=zG l j (by rw[ML.out];omega);obtain⟨bkz,LY,SY,aeC,GU⟩:=TW (IC.out W0 zr) hxz;first|subst SY| (simp only[qG,qO,and_true]at SY;obtain⟨rfl,rfl⟩:=SY)
   have UO:=zh GU;have Zr:=zh hxz;clear GU hxz;have uT:Hid (jA.rangeAt bkz (LY+j*2) [.string yz.version,.bool yz.old]):=(UO.out jA Ew.out).1;have H6z:Hid ((jA.alloc (.cells #[.string ⟨#[]⟩,.bool false] 130)).heap[jA.heap.size]? =some (.cells #[.string ⟨#[]⟩,.bool false] 130)):=qL jA _;have HB7:Hid (((jA.alloc (.cells #[.string ⟨#[]⟩,.bool false] 130)).setRow jA.heap.size #[.string yz.version,.bool yz.old]).heap[jA.heap.size]? =some (.cells #[.string yz.version,.bool yz.old] 130 (0,0))):=setRow_heap _ _ _ _ _ _ H6z.out;have uU:Hid (O0 jA ((jA.alloc (.cells #[.string ⟨#[]⟩,.bool false] 130)).setRow jA.heap.size #[.string yz.version,.bool yz.old])):=(zr.alloc _).trans (aU _ _ _) fun k hk=>.inr (yG hk.symm);have q0:=aj HB7.out 0;obtain⟨ao,co,rfl,-,-⟩:=aH HV.out;go_wp2_with (first
    | (refine wpList_load_mid rfl 130 (.tmp 10) rfl bkz (LY+j*2) rfl _ _ uT.out Tryz.underlying130 rfl zk ?_)
    | (refine wpList_store_row rfl 130 (.tmp 5) (.tmp 11) rfl jA.heap.size #[.string yz.version,.bool yz.old] rfl rfl 130 #[.string ⟨#[]⟩,.bool false] H6z.out zk rfl zk ?_)
    | (at_builtin;go_must (refine zJ (u:=.string yz.version) vJ rfl (.tmp 12) (.tmp 15) rfl rfl rfl (by have h:=cell_new0 ((jA.alloc (.cells #[.string ⟨#[]⟩,.bool false] 130)).setRow jA.heap.size #[.string yz.version,.bool yz.old]) (.string yz.version) 9;simpa using h) rfl (aB HV.out (uU.out.alloc _) (fun _ _ f=>f)) zBB zBC ?_)))
   intro v' w2 r1 r2 r3;have HVv:Hid (w2.ownsRow 0 9 1 v' (j+1) (dZ (yV l (j+1)))):=by rw[NT Zr.out];simpa[dZ,Hid]using r1
   have HOv:Hid (O0 W0 w2):=(Ew.out.same (uU.out.alloc _)).trans r2 fun k hk=>.inr (HBj.out k hk);have HBv:Hid (∀k,v'.ownBlock=some k->W0.heap.size<=k):=by
    intro k hk;obtain⟨g,cap',rfl,-,-,h|h⟩:=r3;·simp[Value.ownBlock]at hk;subst hk;exact HBj.out _ h
    simp[Value.ownBlock]at hk;subst hk;have h9:=Ew.out.size;simp at h;omega
   obtain⟨g,cap',rfl,-,-,-⟩:=r3;clear r1 r2 q0;go_wp2_with fail;go_roundw;case rel=>exact⟨HOv,j+1,by first|rfl|go_num,by omega,HVv,HBv⟩
   case measure=>simp[RowKit.intOf]<;>omega
  obtain rfl:y8=j:=by omega
  obtain⟨ao,co,rfl,-,-⟩:=aH HV.out;go_wp2_with fail;go_ret;have hall:yV l y8=l.map jY.version:=by unfold yV;rw[qI (yG ML.out)]
  refine⟨_,rfl,?_,Ew.out⟩;have h:=HV.out;rw[hall]at h;refine pI (by rw[qM];exact ML.out) h fun s hs=>?_;obtain⟨r,hr,rfl⟩:=yD.1 hs;exact NJ.out r hr
theorem Zt(a b:Str)(W:World):(binOp .eql 128 (.agg #[.string a,.string b]) (.agg #[.string ⟨#[]⟩,.string ⟨#[]⟩])).run Tryz.prog W= .ok (.bool (a.toList.isEmpty&&b.toList.isEmpty)) W:=by
 by_cases h1:a.toList=[]
 ·by_cases h2:b.toList=[];·rw[h1,h2];go_simp
  have e2:b.toList.isEmpty=false:=by rw[List.isEmpty_eq_false_iff];exact h2
  rw[h1,e2];go_simp
 have e1:a.toList.isEmpty=false:=by rw[List.isEmpty_eq_false_iff];exact h1
 rw[e1];go_simp
theorem Tc{Hg:List Value}{x:aC}(hx:gG B w Hg x){css:List Value}{s:fQ}(hs:dh B w css s)(hlen:x.packs.length<=1000000):Calls Tryz.prog 107 #[.agg Hg.toArray,.agg css.toArray] w fun e w'=>e= .returned (.int .u8 (x.wish s))/\O0 w w':=by
 obtain⟨dD,aY,bU,cZ,aZ,bF,rfl,pR,pU,jU,jV,aW,dU,JQ⟩:=open_rec hx;clear hx;try rw[aW.out]
 obtain⟨JR,Dj,JU,P8,Bl,P9,rfl,afF,afG,ahV,ahW,wM,Zu,F_s⟩:=U8 hs;clear hs;obtain⟨W0,hW0,ig,DU,bJ⟩:=ac3 w (.slice dD aY bU) (.slice cZ aZ bF) (.string s.name) (.slice JR Dj JU) (.slice P8 Bl P9) 25 108;obtain⟨qB,gQ,gU⟩:=JQ W0 ig.out;clear JQ;obtain⟨apT,Td,WG⟩:=F_s W0 ig.out;clear F_s;rw[aW.out]at hlen;obtain⟨f,hf⟩:=ze (x.find s.name);obtain⟨vb,hvb⟩:=ze (x.pz s.name);obtain⟨sa,hsa⟩:=ze (QW s.spans);have HSa:=zh hsa;have abG:=x.rG s.name;rw[hf,aW.out]at abG;have HF:Hid (∀W,O0 W0 W->Calls Tryz.prog 182 #[.agg #[.slice dD aY bU,.slice cZ aZ bF],.string s.name] W fun e w'=>e= .returned (.int .i64 f)/\O0 W w'):=fun W hW=>by rw[<-hf];exact lK (qB.out W hW) s.name
 have HVt:Hid (∀W,O0 W0 W->Calls Tryz.prog 156 #[.agg #[.slice dD aY bU,.slice cZ aZ bF],.string s.name] W fun e w'=>e= .returned (.bool vb)/\O0 W w'):=fun W hW=>by rw[<-hvb];exact Df (qB.out W hW) zAV s.name
 obtain⟨r,hr⟩:=ze (x.wish s);rw[hr];have bH:Hid (r=if 0<=f then (if iG (x.pack f.toNat) s.sets then 0 else 8)
  else if vb then (if 0<Bl then 9 else if sa then 0 else 9)else 7):=by
  rw[<-hr,aC.wish,hf,hvb,Zu.out,hsa]
  exact rfl
 clear hf hvb hr hsa;obtain⟨k0,k1,k2,k3,k4⟩:=bJ.out W0 zr;rw[hW0]at k0 k1 k2 k3 k4;go_enter Tryz.func107,Tryz.ntmps107;go_wp2_with fail;rw[<-hW0]at k0 k1 k2 k3 k4⊢;clear hW0;refine(HF.out W0 zr).mono ?_;rintro e w1 ⟨rfl,O1⟩;have bg:=zh O1;clear O1 HF k0 k1 k2 k3 k4;obtain⟨k0,k1,k2,k3,k4⟩:=bJ.out w1 bg.out;go_upto_region 2 with fail;go_cut [6] (fun v6 wx=>v6= .bool sa/\wx=w1);case first=>
  by_cases hone:Dj=1
  ·subst hone;have hrow:=Td.out w1 bg.out;obtain⟨y,hy⟩:∃y,s.spans=[y]:=List.length_eq_one_iff.1 wM.out;have hrow1:aJ 2 eX B w1 (.slice JR s.spans.length JU) s.spans:=by rw[wM.out];exact hrow
   obtain⟨bS,La,eS,-,-⟩:=hrow1.at (by rw[wM.out];omega);subst eS;obtain⟨csS,-,hrS,rfl,-,-⟩:=hrow.get (i:=0) (x:=y) (by rw[hy];rfl);have HRS:Hid (w1.rangeAt bS La [.string y.lo,.string y.hi]):=by simpa[Hid]using hrS
   have ak3:=Zt y.lo y.hi;have hsp:(y.lo.toList.isEmpty&&y.hi.toList.isEmpty)=sa:=by have:=HSa.out;rw[hy]at this;exact this
   rw[hsp]at ak3;clear hrS hrow hrow1 hy hsp;have q3:w1.cell? ⟨bS,La,none⟩=some (.string y.lo):=HRS.out 0 _ rfl;have q4:w1.cell? ⟨bS,La+1,none⟩=some (.string y.hi):=HRS.out 1 _ rfl;go_wp2_with fail;go_meet;exact⟨rfl,rfl⟩
  have hs0:sa=false:=by
   rw[<-HSa.out];unfold QW;split;·rename_i h;exact absurd (by rw[<-wM.out,h];rfl) hone
   rfl
  have hne:((Dj:Int)==1)=false:=by rw[yC];omega
  subst hs0;go_wp2_with fail;go_meet;exact⟨rfl,rfl⟩
 case rest=>
  obtain⟨rfl,e9⟩:=hcut;have e9:=e9.symm;subst e9;clear HSa;by_cases hf:0<=f
  ·obtain⟨i,rfl⟩:∃i:Nat,f=i:=⟨f.toNat,by omega⟩;have ci:i<aY:=zBB;obtain⟨yy,hxy⟩:=zG x.packs i zAa;obtain⟨LZ,uJ,uX,pV,uY,BK,BL,BM,BN,xX,BO,D9,Bo,Ea,MQ,Hl,MR,JV,Ez,JW,Dk,xw,Bq,Bv,Bz,Eb,Ec,Tf,WH,tY⟩:=nU (gQ.out W0 zr) hxy;first|subst Dk| (simp only[qG,qO,and_true]at Dk;obtain⟨rfl,rfl⟩:=Dk)
   have sF:=zh tY;have Ti:=zh hxy;clear tY hxy xw Bq Bv Bz Eb Ec;have HCy:Hid (∀W,O0 W0 W->fF B W [.string yy.name,.int .i64 yy.line,.slice uX pV uY,.slice BK BL BM,.slice BN xX BO,.slice D9 Bo Ea,.slice MQ Hl MR,.slice JV Ez JW] yy):=fun W ho=>(sF.out W ho).2.2.2.2.2.2.2;have hpk:x.pack i=yy:=zAh;obtain⟨sb,hsb⟩:=ze (iG yy s.sets);have HR2:Hid (r=if sb then 0 else 8):=by have hres:=bH.out;rw[if_pos hf,yT,hpk,hsb]at hres;exact hres
   clear bH;have bH:=HR2;clear HR2;have MN:Hid (∀W,O0 W0 W->Calls Tryz.prog 186 #[.agg #[.string yy.name,.int .i64 yy.line,.slice uX pV uY,.slice BK BL BM,.slice BN xX BO,.slice D9 Bo Ea,.slice MQ Hl MR,.slice JV Ez JW],.slice P8 Bl P9] W fun e w'=>e= .returned (.bool sb)/\O0 W w'):=fun W hW=>by rw[<-hsb];exact aey (HCy.out W hW) (WG.out W hW)
   clear hpk hsb;have hge:decide (0<=(i:Int))=true:=qX zBB;have hlt0:decide ((i:Int)<0)=false:=qP zBB;go_wp2_with fail;refine aT (n:=14) (E:=fun _=>false) (S:=fun W=>O0 W0 W) zk rfl (by exact(bg.out).drew) (fun hHeld=>?_);refine tW 0 ?_;refine tW 1 ?_;refine tW 2 ?_;refine tW 3 ?_;refine tK 4 ?_ (hy:=zAI);refine tW 5 ?_;refine tW 6 ?_;refine tK 7 ?_ (hy:=zAI);refine tW 8 ?_;refine tK 9 ?_ (hy:=zAI);refine tO 10 fun K hK=>?_;(go_simp;refine(MN.out _ hHeld).mono ?_;rintro e w5 ⟨rfl,o5⟩;try go_wp2_with fail);refine hK.out _ _ ?_ (fun hHeld=>?_);·(try dsimp only)<;>(exact Only.same hHeld o5)
   clear hK K;try simp only[Act.put,dL,dQ,dM,dN,dO,dP]
   refine tW 11 ?_;refine tW 12 ?_;refine tW 13 ?_;refine aS zk ?_ _;have Aq:=zh hHeld;clear hHeld;obtain⟨k0,k1,k2,k3,k4⟩:=bJ.out w5 Aq.out;cases sb with
   |true=>have hres:=bH.out;rw[if_pos rfl]at hres;exact zBw
   |false=>have hres:=bH.out;rw[if_neg zAE]at hres;exact zBw
  have HfN:Hid (f<0):=by(simp only[Hid];omega)
  have hge:decide (0<=f)=false:=qP hf;have hlt0:decide (f<0)=true:=qX zBB;go_wp2_with fail;refine(HVt.out w1 bg.out).mono ?_;rintro e w2 ⟨rfl,O2⟩;have jG:=zh (bg.out.same O2);clear O2 k0 k1 k2 k3 k4;obtain⟨k0,k1,k2,k3,k4⟩:=bJ.out w2 jG.out;cases vb with
  |false=>have hres:=bH.out;rw[if_neg (Int.not_le.2 HfN.out),if_neg zAE]at hres;subst hres;clear bH;go_wp2_with fail;go_ret;exact⟨rfl,ig.out.same jG.out⟩
  |true=>
   go_wp2_with fail;refine aT (n:=14) (E:=fun _=>false) (S:=fun W=>O0 W0 W) zk rfl (by exact(jG.out).drew) (fun hHeld=>?_);refine tW 0 ?_;refine tW 1 ?_;refine tW 2 ?_;refine tS 3 ?_;refine tS 4 ?_;refine tS 5 ?_;refine tS 6 ?_;refine tS 7 ?_;refine tS 8 ?_;refine tS 9 ?_;refine tS 10 ?_;refine tS 11 ?_;refine tW 12 ?_;refine tW 13 ?_;refine aS zk ?_ _;have Aq:=zh hHeld;clear hHeld k0 k1 k2 k3 k4;obtain⟨k0,k1,k2,k3,k4⟩:=bJ.out w2.drew Aq.out;cases sa with
   |false=>
    have hres:r=9:=by have h:=bH.out;simpa[Int.not_le.2 HfN.out]using h
    exact zBw
   |true=>
    by_cases hn:0<Bl
    ·have hres:r=9:=by have h:=bH.out;simpa[Int.not_le.2 HfN.out,hn]using h
     exact zBw
    have hres:r=0:=by have h:=bH.out;simpa[Int.not_le.2 HfN.out,hn]using h
    exact zBw
end
end Go.Proofs.YtdmmebjjojimiaaGreatDoor
namespace Go.Proofs
theorem zAp{p:Prop}(h:p:=by rw[bH.out];simp):p:=h
end Go.Proofs
namespace Go.Proofs.YtdmmebjjojimiaaGreatDoor
open Go.RowKit
section
variable {w w':World} {B:Nat}
theorem aeD{cs:List Value}{v:fE}(h:jF B w cs v):Calls Tryz.prog 264 #[.agg cs.toArray] w fun e w'=>e= .returned (.bool (xK v))/\O0 w w':=by
 obtain⟨v1,rfl,hok,hr⟩:=h;obtain⟨ao,c,rfl,-,-⟩:=hr.shape;obtain⟨n,hn⟩:=ze v.values.length;rw[hn]at hr⊢;obtain⟨W0,hW0⟩:=ze (w.alloc (.cells #[.string v.name,.slice ao n c] 145));have iM:Hid (O0 w W0):=zAM;have b0:W0.heap[w.heap.size]? =some (.cells #[.string v.name,.slice ao n c] 145):=by rw[<-hW0];exact qL w _
 have HB:Hid (∀W,O0 W0 W->W.cell? ⟨w.heap.size,0,none⟩=some (.string v.name)/\W.cell? ⟨w.heap.size,1,none⟩=some (.slice ao n c)):=fun W ho=>by have b1:=ak b0 ho (fun f=>f);exact zCS
 have HR:Hid (∀W,O0 W0 W->aJ 1 dK B W (.slice ao n c) v.values):=fun W ho=>hr.keep dK.keep (Kp.fU (iM.out.same ho));obtain⟨r1,hr1⟩:=ze (Lk.nameB v.name.toList);obtain⟨r2,hr2⟩:∃r,(v.values.any fun s=> !Lk.su s.toList)=r:=⟨_,rfl⟩;obtain⟨r3,hr3⟩:=ze (!fJ v.values);have HN:=zh (Uz (w:=W0) v.name hok r1 hr1);have HA:Hid (∀W,O0 W0 W->Calls Tryz.prog 189 #[.slice ao n c,.func (.func 332) #[] #[]] W fun e w'=>e= .returned (.bool r2)/\O0 W w'):=fun W ho=>
  vV (HR.out W ho) SQ (aeu W) r2 hr2
 have HT:Hid (n<=4->∀W,O0 W0 W->Calls Tryz.prog 265 #[.slice ao n c] W fun e w'=>e= .returned (.bool r3)/\O0 W w'):=fun h4 W ho=>by rw[<-hr3];exact PS (HR.out W ho) (by rw[hn];omega)
 obtain⟨r,hres⟩:=ze (xK v);have bH:Hid (r=(r1&&decide (0<n)&&decide (n<=4)&& !r2&& !r3)):=by show _=_;rw[<-hres,<-hr1,<-hr2,<-hr3,<-hn];unfold xK;rw[Bool.not_not,DV]
 rw[hres];obtain⟨q0,q1⟩:=HB.out W0 zr;clear hr1 hr2 hr3 hres b0 hr hn;go_enter Tryz.func264,Tryz.ntmps264;go_wp2_with fail;refine HN.out.mono ?_;rintro e w1 ⟨rfl,O1⟩;have bg:=zh O1;obtain⟨q0,q1⟩:=HB.out w1 O1;clear O1 HN;have done:∀{b:Bool} {W:World},r=b->O0 W0 W->(Ending.returned (.bool b)= .returned (.bool r)/\O0 w W):=fun h o=>⟨by rw[h],iM.out.same o⟩;clear done;cases r1 with
 |false=>have hf:r=false:=zAp;subst hf;exact zCI
 |true=>
  by_cases h0:0<n
  ·by_cases h4:n<=4
   ·go_wp2_with fail;refine(HA.out w1 bg.out).mono ?_;rintro e w2 ⟨rfl,O2⟩;have jG:=zh (bg.out.same O2);clear O2 HA q0 q1;obtain⟨q0,q1⟩:=HB.out w2 jG.out;cases r2 with
    |true=>have hf:r=false:=zAp;subst hf;exact zDD
    |false=>
     go_wp2_with fail;refine(HT.out h4 w2 jG.out).mono ?_;rintro e w3 ⟨rfl,O3⟩;have hf:r= !r3:=by rw[bH.out,qX h0,qX h4];simp
     subst hf;go_wp2_with fail;go_ret;exact⟨rfl,iM.out.same (jG.out.same O3)⟩
   have hf:r=false:=by rw[bH.out,qP h4];simp
   subst hf;exact zCI
  have hf:r=false:=by rw[bH.out,qP h0];simp
  subst hf;exact zCI
def uK(l:List fE)(j:Nat):List Str:=(l.take j).map fE.name
theorem L6{l:List fE}{j:Nat}{r:fE}(h:l[j]? =some r):uK l (j+1)=uK l j++[r.name]:=by unfold uK;rw[List.take_add_one,h];simp
theorem aeE{v:Value}{l:List fE}(h:aJ 2 jF B w v l):∀r∈l,okS r.name:=fun r hr=>by
 obtain⟨cs,v1,-,hC,-⟩:=h.all r hr
 exact hC
theorem WI{l:List fE}{j:Nat}{r:fE}(h:l[j]? =some r)(hf:xK r=false):y7 l=false:=by
 unfold y7;have:l.all xK=false:=by rw[List.all_eq_false];exact⟨r,qT h,by rw[hf];simp⟩
 rw[this,yQ,yQ]
theorem aeF{vl:Value}{l:List fE}(hl:aJ 2 jF B w vl l)(hlen:l.length<=1000000):Calls Tryz.prog 185 #[vl] w fun e w'=>e= .returned (.bool (y7 l))/\O0 w w':=by
 obtain⟨a_l,c_l,rfl,g_l,aa3⟩:=hl.shape;obtain⟨y8,e1⟩:=ze l.length;have ML:=zh e1;rw[e1]at hl g_l hlen⊢;have IC:Hid (∀W,O0 w W->aJ 2 jF B W (.slice a_l y8 c_l) l):=fun W ho=>hl.keep jF.keep (Kp.fU ho);have NJ:=zh (aeE hl);clear e1 hl;obtain⟨r,hres⟩:=ze (y7 l);have bH:=zh hres;rw[hres];obtain⟨W0,hW0⟩:=zB w;subst hW0;clear hres;go_enter Tryz.func185,Tryz.ntmps185;go_wp2_with fail;go_loopw [3,8] (fun vo vj jA=>Hid (O0 W0 jA)/\∃j:Nat,vj= .int .i64 j/\j<=y8/\Hid (jA.ownsRow 0 9 1 vo j (dZ (uK l j)))/\Hid (∀k,vo.ownBlock=some k->W0.heap.size<=k)/\Hid ((l.take j).all xK=true)) (fun _ v _=>y8-(RowKit.intOf v).toNat);case atStart=>exact⟨show Hid _ from Only.refl _ _,0,rfl,qE _,World.ownsRow_nil _ _ _ _,(fun k hk=>by cases hk),show Hid _ from by simp[Hid]⟩
 case round=>
  obtain⟨jA,rfl⟩:=zB wr;obtain⟨Ew,j,rfl,hj,HV,HBj,HAl⟩:=hrel;by_cases cj:j<y8
  ·have jg:=zw (j+1);obtain⟨yz,hxz⟩:=zG l j (by rw[ML.out];omega);obtain⟨bkz,LY,az,nz,cz,SY,hnz,aeC,GU⟩:=TY (IC.out W0 zr) hxz;first|subst SY| (simp only[qG,qO,and_true]at SY;obtain⟨rfl,rfl⟩:=SY)
   have UO:=zh GU;have Zr:=zh hxz;clear GU hxz;have uT:Hid (jA.rangeAt bkz (LY+j*2) [.string yz.name,.slice az nz cz]):=(UO.out jA Ew.out).1;obtain⟨w6,hw6⟩:=ze (jA.alloc (.cells #[.string ⟨#[]⟩,.slice none 0 0] 145));have H6z:Hid (w6.heap[jA.heap.size]? =some (.cells #[.string ⟨#[]⟩,.slice none 0 0] 145)):=by rw[<-hw6];exact qL jA _
   obtain⟨w7,hw7⟩:=ze (w6.setRow jA.heap.size #[.string yz.name,.slice az nz cz]);have HB7:Hid (w7.heap[jA.heap.size]? =some (.cells #[.string yz.name,.slice az nz cz] 145 (0,0))):=by rw[<-hw7];exact setRow_heap _ _ _ _ _ _ H6z.out
   have uU:Hid (O0 jA w7):=by rw[<-hw7,<-hw6];exact(zr.alloc _).trans (aU _ _ _) fun k hk=>.inr (yG hk.symm)
   have XF:Hid (∀W,O0 w7 W->W.cell? ⟨jA.heap.size,0,none⟩=some (.string yz.name)/\W.cell? ⟨jA.heap.size,1,none⟩=some (.slice az nz cz)):=fun W ho=>by have b1:=ak HB7.out ho (fun f=>f);exact zCS
   obtain⟨ro,hro⟩:=ze (xK yz);have HRo:=zh hro;have NM:Hid (Calls Tryz.prog 264 #[.agg #[.string yz.name,.slice az nz cz]] w7 fun e w'=>e= .returned (.bool ro)/\O0 w7 w'):=by rw[<-hro];exact aeD (UO.out w7 (Ew.out.same uU.out)).2.2
   obtain⟨ao,co,rfl,-,-⟩:=aH HV.out;obtain⟨q0,q1⟩:=XF.out w7 zr;clear hro hnz;go_wp2_with (first
    | (refine wpList_load_mid rfl 145 (.tmp 10) rfl bkz (LY+j*2) rfl _ _ uT.out Tryz.underlying145 rfl zk ?_)
    | (refine wpList_store_row rfl 145 (.tmp 5) (.tmp 11) rfl jA.heap.size #[.string yz.name,.slice az nz cz] rfl rfl 145 #[.string ⟨#[]⟩,.slice none 0 0] H6z.out zk rfl zk ?_))
   refine NM.out.mono ?_;rintro e w8 ⟨rfl,O8⟩;have Zf:=zh O8;clear q0 q1;obtain⟨q0,q1⟩:=XF.out w8 O8;clear O8 NM uT H6z hw6 hw7 HB7;cases ro with
   |false=>
    have hf:r=false:=by rw[<-bH.out];exact WI Zr.out HRo.out
    subst hf;go_wp2_with fail;go_ret;exact⟨rfl,Ew.out.same (uU.out.same Zf.out)⟩
   |true=>
    have SC:=zh (uU.out.same Zf.out);go_wp2_with (at_builtin;go_must (refine zJ (u:=.string yz.name) vJ rfl (.tmp 15) (.tmp 18) rfl rfl rfl (by have h:=cell_new0 w8 (.string yz.name) 9;simpa using h) rfl (aB HV.out (SC.out.alloc _) (fun _ _ f=>f)) zBB zBC ?_));intro v' w2 r1 r2 r3;have HVv:Hid (w2.ownsRow 0 9 1 v' (j+1) (dZ (uK l (j+1)))):=by rw[L6 Zr.out];simpa[dZ,Hid]using r1
    have HOv:Hid (O0 W0 w2):=(Ew.out.same (SC.out.alloc _)).trans r2 fun k hk=>.inr (HBj.out k hk);have HBv:Hid (∀k,v'.ownBlock=some k->W0.heap.size<=k):=by
     intro k hk;obtain⟨g,cap',rfl,-,-,h|h⟩:=r3;·simp[Value.ownBlock]at hk;subst hk;exact HBj.out _ h
     simp[Value.ownBlock]at hk;subst hk;have h9:=Ew.out.size;have h8:=SC.out.size;simp at h;omega
    have ak6:Hid ((l.take (j+1)).all xK=true):=by show _=true;rw[List.take_add_one,Zr.out,List.all_append,HAl.out];simp[HRo.out]
    obtain⟨g,cap',rfl,-,-,-⟩:=r3;clear r1 r2 q0 q1;go_wp2_with fail;go_roundw;case rel=>exact⟨HOv,j+1,by first|rfl|go_num,by omega,HVv,HBv,ak6⟩
    case measure=>simp[RowKit.intOf]<;>omega
  obtain rfl:y8=j:=by omega
  obtain⟨ao,co,rfl,-,-⟩:=aH HV.out;have hall:uK l y8=l.map fE.name:=by unfold uK;rw[qI (yG ML.out)]
  have hal:l.all xK=true:=by have:=HAl.out;rwa[qI (yG ML.out)]at this
  have hlm:(l.map fE.name).length=y8:=by rw[qM];exact ML.out
  have hrd:aJ 1 dK jA.heap.size jA (.slice ao y8 co) (l.map fE.name):=by have h:=HV.out;rw[hall]at h;refine pI hlm h fun s hs=>?_;obtain⟨r,hr,rfl⟩:=yD.1 hs;exact NJ.out r hr
  have HT:=zh (PS hrd (by rw[hlm];exact hlen));obtain⟨rt,hrt⟩:=ze (!fJ (l.map fE.name));rw[hrt]at HT;have HR2:Hid (r=(decide (y8<=4)&& !rt)):=by show _=_;rw[<-bH.out,<-hrt];unfold y7;rw[hal,yR,ML.out,Bool.not_not]
  clear hrt hrd hall hal hlm;by_cases h4:y8<=4
  ·go_wp2_with fail;refine HT.out.mono ?_;rintro e w9 ⟨rfl,O9⟩;have hf:r= !rt:=by rw[HR2.out,qX h4];simp
   subst hf;go_wp2_with fail;go_ret;exact⟨rfl,Ew.out.same O9⟩
  have hf:r=false:=by rw[HR2.out,qP h4];simp
  subst hf;go_wp2_with fail;go_ret;exact⟨rfl,Ew.out⟩
end
end Go.Proofs.YtdmmebjjojimiaaGreatDoor
