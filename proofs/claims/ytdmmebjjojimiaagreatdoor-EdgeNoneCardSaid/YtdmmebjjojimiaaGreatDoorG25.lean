/- slices.IndexFunc, ContainsFunc at rows of structs. Printed by gen_idxf.py.; Packages span and spans: Has, exact. -/
import Derived.Test.YtdmmebjjojimiaaGreatDoorG24
set_option maxRecDepth 100000
set_option maxHeartbeats 8000000
set_option linter.all false
namespace Go.Proofs.YtdmmebjjojimiaaGreatDoor
open Go.RowKit Go.Shelf
section
variable {w w':World} {B:Nat}
theorem Vh{v:Value}{xs:List jY}(h:aQ 2 gq B w v xs){g:Nat}{cb:Array Value}{p:jY->Bool}(eg:∀args w,(callFunc g args).run Tryz.prog w= .ok (.enter g args) w)(hp:TP gq B g cb p w):Calls Tryz.prog 374 #[v,.func (.func g) #[] cb] w fun e w'=>e= .returned (.int .i64 (wL p xs))/\O0 w w':=by
 obtain⟨ao,cap,rfl,hc1,hc2⟩:=h.shape;have HH:=zh h;have Zp:=zh hp;obtain⟨n,hn⟩:=ze xs.length;have HN:=zh hn;rw[hn]at hc1⊢;clear h hp hn;go_enter Tryz.func374,Tryz.ntmps374;go_wp2_with fail;go_loopw [5,8] (fun _ vi wr=>Hid (O0 w wr)/\∃i:Nat,vi= .int .i64 i/\i<=n/\Hid (∀x∈xs.take i,p x=false)) (fun _ v _=>n-(intOf v).toNat);case atStart=>exact⟨show Hid _ from Only.refl _ _,0,rfl,qE _,show Hid _ from fun x hx=>by simp at hx⟩
 case round=>
  obtain⟨HO,i,rfl,hi,HZ⟩:=hrel;by_cases ci:i<n
  ·have h2:=HH.out;rw[HN.out]at h2;obtain⟨b,off,he,-,-⟩:=h2.at zBC;subst he;obtain⟨x,hx⟩:=zG xs i zAl;obtain⟨cs,hl,hr,hC⟩:=(h2.keep gq.keep (Kp.iI HO.out)).get hx;have jh:=zw (i+1);have HR:=zh hr;have HL:=zh hl;have HX:=zh hx;have HC:=zh (Zp.out wr cs x HO.out hC);obtain⟨y,hy⟩:=ze (p x);rw[hy]at HC;have HY:=zh hy;clear hr hx hy h2 hl hC;cases y with
   |true=>go_wp2_with (refine wpList_load_mid rfl 128 (.tmp 14) rfl b (off+i*2) rfl cs _ HR.out Tryz.underlying128 rfl zBP ?_);exact zDq
   |false=>go_wp2_with (refine wpList_load_mid rfl 128 (.tmp 14) rfl b (off+i*2) rfl cs _ HR.out Tryz.underlying128 rfl zBP ?_);exact zCf
  exact zDg
theorem Nb{v:Value}{xs:List jY}(h:aQ 2 gq B w v xs){g:Nat}{cb:Array Value}{p:jY->Bool}(eg:∀args w,(callFunc g args).run Tryz.prog w= .ok (.enter g args) w)(hp:TP gq B g cb p w)(r:Bool)(hr:decide (0<=wL p xs)=r):Calls Tryz.prog 340 #[v,.func (.func g) #[] cb] w fun e w'=>e= .returned (.bool r)/\O0 w w':=by have H:=zh (Vh h eg hp);obtain⟨i,hi⟩:=ze (wL p xs);rw[hi]at H hr;clear h hp hi;go_enter Tryz.func340,Tryz.ntmps340;go_wp2_with fail;refine H.out.mono ?_;rintro e w1 ⟨rfl,O1⟩;go_wp2_with fail;go_ret;refine⟨?_,O1⟩;first|rfl| (rw[<-hr];rfl)| (rw[<-hr];simp)|simp
end
end Go.Proofs.YtdmmebjjojimiaaGreatDoor
namespace Go.Proofs
theorem zAr{p:Prop}(h:p:=by rw[<-hW0];exact zr.alloc _):p:=h
theorem zAt{p:Prop}(h:p:=by rw[<-hW0];exact qL _ _):p:=h
theorem zDU{p:Prop}(h:p:=by
 have c0:=aF hb0 o (fun f=>f)
 exact⟨by rw[ah c0];rfl,by rw[ah c0];rfl⟩):p:=h
theorem zEQ{p:Prop}(h:p:=by
 simp only[yR,yQ]at hr
 subst hr
 go_wp2_with fail
 go_ret
 exact⟨rfl,nJ.out.same fK.out⟩):p:=h
theorem zEV{p:Prop}(h:p:=by
 simp only[yQ]at hr
 subst hr
 go_wp2_with fail
 go_ret
 exact⟨rfl,nJ.out.same bM.out⟩):p:=h
theorem zEb{p:Prop}(h:p:=by
 subst hr
 go_wp2_with fail
 go_ret
 exact⟨by first|rfl|simp[hd],Only.refl _ _⟩):p:=h
end Go.Proofs
namespace Go.Proofs.YtdmmebjjojimiaaGreatDoor
open Go.RowKit
section
variable {w w':World} {B:Nat}
theorem Nc:ByteArray.empty.toList=[]:=by rw[ByteArray.toList_eq];rfl
theorem oz{s:Str}:s.toList=[]↔s=ByteArray.empty:=
 ⟨fun h=>toList_inj (by rw[h,Nc]),fun h=>by rw[h,Nc]⟩
theorem Y6(s:Str)(hs:okS s)(hL:Laid w)(r:Bool)(hr:Jf s=r):Calls Tryz.prog 405 #[.string s] w (fun e w'=>e= .returned (.bool r)/\O0 w w'):=by
 have HM:=zh (ado s hs hL (xR s.toList) rfl);obtain⟨m,hm⟩:=ze (xR s.toList);rw[hm]at HM;unfold Jf at hr;rw[hm]at hr;obtain⟨z,hz⟩:∃z,decide (s=ByteArray.empty)=z:=⟨_,rfl⟩;rw[hz]at hr;clear hm hL hs;go_enter Tryz.func405,Tryz.ntmps405;cases z with
 |true=>have hd:s.toList=[]:=oz.2 (of_decide_eq_true hz);clear hz;rw[Bool.true_or]at hr;exact zEb
 |false=>have hd:¬s.toList=[]:=fun h=>of_decide_eq_false hz (oz.1 h);clear hz;rw[Bool.false_or]at hr;subst hr;go_wp2_with fail;refine HM.out.mono ?_;rintro e w1 ⟨rfl,O1⟩;go_wp2_with fail;go_ret;exact⟨by first|rfl|simp[hd],O1⟩
theorem RX(a b:Str)(ha:okS a)(hb:okS b)(hL:Laid w)(r:Bool)(hr:Df a b=r):Calls Tryz.prog 376 #[.string a,.string b] w (fun e w'=>e= .returned (.bool r)/\O0 w w'):=by
 have HM:=zh (Z8 a b ha hb hL);obtain⟨m,hm⟩:=ze (acO a.toList b.toList);rw[hm]at HM;unfold Df at hr;rw[hm]at hr;obtain⟨z,hz⟩:∃z,decide (a=ByteArray.empty)=z:=⟨_,rfl⟩;obtain⟨y,hy⟩:∃y,decide (b=ByteArray.empty)=y:=⟨_,rfl⟩;rw[hz,hy]at hr;clear hm hL ha hb;go_enter Tryz.func376,Tryz.ntmps376;cases z with
 |true=>have hd:a.toList=[]:=oz.2 (of_decide_eq_true hz);clear hz hy;simp only[Bool.not_true,yQ]at hr;exact zEb
 |false=>
  have hd:¬a.toList=[]:=fun h=>of_decide_eq_false hz (oz.1 h);clear hz;cases y with
  |true=>have hd':b.toList=[]:=oz.2 (of_decide_eq_true hy);clear hy;simp only[Bool.not_true,Bool.and_false,yQ]at hr;subst hr;go_wp2_with fail;go_ret;exact⟨by first|rfl|simp[hd,hd'],Only.refl _ _⟩
  |false=>have hd':¬b.toList=[]:=fun h=>of_decide_eq_false hy (oz.1 h);clear hy;simp only[Bool.not_false,yR]at hr;go_wp2_with fail;refine HM.out.mono ?_;rintro e w1 ⟨rfl,O1⟩;subst hr;go_wp2_with fail;go_ret;exact⟨by first|rfl|simp[hd,hd'],O1⟩
theorem aik(s:jY)(hl:okS s.lo)(hh:okS s.hi)(hL:Laid w)(r:Bool)(hr:Rt s=r):Calls Tryz.prog 375 #[.agg #[.string s.lo,.string s.hi]] w (fun e w'=>e= .returned (.bool r)/\O0 w w'):=by
 obtain⟨W0,hW0⟩:=ze (w.alloc (.cells #[.string s.lo,.string s.hi] 128));have hb0:W0.heap[w.heap.size]? =some (.cells #[.string s.lo,.string s.hi] 128 (0,0)):=zAt;have nJ:Hid (O0 w W0):=zAr;have aG:Hid (∀W,O0 W0 W->W.cell? ⟨w.heap.size,0,none⟩=some (.string s.lo)/\W.cell? ⟨w.heap.size,1,none⟩=some (.string s.hi)):=fun W o=>by exact zDU
 obtain⟨r1,hr1⟩:=ze (Jf s.lo);obtain⟨r2,hr2⟩:=ze (Jf s.hi);obtain⟨r3,hr3⟩:=ze (Df s.hi s.lo);have H1:Hid (∀W,O0 W0 W->Calls Tryz.prog 405 #[.string s.lo] W (fun e w'=>e= .returned (.bool r1)/\O0 W w')):=fun W o=>Y6 s.lo hl ((hL.only nJ.out).only o) r1 hr1;have H2:Hid (∀W,O0 W0 W->Calls Tryz.prog 405 #[.string s.hi] W (fun e w'=>e= .returned (.bool r2)/\O0 W w')):=fun W o=>Y6 s.hi hh ((hL.only nJ.out).only o) r2 hr2;have H3:Hid (∀W,O0 W0 W->Calls Tryz.prog 376 #[.string s.hi,.string s.lo] W (fun e w'=>e= .returned (.bool r3)/\O0 W w')):=fun W o=>RX s.hi s.lo hh hl ((hL.only nJ.out).only o) r3 hr3;unfold Rt at hr;rw[hr1,hr2,hr3]at hr;obtain⟨k0,k1⟩:=aG.out W0 zr;clear hb0 hr1 hr2 hr3 hL hl hh;go_enter Tryz.func375,Tryz.ntmps375;go_wp2_with fail;try rw[hW0]
 clear hW0;refine(H1.out W0 zr).mono ?_;rintro e w1 ⟨rfl,O1⟩;have bM:=zh O1;obtain⟨k0,k1⟩:=aG.out w1 O1;clear O1;cases r1 with
 |false=>exact zEV
 |true=>
  go_wp2_with fail;refine(H2.out w1 bM.out).mono ?_;rintro e w2 ⟨rfl,O2⟩;have fK:=zh (bM.out.same O2);obtain⟨k0,k1⟩:=aG.out w2 fK.out;clear O2;cases r2 with
  |false=>exact zEQ
  |true=>go_wp2_with fail;refine(H3.out w2 fK.out).mono ?_;rintro e w3 ⟨rfl,O3⟩;have mO:=zh (fK.out.same O3);clear O3;simp only[yR]at hr;subst hr;go_wp2_with fail;go_ret;exact⟨rfl,nJ.out.same mO.out⟩
theorem ail(s:jY)(v:Str)(hl:okS s.lo)(hh:okS s.hi)(hv:okS v)(hL:Laid w)(r:Bool)(hr:yg s v=r):Calls Tryz.prog 342 #[.agg #[.string s.lo,.string s.hi],.string v] w (fun e w'=>e= .returned (.bool r)/\O0 w w'):=by
 obtain⟨W0,hW0⟩:=ze (w.alloc (.cells #[.string s.lo,.string s.hi] 128));have hb0:W0.heap[w.heap.size]? =some (.cells #[.string s.lo,.string s.hi] 128 (0,0)):=zAt;have nJ:Hid (O0 w W0):=zAr;have aG:Hid (∀W,O0 W0 W->W.cell? ⟨w.heap.size,0,none⟩=some (.string s.lo)/\W.cell? ⟨w.heap.size,1,none⟩=some (.string s.hi)):=fun W o=>by exact zDU
 obtain⟨r1,hr1⟩:=ze (Rt s);obtain⟨r2,hr2⟩:=ze (xR v.toList);obtain⟨r3,hr3⟩:=ze (Df v s.lo);obtain⟨r4,hr4⟩:=ze (Df s.hi v);have H1:Hid (∀W,O0 W0 W->Calls Tryz.prog 375 #[.agg #[.string s.lo,.string s.hi]] W (fun e w'=>e= .returned (.bool r1)/\O0 W w')):=fun W o=>aik s hl hh ((hL.only nJ.out).only o) r1 hr1;have H2:Hid (∀W,O0 W0 W->Calls Tryz.prog 259 #[.string v] W (fun e w'=>e= .returned (.bool r2)/\O0 W w')):=fun W o=>ado v hv ((hL.only nJ.out).only o) r2 hr2;have H3:Hid (∀W,O0 W0 W->Calls Tryz.prog 376 #[.string v,.string s.lo] W (fun e w'=>e= .returned (.bool r3)/\O0 W w')):=fun W o=>RX v s.lo hv hl ((hL.only nJ.out).only o) r3 hr3;have H4:Hid (∀W,O0 W0 W->Calls Tryz.prog 376 #[.string s.hi,.string v] W (fun e w'=>e= .returned (.bool r4)/\O0 W w')):=fun W o=>RX s.hi v hh hv ((hL.only nJ.out).only o) r4 hr4;unfold yg at hr;rw[hr1,hr2,hr3,hr4]at hr;obtain⟨k0,k1⟩:=aG.out W0 zr;clear hb0 hr1 hr2 hr3 hr4 hL hl hh hv;go_enter Tryz.func342,Tryz.ntmps342;go_wp2_with fail;try rw[hW0]
 clear hW0;refine(H1.out W0 zr).mono ?_;rintro e w1 ⟨rfl,O1⟩;have bM:=zh O1;obtain⟨k0,k1⟩:=aG.out w1 O1;clear O1;cases r1 with
 |false=>exact zEV
 |true=>
  go_wp2_with fail;refine(H2.out w1 bM.out).mono ?_;rintro e w2 ⟨rfl,O2⟩;have fK:=zh (bM.out.same O2);obtain⟨k0,k1⟩:=aG.out w2 fK.out;clear O2;cases r2 with
  |false=>exact zEQ
  |true=>
   go_wp2_with fail;refine(H3.out w2 fK.out).mono ?_;rintro e w3 ⟨rfl,O3⟩;have mO:=zh (fK.out.same O3);obtain⟨k0,k1⟩:=aG.out w3 mO.out;clear O3;cases r3 with
   |true=>simp only[yR,Bool.not_true,yQ]at hr;subst hr;go_wp2_with fail;go_ret;exact⟨rfl,nJ.out.same mO.out⟩
   |false=>go_wp2_with fail;refine(H4.out w3 mO.out).mono ?_;rintro e w4 ⟨rfl,O4⟩;have xw:=zh (mO.out.same O4);clear O4;simp only[yR,Bool.not_false]at hr;subst hr;go_wp2_with fail;go_ret;exact⟨rfl,nJ.out.same xw.out⟩
theorem ain(v:Str)(hv:okS v)(gs:Nat)(hg:w.cell? ⟨gs,0,none⟩=some (.string v))(hL:Laid w):TP gq B 341 #[.pointer (some ⟨gs,0,none⟩)] (fun s=>yg s v) w:=by
 intro W cs s hO hC;obtain⟨rfl,h1,h2⟩:=hC;have hlt:gs<w.heap.size:=World.block_lt_of_cell? _ _ hg;have hg2:W.cell? ⟨gs,0,none⟩=some (.string v):=by rw[World.cell?_of_block (w:=w) (hO.block gs hlt (fun f=>f))];exact hg
 obtain⟨W0,hW0⟩:=ze (W.alloc (.cells #[.string s.lo,.string s.hi] 128));have HB0:Hid (W0.heap[W.heap.size]? =some (.cells #[.string s.lo,.string s.hi] 128 (0,0))):=zAt;have nJ:Hid (O0 W W0):=zAr;have hg3:W0.cell? ⟨gs,0,none⟩=some (.string v):=dh hg2 nJ.out (fun f=>f);have k0:W0.cell? ⟨W.heap.size,0,none⟩=some (.string s.lo):=by rw[ah HB0.out];rfl
 have k1:W0.cell? ⟨W.heap.size,1,none⟩=some (.string s.hi):=by rw[ah HB0.out];rfl
 obtain⟨r,hr⟩:=ze (yg s v);show Calls _ _ _ _ (fun e w'=>e= .returned (.bool (yg s v))/\_);rw[hr];have H1:=zh (ail (w:=W0) s v h1 h2 hv ((hL.only hO).only nJ.out) r hr);clear hg hg2 hlt hr h1 h2 hv hL hO;go_enter Tryz.func341,Tryz.ntmps341;go_wp2_with fail;try rw[hW0]
 clear hW0;refine H1.out.mono ?_;rintro e w1 ⟨rfl,O1⟩;go_wp2_with fail;go_ret;exact⟨rfl,nJ.out.same O1⟩
theorem XK:∀args w,(callFunc 341 args).run Tryz.prog w= .ok (.enter 341 args) w:=enters_of Tryz.func341 zk rfl
theorem RY(l:List jY)(v:Str):decide (0<=wL (fun s=>yg s v) l)=uQ l v:=by
 unfold uQ wL;by_cases h:l.any (fun s=>yg s v)=true;·rw[if_pos h,h];simp
 rw[if_neg h,Bool.eq_false_iff.2 h];simp
theorem XL{vl:Value}{l:List jY}(hl:aQ 2 gq B w vl l)(v:Str)(hv:okS v)(hL:Laid w)(r:Bool)(hr:uQ l v=r):Calls Tryz.prog 285 #[vl,.string v] w (fun e w'=>e= .returned (.bool r)/\O0 w w'):=by
 obtain⟨ao,cap,rfl,-,-⟩:=hl.shape;obtain⟨n,hn⟩:=ze l.length;rw[hn]at hl⊢;have H1:Hid (Calls Tryz.prog 340 #[.slice ao n cap,.func (.func 341) #[] #[.pointer (some ⟨w.heap.size,0,none⟩)]] (w.alloc (.cells #[.string v] 9)) fun e w'=>e= .returned (.bool r)/\O0 (w.alloc (.cells #[.string v] 9)) w'):=
  Nb (hl.keep gq.keep (Kp.iI (zr.alloc _))) XK (ain v hv _ (cell_new0 _ _ _) (hL.only (zr.alloc _))) r (by rw[RY];exact hr)
 clear hl hn hr hL;go_enter Tryz.func285,Tryz.ntmps285;go_wp2_with fail;refine H1.out.mono ?_;rintro e w1 ⟨rfl,O1⟩;go_wp2_with fail;go_ret;exact⟨rfl,((Only.refl _ w).alloc _).same O1⟩
end
end Go.Proofs.YtdmmebjjojimiaaGreatDoor
namespace Go.Proofs
theorem zDP{p:Prop}(h:p:=by
 go_wp2_with fail
 go_ret
 exact⟨rfl,HE.out⟩):p:=h
theorem zDj{p:Prop}(h:p:=by
 go_wp2_with fail
 go_roundw
 case rel=>exact⟨i+1,by first|rfl|go_num,by omega,uh⟩
 case measure=>simp[RowKit.intOf]<;>omega):p:=h
end Go.Proofs
namespace Go.Proofs.YtdmmebjjojimiaaGreatDoor
open Go.RowKit
theorem aio{i j:Nat}(h:hA i=hA j):i=j:=by simp[hA]at h;omega
theorem Qp{T:Tab}{f:Nat->Nat}{n:Nat}(hf:∀i j,i<n->j<n->f i=f j->i=j)(h:∀i,i<n->hA (f i)∈T.l):n<=T.l.length:=by
 have hn:((List.range n).map fun i=>hA (f i)).Nodup:=by rw[List.Nodup,List.pairwise_map];refine List.Pairwise.imp_of_mem ?_ (List.nodup_range (n:=n));intro a b ha hb hab e;exact hab (hf a b (yI.1 ha) (yI.1 hb) (aio e))
 have:=List.Nodup.length_le_of_subset hn (l₂:=T.l) (fun a ha=>by
  obtain⟨i,hi,rfl⟩:=yD.1 ha
  exact h i (yI.1 hi))
 simpa using this
theorem Nh{T:Tab}(hi:iQ T)(hlen:T.l.length<=65536):T.helps<=uS T/\(∀j,T.helps<=j->j<uS T->hA j∈T.l)/\hA (uS T)∉T.l/\uS T<=1000000:=by
 have h0:T.helps<=T.l.length:=Qp (f:=fun i=>i) (fun i j _ _ h=>h) hi;unfold uS;cases hf:(List.range (T.l.length+1)).find? fun j=>decide (hA (T.helps+j)∉T.l)with
 |none=>
  exfalso;rw[List.find?_eq_none]at hf;have:=Qp (T:=T) (f:=fun i=>T.helps+i) (n:=T.l.length+1) (fun i j _ _ h=>by have h:T.helps+i=T.helps+j:=h;omega) (fun i hi=>by
   have:=hf i (yI.2 hi)
   simpa using this)
  omega
 |some j=>obtain⟨h1,h2,h3⟩:=List.find?_range_eq_some.1 hf;have h2':=yI.1 h2;simp only[Option.getD_some];refine⟨by omega,fun i h4 h5=>?_,by simpa using h1,by omega⟩;have:=h3 (i-T.helps) zBk;rw[show T.helps+(i-T.helps)=i by omega]at this;simpa using this
theorem iQ.help{S:TB}(h:iQ S.1)(hlen:S.1.l.length<=65536):iQ S.help.1.1:=by
 obtain⟨h1,h2,h3,h4⟩:=Nh h hlen;unfold TB.help;refine iQ.num (T:={S.1 with helps:=uS S.1}) (fun j hj=>?_) _;have hj:j<uS S.1:=hj;show hA j∈S.1.l;rcases yK j S.1.helps with hlt|hge;·exact h j hlt
 exact h2 j hge hj
theorem TB.aip{S:TB}(h:S.1.Ok):0<=S.help.2/\S.help.2<=65536:=(Tab.xq (T:={S.1 with helps:=uS S.1}) ⟨h.lim,h.len⟩ _).2
theorem TB.ug(S:TB)(l:List At)(a:At):S.nums (l++[a])=(((S.nums l).1.num a).1,(S.nums l).2++[((S.nums l).1.num a).2]):=by unfold TB.nums TB.num;rw[Tab.ug]
def rC(p:Nat)(bY:List wJ)(l:List jY)(i:Nat):List At:=((List.range i).filter fun i=>uQ l (bY.getD i default).version).map (pX p)
theorem aap{p:Nat}{bY:List wJ}{l:List jY}{i:Nat}(h:uQ l (bY.getD i default).version=true):rC p bY l (i+1)=rC p bY l i++[pX p i]:=by unfold rC;rw[List.range_succ,List.filter_append];rw[qC]at h;simp[h]
theorem adp{p:Nat}{bY:List wJ}{l:List jY}{i:Nat}(h:uQ l (bY.getD i default).version=false):rC p bY l (i+1)=rC p bY l i:=by unfold rC;rw[List.range_succ,List.filter_append];rw[qC]at h;simp[h]
theorem Qq(p:Nat)(bY:List wJ)(l:List jY)(i:Nat):(rC p bY l i).length<=i:=by unfold rC;rw[qM];exact qR (yO _ _) zAM
section
variable {w w':World} {gt gb gp:Tag} {c bt bb:Nat} {G:NU} {Bs:Nat} {D:Dn} {S:TB} {X:NV} {E:ES}
theorem DV.ok(H:DV w gt gb c bt bb G Bs D S):S.1.Ok:=by obtain⟨V,hV⟩:=H.gr.tab;exact⟨hV.lim,hV.len⟩
theorem DV.len(H:DV w gt gb c bt bb G Bs D S):S.1.l.length<=65536:=by have h:=H.ok;have:=h.lim;have:=h.len;omega
theorem alH(H:DV w gt gb c bt bb G Bs D S){v:Value}{xs:List Int}(hI:Ints w v xs)(hN:D6 gt gb v xs)(x:Int)(hx: -1000000<=x/\x<=1000000)(hs:∀z∈xs,-1000000<=z/\z<=1000000)(hl:xs.length<=1000000):Calls Tryz.prog 360 #[.pointer (some ⟨bb,0,none⟩),.int .i64 x,v] w fun e w'=>e= .returned (.tuple #[])/\fE w gt gb c bt bb G Bs D (S.1,S.2.adds (J8 x xs)) w':=by obtain⟨V,hV⟩:=H.gr.Jy;exact(afs hV hI hN.b x hx hs hl).mono fun e w' ⟨he,h⟩=>⟨he,H.step (S2:=(S.1,S.2.adds (J8 x xs))) (H.gr.step_b h) H.hinv⟩
theorem agD(H:DV w gt gb c bt bb G Bs D S){v:Value}{xs:List Int}(hI:Ints w v xs)(hN:D6 gt gb v xs)(x:Int)(hx: -1000000<=x/\x<=1000000)(hs:∀z∈xs,-1000000<=z/\z<=1000000)(hl:xs.length<=1000000):Calls Tryz.prog 228 #[.pointer (some ⟨bb,0,none⟩),.int .i64 x,v] w fun e w'=>e= .returned (.tuple #[])/\fE w gt gb c bt bb G Bs D (S.1,S.2.adds (pz x xs)) w':=by obtain⟨V,hV⟩:=H.gr.Jy;exact(aft hV hI hN.b x hx hs hl).mono fun e w' ⟨he,h⟩=>⟨he,H.step (S2:=(S.1,S.2.adds (pz x xs))) (H.gr.step_b h) H.hinv⟩
theorem aiq(H:DV w gt gb c bt bb G Bs D S)(z:Int)(hz:S.help.2=z):Calls Tryz.prog 359 #[.pointer (some ⟨bt,0,none⟩)] w fun e w'=>e= .returned (.int .i64 z)/\fE w gt gb c bt bb G Bs D S.help.1 w':=by obtain⟨V,hV⟩:=H.gr.tab;obtain⟨h1,h2,h3,h4⟩:=Nh H.hinv H.len;exact(abW hV (uS S.1) h1 h2 h3 h4 z hz).mono fun e w' ⟨he,h⟩=>⟨he,H.step (S2:=S.help.1) (H.gr.abY h) (iQ.help H.hinv H.len)⟩
theorem KF(u a:Value)(W:World):(Instr.field 25 (.agg #[u,a]) 0).run Tryz.prog W= .ok u W:=by unfold Instr.field;rw[Sem.run_bind,run_underlying Tryz.underlying25];simp[asAgg,part,isAgg]
theorem afu(u:Value)(W:World):(Instr.field 28 (.agg #[u]) 0).run Tryz.prog W= .ok u W:=by unfold Instr.field;rw[Sem.run_bind,run_underlying Tryz.underlying28];simp[asAgg,part,isAgg]
theorem DV.OQ(H:DV w gt gb c bt bb G Bs D S):∃a1 c1 a2 c2,G.x1= .slice a1 D.x.packs.length c1/\G.x2= .slice a2 D.x.iH.length c2/\aQ 8 iU Bs w (.slice a1 D.x.packs.length c1) D.x.packs/\aQ 3 nS Bs w (.slice a2 D.x.iH.length c2) D.x.iH:=by obtain⟨v1,v2,e12,h1,h2⟩:=H.BI;simp only[List.cons.injEq,and_true]at e12;obtain⟨e1,e2⟩:=e12;obtain⟨a1,c1,e3,-,-⟩:=h1.shape;obtain⟨a2,c2,e4,-,-⟩:=h2.shape;rw[e3]at h1;rw[e4]at h2;exact⟨a1,c1,a2,c2,by rw[e1,e3],by rw[e2,e4],h1,h2⟩
theorem KG{a1:Option Addr}{c1:Nat}{x:aH}(h:aQ 8 iU Bs w (.slice a1 x.packs.length c1) x.packs){p:Nat}(hp:p<x.packs.length):∃b off cs,a1=some ⟨b,off,none⟩/\w.rangeAt b (off+p*8) cs/\iU Bs w cs (x.pack p)/\cs.length=8:=by
 obtain⟨b,off,rfl,-,-⟩:=h.at zBk;have hpx:x.packs[p]? =some (x.pack p):=by unfold aH.pack;rw[qC,qA hp];rfl
 obtain⟨cs,h1,h2,h3⟩:=h.get hpx;exact⟨b,off,cs,rfl,h2,h3,h1⟩
theorem alI(H:DV w gt gb c bt bb G Bs D S){p:Nat}(hp:p<D.x.packs.length)(hm:Fv D.x){vl:Value}{l:List jY}(hl:aQ 2 gq Bs w vl l)(z:Int)(hz:(S.set p (D.x.pack p).bY l).2=z):Calls Tryz.prog 310 #[.pointer (some ⟨c,0,none⟩),.int .i64 p,vl] w fun e w'=>e= .returned (.int .i64 z)/\fE w gt gb c bt bb G Bs D (S.set p (D.x.pack p).bY l).1 w':=by
 have H0:=zh H;have HZ:=zh hz;obtain⟨S9,XM⟩:=ze ((S.set p (D.x.pack p).bY l).1);rw[XM];have HS9:=zh XM;obtain⟨avl,cvl,rfl,-,-⟩:=hl.shape;obtain⟨nl,hnl⟩:=ze l.length;rw[hnl]at hl⊢;obtain⟨a1,c1,a2,c2,JK,Kr,h1,-⟩:=H.OQ;have FV:=zh (mF H.gr JK Kr);have hpk:=hm.packs;have hrl:=hm.bY _ (aH.iW hp);obtain⟨b,off,cs,rfl,hr,hC,-⟩:=KG h1 hp;obtain⟨pk,adq⟩:=ze (D.x.pack p);rw[adq]at hC hrl HZ HS9;obtain⟨o1,o2,o3,o4,o5,o6,d1,d2,d3,d4,d5,d6,rfl,-,-,b1,-,-,-,-,-⟩:=hC.cells;obtain⟨n1,hn1⟩:=ze D.x.packs.length;obtain⟨n2,hn2⟩:=ze D.x.iH.length;obtain⟨nr,hnr⟩:=ze pk.bY.length;rw[hn1,hn2]at FV;rw[hn1]at hp hpk;rw[hnr]at hr b1 hrl;have hbB:b<w.heap.size/\True:=⟨by
  obtain⟨b',off',e,hb1,hb2⟩:=h1.at zBk
  simp only[qG,qO,and_true]at e
  omega,trivial⟩
 have QY:=zh hnr;have sS:Hid (∀W,O0 w W->W.cell? ⟨b,off+p*8+2,none⟩=some (.slice o1 nr d1)):=fun W ho=>dh (hr 2 _ rfl) ho (fun f=>f);have HRl:Hid (∀W,Kp Bs w W->aQ 2 uZ Bs W (.slice o1 nr d1) pk.bY):=fun W k=>b1.keep uZ.keep k;have HSp:Hid (∀W,Kp Bs w W->aQ 2 gq Bs W (.slice avl nl cvl) l):=fun W k=>hl.keep gq.keep k;have HKp:Hid (∀W,Only (fun k=>Mine gt k\/Mine gb k) w W->Kp Bs w W):=fun W ho=>Kp.yS ho H.low;have NT:Hid (kH w gt gb c bt bb G Bs D (S.nums (rC p pk.bY l 0)).1 w bP (S.nums (rC p pk.bY l 0)).2):=kH.start H.le (fE.refl H);clear XM H hz hl hnl h1 JK Kr hm hr hC adq hn1 hn2 hnr b1 hbB;have hfld:=KF (.slice (some ⟨b,off,none⟩) n1 c1) (.slice a2 n2 c2);go_enter Tryz.func310,Tryz.ntmps310;go_wp2_with fail;refine FV.out.mono ?_;rintro e w1 ⟨rfl,O1⟩;have hcell:=sS.out w1 O1;have Td:=zh (NT.out.aN O1);clear O1 FV sS NT;go_wp2_with fail;go_loopw [7,19] (fun v7 vi wr=> ∃i:Nat,vi= .int .i64 i/\i<=nr/\Hid (kH w gt gb c bt bb G Bs D (S.nums (rC p pk.bY l i)).1 wr v7 (S.nums (rC p pk.bY l i)).2)) (fun _ v _=>nr-(RowKit.intOf v).toNat);case atStart=>exact⟨0,rfl,qE _,Td⟩
 case round=>
  clear Td hcell hfld;obtain⟨i,rfl,hi,ng⟩:=hrel;by_cases ci:i<nr
  ·obtain⟨S2,hS2⟩:=ze ((S.nums (rC p pk.bY l i)).1);obtain⟨zs,hzs⟩:=ze ((S.nums (rC p pk.bY l i)).2);have hzl:zs.length<=i:=by rw[<-hzs];show(S.1.nums _).2.length<=i;rw[Tab.lM];exact Qq _ _ _ _
   rw[hS2,hzs]at ng;have hkp:=HKp.out wr ng.out.only;have hrow:=HRl.out wr hkp;rw[<-QY.out]at hrow;obtain⟨b2,off2,e2,hb2,-⟩:=hrow.at (by have:=QY.out;omega);subst e2;obtain⟨y,hy⟩:=zG pk.bY i (by rw[QY.out];exact ci);obtain⟨cs2,-,hr2,rfl,hv⟩:=hrow.get hy;have HR2:=zh hr2;have hgd:pk.bY.getD i default=y:=by rw[qC,hy];rfl
   have jh:=zw (i+1);obtain⟨wB,hwB⟩:=zB (wr.alloc (.cells #[.string y.version,.bool y.old] 130));have oB:O0 wr wB:=zBA;have hbx:wB.cell? ⟨wr.heap.size,0,none⟩=some (.string y.version):=by have b0:wB.heap[wr.heap.size]? =some (.cells #[.string y.version,.bool y.old] 130):=zBJ;rw[ah b0];rfl
   have Y7:=zh (ng.out.aN oB);obtain⟨r,hrr⟩:=ze (uQ l y.version);have Gi:Hid (Calls Tryz.prog 285 #[.slice avl nl cvl,.string y.version] wB (fun e w'=>e= .returned (.bool r)/\O0 wB w')):=by obtain⟨_,_,Hx,_⟩:=Y7.out;exact XL (HSp.out wB (HKp.out wB Y7.out.only)) y.version hv Hx.laid.now r hrr
   have KD:=zh jh;have xK:=zh hrr;have HGd:=zh hgd;have HS2:=zh hS2;have HZs:=zh hzs;obtain⟨au,cu,hu,-,-⟩:∃au cu,u7= .slice au zs.length cu/\zs.length<=cu/\cu<=maxLen:=aC ng.out.own;subst hu;clear hrow hy hr2 hgd jh hrr hS2 hzs hv oB ng hkp;go_wp2_with (refine wpList_load_mid rfl 130 (.tmp 22) rfl b2 (off2+i*2) rfl _ _ HR2.out Tryz.underlying130 rfl zk ?_);rw[<-hwB];clear hwB;refine Gi.out.mono ?_;rintro e w2 ⟨rfl,O2⟩;have Ey:=zh (Y7.out.aN O2);clear O2 Gi Y7 hbx;cases r with
   |false=>
    have uh:Hid (kH w gt gb c bt bb G Bs D (S.nums (rC p pk.bY l (i+1))).1 w2 (.slice au zs.length cu) (S.nums (rC p pk.bY l (i+1))).2):=by rw[adp (by rw[HGd.out];exact xK.out),HS2.out,HZs.out];exact Ey.out
    have jh:=KD.out;clear Ey;exact zDj
   |true=>
    obtain⟨q,hq⟩:=ze ((S2.num (pX p i)).2);have vT:Hid (Calls Tryz.prog 75 #[.pointer (some ⟨c,0,none⟩),jS (pX p i)] w2 fun e w'=>e= .returned (.int .i64 q)/\kH w gt gb c bt bb G Bs D (S2.num (pX p i)).1 w' (.slice au zs.length cu) zs):=
     kH.call Ey.out (fun gt' gb' Hx=>Hr Hx ⟨by simp[pX],⟨by simp only[pX];omega,by simp only[pX];omega⟩,⟨by simp only[pX];omega,by simp only[pX];omega⟩,zI⟩ q hq)
    have DN:Hid (S.nums (rC p pk.bY l (i+1))=((S2.num (pX p i)).1,zs++[q])):=by rw[aap (by rw[HGd.out];exact xK.out),TB.ug,HS2.out,HZs.out,hq];exact rfl
    clear hq Ey;go_wp2_with fail;refine vT.out.mono ?_;rintro e w5 ⟨rfl,h5⟩;have H5:=zh h5;have zO:=zh h5.own;clear h5 vT;go_wp2_with (at_builtin;go_must (refine tC (u:=.int .i64 q) kJ rfl (.tmp 28) (.tmp 34) rfl rfl rfl (cell_new0 _ _ _) rfl (aI zO.out ((Only.refl (fun _=>False) _).alloc _) (fun _ _ f=>f)) zBk zBl ?_));intro v' w6 s1 s2 s3;have uh:Hid (kH w gt gb c bt bb G Bs D (S.nums (rC p pk.bY l (i+1))).1 w6 v' (S.nums (rC p pk.bY l (i+1))).2):=by rw[DN.out];exact kH.app H5.out ((Only.refl (fun _=>False) w5).alloc _) s1 s2 s3
    obtain⟨g6,c6',rfl,-,-,-⟩:=s3;have jh:=KD.out;clear s1 s2 H5 zO;exact zDj
  obtain rfl:nr=i:=by omega
  clear hi ci;have hAs:rC p pk.bY l nr=tu p pk.bY l:=by rw[<-QY.out];rfl
  rw[hAs]at ng;obtain⟨S2,hS2⟩:=ze ((S.nums (tu p pk.bY l)).1);obtain⟨zs,hzs⟩:=ze ((S.nums (tu p pk.bY l)).2);have hzl:zs.length<=nr:=by rw[<-hzs,<-hAs];show(S.1.nums _).2.length<=nr;rw[Tab.lM];exact Qq _ _ _ _
  have hzb:∀y∈zs,0<=y/\y<=65536:=by rw[<-hzs];obtain⟨_,_,Hx,_⟩:=ng.out;exact(Tab.uF (tu p pk.bY l) H0.out.ok).2
  rw[hS2,hzs]at ng;obtain⟨hh,hhh⟩:=ze S2.help.2;have hhb:0<=hh/\hh<=65536:=by obtain⟨_,_,Hx,_⟩:=ng.out;rw[<-hhh];exact(Tab.xq (T:={S2.1 with helps:=uS S2.1}) ⟨Hx.ok.lim,Hx.ok.len⟩ _).2
  have XO:Hid (Calls Tryz.prog 66 #[.pointer (some ⟨c,0,none⟩)] wr fun e w'=>e= .returned (.pointer (some ⟨bt,0,none⟩))/\w'=wr):=by obtain⟨_,_,Hx,_⟩:=ng.out;exact wY Hx.gr
  have adr:Hid (Calls Tryz.prog 359 #[.pointer (some ⟨bt,0,none⟩)] wr fun e w'=>e= .returned (.int .i64 hh)/\kH w gt gb c bt bb G Bs D S2.help.1 w' u7 zs):=
   kH.call ng.out (fun gt' gb' Hx=>aiq Hx hh hhh)
  obtain⟨r0,hr0⟩:=ze (!zs.contains 0);have air:Hid (S.set p pk.bY l=(if 0<hh/\r0=true then (S2.help.1.1,S2.help.1.2.adds (J8 hh zs))else S2.help.1,hh)):=by
   show _=_;unfold TB.set;dsimp only;rw[hS2,hzs,hhh];have:(zs.contains 0=false)↔(r0=true):=by rw[<-hr0];cases zs.contains 0<;>simp
   simp only[this]
  have hzz:hh=z:=by rw[<-HZ.out,air.out]
  have H9:Hid ((if 0<hh/\r0=true then (S2.help.1.1,S2.help.1.2.adds (J8 hh zs))else S2.help.1)=S9):=by rw[<-HS9.out,air.out];exact rfl
  subst hzz;obtain⟨S3,hS3⟩:=ze S2.help.1;rw[hS3]at adr H9;have HZb:=zh hzb;have HR0:=zh hr0;obtain⟨au,cu,hu,-,-⟩:∃au cu,u7= .slice au zs.length cu/\zs.length<=cu/\cu<=maxLen:=aC ng.out.own;subst hu;clear hS3 hAs hS2 hzs hzb ng hhh air hr0;go_wp2_with fail;refine XO.out.mono ?_;rintro e w2 ⟨rfl,rfl⟩;go_wp2_with fail;refine adr.out.mono ?_;rintro e w3 ⟨rfl,h3⟩;have H3:=zh h3;clear h3 XO adr;by_cases hpos:0<hh
  ·have HRi:Hid (Calls Tryz.prog 227 #[.slice au zs.length cu] w3 fun e w'=>e= .returned (.bool r0)/\w'=w3):=by obtain⟨_,_,Hx,_,_,_,hI,_⟩:=H3.out.ints HZb.out;exact KC hI r0 HR0.out
   have wR:Hid (Calls Tryz.prog 28 #[.pointer (some ⟨c,0,none⟩)] w3 fun e w'=>e= .returned (.pointer (some ⟨bb,0,none⟩))/\w'=w3):=by obtain⟨_,_,Hx,_⟩:=H3.out;exact pW Hx.gr
   have Fp:Hid (Calls Tryz.prog 360 #[.pointer (some ⟨bb,0,none⟩),.int .i64 hh,.slice au zs.length cu] w3 fun e w'=>e= .returned (.tuple #[])/\fE w gt gb c bt bb G Bs D (S3.1,S3.2.adds (J8 hh zs)) w'):=by obtain⟨_,_,Hx,A,A',O,hI,hN⟩:=H3.out.ints HZb.out;exact(alH Hx hI hN hh ⟨by omega,by omega⟩ (fun y hy=>by have:=HZb.out y hy;omega) zBk).mono fun e w' ⟨he,h⟩=>⟨he,fE.trans A A' O h⟩
   go_wp2_with fail;refine HRi.out.mono ?_;rintro e w4 ⟨rfl,rfl⟩;cases r0 with
   |false=>
    have h9:S3=S9:=by rw[<-H9.out,if_neg zAM]
    subst h9;have HE:=zh H3.out.gr;clear H3 Fp wR;exact zDP
   |true=>
    have h9:(S3.1,S3.2.adds (J8 hh zs))=S9:=by rw[<-H9.out,if_pos ⟨hpos,rfl⟩]
    rw[h9]at Fp;clear H3 h9;go_wp2_with fail;refine wR.out.mono ?_;rintro e w5 ⟨rfl,rfl⟩;go_wp2_with fail;refine Fp.out.mono ?_;rintro e w6 ⟨rfl,h6⟩;have H6:=zh h6;clear h6 Fp wR;go_wp2_with fail;go_ret;exact⟨rfl,H6.out⟩
  have h9:S3=S9:=by rw[<-H9.out,if_neg (fun h=>hpos h.1)]
  subst h9;have HE:=zh H3.out.gr;clear H3;exact zDP
end
end Go.Proofs.YtdmmebjjojimiaaGreatDoor
namespace Go.Proofs
theorem zDd{p:Prop}(h:p:=by
 go_wp2_with fail
 go_roundw
 case rel=>exact⟨i+1,by first|rfl|go_num,by omega,fK,ais⟩
 case measure=>simp[RowKit.intOf]<;>omega):p:=h
end Go.Proofs
namespace Go.Proofs.YtdmmebjjojimiaaGreatDoor
open Go.RowKit
def uw(v:kS)(s:nZ):Bool:=decide (v.name=s.name)&&tX v.values s.value
theorem ads{vars:List kS}{s:nZ}{i:Nat}{v:kS}(hv:vars[i]? =some v)(h:uw v s=true)(hn:∀u∈vars.take i,uw u s=false):UQ vars s=some i:=by
 obtain⟨hi,rfl⟩:=qJ.1 hv;have hg:∀j (hj:j<vars.length),vars.getD j default=vars[j]:=fun j hj=>by rw[qC,qA hj];rfl
 unfold UQ;rw[List.find?_range_eq_some];refine⟨by rw[hg i hi];exact h,yI.2 hi,fun j hj=>?_⟩;have hjl:j<vars.length:=zBk;have:=hn (vars[j]) (by
  rw[List.mem_take_iff_getElem]
  exact⟨j,by omega,rfl⟩)
 rw[hg j hjl];unfold uw at this;rw[this];rfl
theorem aaq{vars:List kS}{s:nZ}(hn:∀u∈vars,uw u s=false):UQ vars s=none:=by
 unfold UQ;rw[List.find?_eq_none];intro j hj;have hj:=yI.1 hj;have hg:vars.getD j default=vars[j]:=by rw[qC,qA hj];rfl
 have:=hn vars[j] (qZ hj);unfold uw at this;rw[hg,this];simp
theorem adt(l:List Str)(s:Str):tX l s=decide (0<=wL (fun t=>decide (t=s)) l):=by
 unfold tX wL;by_cases h:l.any (fun t=>decide (t=s))=true;·rw[if_pos h,h];simp
 rw[if_neg h,Bool.eq_false_iff.2 h];simp
section
variable {w w':World} {gt gb gp:Tag} {c bt bb:Nat} {G:NU} {Bs:Nat} {D:Dn} {S:TB} {X:NV} {E:ES}
theorem afw(H:DV w gt gb c bt bb G Bs D S){p:Nat}(hp:p<D.x.packs.length)(hm:Fv D.x)(s:nZ)(z:Int)(hz:(S.value p (D.x.pack p).vars s).2=z):Calls Tryz.prog 311 #[.pointer (some ⟨c,0,none⟩),.int .i64 p,.agg #[.string s.name,.string s.value]] w fun e w'=>e= .returned (.int .i64 z)/\fE w gt gb c bt bb G Bs D (S.value p (D.x.pack p).vars s).1 w':=by
 obtain⟨W0,hW0⟩:=ze (w.alloc (.cells #[.string s.name,.string s.value] 117));have hb0:W0.heap[w.heap.size]? =some (.cells #[.string s.name,.string s.value] 117 (0,0)):=zAt;have nJ:Hid (O0 w W0):=zAr;have aG:Hid (∀W,O0 W0 W->W.cell? ⟨w.heap.size,0,none⟩=some (.string s.name)/\W.cell? ⟨w.heap.size,1,none⟩=some (.string s.value)):=fun W o=>by exact zDU
 have H0:=zh (H.aN nJ.out);have HZ:=zh hz;obtain⟨S9,XM⟩:=ze ((S.value p (D.x.pack p).vars s).1);rw[XM];have HS9:=zh XM;obtain⟨a1,c1,a2,c2,JK,Kr,h1,-⟩:=H0.out.OQ;have FV:=zh (mF H0.out.gr JK Kr);have hpk:=hm.packs;have hvl:=hm.vars _ (aH.iW hp);have agE:=zh (hm.vals _ (aH.iW hp));obtain⟨b,off,cs,rfl,hr,hC,-⟩:=KG h1 hp;obtain⟨pk,adq⟩:=ze (D.x.pack p);rw[adq]at hC hvl HZ agE HS9;obtain⟨o1,o2,o3,o4,o5,o6,d1,d2,d3,d4,d5,d6,rfl,-,-,-,b2,-,-,-,-⟩:=hC.cells;obtain⟨n1,hn1⟩:=ze D.x.packs.length;obtain⟨n2,hn2⟩:=ze D.x.iH.length;obtain⟨nv,ZJ⟩:=ze pk.vars.length;rw[hn1,hn2]at FV;rw[hn1]at hp hpk;rw[ZJ]at hr b2 hvl;have ZK:=zh ZJ;have sS:Hid (∀W,O0 W0 W->W.cell? ⟨b,off+p*8+3,none⟩=some (.slice o2 nv d2)):=fun W ho=>dh (hr 3 _ rfl) ho (fun f=>f);have HVr:Hid (∀W,O0 W0 W->aQ 2 pR Bs W (.slice o2 nv d2) pk.vars):=fun W k=>b2.keep pR.keep (Kp.iI k);clear XM H hz h1 JK Kr hm hr hC adq hn1 hn2 ZJ b2 hb0;have hfld:=KF (.slice (some ⟨b,off,none⟩) n1 c1) (.slice a2 n2 c2);go_enter Tryz.func311,Tryz.ntmps311;go_wp2_with fail;try rw[hW0]
 clear hW0;refine FV.out.mono ?_;rintro e w1 ⟨rfl,O1⟩;have hcell:=sS.out w1 O1;have bM:=zh O1;clear O1 FV sS;go_wp2_with fail;go_loopw [18] (fun vi wr=> ∃i:Nat,vi= .int .i64 i/\i<=nv/\Hid (O0 W0 wr)/\Hid (∀u∈pk.vars.take i,uw u s=false)) (fun v _=>nv-(RowKit.intOf v).toNat);case atStart=>exact⟨0,rfl,qE _,bM,fun u hu=>by simp at hu⟩
 case round=>
  clear bM hcell hfld;obtain⟨i,rfl,hi,HO,HNo⟩:=hrel;by_cases ci:i<nv
  ·have hrow:=HVr.out wr HO.out;rw[<-ZK.out]at hrow;obtain⟨b3,ap9,e3,-,-⟩:=hrow.at (by have:=ZK.out;omega);subst e3;obtain⟨y,hy⟩:=zG pk.vars i (by rw[ZK.out];exact ci);obtain⟨cs2,-,hr2,vv,rfl,-,hvv⟩:=hrow.get hy;obtain⟨av,cv,rfl,-,-⟩:=hvv.shape;have hvn:y.values.length<=1000:=agE.out y (qT hy);obtain⟨nk,hnk⟩:=ze y.values.length;rw[hnk]at hr2 hvn hvv;have HR2:=zh hr2;have hgd:pk.vars.getD i default=y:=by rw[qC,hy];rfl
   have jh:=zw (i+1);obtain⟨wV,hwV⟩:=zB (wr.alloc (.cells #[.string y.name,.slice av nk cv] 145));have HOV:Hid (O0 wr wV):=by rw[hwV];exact zr.alloc _
   have Yw:Hid (∀W,O0 wV W->W.cell? ⟨wr.heap.size,0,none⟩=some (.string y.name)/\W.cell? ⟨wr.heap.size,1,none⟩=some (.slice av nk cv)):=fun W o=>by
    have b0:wV.heap[wr.heap.size]? =some (.cells #[.string y.name,.slice av nk cv] 145):=by rw[hwV];exact qL wr _
    have b1:=aF b0 o (fun f=>f);exact zC4
   obtain⟨f,hf⟩:∃f,wL (fun t=>decide (t=s.value)) y.values=f:=⟨_,rfl⟩;have HIx:Hid (Calls Tryz.prog 272 #[.slice av nk cv,.string s.value] wV fun e w'=>e= .returned (.int .i64 f)/\O0 wV w'):=by have h:=Vg (w:=wV) (hvv.keep fM.keep (Kp.iI HOV.out)) s.value;rw[hf]at h;exact h
   have hfr:f= -1\/ ∃k:Nat,f=k/\k<nk:=by
    rcases pU (fun t=>decide (t=s.value)) y.values with h| ⟨k,h,hk,-⟩;·exact .inl (by rw[<-hf,h])
    exact .inr ⟨k,by rw[<-hf,h],by rw[<-hnk];exact hk⟩
   have afx:Hid (uw y s=(decide (y.name=s.name)&&decide (0<=f))):=by unfold uw;rw[adt,hf];exact rfl
   have HJ:Hid (uw y s=true->(S.value p pk.vars s)=S.num (oh p i f.toNat)):=fun h=>by unfold TB.value;rw[ads hy h HNo.out];simp only[hgd,hf]
   have HY:=zh hy;have KD:=zh jh;obtain⟨j0,j1⟩:=aG.out wr HO.out;obtain⟨k0,k1⟩:=aG.out wV (HO.out.same HOV.out);obtain⟨k2,k3⟩:=Yw.out wV zr;have m0:=k0;have m1:=k1;rw[hwV]at m0 m1;have hne:w.heap.size≠wr.heap.size:=by have:=HO.out.size;have h2:=nJ.out.size;have h3:w.heap.size<W0.heap.size:=World.block_lt_of_cell? _ _ (aG.out W0 zr).1;omega
   clear hrow hy hr2 hvv hnk hgd jh hf;go_wp2_with (refine wpList_load_mid rfl 145 (.tmp 21) rfl b3 (ap9+i*2) rfl _ _ HR2.out Tryz.underlying145 rfl zk ?_);rw[<-hwV];clear hwV;go_wp2_with fail;refine HIx.out.mono ?_;rintro e w2 ⟨rfl,O2⟩;have fK:Hid (O0 W0 w2):=(HO.out.same HOV.out).same O2;obtain⟨k0,k1⟩:=aG.out w2 fK.out;obtain⟨k2,k3⟩:=Yw.out w2 O2;have jh:=KD.out;clear O2 HIx;by_cases hn:y.name=s.name
   ·have hbd:(y.name.toList==s.name.toList)=true:=by rw[hn];exact beq_self_eq_true _
    have Y8:Hid (uw y s=decide (0<=f)):=by rw[afx.out,qX hn,yR];exact rfl
    clear hn afx;rcases hfr with rfl| ⟨k,rfl,hk⟩
    ·have ais:Hid (∀u∈pk.vars.take (i+1),uw u s=false):=fun u hu=>by
      rcases dI HY.out hu with h|rfl;·exact HNo.out u h
      rw[Y8.out];decide
     exact zDd
    have hj:=HJ.out (by rw[Y8.out];simp);rw[yT]at hj;have h9:(S.num (oh p i k)).1=S9:=by rw[<-hj];exact HS9.out
    have hz2:(S.num (oh p i k)).2=z:=by rw[<-hj];exact HZ.out
    have vT:=zh (Hr (H0.out.aN fK.out) (x:=oh p i k) ⟨by simp[oh],⟨by simp only[oh];omega,by simp only[oh];omega⟩,⟨by simp only[oh];omega,by simp only[oh];omega⟩,⟨by simp only[oh];omega,by simp only[oh];omega⟩⟩ z hz2);rw[h9]at vT;have t0:decide ((0:Int)<=(k:Int))=true:=qX zBk;clear h9 hj hz2;go_wp2_with fail;refine vT.out.mono ?_;rintro e w5 ⟨rfl,h5⟩;have H5:Hid (fE w gt gb c bt bb G Bs D S9 w5):=fE.after (nJ.out.same fK.out) h5;clear h5 vT;go_wp2_with fail;go_ret;exact⟨rfl,H5.out⟩
   have hbd:(y.name.toList==s.name.toList)=false:=by rw[yC];exact fun h=>hn (toList_inj h)
   have Y8:Hid (uw y s=false):=by rw[afx.out,qP hn,yQ];exact rfl
   clear hn afx;have ais:Hid (∀u∈pk.vars.take (i+1),uw u s=false):=fun u hu=>by
    rcases dI HY.out hu with h|rfl;·exact HNo.out u h
    exact Y8.out
   exact zDd
  obtain rfl:nv=i:=by omega
  have hj:UQ pk.vars s=none:=aaq fun u hu=>HNo.out u (by rw[qI (yG ZK.out)];exact hu);have hv0:S.value p pk.vars s=(S,0):=by unfold TB.value;rw[hj]
  have hzz:(0:Int)=z:=by rw[<-HZ.out,hv0]
  subst hzz;have h9:S=S9:=by rw[<-HS9.out,hv0]
  subst h9;have HE:Hid (fE w gt gb c bt bb G Bs D S wr):=fE.after (nJ.out.same HO.out) (fE.refl (H0.out.aN HO.out));clear hj hv0;exact zDP
end
theorem EK{l:List Nat}{i:Nat}:(intsOf l).contains (i:Int)=decide (i∈l):=by
 rw[Bool.eq_iff_iff,List.contains_iff_mem,yP];unfold intsOf;rw[yD];constructor
 ·rintro⟨j,hj,e⟩;obtain rfl:j=i:=by omega
  exact hj
 intro h;exact⟨i,h,rfl⟩
theorem adu(a b:Str)(W:World):(binOp .neq 128 (.agg #[.string a,.string b]) (.agg #[.string ⟨#[]⟩,.string ⟨#[]⟩])).run Tryz.prog W= .ok (.bool (!(decide (a=ByteArray.empty)&&decide (b=ByteArray.empty)))) W:=by
 by_cases h1:a.toList=[]
 ·by_cases h2:b.toList=[];·rw[qX (oz.1 h1),qX (oz.1 h2)];go_simp
  rw[qX (oz.1 h1),qP (fun h=>h2 (oz.2 h))];go_simp
 rw[qP (fun h=>h1 (oz.2 h))];go_simp
theorem TB.JL(p:Nat)(vars:List kS)(s:nZ):∀(l:List nZ) (S:TB),S.values p vars (l++[s])=(((S.values p vars l).1.value p vars s).1,(S.values p vars l).2++[((S.values p vars l).1.value p vars s).2])
 | [],S=>rfl
 |a::r,S=>by
  show(((S.value p vars a).1.values p vars (r++[s])).1,_::((S.value p vars a).1.values p vars (r++[s])).2)=_
  rw[TB.JL p vars s r]
  rfl
theorem TB.um(p:Nat)(vars:List kS):∀(l:List nZ) (S:TB),(S.values p vars l).2.length=l.length
 | [],_=>rfl
 |a::r,S=>by show(_::_).length=_;rw[qN,TB.um p vars r,qN]
theorem TB.adv{S:TB}(h:S.1.Ok)(p:Nat)(vars:List kS)(s:nZ):(S.value p vars s).1.1.Ok/\0<=(S.value p vars s).2/\(S.value p vars s).2<=65536:=by
 unfold TB.value;split;·exact⟨h,Int.le_refl _,(by decide:(0:Int)<=65536)⟩
 exact Tab.xq h _
theorem TB.Qr(p:Nat)(vars:List kS):∀(l:List nZ) {S:TB},S.1.Ok->(S.values p vars l).1.1.Ok/\∀z∈(S.values p vars l).2,0<=z/\z<=65536
 | [],_,h=>⟨h,fun z hz=>by cases hz⟩
 |a::r,S,h=>by
  have h1:=TB.adv h p vars a
  have h2:=TB.Qr p vars r h1.1
  refine⟨h2.1,fun z hz=>?_⟩
  rcases qY.1 hz with rfl|hz
  ·exact h1.2
  ·exact h2.2 z hz
section
variable {w w':World} {gt gb gp:Tag} {c bt bb:Nat} {G:NU} {Bs:Nat} {D:Dn} {S:TB} {X:NV} {E:ES}
theorem alJ(H:DV w gt gb c bt bb G Bs D S)(p:Nat)(r:Bool)(hr:decide (p∈D.l)=r):Calls Tryz.prog 230 #[.pointer (some ⟨c,0,none⟩),.int .i64 p] w fun e w'=>e= .returned (.bool r)/\O0 w w':=by have h:=ac9 H.gr H.l (p:Int);rw[EK,hr]at h;exact h
attribute [local irreducible] wpQuiet in
theorem ait(H:DV w gt gb c bt bb G Bs D S)(hlt:∀p∈D.l,p<D.x.packs.length)(hm:Fv D.x){p rule cc:Nat}(hp6:p<=1000000)(hr6:rule<=1000000)(hc6:cc<=1000000){css:List Value}{s:jE}(hs:eF Bs w css s)(hss:s.sets.length<=900000)(z:Int)(hz:(S.meet D.x D.l p rule cc s).2=z):Calls Tryz.prog 225 #[.pointer (some ⟨c,0,none⟩),.int .i64 p,.int .i64 rule,.int .i64 cc,.agg css.toArray] w fun e w'=>e= .returned (.int .i64 z)/\fE w gt gb c bt bb G Bs D (S.meet D.x D.l p rule cc s).1 w':=by
 obtain⟨Vj,Wi,Vk,Wj,rfl,-,hSp,hSe⟩:=hs.cells;obtain⟨Tz,Vl⟩:=ze s.spans.length;obtain⟨OT,Vm⟩:=ze s.sets.length;rw[Vl]at hSp;rw[Vm]at hSe hss;rw[Vl,Vm];have NSp:=zh Vl;have NSe:=zh Vm;obtain⟨W0,hW0⟩:=ze (w.alloc (.cells #[.string s.name,.slice Vj Tz Vk,.slice Wi OT Wj] 108));have hb0:W0.heap[w.heap.size]? =some (.cells #[.string s.name,.slice Vj Tz Vk,.slice Wi OT Wj] 108 (0,0)):=zAt;have nJ:Hid (O0 w W0):=zAr;have hnm:¬Mine gt w.heap.size/\¬Mine gb w.heap.size:=by obtain⟨V,hV⟩:=H.gr.tab;obtain⟨U,hU⟩:=H.gr.Jy;exact⟨by unfold Mine;rw[hV.fresh _ (qH _)];simp,by unfold Mine;rw[hU.fresh _ (qH _)];simp⟩
 have aG:Hid (∀W,Only (fun k=>Mine gt k\/Mine gb k) W0 W->W.cell? ⟨w.heap.size,1,none⟩=some (.slice Vj Tz Vk)/\W.cell? ⟨w.heap.size,2,none⟩=some (.slice Wi OT Wj)):=fun W o=>by have c0:=aF hb0 o (fun h=>h.elim hnm.1 hnm.2);exact⟨by rw[ah c0];rfl,by rw[ah c0];rfl⟩
 have H0:=zh (H.aN nJ.out);have HSp:Hid (∀W,Only (fun k=>Mine gt k\/Mine gb k) W0 W->aQ 2 gq Bs W (.slice Vj Tz Vk) s.spans):=fun W o=>(hSp.keep gq.keep (Kp.iI nJ.out)).keep gq.keep (Kp.yS o H0.out.low);have HSe:Hid (∀W,Only (fun k=>Mine gt k\/Mine gb k) W0 W->aQ 2 lg Bs W (.slice Wi OT Wj) s.sets):=fun W o=>(hSe.keep lg.keep (Kp.iI nJ.out)).keep lg.keep (Kp.yS o H0.out.low);have HZ:=zh hz;obtain⟨S9,XM⟩:=ze ((S.meet D.x D.l p rule cc s).1);rw[XM];have HS9:=zh XM;have HM:=zh hm;have Tj:=zh hlt;have HAt:Hid (sD (dU p rule cc)):=aij ⟨by omega,by omega⟩ ⟨by omega,by omega⟩ ⟨by omega,by omega⟩;obtain⟨r,hr⟩:=ze (decide (p∈D.l));have Gi:=zh (alJ H0.out p r hr);have HR:=zh hr;clear XM hz hm hlt hr hs hSp hSe hb0 hnm H Vl Vm;go_enter Tryz.func225,Tryz.ntmps225;go_wp2_with fail;try rw[hW0]
 clear hW0;refine Gi.out.mono ?_;rintro e w1 ⟨rfl,O1⟩;have H1:=zh (H0.out.aN O1);have bM:=zh O1;clear O1 Gi;cases r with
 |false=>
  have hme:S.meet D.x D.l p rule cc s=(S,0):=by unfold TB.meet;rw[if_pos (by have:=HR.out;simpa using this)]
  have hzz:(0:Int)=z:=by rw[<-HZ.out,hme]
  subst hzz;have h9:S=S9:=by rw[<-HS9.out,hme]
  subst h9;have HE:Hid (fE w gt gb c bt bb G Bs D S w1):=fE.after (nJ.out.same bM.out) (fE.refl H1.out);clear hme H1;exact zDP
 |true=>
  have hpl:p∈D.l:=of_decide_eq_true HR.out;have hpx:=Tj.out p hpl;have D7:=zh hpl;obtain⟨wA,hwA⟩:=ze (w1.alloc (.cells #[.int .u8 10,.int .i64 p,.int .i64 rule,.int .i64 cc] 89));have HbA:Hid (∀W,O0 wA W->W.heap[w1.heap.size]? =some (.cells #[.int .u8 10,.int .i64 p,.int .i64 rule,.int .i64 cc] 89 (0,0))):=fun W o=>aF (by rw[<-hwA];exact qL _ _) o (fun f=>f);have UL:Hid (O0 w1 wA):=by rw[<-hwA];exact zr.alloc _
  have HA:=zh (H1.out.aN UL.out);have HTb:Hid (∀W,O0 wA W->Calls Tryz.prog 66 #[.pointer (some ⟨c,0,none⟩)] W fun e w'=>e= .returned (.pointer (some ⟨bt,0,none⟩))/\w'=W):=fun W o=>wY (HA.out.aN o).gr;obtain⟨n0,hn0⟩:∃n:Int,(numOf S.1.l (dU p rule cc):Int)=n:=⟨_,rfl⟩;have HLk:Hid (∀W,O0 wA W->Calls Tryz.prog 67 #[.pointer (some ⟨bt,0,none⟩),jS (dU p rule cc)] W fun e w'=>e= .returned (.int .i64 n0)/\O0 W w'):=fun W o=>by obtain⟨V,hV⟩:=(HA.out.aN o).gr.tab;exact wW hV HAt.out n0 hn0
  have V7:Hid (∀W,O0 wA W->W.rangeAt w1.heap.size 0 [.int .u8 10,.int .i64 p,.int .i64 rule,.int .i64 cc]):=fun W o j u hu=>by rw[Nat.zero_add,ah (HbA.out W o)];simpa using hu
  have HN0:=zh hn0;clear hpl hn0;go_wp2_with fail;try rw[hwA]
  clear hwA;refine eY (fun W=>O0 wA W) zk zk (by exact zr.drew) ?_;refine qV ?_;refine kR (v:=.pointer (some ⟨bt,0,none⟩)) (f:=66) (args:= #[.pointer (some ⟨c,0,none⟩)]) (by rfl) ?_ ?_ ?_;·exact zCM
  ·(intro w hSw;exact(HTb.out w hSw).mono fun _ _ ⟨he,hw⟩=>⟨he,hw▸hSw⟩)
  try simp only[Act.put,gJ,gU,gK,gu,gy,gG]
  refine aar (by rfl) rfl rfl V7.out Tryz.underlying89 rfl zk ?_;try simp only[Act.put,gJ,gU,gK,gu,gy,gG]
  refine kR (v:=.int .i64 n0) (f:=67) (args:= #[.pointer (some ⟨bt,0,none⟩),(.agg #[.int .u8 10,.int .i64 (p:Int),.int .i64 (rule:Int),.int .i64 (cc:Int)])]) (by rfl) ?_ ?_ ?_;·exact zCM
  ·(intro w hSw;exact(HLk.out w hSw).mono fun _ _ ⟨he,hw⟩=>⟨he,hSw.same hw⟩)
  try simp only[Act.put,gJ,gU,gK,gu,gy,gG]
  refine qV ?_;refine wpQuiet_nil ?_;intro w7 O7;have yx:=zh O7;clear O7;by_cases hin:dU p rule cc∈S.1.l
  ·have hme:S.meet D.x D.l p rule cc s=(S,(numOf S.1.l (dU p rule cc):Int)):=by unfold TB.meet;rw[if_neg (by simp[D7.out]),if_pos hin]
   have hzz:n0=z:=by rw[<-HZ.out,hme,HN0.out]
   have hpos:0<n0:=by rw[<-HN0.out];unfold numOf;rw[if_pos hin];omega
   subst hzz;have h9:S=S9:=by rw[<-HS9.out,hme]
   subst h9;have HE:Hid (fE w gt gb c bt bb G Bs D S w7):=fE.after ((nJ.out.same bM.out).same (UL.out.same yx.out)) (fE.refl (HA.out.aN yx.out));clear hme hin;exact zDP
  have aqe:n0=0:=by rw[<-HN0.out];unfold numOf;rw[if_neg hin];rfl
  subst aqe;have H7:=zh (HA.out.aN yx.out);have HB7:=zh (HbA.out w7 yx.out);have alK:Hid (O0 W0 w7):=bM.out.same (UL.out.same yx.out);obtain⟨Nn,hNn⟩:=ze ((S.num (dU p rule cc)).2);obtain⟨S1,hS1⟩:=ze ((S.num (dU p rule cc)).1);have hnb:=(Tab.xq H7.out.ok (dU p rule cc)).2;have hnb:0<=Nn/\Nn<=65536:=by rw[<-hNn];exact hnb
  have vT:Hid (Calls Tryz.prog 75 #[.pointer (some ⟨c,0,none⟩),jS (dU p rule cc)] w7 fun e w'=>e= .returned (.int .i64 Nn)/\fE W0 gt gb c bt bb G Bs D S1 w'):=by rw[<-hS1];exact(Hr H7.out HAt.out Nn hNn).mono fun e w' ⟨he,h⟩=>⟨he,fE.after alK.out h⟩
  have HMe:Hid (∀D1 S2 S3 es S4 vs,S1.num (aJ p)=(S2,D1)->(S3,es)=(if iC s.spans=true then (S2,[D1])else ((S2.set p (D.x.pack p).bY s.spans).1,[D1,(S2.set p (D.x.pack p).bY s.spans).2]))->S3.values p (D.x.pack p).vars s.sets=(S4,vs)->S.meet D.x D.l p rule cc s=(if 0<Nn/\(es++vs).contains 0=false then (S4.1,S4.2.adds (pz Nn (es++vs)))else S4,Nn)):=fun D1 S2 S3 es S4 vs e1 e2 e3=>by unfold TB.meet;rw[if_neg (by simp[D7.out]),if_neg hin];dsimp only;rw[hNn,hS1,e1];dsimp only;rw[<-e2];dsimp only;rw[e3]
  clear hin hNn hS1;go_wp2_with (refine wpList_load_row rfl 89 (.tmp 11) rfl w1.heap.size rfl 89 #[.int .u8 10,.int .i64 p,.int .i64 rule,.int .i64 cc] (0,0) _ HB7.out Tryz.underlying89 rfl zk ?_);refine vT.out.mono ?_;rintro e w8 ⟨rfl,h8⟩;have H8:=zh h8;clear h8 vT HA H7 HB7 alK HLk HTb V7 HbA UL yx H1 bM;obtain⟨D1,hD1⟩:=ze ((S1.num (aJ p)).2);obtain⟨S2,hS2⟩:=ze ((S1.num (aJ p)).1);have PZ:S1.1.Ok:=by obtain⟨_,_,Hx,_⟩:=H8.out;exact Hx.ok
  have hd1:0<=D1/\D1<=65536:=by rw[<-hD1];exact(Tab.xq PZ (aJ p)).2
  have YA:Hid (Calls Tryz.prog 164 #[.pointer (some ⟨c,0,none⟩),.int .i64 p] w8 fun e w'=>e= .returned (.int .i64 D1)/\fE W0 gt gb c bt bb G Bs D S2 w'):=by obtain⟨Vo,gb8,Hx,A,A',O⟩:=H8.out;have h:=(RV Hx (p:=p) ⟨by omega,by omega⟩ D1 hD1).mono fun e w' ⟨he,h⟩=>(⟨he,fE.trans A A' O h⟩:e=_/\fE W0 gt gb c bt bb G Bs D _ w');rw[hS2]at h;exact h
  have HP:Hid (S1.num (aJ p)=(S2,D1)):=by rw[<-hD1,<-hS2];exact rfl
  clear hD1 hS2 PZ H8;go_wp2_with fail;refine YA.out.mono ?_;rintro e w9 ⟨rfl,h9⟩;have hB0:Bs<=W0.heap.size:=H0.out.le;have ng:Hid (kH W0 gt gb c bt bb G Bs D S2 (w9.alloc (.cells #[.int .i64 D1] 3)) (.slice (some ⟨w9.heap.size,0,none⟩) 1 1) [D1]):=kH.lit hB0 h9 D1;obtain⟨w10,aqf⟩:=ze (w9.alloc (.cells #[.int .i64 D1] 3));rw[aqf]at ng;obtain⟨g9,hg9⟩:=ze w9.heap.size;rw[hg9]at ng;obtain⟨k1,k2⟩:=aG.out w10 ng.out.only;clear h9 YA; -- the spans
  go_upto_region 9 with fail;go_cut [50] (fun v50 wx=>v50= .bool (!iC s.spans)/\wx=w10);case first=>
   by_cases hone:Tz=1
   ·subst hone;have hrow:=HSp.out w10 ng.out.only;obtain⟨y,hy⟩:∃y,s.spans=[y]:=List.length_eq_one_iff.1 NSp.out;have hrow1:aQ 2 gq Bs w10 (.slice Vj s.spans.length Vk) s.spans:=by rw[NSp.out];exact hrow
    obtain⟨bS,adw,eS,-,-⟩:=hrow1.at (by rw[NSp.out];omega);subst eS;obtain⟨csS,-,hrS,rfl,-,-⟩:=hrow.get (i:=0) (x:=y) (by rw[hy];rfl);have HRS:Hid (w10.rangeAt bS adw [.string y.lo,.string y.hi]):=by simpa[Hid]using hrS
    have hsp:iC s.spans=(decide (y.lo=ByteArray.empty)&&decide (y.hi=ByteArray.empty)):=by rw[hy];rfl
    have hneq:=adu y.lo y.hi;rw[<-hsp]at hneq;obtain⟨sa,hsa⟩:=ze (iC s.spans);rw[hsa]at hneq;have HSa:=zh hsa;clear hsp hrS hrow hrow1 hy hsa HMe;have k3:w10.cell? ⟨bS,adw,none⟩=some (.string y.lo):=HRS.out 0 _ rfl;have k4:w10.cell? ⟨bS,adw+1,none⟩=some (.string y.hi):=HRS.out 1 _ rfl;go_wp2_with fail;go_meet;exact⟨by rw[HSa.out],rfl⟩
   have hsa:iC s.spans=false:=by
    unfold iC;split;·rename_i h;exact absurd (by rw[<-NSp.out,h];rfl) hone
    rfl
   have HSa:=zh hsa;have hne:((Tz:Int)==1)=false:=by rw[yC];omega
   clear hsa;go_wp2_with fail;go_meet;exact⟨by rw[HSa.out];rfl,rfl⟩
  case rest=>
   obtain⟨rfl,rfl⟩:=hcut;obtain⟨sa,hsa⟩:=ze (iC s.spans);have HSa:=zh hsa;rw[hsa];clear hsa;go_upto_if 50 with fail;go_cut [14] (fun v14 wx=> ∃S3 es cap g,(S3,es)=(if iC s.spans=true then (S2,[D1])else ((S2.set p (D.x.pack p).bY s.spans).1,[D1,(S2.set p (D.x.pack p).bY s.spans).2]))/\v14= .slice (some ⟨g,0,none⟩) es.length cap/\(∀y∈es,0<=y/\y<=65536)/\es.length<=2/\kH W0 gt gb c bt bb G Bs D S3 wx v14 es);case first=>
    cases sa with
    |true=>
     have HY:Hid ((S2,[D1])=(if iC s.spans=true then (S2,[D1])else ((S2.set p (D.x.pack p).bY s.spans).1,[D1,(S2.set p (D.x.pack p).bY s.spans).2]))):=by rw[HSa.out,if_pos rfl];exact rfl
     clear HMe
     go_wp2_with fail
     go_meet
     exact⟨S2,[D1],1,g9,HY.out,rfl,fun y hy=>by simp at hy;subst hy;exact hd1,by simp,ng.out⟩
    |false=>
     obtain⟨z2,hz2⟩:=ze ((S2.set p (D.x.pack p).bY s.spans).2)
     obtain⟨S3,hS3⟩:=ze ((S2.set p (D.x.pack p).bY s.spans).1)
     have HS2:Hid (Calls Tryz.prog 310 #[.pointer (some ⟨c,0,none⟩),.int .i64 p,.slice Vj Tz Vk] wc fun e w'=>e= .returned (.int .i64 z2)/\kH W0 gt gb c bt bb G Bs D S3 w' (.slice (some ⟨g9,0,none⟩) 1 1) [D1]):=by
      rw[<-hS3]
      exact kH.call ng.out (fun gt' gb' Hx=>alI Hx hpx HM.out (HSp.out wc ng.out.only) z2 hz2)
     have hz2b:0<=z2/\z2<=65536:=by
      obtain⟨_,_,Hx,_⟩:=ng.out
      rw[<-hz2]
      unfold TB.set
      dsimp only
      exact TB.aip (Tab.uF _ Hx.ok).1
     have HN:Hid ((S3,[D1,z2])=(if iC s.spans=true then (S2,[D1])else ((S2.set p (D.x.pack p).bY s.spans).1,[D1,(S2.set p (D.x.pack p).bY s.spans).2]))):=by rw[HSa.out,if_neg zAM,hS3,hz2];exact rfl
     clear hz2 hS3 HMe
     go_wp2_with fail
     refine HS2.out.mono ?_
     rintro e Y9 ⟨rfl,h11⟩
     have H11:=zh h11
     have zO:=zh h11.own
     clear h11 HS2
     go_wp2_with (at_builtin;go_must (refine tC (u:=.int .i64 z2) kJ rfl (.tmp 51) (.tmp 57) rfl rfl rfl (cell_new0 _ _ _) rfl (aI zO.out ((Only.refl (fun _=>False) _).alloc _) (fun _ _ f=>f)) zBz zAG ?_))
     intro v' w12 s1 s2 s3
     have aiw:Hid (kH W0 gt gb c bt bb G Bs D S3 w12 v' [D1,z2]):=kH.app H11.out ((Only.refl (fun _=>False) Y9).alloc _) s1 s2 s3
     obtain⟨g6,c6',rfl,-,-,-⟩:=s3
     clear s1 s2 H11 zO
     go_wp2_with fail
     go_meet
     exact⟨S3,[D1,z2],c6',g6,HN.out,rfl,fun y hy=>by
      simp only[qY,List.not_mem_nil,or_false]at hy
      rcases hy with rfl|rfl
      ·exact hd1
      ·exact hz2b,by simp,aiw.out⟩
   case rest=>
    obtain⟨S3,es,cap,gE,hE,rfl,hes,hel,hRow⟩:=hcut;have HE:=zh hE;have HS3:Hid S3.1.Ok:=by obtain⟨_,_,Hx,_⟩:=hRow;exact Hx.ok
    have agF:Hid (kH W0 gt gb c bt bb G Bs D (S3.values p (D.x.pack p).vars (s.sets.take 0)).1 wc (.slice (some ⟨gE,0,none⟩) es.length cap) (es++(S3.values p (D.x.pack p).vars (s.sets.take 0)).2)):=by show kH _ _ _ _ _ _ _ _ _ S3 _ _ (es++[]);rw[List.append_nil];exact hRow
    obtain⟨k1,k2⟩:=aG.out wc hRow.only;clear hRow hE ng k1;go_wp2_with fail;go_loopw [14,62] (fun v14 vi wr=> ∃i:Nat,vi= .int .i64 i/\i<=OT/\Hid (kH W0 gt gb c bt bb G Bs D (S3.values p (D.x.pack p).vars (s.sets.take i)).1 wr v14 (es++(S3.values p (D.x.pack p).vars (s.sets.take i)).2))) (fun _ v _=>OT-(RowKit.intOf v).toNat);case atStart=>exact⟨0,rfl,qE _,agF⟩
    case round=>
     clear agF k2;obtain⟨i,rfl,hi,vW⟩:=hrel;by_cases ci:i<OT
     ·obtain⟨S4,hS4⟩:=ze ((S3.values p (D.x.pack p).vars (s.sets.take i)).1);obtain⟨vs,hvs⟩:=ze ((S3.values p (D.x.pack p).vars (s.sets.take i)).2);have hvl:vs.length=i:=by rw[<-hvs,TB.um,List.length_take,NSe.out];omega
      rw[hS4,hvs]at vW;have hrow:=HSe.out wr vW.out.only;have hrow1:aQ 2 lg Bs wr (.slice Wi s.sets.length Wj) s.sets:=by rw[NSe.out];exact hrow
      obtain⟨bS,adw,eS,-,-⟩:=hrow1.at (by rw[NSe.out];omega);subst eS;obtain⟨y,hy⟩:=zG s.sets i (by rw[NSe.out];exact ci);obtain⟨csS,-,hrS,rfl,-,-⟩:=hrow.get hy;have HRS:=zh hrS;have jh:=zw (i+1);have HTk:Hid (s.sets.take (i+1)=s.sets.take i++[y]):=by show _=_;rw[List.take_add_one,hy];rfl
      obtain⟨wB,hwB⟩:=zB (wr.alloc (.cells #[.string y.name,.string y.value] 117));have oB:O0 wr wB:=zBA;have HbB:Hid (wB.heap[wr.heap.size]? =some (.cells #[.string y.name,.string y.value] 117 (0,0))):=zBJ;obtain⟨q,hq⟩:=ze ((S4.value p (D.x.pack p).vars y).2);have aix:Hid (Calls Tryz.prog 311 #[.pointer (some ⟨c,0,none⟩),.int .i64 p,.agg #[.string y.name,.string y.value]] wB fun e w'=>e= .returned (.int .i64 q)/\kH W0 gt gb c bt bb G Bs D (S4.value p (D.x.pack p).vars y).1 w' u14 (es++vs)):=
       kH.call (vW.out.aN oB) (fun gt' gb' Hx=>afw Hx hpx HM.out y q hq)
      have uh:Hid (S3.values p (D.x.pack p).vars (s.sets.take (i+1))=((S4.value p (D.x.pack p).vars y).1,vs++[q])):=by show _=_;rw[HTk.out,TB.JL,hS4,hvs,hq]
      obtain⟨L,hL⟩:=ze (es++vs);have JJ:L.length<=i+2:=by rw[<-hL,qK];omega
      have HL:=zh hL;rw[hL]at vW aix;obtain⟨au,cu,hu,-,-⟩:∃au cu,u14= .slice au L.length cu/\L.length<=cu/\cu<=maxLen:=aC vW.out.own;subst hu;have KD:=zh jh;clear hrow hrow1 hy hrS oB hq hS4 hvs hL vW jh;go_wp2_with (refine wpList_load_mid rfl 117 (.tmp 64) rfl bS (adw+i*2) rfl _ _ HRS.out Tryz.underlying117 rfl zk ?_);rw[<-hwB];clear hwB;go_wp2_with (refine wpList_load_row rfl 117 (.tmp 16) rfl wr.heap.size rfl 117 #[.string y.name,.string y.value] (0,0) _ HbB.out Tryz.underlying117 rfl zk ?_);refine aix.out.mono ?_;rintro e w5 ⟨rfl,h5⟩;have H5:=zh h5;have zO:=zh h5.own;clear h5 aix;go_wp2_with (at_builtin;go_must (refine tC (u:=.int .i64 q) kJ rfl (.tmp 66) (.tmp 71) rfl rfl rfl (cell_new0 _ _ _) rfl (aI zO.out ((Only.refl (fun _=>False) _).alloc _) (fun _ _ f=>f)) zBk zBl ?_));intro v' w6 s1 s2 s3;have RZ:Hid (kH W0 gt gb c bt bb G Bs D (S3.values p (D.x.pack p).vars (s.sets.take (i+1))).1 w6 v' (es++(S3.values p (D.x.pack p).vars (s.sets.take (i+1))).2)):=by rw[uh.out];show kH _ _ _ _ _ _ _ _ _ _ _ _ (es++(vs++[q]));rw[<-yW,HL.out];exact kH.app H5.out ((Only.refl (fun _=>False) w5).alloc _) s1 s2 s3
      obtain⟨g6,c6',rfl,-,-,-⟩:=s3;have jh:=KD.out;clear s1 s2 H5 zO;go_wp2_with fail;go_roundw;case rel=>exact⟨i+1,by first|rfl|go_num,by omega,RZ⟩
      case measure=>simp[RowKit.intOf]<;>omega
     obtain rfl:OT=i:=by omega
     clear hi ci;rw[qI (yG NSe.out)]at vW;obtain⟨S4,hS4⟩:=ze ((S3.values p (D.x.pack p).vars s.sets).1);obtain⟨vs,hvs⟩:=ze ((S3.values p (D.x.pack p).vars s.sets).2);have Za:=HMe.out D1 S2 S3 es S4 vs HP.out HE.out (by rw[<-hS4,<-hvs]);have agG:∀z∈vs,0<=z/\z<=65536:=by rw[<-hvs];exact(TB.Qr p (D.x.pack p).vars s.sets HS3.out).2
     have hvl:vs.length=OT:=by rw[<-hvs,TB.um,NSe.out]
     rw[hS4,hvs]at vW;obtain⟨L,hL⟩:=ze (es++vs);have JJ:L.length<=OT+2:=by rw[<-hL,qK];omega
     have hLb:∀z∈L,0<=z/\z<=65536:=by
      rw[<-hL];intro y hy;rcases qW.1 hy with h|h;·exact hes y h
      exact agG y h
     rw[hL]at vW Za;have hzz:Nn=z:=by rw[<-HZ.out,Za]
     obtain⟨r0,hr0⟩:=ze (!L.contains 0);have hcz:(L.contains 0=false)↔(r0=true):=by rw[<-hr0];cases L.contains 0<;>simp
     have H9:Hid ((if 0<Nn/\r0=true then (S4.1,S4.2.adds (pz Nn L))else S4)=S9):=by rw[<-HS9.out,Za];simp only[hcz];first|exact rfl|trivial
     subst hzz;have HLb:=zh hLb;have HR0:=zh hr0;obtain⟨au,cu,hu,-,-⟩:∃au cu,u14= .slice au L.length cu/\L.length<=cu/\cu<=maxLen:=aC vW.out.own;subst hu;have Fz:Hid (∀S5 W,fE W0 gt gb c bt bb G Bs D S5 W->fE w gt gb c bt bb G Bs D S5 W):=fun S5 W h=>fE.after nJ.out h;clear Za hS4 hvs hL hLb hr0 hcz agG hvl;by_cases hpos:0<Nn
     ·have HRi:Hid (Calls Tryz.prog 227 #[.slice au L.length cu] wr fun e w'=>e= .returned (.bool r0)/\w'=wr):=by obtain⟨_,_,Hx,_,_,_,hI,_⟩:=vW.out.ints HLb.out;exact KC hI r0 HR0.out
      have wR:Hid (Calls Tryz.prog 28 #[.pointer (some ⟨c,0,none⟩)] wr fun e w'=>e= .returned (.pointer (some ⟨bb,0,none⟩))/\w'=wr):=by obtain⟨_,_,Hx,_⟩:=vW.out;exact pW Hx.gr
      have OU:Hid (Calls Tryz.prog 228 #[.pointer (some ⟨bb,0,none⟩),.int .i64 Nn,.slice au L.length cu] wr fun e w'=>e= .returned (.tuple #[])/\fE W0 gt gb c bt bb G Bs D (S4.1,S4.2.adds (pz Nn L)) w'):=by obtain⟨_,_,Hx,A,A',O,hI,hN⟩:=vW.out.ints HLb.out;exact(agD Hx hI hN Nn ⟨by omega,by omega⟩ (fun y hy=>by have:=HLb.out y hy;omega) zBk).mono fun e w' ⟨he,h⟩=>⟨he,fE.trans A A' O h⟩
      go_wp2_with fail;refine HRi.out.mono ?_;rintro e w4 ⟨rfl,rfl⟩;cases r0 with
      |false=>
       have h9:S4=S9:=by rw[<-H9.out,if_neg zAM]
       subst h9;have HE2:=zh (Fz.out _ _ vW.out.gr);clear vW OU wR;go_wp2_with fail;go_ret;exact⟨rfl,HE2.out⟩
      |true=>
       have h9:(S4.1,S4.2.adds (pz Nn L))=S9:=by rw[<-H9.out,if_pos ⟨hpos,rfl⟩]
       rw[h9]at OU;clear vW h9;go_wp2_with fail;refine wR.out.mono ?_;rintro e w5 ⟨rfl,rfl⟩;go_wp2_with fail;refine OU.out.mono ?_;rintro e w6 ⟨rfl,h6⟩;have H6:=zh (Fz.out _ _ h6);clear h6 OU wR;go_wp2_with fail;go_ret;exact⟨rfl,H6.out⟩
     have h9:S4=S9:=by rw[<-H9.out,if_neg (fun h=>hpos h.1)]
     subst h9;have HE2:=zh (Fz.out _ _ vW.out.gr);clear vW;go_wp2_with fail;go_ret;exact⟨rfl,HE2.out⟩
end
end Go.Proofs.YtdmmebjjojimiaaGreatDoor
