/- Packages span and spans: Has, exact.; Package edge: set. -/
import Derived.Test.YtdmmebjjojimiaaGreatDoorG22
set_option maxRecDepth 100000
set_option maxHeartbeats 8000000
set_option linter.all false
namespace Go.Proofs
theorem zAM{p:Prop}(h:p:=by rw[<-hW0];exact zr.alloc _):p:=h
theorem zAW{p:Prop}(h:p:=by rw[<-hW0];exact qL _ _):p:=h
theorem zCI{p:Prop}(h:p:=by
 go_wp2_with fail
 go_ret
 exact⟨rfl,iM.out.same bg.out⟩):p:=h
theorem zCf{p:Prop}(h:p:=by
 have c0:=ak hb0 o (fun f=>f)
 exact⟨by rw[aj c0];rfl,by rw[aj c0];rfl⟩):p:=h
theorem zDD{p:Prop}(h:p:=by
 go_wp2_with fail
 go_ret
 exact⟨rfl,iM.out.same jG.out⟩):p:=h
theorem zDU{p:Prop}(h:p:=by
 subst hr
 go_wp2_with fail
 go_ret
 exact⟨by first|rfl|simp[hd],Only.refl _ _⟩):p:=h
end Go.Proofs
namespace Go.Proofs.YtdmmebjjojimiaaGreatDoor
open Go.RowKit
section
variable {w w':World} {B:Nat}
theorem F9:ByteArray.empty.toList=[]:=by rw[ByteArray.toList_eq];rfl
theorem jT{s:Str}:s.toList=[]↔s=ByteArray.empty:=
 ⟨fun h=>toList_inj (by rw[h,F9]),fun h=>by rw[h,F9]⟩
theorem UA(s:Str)(hs:okS s)(hL:Laid w)(r:Bool)(hr:CO s=r):Calls Tryz.prog 405 #[.string s] w (fun e w'=>e= .returned (.bool r)/\O0 w w'):=by
 have HM:=zh (YH s hs hL (rD s.toList) rfl);obtain⟨m,hm⟩:=ze (rD s.toList);rw[hm]at HM;unfold CO at hr;rw[hm]at hr;obtain⟨z,hz⟩:∃z,decide (s=ByteArray.empty)=z:=⟨_,rfl⟩;rw[hz]at hr;clear hm hL hs;go_enter Tryz.func405,Tryz.ntmps405;cases z with
 |true=>have hd:s.toList=[]:=jT.2 (of_decide_eq_true hz);clear hz;rw[Bool.true_or]at hr;exact zDU
 |false=>have hd:¬s.toList=[]:=fun h=>of_decide_eq_false hz (jT.1 h);clear hz;rw[Bool.false_or]at hr;subst hr;go_wp2_with fail;refine HM.out.mono ?_;rintro e w1 ⟨rfl,O1⟩;go_wp2_with fail;go_ret;exact⟨by first|rfl|simp[hd],O1⟩
theorem KY(a b:Str)(ha:okS a)(hb:okS b)(hL:Laid w)(r:Bool)(hr:vO a b=r):Calls Tryz.prog 376 #[.string a,.string b] w (fun e w'=>e= .returned (.bool r)/\O0 w w'):=by
 have HM:=zh (VO a b ha hb hL);obtain⟨m,hm⟩:=ze (Yo a.toList b.toList);rw[hm]at HM;unfold vO at hr;rw[hm]at hr;obtain⟨z,hz⟩:∃z,decide (a=ByteArray.empty)=z:=⟨_,rfl⟩;obtain⟨y,hy⟩:∃y,decide (b=ByteArray.empty)=y:=⟨_,rfl⟩;rw[hz,hy]at hr;clear hm hL ha hb;go_enter Tryz.func376,Tryz.ntmps376;cases z with
 |true=>have hd:a.toList=[]:=jT.2 (of_decide_eq_true hz);clear hz hy;simp only[Bool.not_true,yQ]at hr;exact zDU
 |false=>
  have hd:¬a.toList=[]:=fun h=>of_decide_eq_false hz (jT.1 h);clear hz;cases y with
  |true=>have hd':b.toList=[]:=jT.2 (of_decide_eq_true hy);clear hy;simp only[Bool.not_true,Bool.and_false,yQ]at hr;subst hr;go_wp2_with fail;go_ret;exact⟨by first|rfl|simp[hd,hd'],Only.refl _ _⟩
  |false=>have hd':¬b.toList=[]:=fun h=>of_decide_eq_false hy (jT.1 h);clear hy;simp only[Bool.not_false,yR]at hr;go_wp2_with fail;refine HM.out.mono ?_;rintro e w1 ⟨rfl,O1⟩;subst hr;go_wp2_with fail;go_ret;exact⟨by first|rfl|simp[hd,hd'],O1⟩
theorem adM(s:iD)(hl:okS s.lo)(hh:okS s.hi)(hL:Laid w)(r:Bool)(hr:KT s=r):Calls Tryz.prog 375 #[.agg #[.string s.lo,.string s.hi]] w (fun e w'=>e= .returned (.bool r)/\O0 w w'):=by
 obtain⟨W0,hW0⟩:=ze (w.alloc (.cells #[.string s.lo,.string s.hi] 128));have hb0:W0.heap[w.heap.size]? =some (.cells #[.string s.lo,.string s.hi] 128 (0,0)):=zAW;have iM:Hid (O0 w W0):=zAM;have bJ:Hid (∀W,O0 W0 W->W.cell? ⟨w.heap.size,0,none⟩=some (.string s.lo)/\W.cell? ⟨w.heap.size,1,none⟩=some (.string s.hi)):=fun W o=>by exact zCf
 obtain⟨r1,hr1⟩:=ze (CO s.lo);obtain⟨r2,hr2⟩:=ze (CO s.hi);obtain⟨r3,hr3⟩:=ze (vO s.hi s.lo);have H1:Hid (∀W,O0 W0 W->Calls Tryz.prog 405 #[.string s.lo] W (fun e w'=>e= .returned (.bool r1)/\O0 W w')):=fun W o=>UA s.lo hl ((hL.only iM.out).only o) r1 hr1;have H2:Hid (∀W,O0 W0 W->Calls Tryz.prog 405 #[.string s.hi] W (fun e w'=>e= .returned (.bool r2)/\O0 W w')):=fun W o=>UA s.hi hh ((hL.only iM.out).only o) r2 hr2;have H3:Hid (∀W,O0 W0 W->Calls Tryz.prog 376 #[.string s.hi,.string s.lo] W (fun e w'=>e= .returned (.bool r3)/\O0 W w')):=fun W o=>KY s.hi s.lo hh hl ((hL.only iM.out).only o) r3 hr3;unfold KT at hr;rw[hr1,hr2,hr3]at hr;obtain⟨k0,k1⟩:=bJ.out W0 zr;clear hb0 hr1 hr2 hr3 hL hl hh;go_enter Tryz.func375,Tryz.ntmps375;go_wp2_with fail;try rw[hW0]
 clear hW0;refine(H1.out W0 zr).mono ?_;rintro e w1 ⟨rfl,O1⟩;have bg:=zh O1;obtain⟨k0,k1⟩:=bJ.out w1 O1;clear O1;cases r1 with
 |false=>simp only[yQ]at hr;subst hr;exact zCI
 |true=>
  go_wp2_with fail;refine(H2.out w1 bg.out).mono ?_;rintro e w2 ⟨rfl,O2⟩;have jG:=zh (bg.out.same O2);obtain⟨k0,k1⟩:=bJ.out w2 jG.out;clear O2;cases r2 with
  |false=>simp only[yR,yQ]at hr;subst hr;exact zDD
  |true=>go_wp2_with fail;refine(H3.out w2 jG.out).mono ?_;rintro e w3 ⟨rfl,O3⟩;have uP:=zh (jG.out.same O3);clear O3;simp only[yR]at hr;subst hr;go_wp2_with fail;go_ret;exact⟨rfl,iM.out.same uP.out⟩
theorem adN(s:iD)(v:Str)(hl:okS s.lo)(hh:okS s.hi)(hv:okS v)(hL:Laid w)(r:Bool)(hr:rP s v=r):Calls Tryz.prog 342 #[.agg #[.string s.lo,.string s.hi],.string v] w (fun e w'=>e= .returned (.bool r)/\O0 w w'):=by
 obtain⟨W0,hW0⟩:=ze (w.alloc (.cells #[.string s.lo,.string s.hi] 128));have hb0:W0.heap[w.heap.size]? =some (.cells #[.string s.lo,.string s.hi] 128 (0,0)):=zAW;have iM:Hid (O0 w W0):=zAM;have bJ:Hid (∀W,O0 W0 W->W.cell? ⟨w.heap.size,0,none⟩=some (.string s.lo)/\W.cell? ⟨w.heap.size,1,none⟩=some (.string s.hi)):=fun W o=>by exact zCf
 obtain⟨r1,hr1⟩:=ze (KT s);obtain⟨r2,hr2⟩:=ze (rD v.toList);obtain⟨r3,hr3⟩:=ze (vO v s.lo);obtain⟨r4,hr4⟩:=ze (vO s.hi v);have H1:Hid (∀W,O0 W0 W->Calls Tryz.prog 375 #[.agg #[.string s.lo,.string s.hi]] W (fun e w'=>e= .returned (.bool r1)/\O0 W w')):=fun W o=>adM s hl hh ((hL.only iM.out).only o) r1 hr1;have H2:Hid (∀W,O0 W0 W->Calls Tryz.prog 259 #[.string v] W (fun e w'=>e= .returned (.bool r2)/\O0 W w')):=fun W o=>YH v hv ((hL.only iM.out).only o) r2 hr2;have H3:Hid (∀W,O0 W0 W->Calls Tryz.prog 376 #[.string v,.string s.lo] W (fun e w'=>e= .returned (.bool r3)/\O0 W w')):=fun W o=>KY v s.lo hv hl ((hL.only iM.out).only o) r3 hr3;have H4:Hid (∀W,O0 W0 W->Calls Tryz.prog 376 #[.string s.hi,.string v] W (fun e w'=>e= .returned (.bool r4)/\O0 W w')):=fun W o=>KY s.hi v hh hv ((hL.only iM.out).only o) r4 hr4;unfold rP at hr;rw[hr1,hr2,hr3,hr4]at hr;obtain⟨k0,k1⟩:=bJ.out W0 zr;clear hb0 hr1 hr2 hr3 hr4 hL hl hh hv;go_enter Tryz.func342,Tryz.ntmps342;go_wp2_with fail;try rw[hW0]
 clear hW0;refine(H1.out W0 zr).mono ?_;rintro e w1 ⟨rfl,O1⟩;have bg:=zh O1;obtain⟨k0,k1⟩:=bJ.out w1 O1;clear O1;cases r1 with
 |false=>simp only[yQ]at hr;subst hr;exact zCI
 |true=>
  go_wp2_with fail;refine(H2.out w1 bg.out).mono ?_;rintro e w2 ⟨rfl,O2⟩;have jG:=zh (bg.out.same O2);obtain⟨k0,k1⟩:=bJ.out w2 jG.out;clear O2;cases r2 with
  |false=>simp only[yR,yQ]at hr;subst hr;exact zDD
  |true=>
   go_wp2_with fail;refine(H3.out w2 jG.out).mono ?_;rintro e w3 ⟨rfl,O3⟩;have uP:=zh (jG.out.same O3);obtain⟨k0,k1⟩:=bJ.out w3 uP.out;clear O3;cases r3 with
   |true=>simp only[yR,Bool.not_true,yQ]at hr;subst hr;go_wp2_with fail;go_ret;exact⟨rfl,iM.out.same uP.out⟩
   |false=>go_wp2_with fail;refine(H4.out w3 uP.out).mono ?_;rintro e w4 ⟨rfl,O4⟩;have FQ:=zh (uP.out.same O4);clear O4;simp only[yR,Bool.not_false]at hr;subst hr;go_wp2_with fail;go_ret;exact⟨rfl,iM.out.same FQ.out⟩
theorem adO(v:Str)(hv:okS v)(gs:Nat)(hg:w.cell? ⟨gs,0,none⟩=some (.string v))(hL:Laid w):rH eX B 341 #[.pointer (some ⟨gs,0,none⟩)] (fun s=>rP s v) w:=by
 intro W cs s hO hC;obtain⟨rfl,h1,h2⟩:=hC;have hlt:gs<w.heap.size:=World.block_lt_of_cell? _ _ hg;have hg2:W.cell? ⟨gs,0,none⟩=some (.string v):=by rw[World.cell?_of_block (w:=w) (hO.block gs hlt (fun f=>f))];exact hg
 obtain⟨W0,hW0⟩:=ze (W.alloc (.cells #[.string s.lo,.string s.hi] 128));have HB0:Hid (W0.heap[W.heap.size]? =some (.cells #[.string s.lo,.string s.hi] 128 (0,0))):=zAW;have iM:Hid (O0 W W0):=zAM;have hg3:W0.cell? ⟨gs,0,none⟩=some (.string v):=aK hg2 iM.out (fun f=>f);have k0:W0.cell? ⟨W.heap.size,0,none⟩=some (.string s.lo):=by rw[aj HB0.out];rfl
 have k1:W0.cell? ⟨W.heap.size,1,none⟩=some (.string s.hi):=by rw[aj HB0.out];rfl
 obtain⟨r,hr⟩:=ze (rP s v);show Calls _ _ _ _ (fun e w'=>e= .returned (.bool (rP s v))/\_);rw[hr];have H1:=zh (adN (w:=W0) s v h1 h2 hv ((hL.only hO).only iM.out) r hr);clear hg hg2 hlt hr h1 h2 hv hL hO;go_enter Tryz.func341,Tryz.ntmps341;go_wp2_with fail;try rw[hW0]
 clear hW0;refine H1.out.mono ?_;rintro e w1 ⟨rfl,O1⟩;go_wp2_with fail;go_ret;exact⟨rfl,iM.out.same O1⟩
theorem RI:∀args w,(callFunc 341 args).run Tryz.prog w= .ok (.enter 341 args) w:=enters_of Tryz.func341 zk rfl
theorem KZ(l:List iD)(v:Str):decide (0<=jk (fun s=>rP s v) l)=nV l v:=by
 unfold nV jk;by_cases h:l.any (fun s=>rP s v)=true;·rw[if_pos h,h];simp
 rw[if_neg h,Bool.eq_false_iff.2 h];simp
theorem RJ{vl:Value}{l:List iD}(hl:aJ 2 eX B w vl l)(v:Str)(hv:okS v)(hL:Laid w)(r:Bool)(hr:nV l v=r):Calls Tryz.prog 285 #[vl,.string v] w (fun e w'=>e= .returned (.bool r)/\O0 w w'):=by
 obtain⟨ao,cap,rfl,-,-⟩:=hl.shape;obtain⟨n,hn⟩:=ze l.length;rw[hn]at hl⊢;have H1:Hid (Calls Tryz.prog 340 #[.slice ao n cap,.func (.func 341) #[] #[.pointer (some ⟨w.heap.size,0,none⟩)]] (w.alloc (.cells #[.string v] 9)) fun e w'=>e= .returned (.bool r)/\O0 (w.alloc (.cells #[.string v] 9)) w'):=
  F8 (hl.keep eX.keep (Kp.fU (zr.alloc _))) RI (adO v hv _ (cell_new0 _ _ _) (hL.only (zr.alloc _))) r (by rw[KZ];exact hr)
 clear hl hn hr hL;go_enter Tryz.func285,Tryz.ntmps285;go_wp2_with fail;refine H1.out.mono ?_;rintro e w1 ⟨rfl,O1⟩;go_wp2_with fail;go_ret;exact⟨rfl,((Only.refl _ w).alloc _).same O1⟩
end
end Go.Proofs.YtdmmebjjojimiaaGreatDoor
namespace Go.Proofs
theorem zCc{p:Prop}(h:p:=by
 go_wp2_with fail
 go_ret
 exact⟨rfl,HE.out⟩):p:=h
theorem zCq{p:Prop}(h:p:=by
 go_wp2_with fail
 go_roundw
 case rel=>exact⟨i+1,by first|rfl|go_num,by omega,jr⟩
 case measure=>simp[RowKit.intOf]<;>omega):p:=h
end Go.Proofs
namespace Go.Proofs.YtdmmebjjojimiaaGreatDoor
open Go.RowKit
theorem adP{i j:Nat}(h:hA i=hA j):i=j:=by simp[hA]at h;omega
theorem Jz{T:Tab}{f:Nat->Nat}{n:Nat}(hf:∀i j,i<n->j<n->f i=f j->i=j)(h:∀i,i<n->hA (f i)∈T.l):n<=T.l.length:=by
 have hn:((List.range n).map fun i=>hA (f i)).Nodup:=by rw[List.Nodup,List.pairwise_map];refine List.Pairwise.imp_of_mem ?_ (List.nodup_range (n:=n));intro a b ha hb hab e;exact hab (hf a b (yI.1 ha) (yI.1 hb) (adP e))
 have:=List.Nodup.length_le_of_subset hn (l₂:=T.l) (fun a ha=>by
  obtain⟨i,hi,rfl⟩:=yD.1 ha
  exact h i (yI.1 hi))
 simpa using this
theorem Gf{T:Tab}(hi:dS T)(hlen:T.l.length<=65536):T.helps<=nX T/\(∀j,T.helps<=j->j<nX T->hA j∈T.l)/\hA (nX T)∉T.l/\nX T<=1000000:=by
 have h0:T.helps<=T.l.length:=Jz (f:=fun i=>i) (fun i j _ _ h=>h) hi;unfold nX;cases hf:(List.range (T.l.length+1)).find? fun j=>decide (hA (T.helps+j)∉T.l)with
 |none=>
  exfalso;rw[List.find?_eq_none]at hf;have:=Jz (T:=T) (f:=fun i=>T.helps+i) (n:=T.l.length+1) (fun i j _ _ h=>by have h:T.helps+i=T.helps+j:=h;omega) (fun i hi=>by
   have:=hf i (yI.2 hi)
   simpa using this)
  omega
 |some j=>obtain⟨h1,h2,h3⟩:=List.find?_range_eq_some.1 hf;have h2':=yI.1 h2;simp only[Option.getD_some];refine⟨by omega,fun i h4 h5=>?_,by simpa using h1,by omega⟩;have:=h3 (i-T.helps) zBB;rw[show T.helps+(i-T.helps)=i by omega]at this;simpa using this
theorem dS.help{S:TB}(h:dS S.1)(hlen:S.1.l.length<=65536):dS S.help.1.1:=by
 obtain⟨h1,h2,h3,h4⟩:=Gf h hlen;unfold TB.help;refine dS.num (T:={S.1 with helps:=nX S.1}) (fun j hj=>?_) _;have hj:j<nX S.1:=hj;show hA j∈S.1.l;rcases yK j S.1.helps with hlt|hge;·exact h j hlt
 exact h2 j hge hj
theorem TB.adQ{S:TB}(h:S.1.Ok):0<=S.help.2/\S.help.2<=65536:=(Tab.lS (T:={S.1 with helps:=nX S.1}) ⟨h.lim,h.len⟩ _).2
theorem TB.mY(S:TB)(l:List At)(a:At):S.nums (l++[a])=(((S.nums l).1.num a).1,(S.nums l).2++[((S.nums l).1.num a).2]):=by unfold TB.nums TB.num;rw[Tab.mY]
def lu(p:Nat)(aP:List jY)(l:List iD)(i:Nat):List At:=((List.range i).filter fun i=>nV l (aP.getD i default).version).map (iZ p)
theorem VZ{p:Nat}{aP:List jY}{l:List iD}{i:Nat}(h:nV l (aP.getD i default).version=true):lu p aP l (i+1)=lu p aP l i++[iZ p i]:=by unfold lu;rw[List.range_succ,List.filter_append];rw[qC]at h;simp[h]
theorem YI{p:Nat}{aP:List jY}{l:List iD}{i:Nat}(h:nV l (aP.getD i default).version=false):lu p aP l (i+1)=lu p aP l i:=by unfold lu;rw[List.range_succ,List.filter_append];rw[qC]at h;simp[h]
theorem JA(p:Nat)(aP:List jY)(l:List iD)(i:Nat):(lu p aP l i).length<=i:=by unfold lu;rw[qM];exact qR (yO _ _) zAE
section
variable {w w':World} {gt gb gp:Tag} {c bt bb:Nat} {G:BJ} {Bs:Nat} {D:rU} {S:TB} {X:G9} {E:ES}
theorem sD.ok(H:sD w gt gb c bt bb G Bs D S):S.1.Ok:=by obtain⟨V,hV⟩:=H.gr.tab;exact⟨hV.lim,hV.len⟩
theorem sD.len(H:sD w gt gb c bt bb G Bs D S):S.1.l.length<=65536:=by have h:=H.ok;have:=h.lim;have:=h.len;omega
theorem ag0(H:sD w gt gb c bt bb G Bs D S){v:Value}{xs:List Int}(hI:Ints w v xs)(hN:wQ gt gb v xs)(x:Int)(hx: -1000000<=x/\x<=1000000)(hs:∀z∈xs,-1000000<=z/\z<=1000000)(hl:xs.length<=1000000):Calls Tryz.prog 360 #[.pointer (some ⟨bb,0,none⟩),.int .i64 x,v] w fun e w'=>e= .returned (.tuple #[])/\aN w gt gb c bt bb G Bs D (S.1,S.2.adds (DY x xs)) w':=by obtain⟨V,hV⟩:=H.gr.G8;exact(aa4 hV hI hN.b x hx hs hl).mono fun e w' ⟨he,h⟩=>⟨he,H.step (S2:=(S.1,S.2.adds (DY x xs))) (H.gr.step_b h) H.hinv⟩
theorem acp(H:sD w gt gb c bt bb G Bs D S){v:Value}{xs:List Int}(hI:Ints w v xs)(hN:wQ gt gb v xs)(x:Int)(hx: -1000000<=x/\x<=1000000)(hs:∀z∈xs,-1000000<=z/\z<=1000000)(hl:xs.length<=1000000):Calls Tryz.prog 228 #[.pointer (some ⟨bb,0,none⟩),.int .i64 x,v] w fun e w'=>e= .returned (.tuple #[])/\aN w gt gb c bt bb G Bs D (S.1,S.2.adds (kL x xs)) w':=by obtain⟨V,hV⟩:=H.gr.G8;exact(aa5 hV hI hN.b x hx hs hl).mono fun e w' ⟨he,h⟩=>⟨he,H.step (S2:=(S.1,S.2.adds (kL x xs))) (H.gr.step_b h) H.hinv⟩
theorem adR(H:sD w gt gb c bt bb G Bs D S)(z:Int)(hz:S.help.2=z):Calls Tryz.prog 359 #[.pointer (some ⟨bt,0,none⟩)] w fun e w'=>e= .returned (.int .i64 z)/\aN w gt gb c bt bb G Bs D S.help.1 w':=by obtain⟨V,hV⟩:=H.gr.tab;obtain⟨h1,h2,h3,h4⟩:=Gf H.hinv H.len;exact(XI hV (nX S.1) h1 h2 h3 h4 z hz).mono fun e w' ⟨he,h⟩=>⟨he,H.step (S2:=S.help.1) (H.gr.XK h) (dS.help H.hinv H.len)⟩
theorem Aw(u a:Value)(W:World):(Instr.field 25 (.agg #[u,a]) 0).run Tryz.prog W= .ok u W:=by unfold Instr.field;rw[Sem.run_bind,run_underlying Tryz.underlying25];simp[asAgg,part,isAgg]
theorem abe(u:Value)(W:World):(Instr.field 28 (.agg #[u]) 0).run Tryz.prog W= .ok u W:=by unfold Instr.field;rw[Sem.run_bind,run_underlying Tryz.underlying28];simp[asAgg,part,isAgg]
theorem sD.IE(H:sD w gt gb c bt bb G Bs D S):∃a1 c1 a2 c2,G.x1= .slice a1 D.x.packs.length c1/\G.x2= .slice a2 D.x.cO.length c2/\aJ 8 fF Bs w (.slice a1 D.x.packs.length c1) D.x.packs/\aJ 3 jX Bs w (.slice a2 D.x.cO.length c2) D.x.cO:=by obtain⟨v1,v2,e12,h1,h2⟩:=H.yZ;simp only[List.cons.injEq,and_true]at e12;obtain⟨e1,e2⟩:=e12;obtain⟨a1,c1,e3,-,-⟩:=h1.shape;obtain⟨a2,c2,e4,-,-⟩:=h2.shape;rw[e3]at h1;rw[e4]at h2;exact⟨a1,c1,a2,c2,by rw[e1,e3],by rw[e2,e4],h1,h2⟩
theorem Ep{a1:Option Addr}{c1:Nat}{x:aC}(h:aJ 8 fF Bs w (.slice a1 x.packs.length c1) x.packs){p:Nat}(hp:p<x.packs.length):∃b off cs,a1=some ⟨b,off,none⟩/\w.rangeAt b (off+p*8) cs/\fF Bs w cs (x.pack p)/\cs.length=8:=by
 obtain⟨b,off,rfl,-,-⟩:=h.at zBB;have hpx:x.packs[p]? =some (x.pack p):=by unfold aC.pack;rw[qC,qA hp];rfl
 obtain⟨cs,h1,h2,h3⟩:=h.get hpx;exact⟨b,off,cs,rfl,h2,h3,h1⟩
theorem ag1(H:sD w gt gb c bt bb G Bs D S){p:Nat}(hp:p<D.x.packs.length)(hm:Cj D.x){vl:Value}{l:List iD}(hl:aJ 2 eX Bs w vl l)(z:Int)(hz:(S.set p (D.x.pack p).aP l).2=z):Calls Tryz.prog 310 #[.pointer (some ⟨c,0,none⟩),.int .i64 p,vl] w fun e w'=>e= .returned (.int .i64 z)/\aN w gt gb c bt bb G Bs D (S.set p (D.x.pack p).aP l).1 w':=by
 have H0:=zh H;have HZ:=zh hz;obtain⟨S9,RN⟩:=ze ((S.set p (D.x.pack p).aP l).1);rw[RN];have Xg:=zh RN;obtain⟨avl,cvl,rfl,-,-⟩:=hl.shape;obtain⟨nl,hnl⟩:=ze l.length;rw[hnl]at hl⊢;obtain⟨a1,c1,a2,c2,zi,Az,h1,-⟩:=H.IE;have zo:=zh (iH H.gr zi Az);have hpk:=hm.packs;have hrl:=hm.aP _ (aC.gX hp);obtain⟨b,off,cs,rfl,hr,hC,-⟩:=Ep h1 hp;obtain⟨pk,YJ⟩:=ze (D.x.pack p);rw[YJ]at hC hrl HZ Xg;obtain⟨o1,o2,o3,o4,o5,o6,d1,d2,d3,d4,d5,d6,rfl,-,-,b1,-,-,-,-,-⟩:=hC.cells;obtain⟨n1,hn1⟩:=ze D.x.packs.length;obtain⟨n2,hn2⟩:=ze D.x.cO.length;obtain⟨nr,hnr⟩:=ze pk.aP.length;rw[hn1,hn2]at zo;rw[hn1]at hp hpk;rw[hnr]at hr b1 hrl;have hbB:b<w.heap.size/\True:=⟨by
  obtain⟨b',off',e,hb1,hb2⟩:=h1.at zBB
  simp only[qG,qO,and_true]at e
  omega,trivial⟩
 have Vm:=zh hnr;have XQ:Hid (∀W,O0 w W->W.cell? ⟨b,off+p*8+2,none⟩=some (.slice o1 nr d1)):=fun W ho=>aK (hr 2 _ rfl) ho (fun f=>f);have HRl:Hid (∀W,Kp Bs w W->aJ 2 nK Bs W (.slice o1 nr d1) pk.aP):=fun W k=>b1.keep nK.keep k;have HSp:Hid (∀W,Kp Bs w W->aJ 2 eX Bs W (.slice avl nl cvl) l):=fun W k=>hl.keep eX.keep k;have HKp:Hid (∀W,Only (fun k=>Mine gt k\/Mine gb k) w W->Kp Bs w W):=fun W ho=>Kp.rV ho H.low;have MN:Hid (gZ w gt gb c bt bb G Bs D (S.nums (lu p pk.aP l 0)).1 w bK (S.nums (lu p pk.aP l 0)).2):=gZ.start H.le (aN.refl H);clear RN H hz hl hnl h1 zi Az hm hr hC YJ hn1 hn2 hnr b1 hbB;have hfld:=Aw (.slice (some ⟨b,off,none⟩) n1 c1) (.slice a2 n2 c2);go_enter Tryz.func310,Tryz.ntmps310;go_wp2_with fail;refine zo.out.mono ?_;rintro e w1 ⟨rfl,O1⟩;have hcell:=XQ.out w1 O1;have HS1:=zh (MN.out.aF O1);clear O1 zo XQ MN;go_wp2_with fail;go_loopw [7,19] (fun v7 vi wr=> ∃i:Nat,vi= .int .i64 i/\i<=nr/\Hid (gZ w gt gb c bt bb G Bs D (S.nums (lu p pk.aP l i)).1 wr v7 (S.nums (lu p pk.aP l i)).2)) (fun _ v _=>nr-(RowKit.intOf v).toNat);case atStart=>exact⟨0,rfl,qE _,HS1⟩
 case round=>
  clear HS1 hcell hfld;obtain⟨i,rfl,hi,fP⟩:=hrel;by_cases ci:i<nr
  ·obtain⟨S2,hS2⟩:=ze ((S.nums (lu p pk.aP l i)).1);obtain⟨zs,hzs⟩:=ze ((S.nums (lu p pk.aP l i)).2);have hzl:zs.length<=i:=by rw[<-hzs];show(S.1.nums _).2.length<=i;rw[Tab.iO];exact JA _ _ _ _
   rw[hS2,hzs]at fP;have hkp:=HKp.out wr fP.out.only;have hrow:=HRl.out wr hkp;rw[<-Vm.out]at hrow;obtain⟨b2,off2,e2,hb2,-⟩:=hrow.at (by have:=Vm.out;omega);subst e2;obtain⟨y,hy⟩:=zG pk.aP i (by rw[Vm.out];exact ci);obtain⟨cs2,-,hr2,rfl,hv⟩:=hrow.get hy;have HR2:=zh hr2;have hgd:pk.aP.getD i default=y:=by rw[qC,hy];rfl
   have jg:=zw (i+1);obtain⟨wB,hwB⟩:=zB (wr.alloc (.cells #[.string y.version,.bool y.old] 130));have oB:O0 wr wB:=zAi;have hbx:wB.cell? ⟨wr.heap.size,0,none⟩=some (.string y.version):=by have b0:wB.heap[wr.heap.size]? =some (.cells #[.string y.version,.bool y.old] 130):=zAn;rw[aj b0];rfl
   have UC:=zh (fP.out.aF oB);obtain⟨r,hrr⟩:=ze (nV l y.version);have OO:Hid (Calls Tryz.prog 285 #[.slice avl nl cvl,.string y.version] wB (fun e w'=>e= .returned (.bool r)/\O0 wB w')):=by obtain⟨_,_,Hx,_⟩:=UC.out;exact RJ (HSp.out wB (HKp.out wB UC.out.only)) y.version hv Hx.laid.now r hrr
   have Eo:=zh jg;have uT:=zh hrr;have HGd:=zh hgd;have HS2:=zh hS2;have HZs:=zh hzs;obtain⟨au,cu,hu,-,-⟩:∃au cu,u7= .slice au zs.length cu/\zs.length<=cu/\cu<=maxLen:=aH fP.out.own;subst hu;clear hrow hy hr2 hgd jg hrr hS2 hzs hv oB fP hkp;go_wp2_with (refine wpList_load_mid rfl 130 (.tmp 22) rfl b2 (off2+i*2) rfl _ _ HR2.out Tryz.underlying130 rfl zk ?_);rw[<-hwB];clear hwB;refine OO.out.mono ?_;rintro e w2 ⟨rfl,O2⟩;have xG:=zh (UC.out.aF O2);clear O2 OO UC hbx;cases r with
   |false=>
    have jr:Hid (gZ w gt gb c bt bb G Bs D (S.nums (lu p pk.aP l (i+1))).1 w2 (.slice au zs.length cu) (S.nums (lu p pk.aP l (i+1))).2):=by rw[YI (by rw[HGd.out];exact uT.out),HS2.out,HZs.out];exact xG.out
    have jg:=Eo.out;clear xG;exact zCq
   |true=>
    obtain⟨q,hq⟩:=ze ((S2.num (iZ p i)).2);have pq:Hid (Calls Tryz.prog 75 #[.pointer (some ⟨c,0,none⟩),fH (iZ p i)] w2 fun e w'=>e= .returned (.int .i64 q)/\gZ w gt gb c bt bb G Bs D (S2.num (iZ p i)).1 w' (.slice au zs.length cu) zs):=
     gZ.call xG.out (fun gt' gb' Hx=>xP Hx ⟨by simp[iZ],⟨by simp only[iZ];omega,by simp only[iZ];omega⟩,⟨by simp only[iZ];omega,by simp only[iZ];omega⟩,zI⟩ q hq)
    have EZ:Hid (S.nums (lu p pk.aP l (i+1))=((S2.num (iZ p i)).1,zs++[q])):=by rw[VZ (by rw[HGd.out];exact uT.out),TB.mY,HS2.out,HZs.out,hq];exact rfl
    clear hq xG;go_wp2_with fail;refine pq.out.mono ?_;rintro e w5 ⟨rfl,h5⟩;have H5:=zh h5;have l9:=zh h5.own;clear h5 pq;go_wp2_with (at_builtin;go_must (refine zJ (u:=.int .i64 q) kF rfl (.tmp 28) (.tmp 34) rfl rfl rfl (cell_new0 _ _ _) rfl (aB l9.out ((Only.refl (fun _=>False) _).alloc _) (fun _ _ f=>f)) zBB zBC ?_));intro v' w6 s1 s2 s3;have jr:Hid (gZ w gt gb c bt bb G Bs D (S.nums (lu p pk.aP l (i+1))).1 w6 v' (S.nums (lu p pk.aP l (i+1))).2):=by rw[EZ.out];exact gZ.app H5.out ((Only.refl (fun _=>False) w5).alloc _) s1 s2 s3
    obtain⟨g6,c6',rfl,-,-,-⟩:=s3;have jg:=Eo.out;clear s1 s2 H5 l9;exact zCq
  obtain rfl:nr=i:=by omega
  clear hi ci;have hAs:lu p pk.aP l nr=mJ p pk.aP l:=by rw[<-Vm.out];rfl
  rw[hAs]at fP;obtain⟨S2,hS2⟩:=ze ((S.nums (mJ p pk.aP l)).1);obtain⟨zs,hzs⟩:=ze ((S.nums (mJ p pk.aP l)).2);have hzl:zs.length<=nr:=by rw[<-hzs,<-hAs];show(S.1.nums _).2.length<=nr;rw[Tab.iO];exact JA _ _ _ _
  have hzb:∀y∈zs,0<=y/\y<=65536:=by rw[<-hzs];obtain⟨_,_,Hx,_⟩:=fP.out;exact(Tab.nG (mJ p pk.aP l) H0.out.ok).2
  rw[hS2,hzs]at fP;obtain⟨hh,hhh⟩:=ze S2.help.2;have hhb:0<=hh/\hh<=65536:=by obtain⟨_,_,Hx,_⟩:=fP.out;rw[<-hhh];exact(Tab.lS (T:={S2.1 with helps:=nX S2.1}) ⟨Hx.ok.lim,Hx.ok.len⟩ _).2
  have ag2:Hid (Calls Tryz.prog 66 #[.pointer (some ⟨c,0,none⟩)] wr fun e w'=>e= .returned (.pointer (some ⟨bt,0,none⟩))/\w'=wr):=by obtain⟨_,_,Hx,_⟩:=fP.out;exact qc Hx.gr
  have YK:Hid (Calls Tryz.prog 359 #[.pointer (some ⟨bt,0,none⟩)] wr fun e w'=>e= .returned (.int .i64 hh)/\gZ w gt gb c bt bb G Bs D S2.help.1 w' u7 zs):=
   gZ.call fP.out (fun gt' gb' Hx=>adR Hx hh hhh)
  obtain⟨r0,hr0⟩:=ze (!zs.contains 0);have adS:Hid (S.set p pk.aP l=(if 0<hh/\r0=true then (S2.help.1.1,S2.help.1.2.adds (DY hh zs))else S2.help.1,hh)):=by
   show _=_;unfold TB.set;dsimp only;rw[hS2,hzs,hhh];have:(zs.contains 0=false)↔(r0=true):=by rw[<-hr0];cases zs.contains 0<;>simp
   simp only[this]
  have hzz:hh=z:=by rw[<-HZ.out,adS.out]
  have H9:Hid ((if 0<hh/\r0=true then (S2.help.1.1,S2.help.1.2.adds (DY hh zs))else S2.help.1)=S9):=by rw[<-Xg.out,adS.out];exact rfl
  subst hzz;obtain⟨S3,hS3⟩:=ze S2.help.1;rw[hS3]at YK H9;have YL:=zh hzb;have HR0:=zh hr0;obtain⟨au,cu,hu,-,-⟩:∃au cu,u7= .slice au zs.length cu/\zs.length<=cu/\cu<=maxLen:=aH fP.out.own;subst hu;clear hS3 hAs hS2 hzs hzb fP hhh adS hr0;go_wp2_with fail;refine ag2.out.mono ?_;rintro e w2 ⟨rfl,rfl⟩;go_wp2_with fail;refine YK.out.mono ?_;rintro e w3 ⟨rfl,h3⟩;have H3:=zh h3;clear h3 ag2 YK;by_cases hpos:0<hh
  ·have wJ:Hid (Calls Tryz.prog 227 #[.slice au zs.length cu] w3 fun e w'=>e= .returned (.bool r0)/\w'=w3):=by obtain⟨_,_,Hx,_,_,_,hI,_⟩:=H3.out.ints YL.out;exact En hI r0 HR0.out
   have zF:Hid (Calls Tryz.prog 28 #[.pointer (some ⟨c,0,none⟩)] w3 fun e w'=>e= .returned (.pointer (some ⟨bb,0,none⟩))/\w'=w3):=by obtain⟨_,_,Hx,_⟩:=H3.out;exact mX Hx.gr
   have EO:Hid (Calls Tryz.prog 360 #[.pointer (some ⟨bb,0,none⟩),.int .i64 hh,.slice au zs.length cu] w3 fun e w'=>e= .returned (.tuple #[])/\aN w gt gb c bt bb G Bs D (S3.1,S3.2.adds (DY hh zs)) w'):=by obtain⟨_,_,Hx,A,A',O,hI,hN⟩:=H3.out.ints YL.out;exact(ag0 Hx hI hN hh ⟨by omega,by omega⟩ (fun y hy=>by have:=YL.out y hy;omega) zBB).mono fun e w' ⟨he,h⟩=>⟨he,aN.trans A A' O h⟩
   go_wp2_with fail;refine wJ.out.mono ?_;rintro e w4 ⟨rfl,rfl⟩;cases r0 with
   |false=>
    have h9:S3=S9:=by rw[<-H9.out,if_neg zAE]
    subst h9;have HE:=zh H3.out.gr;clear H3 EO zF;exact zCc
   |true=>
    have h9:(S3.1,S3.2.adds (DY hh zs))=S9:=by rw[<-H9.out,if_pos ⟨hpos,rfl⟩]
    rw[h9]at EO;clear H3 h9;go_wp2_with fail;refine zF.out.mono ?_;rintro e w5 ⟨rfl,rfl⟩;go_wp2_with fail;refine EO.out.mono ?_;rintro e w6 ⟨rfl,h6⟩;have H6:=zh h6;clear h6 EO zF;go_wp2_with fail;go_ret;exact⟨rfl,H6.out⟩
  have h9:S3=S9:=by rw[<-H9.out,if_neg (fun h=>hpos h.1)]
  subst h9;have HE:=zh H3.out.gr;clear H3;exact zCc
end
end Go.Proofs.YtdmmebjjojimiaaGreatDoor
namespace Go.Proofs
theorem zCn{p:Prop}(h:p:=by
 go_wp2_with fail
 go_roundw
 case rel=>exact⟨i+1,by first|rfl|go_num,by omega,jG,adT⟩
 case measure=>simp[RowKit.intOf]<;>omega):p:=h
end Go.Proofs
namespace Go.Proofs.YtdmmebjjojimiaaGreatDoor
open Go.RowKit
def nC(v:fE)(s:jv):Bool:=decide (v.name=s.name)&&lJ v.values s.value
theorem YM{vars:List fE}{s:jv}{i:Nat}{v:fE}(hv:vars[i]? =some v)(h:nC v s=true)(hn:∀u∈vars.take i,nC u s=false):Oz vars s=some i:=by
 obtain⟨hi,rfl⟩:=qJ.1 hv;have hg:∀j (hj:j<vars.length),vars.getD j default=vars[j]:=fun j hj=>by rw[qC,qA hj];rfl
 unfold Oz;rw[List.find?_range_eq_some];refine⟨by rw[hg i hi];exact h,yI.2 hi,fun j hj=>?_⟩;have hjl:j<vars.length:=zBB;have:=hn (vars[j]) (by
  rw[List.mem_take_iff_getElem]
  exact⟨j,by omega,rfl⟩)
 rw[hg j hjl];unfold nC at this;rw[this];rfl
theorem V3{vars:List fE}{s:jv}(hn:∀u∈vars,nC u s=false):Oz vars s=none:=by
 unfold Oz;rw[List.find?_eq_none];intro j hj;have hj:=yI.1 hj;have hg:vars.getD j default=vars[j]:=by rw[qC,qA hj];rfl
 have:=hn vars[j] (qZ hj);unfold nC at this;rw[hg,this];simp
theorem YN(l:List Str)(s:Str):lJ l s=decide (0<=jk (fun t=>decide (t=s)) l):=by
 unfold lJ jk;by_cases h:l.any (fun t=>decide (t=s))=true;·rw[if_pos h,h];simp
 rw[if_neg h,Bool.eq_false_iff.2 h];simp
section
variable {w w':World} {gt gb gp:Tag} {c bt bb:Nat} {G:BJ} {Bs:Nat} {D:rU} {S:TB} {X:G9} {E:ES}
theorem abg(H:sD w gt gb c bt bb G Bs D S){p:Nat}(hp:p<D.x.packs.length)(hm:Cj D.x)(s:jv)(z:Int)(hz:(S.value p (D.x.pack p).vars s).2=z):Calls Tryz.prog 311 #[.pointer (some ⟨c,0,none⟩),.int .i64 p,.agg #[.string s.name,.string s.value]] w fun e w'=>e= .returned (.int .i64 z)/\aN w gt gb c bt bb G Bs D (S.value p (D.x.pack p).vars s).1 w':=by
 obtain⟨W0,hW0⟩:=ze (w.alloc (.cells #[.string s.name,.string s.value] 117));have hb0:W0.heap[w.heap.size]? =some (.cells #[.string s.name,.string s.value] 117 (0,0)):=zAW;have iM:Hid (O0 w W0):=zAM;have bJ:Hid (∀W,O0 W0 W->W.cell? ⟨w.heap.size,0,none⟩=some (.string s.name)/\W.cell? ⟨w.heap.size,1,none⟩=some (.string s.value)):=fun W o=>by exact zCf
 have H0:=zh (H.aF iM.out);have HZ:=zh hz;obtain⟨S9,RN⟩:=ze ((S.value p (D.x.pack p).vars s).1);rw[RN];have Xg:=zh RN;obtain⟨a1,c1,a2,c2,zi,Az,h1,-⟩:=H0.out.IE;have zo:=zh (iH H0.out.gr zi Az);have hpk:=hm.packs;have hvl:=hm.vars _ (aC.gX hp);have acr:=zh (hm.vals _ (aC.gX hp));obtain⟨b,off,cs,rfl,hr,hC,-⟩:=Ep h1 hp;obtain⟨pk,YJ⟩:=ze (D.x.pack p);rw[YJ]at hC hvl HZ acr Xg;obtain⟨o1,o2,o3,o4,o5,o6,d1,d2,d3,d4,d5,d6,rfl,-,-,-,b2,-,-,-,-⟩:=hC.cells;obtain⟨n1,hn1⟩:=ze D.x.packs.length;obtain⟨n2,hn2⟩:=ze D.x.cO.length;obtain⟨nv,MI⟩:=ze pk.vars.length;rw[hn1,hn2]at zo;rw[hn1]at hp hpk;rw[MI]at hr b2 hvl;have NK:=zh MI;have XQ:Hid (∀W,O0 W0 W->W.cell? ⟨b,off+p*8+3,none⟩=some (.slice o2 nv d2)):=fun W ho=>aK (hr 3 _ rfl) ho (fun f=>f);have HVr:Hid (∀W,O0 W0 W->aJ 2 jF Bs W (.slice o2 nv d2) pk.vars):=fun W k=>b2.keep jF.keep (Kp.fU k);clear RN H hz h1 zi Az hm hr hC YJ hn1 hn2 MI b2 hb0;have hfld:=Aw (.slice (some ⟨b,off,none⟩) n1 c1) (.slice a2 n2 c2);go_enter Tryz.func311,Tryz.ntmps311;go_wp2_with fail;try rw[hW0]
 clear hW0;refine zo.out.mono ?_;rintro e w1 ⟨rfl,O1⟩;have hcell:=XQ.out w1 O1;have bg:=zh O1;clear O1 zo XQ;go_wp2_with fail;go_loopw [18] (fun vi wr=> ∃i:Nat,vi= .int .i64 i/\i<=nv/\Hid (O0 W0 wr)/\Hid (∀u∈pk.vars.take i,nC u s=false)) (fun v _=>nv-(RowKit.intOf v).toNat);case atStart=>exact⟨0,rfl,qE _,bg,fun u hu=>by simp at hu⟩
 case round=>
  clear bg hcell hfld;obtain⟨i,rfl,hi,HO,Jw⟩:=hrel;by_cases ci:i<nv
  ·have hrow:=HVr.out wr HO.out;rw[<-NK.out]at hrow;obtain⟨b3,akb,e3,-,-⟩:=hrow.at (by have:=NK.out;omega);subst e3;obtain⟨y,hy⟩:=zG pk.vars i (by rw[NK.out];exact ci);obtain⟨cs2,-,hr2,vv,rfl,-,hvv⟩:=hrow.get hy;obtain⟨av,cv,rfl,-,-⟩:=hvv.shape;have hvn:y.values.length<=1000:=acr.out y (qT hy);obtain⟨nk,hnk⟩:=ze y.values.length;rw[hnk]at hr2 hvn hvv;have HR2:=zh hr2;have hgd:pk.vars.getD i default=y:=by rw[qC,hy];rfl
   have jg:=zw (i+1);obtain⟨wV,hwV⟩:=zB (wr.alloc (.cells #[.string y.name,.slice av nk cv] 145));have HOV:Hid (O0 wr wV):=by rw[hwV];exact zr.alloc _
   have HBV:Hid (∀W,O0 wV W->W.cell? ⟨wr.heap.size,0,none⟩=some (.string y.name)/\W.cell? ⟨wr.heap.size,1,none⟩=some (.slice av nk cv)):=fun W o=>by
    have b0:wV.heap[wr.heap.size]? =some (.cells #[.string y.name,.slice av nk cv] 145):=by rw[hwV];exact qL wr _
    have b1:=ak b0 o (fun f=>f);exact zCS
   obtain⟨f,hf⟩:∃f,jk (fun t=>decide (t=s.value)) y.values=f:=⟨_,rfl⟩;have HIx:Hid (Calls Tryz.prog 272 #[.slice av nk cv,.string s.value] wV fun e w'=>e= .returned (.int .i64 f)/\O0 wV w'):=by have h:=OL (w:=wV) (hvv.keep dK.keep (Kp.fU HOV.out)) s.value;rw[hf]at h;exact h
   have hfr:f= -1\/ ∃k:Nat,f=k/\k<nk:=by
    rcases kR (fun t=>decide (t=s.value)) y.values with h| ⟨k,h,hk,-⟩;·exact .inl (by rw[<-hf,h])
    exact .inr ⟨k,by rw[<-hf,h],by rw[<-hnk];exact hk⟩
   have abh:Hid (nC y s=(decide (y.name=s.name)&&decide (0<=f))):=by unfold nC;rw[YN,hf];exact rfl
   have HJ:Hid (nC y s=true->(S.value p pk.vars s)=S.num (jI p i f.toNat)):=fun h=>by unfold TB.value;rw[YM hy h Jw.out];simp only[hgd,hf]
   have HY:=zh hy;have Eo:=zh jg;obtain⟨j0,j1⟩:=bJ.out wr HO.out;obtain⟨k0,k1⟩:=bJ.out wV (HO.out.same HOV.out);obtain⟨k2,k3⟩:=HBV.out wV zr;have m0:=k0;have m1:=k1;rw[hwV]at m0 m1;have hne:w.heap.size≠wr.heap.size:=by have:=HO.out.size;have h2:=iM.out.size;have h3:w.heap.size<W0.heap.size:=World.block_lt_of_cell? _ _ (bJ.out W0 zr).1;omega
   clear hrow hy hr2 hvv hnk hgd jg hf;go_wp2_with (refine wpList_load_mid rfl 145 (.tmp 21) rfl b3 (akb+i*2) rfl _ _ HR2.out Tryz.underlying145 rfl zk ?_);rw[<-hwV];clear hwV;go_wp2_with fail;refine HIx.out.mono ?_;rintro e w2 ⟨rfl,O2⟩;have jG:Hid (O0 W0 w2):=(HO.out.same HOV.out).same O2;obtain⟨k0,k1⟩:=bJ.out w2 jG.out;obtain⟨k2,k3⟩:=HBV.out w2 O2;have jg:=Eo.out;clear O2 HIx;by_cases hn:y.name=s.name
   ·have hbd:(y.name.toList==s.name.toList)=true:=by rw[hn];exact beq_self_eq_true _
    have UD:Hid (nC y s=decide (0<=f)):=by rw[abh.out,qX hn,yR];exact rfl
    clear hn abh;rcases hfr with rfl| ⟨k,rfl,hk⟩
    ·have adT:Hid (∀u∈pk.vars.take (i+1),nC u s=false):=fun u hu=>by
      rcases bY HY.out hu with h|rfl;·exact Jw.out u h
      rw[UD.out];decide
     exact zCn
    have hj:=HJ.out (by rw[UD.out];simp);rw[yT]at hj;have h9:(S.num (jI p i k)).1=S9:=by rw[<-hj];exact Xg.out
    have hz2:(S.num (jI p i k)).2=z:=by rw[<-hj];exact HZ.out
    have pq:=zh (xP (H0.out.aF jG.out) (x:=jI p i k) ⟨by simp[jI],⟨by simp only[jI];omega,by simp only[jI];omega⟩,⟨by simp only[jI];omega,by simp only[jI];omega⟩,⟨by simp only[jI];omega,by simp only[jI];omega⟩⟩ z hz2);rw[h9]at pq;have t0:decide ((0:Int)<=(k:Int))=true:=qX zBB;clear h9 hj hz2;go_wp2_with fail;refine pq.out.mono ?_;rintro e w5 ⟨rfl,h5⟩;have H5:Hid (aN w gt gb c bt bb G Bs D S9 w5):=aN.after (iM.out.same jG.out) h5;clear h5 pq;go_wp2_with fail;go_ret;exact⟨rfl,H5.out⟩
   have hbd:(y.name.toList==s.name.toList)=false:=by rw[yC];exact fun h=>hn (toList_inj h)
   have UD:Hid (nC y s=false):=by rw[abh.out,qP hn,yQ];exact rfl
   clear hn abh;have adT:Hid (∀u∈pk.vars.take (i+1),nC u s=false):=fun u hu=>by
    rcases bY HY.out hu with h|rfl;·exact Jw.out u h
    exact UD.out
   exact zCn
  obtain rfl:nv=i:=by omega
  have hj:Oz pk.vars s=none:=V3 fun u hu=>Jw.out u (by rw[qI (yG NK.out)];exact hu);have hv0:S.value p pk.vars s=(S,0):=by unfold TB.value;rw[hj]
  have hzz:(0:Int)=z:=by rw[<-HZ.out,hv0]
  subst hzz;have h9:S=S9:=by rw[<-Xg.out,hv0]
  subst h9;have HE:Hid (aN w gt gb c bt bb G Bs D S wr):=aN.after (iM.out.same HO.out) (aN.refl (H0.out.aF HO.out));clear hj hv0;exact zCc
end
end Go.Proofs.YtdmmebjjojimiaaGreatDoor
