/- package cnf: Any, All.; slices.IndexFunc, ContainsFunc at rows of structs. Printed by gen_idxf.py. -/
import Derived.Test.YtdmmebjjojimiaaGreatDoorG22
set_option maxRecDepth 100000
set_option maxHeartbeats 8000000
set_option linter.all false
namespace Go.Proofs
theorem zAl{p:Prop}(h:p:=by exact qL _ _):p:=h
theorem zCk{p:Prop}(h:p:=by
 go_wp2_with fail
 go_roundw
 case rel=>exact⟨i+1,by first|rfl|go_num,by omega,HF⟩
 case measure=>simp[RowKit.intOf]<;>omega):p:=h
end Go.Proofs
namespace Go.Proofs.YtdmmebjjojimiaaGreatDoor
open Go.RowKit
section
variable {w wr:World} {g:Tag} {b:Nat} {V:Tj} {B:kD}
def Ib(w:World)(g:Tag)(b:Nat)(B:kD)(wr:World)(v:Value)(xs:List Int):Prop:=
 ∃g' V',jL wr g' b V' B/\Agree w g g'/\Only (Mine g) w wr/\wr.ownsRow 0 3 1 v xs.length (xs.map cI)/\∀k,v.ownBlock=some k->¬Mine g' k/\w.heap.size<=k
theorem Ib.Fb{v:Value}{xs:List Int}(h:Ib w g b B wr v xs):gG w g b B wr:=by obtain⟨g',V',H,A,O,-,-⟩:=h;exact⟨g',V',H,A,O⟩
theorem Ib.add{v:Value}{xs:List Int}{g':Tag}{V':Tj}(H:jL wr g' b V' B)(A:Agree w g g')(O:Only (Mine g) w wr)(R:wr.ownsRow 0 3 1 v xs.length (xs.map cI))(N:∀k,v.ownBlock=some k->¬Mine g' k/\w.heap.size<=k){B2:kD}{w2 w3:World}(o:O0 wr w2)(h2:gG w2 g' b B2 w3):Ib w g b B2 w3 v xs:=by obtain⟨g2,V2,H2,A2,O2⟩:=gG.after o h2;refine⟨g2,V2,H2,A.trans A2 O.size,O.mine A O2,aG R O2 (fun k hk=>(N k hk).1),fun k hk=>⟨?_,(N k hk).2⟩⟩;have hlt:=dP R hk;have:=(N k hk).1;unfold Mine at this⊢;rwa[A2 k hlt]
theorem Ib.app{v v':Value}{xs:List Int}(h:Ib w g b B wr v xs){w3 w4:World}(o3:O0 wr w3){z:Int}(r:w4.ownsRow 0 3 1 v' (xs.length+1) (xs.map cI++[cI z]))(o:Only (fun k=>v.ownBlock=some k) w3 w4)(a:AB w3 v v' (xs.length+1)):Ib w g b B w4 v' (xs++[z]):=by
 obtain⟨g',V',H,A,O,R,N⟩:=h;have o4:Only (fun k=>v.ownBlock=some k) wr w4:=(o3.mono fun _ f=>f.elim).same o;refine⟨g',V',H.only o4 (fun k hk hv=>(N k hv).1 hk),A,O.trans o4 fun k hk=>.inr (N k hk).2,by simpa using r,fun k hk=>?_⟩;obtain⟨gg,cap,rfl,-,-,hg⟩:=a;simp[Value.ownBlock]at hk;subst hk;rcases hg with hg|hg;·exact N gg hg
 have h3:=o3.size;have h4:=O.size;exact⟨by unfold Mine;rw[H.fresh gg zAB];simp,by omega⟩
theorem afK(H:jL w g b V B){v:Value}{xs:List Int}(hI:Ints w v xs)(hN:wY g v xs)(x:Int)(hx: -1000000<=x/\x<=1000000)(hs:∀z∈xs,-1000000<=z/\z<=1000000)(hl:xs.length<=1000000):Calls Tryz.prog 360 #[.pointer (some ⟨b,0,none⟩),.int .i64 x,v] w fun e w'=>e= .returned (.tuple #[])/\gG w g b (B.adds (Hw x xs)) w':=by
 obtain⟨ao,cap,rfl,hc1,hc2⟩:=hI.shape;obtain⟨n,hn⟩:=ze xs.length;have HN:=zh hn;rw[hn]at hc1 hl hI hN⊢;have HI:=zh hI;have MS:=zh hN;have HS:=zh hs;have H0:=zh H;have ewx:=zw (-x);have xg:Hid (∀W,O0 w W->∀ad,ao=some ad->∀j u,(xs.map cI)[j]? =some u->W.cell? (ad.add j)=some u):=fun W hW=>(HI.out.aH hW).news;have Fh:Hid (ao=none->n=0/\cap=0):=fun e=>HI.out.nil n cap zBs;have HLen:Hid ((xs.map cI).length=n):=by rw[qM,HN.out];exact rfl
 have qj:Hid (∀W v2,O0 w W->W.ownsRow 0 3 1 v2 (1+n) ([cI (-x)]++xs.map cI)->Calls Tryz.prog 153 #[.pointer (some ⟨b,0,none⟩),v2] W fun e w'=>e= .returned (.tuple #[])/\gG w g b (B.add (-x::xs)) w'):=fun W v2 hW hown=>by
  have hI2:Ints W v2 (-x::xs):=by
   refine Ints.dV ?_ fun z hz=>?_
   ·have e1:1+n=(-x::xs).length:=by rw[qN,HN.out];omega
    rw[e1]at hown;simpa using hown
   exact zFL
  exact(BQ (H0.out.aH hW) hI2 (by rw[qN,HN.out];omega)).mono fun e w' ⟨he,h⟩=>⟨he,gG.after hW h⟩
 clear hI hN hs hn H;go_enter Tryz.func360,Tryz.ntmps360;go_wp2_with (at_builtin;go_must (refine akt lY (v:=.slice (some ⟨w.heap.size,0,none⟩) 1 1) (n:=1) (xs:=[cI (-x)]) (ao:=ao) (m:=n) (c:=cap) (news:=xs.map cI) rfl (.tmp 11) (.tmp 12) rfl rfl (ug zB1) rfl HLen.out Fh.out (xg.out _ (zr.alloc _)) (SL _) zAB zBV ?_));intro v2 w2 r2 o2 n2;have O2:O0 w w2:=Only.trans (zr.alloc _) o2 (fun k hk=>.inr (by simp[Value.ownBlock]at hk;omega));have HA2:=zh (qj.out w2 v2 O2 r2);obtain⟨a2,c2,rfl,-,-⟩:=aJ r2;clear r2 o2 n2 O2 ewx;go_wp2_with fail;refine HA2.out.mono ?_;rintro e w3 ⟨rfl,h3⟩;have H3:Hid (gG w g b ((B.add (-x::xs)).adds ((xs.map fun y=>[-y,x]).take 0)) w3):=h3;clear h3 HA2 xg Fh HLen qj;go_wp2_with fail;go_loopw [17] (fun vi wr=> ∃i:Nat,vi= .int .i64 i/\i<=n/\Hid (gG w g b ((B.add (-x::xs)).adds ((xs.map fun y=>[-y,x]).take i)) wr)) (fun v _=>n-(RowKit.intOf v).toNat);case atStart=>exact⟨0,rfl,qE _,H3⟩
 case round=>
  clear H3;obtain⟨i,rfl,hi,HR⟩:=hrel;by_cases ci:i<n
  ·obtain⟨g1,V1,H1,A1,O1⟩:=HR.out;have hI1:=HI.out.mine MS.out O1;have hi2:i<xs.length:=zAT;obtain⟨bb,off,rfl,hcell⟩:=hI1.Fg hi2;obtain⟨y,hy⟩:=ze (xs.getD i 0);have hyb:=HS.out y (by rw[<-hy];exact mW 0 hi2);rw[hy]at hcell;have iG:=zw (i+1);have ewy:=zw (-y);have hpk:(xs.map fun y=>[-y,x]).take (i+1)=(xs.map fun y=>[-y,x]).take i++[[-y,x]]:=by
    rw[yL (by simpa using hi2),List.getElem_map];have hk2:xs[i]'hi2=y:=by rw[<-hy,qC,qA hi2];rfl
    rw[hk2]
   have HAdd:=zh (BQ (H1.aH ((Only.refl (fun _=>False) wr).alloc (.cells #[.int .i64 (-y),.int .i64 x] 3))) (wR wr (-y) x ⟨by omega,by omega⟩ ⟨by omega,by omega⟩) zAF);have HFin:Hid (∀w',gG (wr.alloc (.cells #[.int .i64 (-y),.int .i64 x] 3)) g1 b (((B.add (-x::xs)).adds ((xs.map fun y=>[-y,x]).take i)).add [-y,x]) w'->gG w g b ((B.add (-x::xs)).adds ((xs.map fun y=>[-y,x]).take (i+1))) w'):=fun w' h=>by exact zEr
   have JH:=zh iG;clear hpk hy H1 A1 O1 iG hI1;go_wp2_with fail;refine HAdd.out.mono ?_;rintro e w4 ⟨rfl,h4⟩;have HF:=zh (HFin.out w4 h4);have iG:=JH.out;clear h4 ewy;exact zCk
  obtain rfl:n=i:=by omega
  go_wp2_with fail;go_end0;refine⟨rfl,?_⟩;have:=HR.out;rw[qI zBP]at this;exact this
theorem afL(H:jL w g b V B){v:Value}{xs:List Int}(hI:Ints w v xs)(hN:wY g v xs)(x:Int)(hx: -1000000<=x/\x<=1000000)(hs:∀z∈xs,-1000000<=z/\z<=1000000)(hl:xs.length<=1000000):Calls Tryz.prog 228 #[.pointer (some ⟨b,0,none⟩),.int .i64 x,v] w fun e w'=>e= .returned (.tuple #[])/\gG w g b (B.adds (nC x xs)) w':=by
 obtain⟨ao,cap,rfl,hc1,hc2⟩:=hI.shape;obtain⟨n,hn⟩:=ze xs.length;have HN:=zh hn;rw[hn]at hc1 hl hI hN⊢;have HI:=zh hI;have MS:=zh hN;have HS:=zh hs;have ewx:=zw (-x);have HW0:Hid (Ib w g b (B.adds ((xs.map fun y=>[-x,y]).take 0)) (w.alloc (.cells #[.int .i64 x] 3)) (.slice (some ⟨w.heap.size,0,none⟩) 1 1) (x::(xs.take 0).map fun y=> -y)):=
  ⟨g,V,H.aH (zr.alloc _),Agree.refl _ _,zr.alloc _,ug zAl,fun k hk=>by
   simp[Value.ownBlock]at hk
   subst hk
   exact⟨by unfold Mine;rw[H.fresh _ (qH _)];simp,qH _⟩⟩
 clear hI hN hs hn H;go_enter Tryz.func228,Tryz.ntmps228;go_wp2_with fail;go_loopw [6,13] (fun v6 vi wr=> ∃i:Nat,vi= .int .i64 i/\i<=n/\Hid (Ib w g b (B.adds ((xs.map fun y=>[-x,y]).take i)) wr v6 (x::(xs.take i).map fun y=> -y))) (fun _ v _=>n-(RowKit.intOf v).toNat);case atStart=>exact⟨0,rfl,qE _,HW0⟩
 case round=>
  clear HW0;obtain⟨i,rfl,hi,HR⟩:=hrel;by_cases ci:i<n
  ·obtain⟨g1,V1,H1,A1,O1,R1,N1⟩:=HR.out;have hI1:=HI.out.mine MS.out O1;have hi2:i<xs.length:=zAT;obtain⟨bb,off,rfl,hcell⟩:=hI1.Fg hi2;obtain⟨y,hy⟩:=ze (xs.getD i 0);have hyb:=HS.out y (by rw[<-hy];exact mW 0 hi2);rw[hy]at hcell;have hk2:xs[i]'hi2=y:=by rw[<-hy,qC,qA hi2];rfl
   have iG:=zw (i+1);have ewy:=zw (-y);have hpk:(xs.map fun y=>[-x,y]).take (i+1)=(xs.map fun y=>[-x,y]).take i++[[-x,y]]:=by rw[yL (by simpa using hi2),List.getElem_map,hk2]
   obtain⟨m,hm⟩:∃m,(x::(xs.take i).map fun y=> -y).length=m:=⟨_,rfl⟩;have hmi:m=i+1:=by rw[<-hm];simp;omega
   have aln:Hid (x::(xs.take (i+1)).map (fun y=> -y)=(x::(xs.take i).map fun y=> -y)++[-y]):=by show _=_;rw[yL hi2,hk2,List.map_append];rfl
   obtain⟨L,hL⟩:∃L,(x::(xs.take i).map fun y=> -y)=L:=⟨_,rfl⟩;rw[hL]at R1 aln HR hm;have HAdd:=zh (BQ (H1.aH ((Only.refl (fun _=>False) wr).alloc (.cells #[.int .i64 (-x),.int .i64 y] 3))) (wR wr (-x) y ⟨by omega,by omega⟩ ⟨by omega,by omega⟩) zAF);have HFin:Hid (∀w',gG (wr.alloc (.cells #[.int .i64 (-x),.int .i64 y] 3)) g1 b ((B.adds ((xs.map fun y=>[-x,y]).take i)).add [-x,y]) w'->Ib w g b (B.adds ((xs.map fun y=>[-x,y]).take (i+1))) w' u6 L):=fun w' h=>by rw[hpk,kD.vY,kD.AY];exact Ib.add H1 A1 O1 R1 N1 ((Only.refl _ wr).alloc _) h
   have JH:=zh iG;have jk:=zh ewy;obtain⟨au,cu,hu,-,-⟩:=aJ R1;subst hu;have HM:=zh hm;clear hpk hy H1 A1 O1 iG ewy hI1 R1 N1 hL hk2 hm;go_wp2_with fail;refine HAdd.out.mono ?_;rintro e w4 ⟨rfl,h4⟩;have HF:=zh (HFin.out w4 h4);have ewy:=jk.out;have hown:w4.ownsRow 0 3 1 (.slice au L.length cu) L.length (L.map cI):=by obtain⟨_,_,_,_,_,R,_⟩:=HF.out;exact R
   have rG:=zh hown;clear h4 HAdd HFin hown HR;go_wp2_with (at_builtin;go_must (refine AL (u:=.int .i64 (-y)) lY rfl (.tmp 23) (.tmp 26) rfl rfl rfl (cell_new0 _ _ _) rfl (aG rG.out ((Only.refl (fun _=>False) _).alloc _) (fun _ _ f=>f)) (by have:=HM.out;omega) zAD ?_));intro v' w6 s1 s2 s3;have Du:Hid (Ib w g b (B.adds ((xs.map fun y=>[-x,y]).take (i+1))) w6 v' (x::(xs.take (i+1)).map fun y=> -y)):=by rw[aln.out];exact Ib.app HF.out ((Only.refl (fun _=>False) w4).alloc _) s1 s2 s3
   obtain⟨g6,c6',rfl,-,-,-⟩:=s3;have iG:=JH.out;clear s1 s2 rG HF ewy;go_wp2_with fail;go_roundw;case rel=>exact⟨i+1,by first|rfl|go_num,by omega,Du⟩
   case measure=>simp[RowKit.intOf]<;>omega
  obtain rfl:n=i:=by omega
  obtain⟨g1,V1,H1,A1,O1,R1,N1⟩:=HR.out;have hI6:Ints wr u6 (x::(xs.take n).map fun y=> -y):=Ints.dV R1 fun z hz=>by
   rcases qY.1 hz with rfl|hz;·exact zCx
   obtain⟨y,hy,rfl⟩:=yD.1 hz;have:=HS.out y (List.mem_of_mem_take hy);exact zCx
  have HAdd:=zh (BQ H1 hI6 zAU);have HFin:Hid (∀w',gG wr g1 b ((B.adds ((xs.map fun y=>[-x,y]).take n)).add (x::(xs.take n).map fun y=> -y)) w'->gG w g b (B.adds (nC x xs)) w'):=fun w' h=>by
   have e1:B.adds (nC x xs)=(B.adds ((xs.map fun y=>[-x,y]).take n)).add (x::(xs.take n).map fun y=> -y):=by rw[qI zBP,qI (by rw[HN.out];exact qH _)];unfold nC;rw[kD.vY,kD.AY]
   rw[e1];exact gG.trans A1 O1 h
  obtain⟨au,cu,hu,-,-⟩:=aJ R1;subst hu;obtain⟨m,hm⟩:∃m,(x::(xs.take n).map fun y=> -y).length=m:=⟨_,rfl⟩;rw[hm]at HAdd⊢;clear R1 N1 H1 A1 O1 hI6 HR hm;go_wp2_with fail;refine HAdd.out.mono ?_;rintro e w4 ⟨rfl,h4⟩;have HF:=zh (HFin.out w4 h4);clear h4;go_wp2_with fail;go_end0;exact⟨rfl,HF.out⟩
end
end Go.Proofs.YtdmmebjjojimiaaGreatDoor
namespace Go.Proofs.YtdmmebjjojimiaaGreatDoor
open Go.RowKit Go.Shelf
section
variable {w w':World} {B:Nat}
theorem UC{v:Value}{xs:List jm}(h:aQ 2 eY B w v xs){g:Nat}{cb:Array Value}{p:jm->Bool}(eg:∀args w,(callFunc g args).run Tryz.prog w= .ok (.enter g args) w)(hp:wZ eY B g cb p w):Calls Tryz.prog 374 #[v,.func (.func g) #[] cb] w fun e w'=>e= .returned (.int .i64 (kR p xs))/\O0 w w':=by
 obtain⟨ao,cap,rfl,hc1,hc2⟩:=h.shape;have HH:=zh h;have Jm:=zh hp;obtain⟨n,hn⟩:=ze xs.length;have HN:=zh hn;rw[hn]at hc1⊢;clear h hp hn;go_enter Tryz.func374,Tryz.ntmps374;go_wp2_with fail;go_loopw [5,8] (fun _ vi wr=>Hid (O0 w wr)/\∃i:Nat,vi= .int .i64 i/\i<=n/\Hid (∀x∈xs.take i,p x=false)) (fun _ v _=>n-(intOf v).toNat);case atStart=>exact⟨show Hid _ from Only.refl _ _,0,rfl,qE _,show Hid _ from fun x hx=>by simp at hx⟩
 case round=>
  obtain⟨HO,i,rfl,hi,HZ⟩:=hrel;by_cases ci:i<n
  ·have h2:=HH.out;rw[HN.out]at h2;obtain⟨b,off,he,-,-⟩:=h2.at zAi;subst he;obtain⟨x,hx⟩:=zG xs i zAT;obtain⟨cs,hl,hr,hC⟩:=(h2.keep eY.keep (Kp.gV HO.out)).get hx;have iG:=zw (i+1);have HR:=zh hr;have HL:=zh hl;have HX:=zh hx;have HC:=zh (Jm.out wr cs x HO.out hC);obtain⟨y,hy⟩:=ze (p x);rw[hy]at HC;have HY:=zh hy;clear hr hx hy h2 hl hC;cases y with
   |true=>go_wp2_with (refine wpList_load_mid rfl 128 (.tmp 14) rfl b (off+i*2) rfl cs _ HR.out Tryz.underlying128 rfl zAg ?_);exact zCE
   |false=>go_wp2_with (refine wpList_load_mid rfl 128 (.tmp 14) rfl b (off+i*2) rfl cs _ HR.out Tryz.underlying128 rfl zAg ?_);exact zB3
  exact zCB
theorem Lu{v:Value}{xs:List jm}(h:aQ 2 eY B w v xs){g:Nat}{cb:Array Value}{p:jm->Bool}(eg:∀args w,(callFunc g args).run Tryz.prog w= .ok (.enter g args) w)(hp:wZ eY B g cb p w)(r:Bool)(hr:decide (0<=kR p xs)=r):Calls Tryz.prog 340 #[v,.func (.func g) #[] cb] w fun e w'=>e= .returned (.bool r)/\O0 w w':=by have H:=zh (UC h eg hp);obtain⟨i,hi⟩:=ze (kR p xs);rw[hi]at H hr;clear h hp hi;go_enter Tryz.func340,Tryz.ntmps340;go_wp2_with fail;refine H.out.mono ?_;rintro e w1 ⟨rfl,O1⟩;go_wp2_with fail;go_ret;refine⟨?_,O1⟩;first|rfl| (rw[<-hr];rfl)| (rw[<-hr];simp)|simp
end
end Go.Proofs.YtdmmebjjojimiaaGreatDoor
namespace Go.Proofs
theorem zAc{p:Prop}(h:p:=by rw[<-hW0];exact zr.alloc _):p:=h
theorem zAj{p:Prop}(h:p:=by rw[<-hW0];exact qL _ _):p:=h
theorem zC3{p:Prop}(h:p:=by
 go_wp2_with fail
 go_ret
 exact⟨rfl,iZ.out.same aW.out⟩):p:=h
theorem zDb{p:Prop}(h:p:=by
 have c0:=aC hb0 o (fun f=>f)
 exact⟨by rw[aj c0];rfl,by rw[aj c0];rfl⟩):p:=h
theorem zEJ{p:Prop}(h:p:=by
 go_wp2_with fail
 go_ret
 exact⟨rfl,iZ.out.same iO.out⟩):p:=h
theorem zEg{p:Prop}(h:p:=by
 subst hr
 go_wp2_with fail
 go_ret
 exact⟨by first|rfl|simp[hd],Only.refl _ _⟩):p:=h
end Go.Proofs
namespace Go.Proofs.YtdmmebjjojimiaaGreatDoor
open Go.RowKit
section
variable {w w':World} {B:Nat}
theorem LC:ByteArray.empty.toList=[]:=by rw[ByteArray.toList_eq];rfl
theorem nD{s:Str}:s.toList=[]↔s=ByteArray.empty:=
 ⟨fun h=>toList_inj (by rw[h,LC]),fun h=>by rw[h,LC]⟩
theorem Y2(s:Str)(hs:okS s)(hL:Laid w)(r:Bool)(hr:Hu s=r):Calls Tryz.prog 405 #[.string s] w (fun e w'=>e= .returned (.bool r)/\O0 w w'):=by
 have HM:=zh (ac8 s hs hL (wW s.toList) rfl);obtain⟨m,hm⟩:=ze (wW s.toList);rw[hm]at HM;unfold Hu at hr;rw[hm]at hr;obtain⟨z,hz⟩:∃z,decide (s=ByteArray.empty)=z:=⟨_,rfl⟩;rw[hz]at hr;clear hm hL hs;go_enter Tryz.func405,Tryz.ntmps405;cases z with
 |true=>have hd:s.toList=[]:=nD.2 (of_decide_eq_true hz);clear hz;rw[Bool.true_or]at hr;exact zEg
 |false=>have hd:¬s.toList=[]:=fun h=>of_decide_eq_false hz (nD.1 h);clear hz;rw[Bool.false_or]at hr;subst hr;go_wp2_with fail;refine HM.out.mono ?_;rintro e w1 ⟨rfl,O1⟩;go_wp2_with fail;go_ret;exact⟨by first|rfl|simp[hd],O1⟩
theorem QM(a b:Str)(ha:okS a)(hb:okS b)(hL:Laid w)(r:Bool)(hr:Bv a b=r):Calls Tryz.prog 376 #[.string a,.string b] w (fun e w'=>e= .returned (.bool r)/\O0 w w'):=by
 have HM:=zh (aai a b ha hb hL);obtain⟨m,hm⟩:=ze (acT a.toList b.toList);rw[hm]at HM;unfold Bv at hr;rw[hm]at hr;obtain⟨z,hz⟩:∃z,decide (a=ByteArray.empty)=z:=⟨_,rfl⟩;obtain⟨y,hy⟩:∃y,decide (b=ByteArray.empty)=y:=⟨_,rfl⟩;rw[hz,hy]at hr;clear hm hL ha hb;go_enter Tryz.func376,Tryz.ntmps376;cases z with
 |true=>have hd:a.toList=[]:=nD.2 (of_decide_eq_true hz);clear hz hy;simp only[Bool.not_true,yQ]at hr;exact zEg
 |false=>
  have hd:¬a.toList=[]:=fun h=>of_decide_eq_false hz (nD.1 h);clear hz;cases y with
  |true=>have hd':b.toList=[]:=nD.2 (of_decide_eq_true hy);clear hy;simp only[Bool.not_true,Bool.and_false,yQ]at hr;subst hr;go_wp2_with fail;go_ret;exact⟨by first|rfl|simp[hd,hd'],Only.refl _ _⟩
  |false=>have hd':¬b.toList=[]:=fun h=>of_decide_eq_false hy (nD.1 h);clear hy;simp only[Bool.not_false,yR]at hr;go_wp2_with fail;refine HM.out.mono ?_;rintro e w1 ⟨rfl,O1⟩;subst hr;go_wp2_with fail;go_ret;exact⟨by first|rfl|simp[hd,hd'],O1⟩
theorem aif(s:jm)(hl:okS s.lo)(hh:okS s.hi)(hL:Laid w)(r:Bool)(hr:QB s=r):Calls Tryz.prog 375 #[.agg #[.string s.lo,.string s.hi]] w (fun e w'=>e= .returned (.bool r)/\O0 w w'):=by
 obtain⟨W0,hW0⟩:=ze (w.alloc (.cells #[.string s.lo,.string s.hi] 128));have hb0:W0.heap[w.heap.size]? =some (.cells #[.string s.lo,.string s.hi] 128 (0,0)):=zAj;have iZ:Hid (O0 w W0):=zAc;have aU:Hid (∀W,O0 W0 W->W.cell? ⟨w.heap.size,0,none⟩=some (.string s.lo)/\W.cell? ⟨w.heap.size,1,none⟩=some (.string s.hi)):=fun W o=>by exact zDb
 obtain⟨r1,hr1⟩:=ze (Hu s.lo);obtain⟨r2,hr2⟩:=ze (Hu s.hi);obtain⟨r3,hr3⟩:=ze (Bv s.hi s.lo);have H1:Hid (∀W,O0 W0 W->Calls Tryz.prog 405 #[.string s.lo] W (fun e w'=>e= .returned (.bool r1)/\O0 W w')):=fun W o=>Y2 s.lo hl ((hL.only iZ.out).only o) r1 hr1;have H2:Hid (∀W,O0 W0 W->Calls Tryz.prog 405 #[.string s.hi] W (fun e w'=>e= .returned (.bool r2)/\O0 W w')):=fun W o=>Y2 s.hi hh ((hL.only iZ.out).only o) r2 hr2;have H3:Hid (∀W,O0 W0 W->Calls Tryz.prog 376 #[.string s.hi,.string s.lo] W (fun e w'=>e= .returned (.bool r3)/\O0 W w')):=fun W o=>QM s.hi s.lo hh hl ((hL.only iZ.out).only o) r3 hr3;unfold QB at hr;rw[hr1,hr2,hr3]at hr;obtain⟨k0,k1⟩:=aU.out W0 zr;clear hb0 hr1 hr2 hr3 hL hl hh;go_enter Tryz.func375,Tryz.ntmps375;go_wp2_with fail;try rw[hW0]
 clear hW0;refine(H1.out W0 zr).mono ?_;rintro e w1 ⟨rfl,O1⟩;have aW:=zh O1;obtain⟨k0,k1⟩:=aU.out w1 O1;clear O1;cases r1 with
 |false=>simp only[yQ]at hr;subst hr;exact zC3
 |true=>
  go_wp2_with fail;refine(H2.out w1 aW.out).mono ?_;rintro e w2 ⟨rfl,O2⟩;have iO:=zh (aW.out.same O2);obtain⟨k0,k1⟩:=aU.out w2 iO.out;clear O2;cases r2 with
  |false=>simp only[yR,yQ]at hr;subst hr;exact zEJ
  |true=>go_wp2_with fail;refine(H3.out w2 iO.out).mono ?_;rintro e w3 ⟨rfl,O3⟩;have uw:=zh (iO.out.same O3);clear O3;simp only[yR]at hr;subst hr;go_wp2_with fail;go_ret;exact⟨rfl,iZ.out.same uw.out⟩
theorem aii(s:jm)(v:Str)(hl:okS s.lo)(hh:okS s.hi)(hv:okS v)(hL:Laid w)(r:Bool)(hr:xA s v=r):Calls Tryz.prog 342 #[.agg #[.string s.lo,.string s.hi],.string v] w (fun e w'=>e= .returned (.bool r)/\O0 w w'):=by
 obtain⟨W0,hW0⟩:=ze (w.alloc (.cells #[.string s.lo,.string s.hi] 128));have hb0:W0.heap[w.heap.size]? =some (.cells #[.string s.lo,.string s.hi] 128 (0,0)):=zAj;have iZ:Hid (O0 w W0):=zAc;have aU:Hid (∀W,O0 W0 W->W.cell? ⟨w.heap.size,0,none⟩=some (.string s.lo)/\W.cell? ⟨w.heap.size,1,none⟩=some (.string s.hi)):=fun W o=>by exact zDb
 obtain⟨r1,hr1⟩:=ze (QB s);obtain⟨r2,hr2⟩:=ze (wW v.toList);obtain⟨r3,hr3⟩:=ze (Bv v s.lo);obtain⟨r4,hr4⟩:=ze (Bv s.hi v);have H1:Hid (∀W,O0 W0 W->Calls Tryz.prog 375 #[.agg #[.string s.lo,.string s.hi]] W (fun e w'=>e= .returned (.bool r1)/\O0 W w')):=fun W o=>aif s hl hh ((hL.only iZ.out).only o) r1 hr1;have H2:Hid (∀W,O0 W0 W->Calls Tryz.prog 259 #[.string v] W (fun e w'=>e= .returned (.bool r2)/\O0 W w')):=fun W o=>ac8 v hv ((hL.only iZ.out).only o) r2 hr2;have H3:Hid (∀W,O0 W0 W->Calls Tryz.prog 376 #[.string v,.string s.lo] W (fun e w'=>e= .returned (.bool r3)/\O0 W w')):=fun W o=>QM v s.lo hv hl ((hL.only iZ.out).only o) r3 hr3;have H4:Hid (∀W,O0 W0 W->Calls Tryz.prog 376 #[.string s.hi,.string v] W (fun e w'=>e= .returned (.bool r4)/\O0 W w')):=fun W o=>QM s.hi v hh hv ((hL.only iZ.out).only o) r4 hr4;unfold xA at hr;rw[hr1,hr2,hr3,hr4]at hr;obtain⟨k0,k1⟩:=aU.out W0 zr;clear hb0 hr1 hr2 hr3 hr4 hL hl hh hv;go_enter Tryz.func342,Tryz.ntmps342;go_wp2_with fail;try rw[hW0]
 clear hW0;refine(H1.out W0 zr).mono ?_;rintro e w1 ⟨rfl,O1⟩;have aW:=zh O1;obtain⟨k0,k1⟩:=aU.out w1 O1;clear O1;cases r1 with
 |false=>simp only[yQ]at hr;subst hr;exact zC3
 |true=>
  go_wp2_with fail;refine(H2.out w1 aW.out).mono ?_;rintro e w2 ⟨rfl,O2⟩;have iO:=zh (aW.out.same O2);obtain⟨k0,k1⟩:=aU.out w2 iO.out;clear O2;cases r2 with
  |false=>simp only[yR,yQ]at hr;subst hr;exact zEJ
  |true=>
   go_wp2_with fail;refine(H3.out w2 iO.out).mono ?_;rintro e w3 ⟨rfl,O3⟩;have uw:=zh (iO.out.same O3);obtain⟨k0,k1⟩:=aU.out w3 uw.out;clear O3;cases r3 with
   |true=>simp only[yR,Bool.not_true,yQ]at hr;subst hr;go_wp2_with fail;go_ret;exact⟨rfl,iZ.out.same uw.out⟩
   |false=>go_wp2_with fail;refine(H4.out w3 uw.out).mono ?_;rintro e w4 ⟨rfl,O4⟩;have KY:=zh (uw.out.same O4);clear O4;simp only[yR,Bool.not_false]at hr;subst hr;go_wp2_with fail;go_ret;exact⟨rfl,iZ.out.same KY.out⟩
theorem aij(v:Str)(hv:okS v)(gs:Nat)(hg:w.cell? ⟨gs,0,none⟩=some (.string v))(hL:Laid w):wZ eY B 341 #[.pointer (some ⟨gs,0,none⟩)] (fun s=>xA s v) w:=by
 intro W cs s hO hC;obtain⟨rfl,h1,h2⟩:=hC;have hlt:gs<w.heap.size:=World.block_lt_of_cell? _ _ hg;have hg2:W.cell? ⟨gs,0,none⟩=some (.string v):=by rw[World.cell?_of_block (w:=w) (hO.block gs hlt (fun f=>f))];exact hg
 obtain⟨W0,hW0⟩:=ze (W.alloc (.cells #[.string s.lo,.string s.hi] 128));have HB0:Hid (W0.heap[W.heap.size]? =some (.cells #[.string s.lo,.string s.hi] 128 (0,0))):=zAj;have iZ:Hid (O0 W W0):=zAc;have hg3:W0.cell? ⟨gs,0,none⟩=some (.string v):=aY hg2 iZ.out (fun f=>f);have k0:W0.cell? ⟨W.heap.size,0,none⟩=some (.string s.lo):=by rw[aj HB0.out];rfl
 have k1:W0.cell? ⟨W.heap.size,1,none⟩=some (.string s.hi):=by rw[aj HB0.out];rfl
 obtain⟨r,hr⟩:=ze (xA s v);show Calls _ _ _ _ (fun e w'=>e= .returned (.bool (xA s v))/\_);rw[hr];have H1:=zh (aii (w:=W0) s v h1 h2 hv ((hL.only hO).only iZ.out) r hr);clear hg hg2 hlt hr h1 h2 hv hL hO;go_enter Tryz.func341,Tryz.ntmps341;go_wp2_with fail;try rw[hW0]
 clear hW0;refine H1.out.mono ?_;rintro e w1 ⟨rfl,O1⟩;go_wp2_with fail;go_ret;exact⟨rfl,iZ.out.same O1⟩
theorem XA:∀args w,(callFunc 341 args).run Tryz.prog w= .ok (.enter 341 args) w:=enters_of Tryz.func341 zk rfl
theorem QN(l:List jm)(v:Str):decide (0<=kR (fun s=>xA s v) l)=uy l v:=by
 unfold uy kR;by_cases h:l.any (fun s=>xA s v)=true;·rw[if_pos h,h];simp
 rw[if_neg h,Bool.eq_false_iff.2 h];simp
theorem XB{vl:Value}{l:List jm}(hl:aQ 2 eY B w vl l)(v:Str)(hv:okS v)(hL:Laid w)(r:Bool)(hr:uy l v=r):Calls Tryz.prog 285 #[vl,.string v] w (fun e w'=>e= .returned (.bool r)/\O0 w w'):=by
 obtain⟨ao,cap,rfl,-,-⟩:=hl.shape;obtain⟨n,hn⟩:=ze l.length;rw[hn]at hl⊢;have H1:Hid (Calls Tryz.prog 340 #[.slice ao n cap,.func (.func 341) #[] #[.pointer (some ⟨w.heap.size,0,none⟩)]] (w.alloc (.cells #[.string v] 9)) fun e w'=>e= .returned (.bool r)/\O0 (w.alloc (.cells #[.string v] 9)) w'):=
  Lu (hl.keep eY.keep (Kp.gV (zr.alloc _))) XA (aij v hv _ (cell_new0 _ _ _) (hL.only (zr.alloc _))) r (by rw[QN];exact hr)
 clear hl hn hr hL;go_enter Tryz.func285,Tryz.ntmps285;go_wp2_with fail;refine H1.out.mono ?_;rintro e w1 ⟨rfl,O1⟩;go_wp2_with fail;go_ret;exact⟨rfl,((Only.refl _ w).alloc _).same O1⟩
end
end Go.Proofs.YtdmmebjjojimiaaGreatDoor
namespace Go.Proofs
theorem zDV{p:Prop}(h:p:=by
 go_wp2_with fail
 go_ret
 exact⟨rfl,HE.out⟩):p:=h
theorem zDr{p:Prop}(h:p:=by
 go_wp2_with fail
 go_roundw
 case rel=>exact⟨i+1,by first|rfl|go_num,by omega,kN⟩
 case measure=>simp[RowKit.intOf]<;>omega):p:=h
end Go.Proofs
namespace Go.Proofs.YtdmmebjjojimiaaGreatDoor
open Go.RowKit
theorem aik{i j:Nat}(h:hA i=hA j):i=j:=by simp[hA]at h;omega
theorem Pn{T:Tab}{f:Nat->Nat}{n:Nat}(hf:∀i j,i<n->j<n->f i=f j->i=j)(h:∀i,i<n->hA (f i)∈T.l):n<=T.l.length:=by
 have hn:((List.range n).map fun i=>hA (f i)).Nodup:=by rw[List.Nodup,List.pairwise_map];refine List.Pairwise.imp_of_mem ?_ (List.nodup_range (n:=n));intro a b ha hb hab e;exact hab (hf a b (yI.1 ha) (yI.1 hb) (aik e))
 have:=List.Nodup.length_le_of_subset hn (l₂:=T.l) (fun a ha=>by
  obtain⟨i,hi,rfl⟩:=yD.1 ha
  exact h i (yI.1 hi))
 simpa using this
theorem LD{T:Tab}(hi:gu T)(hlen:T.l.length<=65536):T.helps<=qB T/\(∀j,T.helps<=j->j<qB T->hA j∈T.l)/\hA (qB T)∉T.l/\qB T<=1000000:=by
 have h0:T.helps<=T.l.length:=Pn (f:=fun i=>i) (fun i j _ _ h=>h) hi;unfold qB;cases hf:(List.range (T.l.length+1)).find? fun j=>decide (hA (T.helps+j)∉T.l)with
 |none=>
  exfalso;rw[List.find?_eq_none]at hf;have:=Pn (T:=T) (f:=fun i=>T.helps+i) (n:=T.l.length+1) (fun i j _ _ h=>by have h:T.helps+i=T.helps+j:=h;omega) (fun i hi=>by
   have:=hf i (yI.2 hi)
   simpa using this)
  omega
 |some j=>obtain⟨h1,h2,h3⟩:=List.find?_range_eq_some.1 hf;have h2':=yI.1 h2;simp only[Option.getD_some];refine⟨by omega,fun i h4 h5=>?_,by simpa using h1,by omega⟩;have:=h3 (i-T.helps) zAB;rw[show T.helps+(i-T.helps)=i by omega]at this;simpa using this
theorem gu.help{S:TB}(h:gu S.1)(hlen:S.1.l.length<=65536):gu S.help.1.1:=by
 obtain⟨h1,h2,h3,h4⟩:=LD h hlen;unfold TB.help;refine gu.num (T:={S.1 with helps:=qB S.1}) (fun j hj=>?_) _;have hj:j<qB S.1:=hj;show hA j∈S.1.l;rcases yK j S.1.helps with hlt|hge;·exact h j hlt
 exact h2 j hge hj
theorem TB.ail{S:TB}(h:S.1.Ok):0<=S.help.2/\S.help.2<=65536:=(Tab.ql (T:={S.1 with helps:=qB S.1}) ⟨h.lim,h.len⟩ _).2
theorem TB.sF(S:TB)(l:List At)(a:At):S.nums (l++[a])=(((S.nums l).1.num a).1,(S.nums l).2++[((S.nums l).1.num a).2]):=by unfold TB.nums TB.num;rw[Tab.sF]
def pF(p:Nat)(aX:List lV)(l:List jm)(i:Nat):List At:=((List.range i).filter fun i=>uy l (aX.getD i default).version).map (kF p)
theorem aao{p:Nat}{aX:List lV}{l:List jm}{i:Nat}(h:uy l (aX.getD i default).version=true):pF p aX l (i+1)=pF p aX l i++[kF p i]:=by unfold pF;rw[List.range_succ,List.filter_append];rw[qC]at h;simp[h]
theorem ac9{p:Nat}{aX:List lV}{l:List jm}{i:Nat}(h:uy l (aX.getD i default).version=false):pF p aX l (i+1)=pF p aX l i:=by unfold pF;rw[List.range_succ,List.filter_append];rw[qC]at h;simp[h]
theorem Po(p:Nat)(aX:List lV)(l:List jm)(i:Nat):(pF p aX l i).length<=i:=by unfold pF;rw[qM];exact qR (yO _ _) zAF
section
variable {w w':World} {gt gb gp:Tag} {c bt bb:Nat} {G:GL} {Bs:Nat} {D:xC} {S:TB} {X:MW} {E:ES}
theorem xP.ok(H:xP w gt gb c bt bb G Bs D S):S.1.Ok:=by obtain⟨V,hV⟩:=H.gr.tab;exact⟨hV.lim,hV.len⟩
theorem xP.len(H:xP w gt gb c bt bb G Bs D S):S.1.l.length<=65536:=by have h:=H.ok;have:=h.lim;have:=h.len;omega
theorem alo(H:xP w gt gb c bt bb G Bs D S){v:Value}{xs:List Int}(hI:Ints w v xs)(hN:CO gt gb v xs)(x:Int)(hx: -1000000<=x/\x<=1000000)(hs:∀z∈xs,-1000000<=z/\z<=1000000)(hl:xs.length<=1000000):Calls Tryz.prog 360 #[.pointer (some ⟨bb,0,none⟩),.int .i64 x,v] w fun e w'=>e= .returned (.tuple #[])/\aZ w gt gb c bt bb G Bs D (S.1,S.2.adds (Hw x xs)) w':=by obtain⟨V,hV⟩:=H.gr.Fb;exact(afK hV hI hN.b x hx hs hl).mono fun e w' ⟨he,h⟩=>⟨he,H.step (S2:=(S.1,S.2.adds (Hw x xs))) (H.gr.step_b h) H.hinv⟩
theorem agU(H:xP w gt gb c bt bb G Bs D S){v:Value}{xs:List Int}(hI:Ints w v xs)(hN:CO gt gb v xs)(x:Int)(hx: -1000000<=x/\x<=1000000)(hs:∀z∈xs,-1000000<=z/\z<=1000000)(hl:xs.length<=1000000):Calls Tryz.prog 228 #[.pointer (some ⟨bb,0,none⟩),.int .i64 x,v] w fun e w'=>e= .returned (.tuple #[])/\aZ w gt gb c bt bb G Bs D (S.1,S.2.adds (nC x xs)) w':=by obtain⟨V,hV⟩:=H.gr.Fb;exact(afL hV hI hN.b x hx hs hl).mono fun e w' ⟨he,h⟩=>⟨he,H.step (S2:=(S.1,S.2.adds (nC x xs))) (H.gr.step_b h) H.hinv⟩
theorem ain(H:xP w gt gb c bt bb G Bs D S)(z:Int)(hz:S.help.2=z):Calls Tryz.prog 359 #[.pointer (some ⟨bt,0,none⟩)] w fun e w'=>e= .returned (.int .i64 z)/\aZ w gt gb c bt bb G Bs D S.help.1 w':=by obtain⟨V,hV⟩:=H.gr.tab;obtain⟨h1,h2,h3,h4⟩:=LD H.hinv H.len;exact(abU hV (qB S.1) h1 h2 h3 h4 z hz).mono fun e w' ⟨he,h⟩=>⟨he,H.step (S2:=S.help.1) (H.gr.abW h) (gu.help H.hinv H.len)⟩
theorem F5(u a:Value)(W:World):(Instr.field 25 (.agg #[u,a]) 0).run Tryz.prog W= .ok u W:=by unfold Instr.field;rw[Sem.run_bind,run_underlying Tryz.underlying25];simp[asAgg,part,isAgg]
theorem afM(u:Value)(W:World):(Instr.field 28 (.agg #[u]) 0).run Tryz.prog W= .ok u W:=by unfold Instr.field;rw[Sem.run_bind,run_underlying Tryz.underlying28];simp[asAgg,part,isAgg]
theorem xP.NT(H:xP w gt gb c bt bb G Bs D S):∃a1 c1 a2 c2,G.x1= .slice a1 D.x.packs.length c1/\G.x2= .slice a2 D.x.cO.length c2/\aQ 8 fQ Bs w (.slice a1 D.x.packs.length c1) D.x.packs/\aQ 3 lK Bs w (.slice a2 D.x.cO.length c2) D.x.cO:=by obtain⟨v1,v2,e12,h1,h2⟩:=H.Ef;simp only[List.cons.injEq,and_true]at e12;obtain⟨e1,e2⟩:=e12;obtain⟨a1,c1,e3,-,-⟩:=h1.shape;obtain⟨a2,c2,e4,-,-⟩:=h2.shape;rw[e3]at h1;rw[e4]at h2;exact⟨a1,c1,a2,c2,by rw[e1,e3],by rw[e2,e4],h1,h2⟩
theorem JI{a1:Option Addr}{c1:Nat}{x:aF}(h:aQ 8 fQ Bs w (.slice a1 x.packs.length c1) x.packs){p:Nat}(hp:p<x.packs.length):∃b off cs,a1=some ⟨b,off,none⟩/\w.rangeAt b (off+p*8) cs/\fQ Bs w cs (x.pack p)/\cs.length=8:=by
 obtain⟨b,off,rfl,-,-⟩:=h.at zAB;have hpx:x.packs[p]? =some (x.pack p):=by unfold aF.pack;rw[qC,qA hp];rfl
 obtain⟨cs,h1,h2,h3⟩:=h.get hpx;exact⟨b,off,cs,rfl,h2,h3,h1⟩
theorem alp(H:xP w gt gb c bt bb G Bs D S){p:Nat}(hp:p<D.x.packs.length)(hm:He D.x){vl:Value}{l:List jm}(hl:aQ 2 eY Bs w vl l)(z:Int)(hz:(S.set p (D.x.pack p).aX l).2=z):Calls Tryz.prog 310 #[.pointer (some ⟨c,0,none⟩),.int .i64 p,vl] w fun e w'=>e= .returned (.int .i64 z)/\aZ w gt gb c bt bb G Bs D (S.set p (D.x.pack p).aX l).1 w':=by
 have H0:=zh H;have HZ:=zh hz;obtain⟨S9,XC⟩:=ze ((S.set p (D.x.pack p).aX l).1);rw[XC];have HS9:=zh XC;obtain⟨avl,cvl,rfl,-,-⟩:=hl.shape;obtain⟨nl,hnl⟩:=ze l.length;rw[hnl]at hl⊢;obtain⟨a1,c1,a2,c2,En,F6,h1,-⟩:=H.NT;have Eo:=zh (jQ H.gr En F6);have hpk:=hm.packs;have hrl:=hm.aX _ (aF.iQ hp);obtain⟨b,off,cs,rfl,hr,hC,-⟩:=JI h1 hp;obtain⟨pk,ada⟩:=ze (D.x.pack p);rw[ada]at hC hrl HZ HS9;obtain⟨o1,o2,o3,o4,o5,o6,d1,d2,d3,d4,d5,d6,rfl,-,-,b1,-,-,-,-,-⟩:=hC.cells;obtain⟨n1,hn1⟩:=ze D.x.packs.length;obtain⟨n2,hn2⟩:=ze D.x.cO.length;obtain⟨nr,hnr⟩:=ze pk.aX.length;rw[hn1,hn2]at Eo;rw[hn1]at hp hpk;rw[hnr]at hr b1 hrl;have hbB:b<w.heap.size/\True:=⟨by
  obtain⟨b',off',e,hb1,hb2⟩:=h1.at zAB
  simp only[qG,qO,and_true]at e
  omega,trivial⟩
 have ZJ:=zh hnr;have OI:Hid (∀W,O0 w W->W.cell? ⟨b,off+p*8+2,none⟩=some (.slice o1 nr d1)):=fun W ho=>aY (hr 2 _ rfl) ho (fun f=>f);have HRl:Hid (∀W,Kp Bs w W->aQ 2 oh Bs W (.slice o1 nr d1) pk.aX):=fun W k=>b1.keep oh.keep k;have HSp:Hid (∀W,Kp Bs w W->aQ 2 eY Bs W (.slice avl nl cvl) l):=fun W k=>hl.keep eY.keep k;have HKp:Hid (∀W,Only (fun k=>Mine gt k\/Mine gb k) w W->Kp Bs w W):=fun W ho=>Kp.xE ho H.low;have GR:Hid (jy w gt gb c bt bb G Bs D (S.nums (pF p pk.aX l 0)).1 w dF (S.nums (pF p pk.aX l 0)).2):=jy.start H.le (aZ.refl H);clear XC H hz hl hnl h1 En F6 hm hr hC ada hn1 hn2 hnr b1 hbB;have hfld:=F5 (.slice (some ⟨b,off,none⟩) n1 c1) (.slice a2 n2 c2);go_enter Tryz.func310,Tryz.ntmps310;go_wp2_with fail;refine Eo.out.mono ?_;rintro e w1 ⟨rfl,O1⟩;have hcell:=OI.out w1 O1;have WQ:=zh (GR.out.aH O1);clear O1 Eo OI GR;go_wp2_with fail;go_loopw [7,19] (fun v7 vi wr=> ∃i:Nat,vi= .int .i64 i/\i<=nr/\Hid (jy w gt gb c bt bb G Bs D (S.nums (pF p pk.aX l i)).1 wr v7 (S.nums (pF p pk.aX l i)).2)) (fun _ v _=>nr-(RowKit.intOf v).toNat);case atStart=>exact⟨0,rfl,qE _,WQ⟩
 case round=>
  clear WQ hcell hfld;obtain⟨i,rfl,hi,iP⟩:=hrel;by_cases ci:i<nr
  ·obtain⟨S2,hS2⟩:=ze ((S.nums (pF p pk.aX l i)).1);obtain⟨zs,hzs⟩:=ze ((S.nums (pF p pk.aX l i)).2);have hzl:zs.length<=i:=by rw[<-hzs];show(S.1.nums _).2.length<=i;rw[Tab.jT];exact Po _ _ _ _
   rw[hS2,hzs]at iP;have hkp:=HKp.out wr iP.out.only;have hrow:=HRl.out wr hkp;rw[<-ZJ.out]at hrow;obtain⟨b2,off2,e2,hb2,-⟩:=hrow.at (by have:=ZJ.out;omega);subst e2;obtain⟨y,hy⟩:=zG pk.aX i (by rw[ZJ.out];exact ci);obtain⟨cs2,-,hr2,rfl,hv⟩:=hrow.get hy;have HR2:=zh hr2;have hgd:pk.aX.getD i default=y:=by rw[qC,hy];rfl
   have iG:=zw (i+1);obtain⟨wB,hwB⟩:=zB (wr.alloc (.cells #[.string y.version,.bool y.old] 130));have oB:O0 wr wB:=zA2;have hbx:wB.cell? ⟨wr.heap.size,0,none⟩=some (.string y.version):=by have b0:wB.heap[wr.heap.size]? =some (.cells #[.string y.version,.bool y.old] 130):=zA7;rw[aj b0];rfl
   have Y3:=zh (iP.out.aH oB);obtain⟨r,hrr⟩:=ze (uy l y.version);have Bc:Hid (Calls Tryz.prog 285 #[.slice avl nl cvl,.string y.version] wB (fun e w'=>e= .returned (.bool r)/\O0 wB w')):=by obtain⟨_,_,Hx,_⟩:=Y3.out;exact XB (HSp.out wB (HKp.out wB Y3.out.only)) y.version hv Hx.laid.now r hrr
   have JH:=zh iG;have lG:=zh hrr;have HGd:=zh hgd;have HS2:=zh hS2;have HZs:=zh hzs;obtain⟨au,cu,hu,-,-⟩:∃au cu,u7= .slice au zs.length cu/\zs.length<=cu/\cu<=maxLen:=aJ iP.out.own;subst hu;clear hrow hy hr2 hgd iG hrr hS2 hzs hv oB iP hkp;go_wp2_with (refine wpList_load_mid rfl 130 (.tmp 22) rfl b2 (off2+i*2) rfl _ _ HR2.out Tryz.underlying130 rfl zk ?_);rw[<-hwB];clear hwB;refine Bc.out.mono ?_;rintro e w2 ⟨rfl,O2⟩;have Du:=zh (Y3.out.aH O2);clear O2 Bc Y3 hbx;cases r with
   |false=>
    have kN:Hid (jy w gt gb c bt bb G Bs D (S.nums (pF p pk.aX l (i+1))).1 w2 (.slice au zs.length cu) (S.nums (pF p pk.aX l (i+1))).2):=by rw[ac9 (by rw[HGd.out];exact lG.out),HS2.out,HZs.out];exact Du.out
    have iG:=JH.out;clear Du;exact zDr
   |true=>
    obtain⟨q,hq⟩:=ze ((S2.num (kF p i)).2);have uV:Hid (Calls Tryz.prog 75 #[.pointer (some ⟨c,0,none⟩),iY (kF p i)] w2 fun e w'=>e= .returned (.int .i64 q)/\jy w gt gb c bt bb G Bs D (S2.num (kF p i)).1 w' (.slice au zs.length cu) zs):=
     jy.call Du.out (fun gt' gb' Hx=>DN Hx ⟨by simp[kF],⟨by simp only[kF];omega,by simp only[kF];omega⟩,⟨by simp only[kF];omega,by simp only[kF];omega⟩,zI⟩ q hq)
    have Ku:Hid (S.nums (pF p pk.aX l (i+1))=((S2.num (kF p i)).1,zs++[q])):=by rw[aao (by rw[HGd.out];exact lG.out),TB.sF,HS2.out,HZs.out,hq];exact rfl
    clear hq Du;go_wp2_with fail;refine uV.out.mono ?_;rintro e w5 ⟨rfl,h5⟩;have H5:=zh h5;have rG:=zh h5.own;clear h5 uV;go_wp2_with (at_builtin;go_must (refine AL (u:=.int .i64 q) lY rfl (.tmp 28) (.tmp 34) rfl rfl rfl (cell_new0 _ _ _) rfl (aG rG.out ((Only.refl (fun _=>False) _).alloc _) (fun _ _ f=>f)) zAB zBV ?_));intro v' w6 s1 s2 s3;have kN:Hid (jy w gt gb c bt bb G Bs D (S.nums (pF p pk.aX l (i+1))).1 w6 v' (S.nums (pF p pk.aX l (i+1))).2):=by rw[Ku.out];exact jy.app H5.out ((Only.refl (fun _=>False) w5).alloc _) s1 s2 s3
    obtain⟨g6,c6',rfl,-,-,-⟩:=s3;have iG:=JH.out;clear s1 s2 H5 rG;exact zDr
  obtain rfl:nr=i:=by omega
  clear hi ci;have hAs:pF p pk.aX l nr=ru p pk.aX l:=by rw[<-ZJ.out];rfl
  rw[hAs]at iP;obtain⟨S2,hS2⟩:=ze ((S.nums (ru p pk.aX l)).1);obtain⟨zs,hzs⟩:=ze ((S.nums (ru p pk.aX l)).2);have hzl:zs.length<=nr:=by rw[<-hzs,<-hAs];show(S.1.nums _).2.length<=nr;rw[Tab.jT];exact Po _ _ _ _
  have hzb:∀y∈zs,0<=y/\y<=65536:=by rw[<-hzs];obtain⟨_,_,Hx,_⟩:=iP.out;exact(Tab.sW (ru p pk.aX l) H0.out.ok).2
  rw[hS2,hzs]at iP;obtain⟨hh,hhh⟩:=ze S2.help.2;have hhb:0<=hh/\hh<=65536:=by obtain⟨_,_,Hx,_⟩:=iP.out;rw[<-hhh];exact(Tab.ql (T:={S2.1 with helps:=qB S2.1}) ⟨Hx.ok.lim,Hx.ok.len⟩ _).2
  have alq:Hid (Calls Tryz.prog 66 #[.pointer (some ⟨c,0,none⟩)] wr fun e w'=>e= .returned (.pointer (some ⟨bt,0,none⟩))/\w'=wr):=by obtain⟨_,_,Hx,_⟩:=iP.out;exact vX Hx.gr
  have adb:Hid (Calls Tryz.prog 359 #[.pointer (some ⟨bt,0,none⟩)] wr fun e w'=>e= .returned (.int .i64 hh)/\jy w gt gb c bt bb G Bs D S2.help.1 w' u7 zs):=
   jy.call iP.out (fun gt' gb' Hx=>ain Hx hh hhh)
  obtain⟨r0,hr0⟩:=ze (!zs.contains 0);have aio:Hid (S.set p pk.aX l=(if 0<hh/\r0=true then (S2.help.1.1,S2.help.1.2.adds (Hw hh zs))else S2.help.1,hh)):=by
   show _=_;unfold TB.set;dsimp only;rw[hS2,hzs,hhh];have:(zs.contains 0=false)↔(r0=true):=by rw[<-hr0];cases zs.contains 0<;>simp
   simp only[this]
  have hzz:hh=z:=by rw[<-HZ.out,aio.out]
  have H9:Hid ((if 0<hh/\r0=true then (S2.help.1.1,S2.help.1.2.adds (Hw hh zs))else S2.help.1)=S9):=by rw[<-HS9.out,aio.out];exact rfl
  subst hzz;obtain⟨S3,hS3⟩:=ze S2.help.1;rw[hS3]at adb H9;have XD:=zh hzb;have HR0:=zh hr0;obtain⟨au,cu,hu,-,-⟩:∃au cu,u7= .slice au zs.length cu/\zs.length<=cu/\cu<=maxLen:=aJ iP.out.own;subst hu;clear hS3 hAs hS2 hzs hzb iP hhh aio hr0;go_wp2_with fail;refine alq.out.mono ?_;rintro e w2 ⟨rfl,rfl⟩;go_wp2_with fail;refine adb.out.mono ?_;rintro e w3 ⟨rfl,h3⟩;have H3:=zh h3;clear h3 alq adb;by_cases hpos:0<hh
  ·have Ci:Hid (Calls Tryz.prog 227 #[.slice au zs.length cu] w3 fun e w'=>e= .returned (.bool r0)/\w'=w3):=by obtain⟨_,_,Hx,_,_,_,hI,_⟩:=H3.out.ints XD.out;exact JG hI r0 HR0.out
   have uM:Hid (Calls Tryz.prog 28 #[.pointer (some ⟨c,0,none⟩)] w3 fun e w'=>e= .returned (.pointer (some ⟨bb,0,none⟩))/\w'=w3):=by obtain⟨_,_,Hx,_⟩:=H3.out;exact sD Hx.gr
   have J6:Hid (Calls Tryz.prog 360 #[.pointer (some ⟨bb,0,none⟩),.int .i64 hh,.slice au zs.length cu] w3 fun e w'=>e= .returned (.tuple #[])/\aZ w gt gb c bt bb G Bs D (S3.1,S3.2.adds (Hw hh zs)) w'):=by obtain⟨_,_,Hx,A,A',O,hI,hN⟩:=H3.out.ints XD.out;exact(alo Hx hI hN hh ⟨by omega,by omega⟩ (fun y hy=>by have:=XD.out y hy;omega) zAB).mono fun e w' ⟨he,h⟩=>⟨he,aZ.trans A A' O h⟩
   go_wp2_with fail;refine Ci.out.mono ?_;rintro e w4 ⟨rfl,rfl⟩;cases r0 with
   |false=>
    have h9:S3=S9:=by rw[<-H9.out,if_neg zAF]
    subst h9;have HE:=zh H3.out.gr;clear H3 J6 uM;exact zDV
   |true=>
    have h9:(S3.1,S3.2.adds (Hw hh zs))=S9:=by rw[<-H9.out,if_pos ⟨hpos,rfl⟩]
    rw[h9]at J6;clear H3 h9;go_wp2_with fail;refine uM.out.mono ?_;rintro e w5 ⟨rfl,rfl⟩;go_wp2_with fail;refine J6.out.mono ?_;rintro e w6 ⟨rfl,h6⟩;have H6:=zh h6;clear h6 J6 uM;go_wp2_with fail;go_ret;exact⟨rfl,H6.out⟩
  have h9:S3=S9:=by rw[<-H9.out,if_neg (fun h=>hpos h.1)]
  subst h9;have HE:=zh H3.out.gr;clear H3;exact zDV
end
end Go.Proofs.YtdmmebjjojimiaaGreatDoor
