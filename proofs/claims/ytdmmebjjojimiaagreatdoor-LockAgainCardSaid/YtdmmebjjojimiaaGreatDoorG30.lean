/- The document's graphs, exact: Check. Printed by gen_gr11.py.; Package graph, exact: the checker in memory; pack. Printed by gen_gw4.py. -/
import Derived.Test.YtdmmebjjojimiaaGreatDoorG29
set_option maxRecDepth 100000
set_option maxHeartbeats 8000000
set_option linter.all false
namespace Go.Proofs
theorem zAq{p:Prop}(h:p:=by rw[aj HB3.out];rfl):p:=h
theorem zCf{p:Prop}(h:p:=by rw[hk];exact GU.out.size):p:=h
end Go.Proofs
namespace Go.Proofs.YtdmmebjjojimiaaGreatDoor
open Go.RowKit
section
variable {w w':World} {B:Nat}
attribute [local irreducible] wpQuiet
theorem sK:∀{a b:List (Int×Option Str)},(∀p∈a,p.1≠0)->dB (a++b)=if (dB a).1=0 then dB b else dB a
 | [],b,_=>by simp[dB]
 | (c,some s)::r,b,h=>by
  have hc:c≠0:=h (c,some s) qQ
  rw[List.cons_append,BZ,BZ,if_neg hc]
 | (c,none)::r,b,h=>by
  rw[List.cons_append,BU,BU]
  exact sK fun p hp=>h p (yE _ hp)
theorem ae4{x:aQ}{g:List aC}(hok:x.okB=true)(hN:Named x g)(n:aC):xq x g n=D8 x g n:=by unfold xq D8;rw[abV hok hN]
open Classical in
theorem ahb{x:aQ}{g:List aC}(hN:Named x g){i:Nat}(hi:i<g.length):rJ (rO g) i i=vZ g i:=by rw[Bool.eq_iff_iff];unfold vZ rO;rw[Ht hN hi hi,decide_eq_true_iff]
open Classical in
theorem ahc{x:aQ}{q:dD}{g:List aC}(hok:x.okB=true)(hN:Named x g){i:Nat}(hi:i<g.length):FI x q g i=pG x q g i:=by
 unfold FI KD pG;rw[Bool.not_or];have h1:tC x q g i=decide (i∈mJ x q g):=by rw[Bool.eq_iff_iff,U0 hok hN hi,decide_eq_true_iff]
 have h2:((List.range g.length).any fun k=>tC x q g k&&rJ (rO g) k i)=decide (∃r∈mJ x q g,Dx g r i):=by
  rw[Bool.eq_iff_iff,yU,decide_eq_true_iff];constructor;·rintro⟨k,hk,h⟩;rw[Bool.and_eq_true]at h;have hk2:=yI.1 hk;exact⟨k,(U0 hok hN hk2).1 h.1,(Ht hN hk2 hi).1 h.2⟩
  rintro⟨k,hk,h⟩;have hk2:=SE hk;exact⟨k,yI.2 hk2,by rw[Bool.and_eq_true];exact⟨(U0 hok hN hk2).2 hk,(Ht hN hk2 hi).2 h⟩⟩
 rw[h1,h2]
def lk1(x:aQ)(g:List aC):List (Int×Option Str):=[(1,aX g (jH x g)),(2,aX g fun _ n=>yx x n),(3,aX g fun _ n=>setW x n)]
def lk2(x:aQ)(q:dD)(g:List aC):List (Int×Option Str):=[(4,uy x q g),(5,aX g fun _ n=>BQ x g n)]
noncomputable def lk3 (x:aQ) (q:dD) (g:List aC):List (Int×Option Str):=[(6,xg x q g),(7,aX g fun _ n=>Bf x g n)]
noncomputable def lk4 (x:aQ) (q:dD) (g:List aC):List (Int×Option Str):=[(8,aX g fun _ n=>D8 x g n),(9,aX g fun i _=>vZ g i),(10,aX g fun i _=>pG x q g i)]
theorem AO(x:aQ)(q:dD)(g:List aC):jv x q g=lk1 x g++(lk2 x q g++(lk3 x q g++lk4 x q g)):=rfl
theorem ajJ{x:aQ}{q:dD}{g:List aC}(hok:x.okB=true)(hN:Named x g):lk4 x q g=[(8,aX g fun _ n=>xq x g n),(9,aX g fun i _=>rJ (rO g) i i),(10,aX g fun i _=>FI x q g i)]:=by unfold lk4;rw[Dy (p:=fun _ n=>D8 x g n) (r:=fun _ n=>xq x g n) (fun j _=>(ae4 hok hN _).symm),Dy (p:=fun i _=>vZ g i) (r:=fun i _=>rJ (rO g) i i) (fun j hj=>(ahb hN hj).symm),Dy (p:=fun i _=>pG x q g i) (r:=fun i _=>FI x q g i) (fun j hj=>(ahc hok hN hj).symm)]
theorem U8{x:aQ}{g:List aC}:∀p∈lk1 x g,p.1≠0:=by intro p hp;simp[lk1]at hp;rcases hp with rfl|rfl|rfl<;>simp
theorem Zo{x:aQ}{q:dD}{g:List aC}:∀p∈lk2 x q g,p.1≠0:=by intro p hp;simp[lk2]at hp;rcases hp with rfl|rfl<;>simp
theorem ae6{x:aQ}{q:dD}{g:List aC}:∀p∈lk3 x q g,p.1≠0:=by intro p hp;simp[lk3]at hp;rcases hp with rfl|rfl<;>simp
theorem aoV{x:aQ}{q:dD}{g:List aC}{c:Int}{s:Str}(h:dB (lk1 x g)=(c,s))(hc:c≠0):dB (jv x q g)=(c,s):=by rw[AO,sK U8,h,if_neg hc]
theorem aoW{x:aQ}{q:dD}{g:List aC}{c:Int}{s s1:Str}(h1:dB (lk1 x g)=(0,s1))(h:dB (lk2 x q g)=(c,s))(hc:c≠0):dB (jv x q g)=(c,s):=by rw[AO,sK U8,h1,if_pos rfl,sK Zo,h,if_neg hc]
theorem aoX{x:aQ}{q:dD}{g:List aC}{c:Int}{s s1 s2:Str}(h1:dB (lk1 x g)=(0,s1))(h2:dB (lk2 x q g)=(0,s2))(h:dB (lk3 x q g)=(c,s))(hc:c≠0):dB (jv x q g)=(c,s):=by rw[AO,sK U8,h1,if_pos rfl,sK Zo,h2,if_pos rfl,sK ae6,h,if_neg hc]
theorem aoY{x:aQ}{q:dD}{g:List aC}{c:Int}{s s1 s2 s3:Str}(h1:dB (lk1 x g)=(0,s1))(h2:dB (lk2 x q g)=(0,s2))(h3:dB (lk3 x q g)=(0,s3))(h:dB (lk4 x q g)=(c,s)):dB (jv x q g)=(c,s):=by rw[AO,sK U8,h1,if_pos rfl,sK Zo,h2,if_pos rfl,sK ae6,h3,if_pos rfl,h]
theorem ae7{x:aQ}{g:List aC}{s:Str}(h:dB (lk1 x g)=(0,s)):Named x g:=by
 rw[<-Kt];unfold lk1 at h;cases e:aX g (jH x g)with
 |none=>rfl
 |some t=>rw[e,BZ]at h;cases h
theorem Gn{lC:List Value}{x:aQ}(hx:fO B w lC x){Ba:List Value}{q:dD}(hq:mg B w Ba q){CS:List Value}{g:List aC}(hg:rU B w CS g)(hok:x.okB=true)(JF:agx x q (x.closure q.names))(hlp:x.packs.length<=1000000)(hlg:g.length<=1000000):Calls Tryz.prog 17 #[.agg lC.toArray,.agg Ba.toArray,.agg CS.toArray] w fun e w'=>iY (dB (jv x q g)) w w' e:=by
 obtain⟨aP,ak,aJ,aO,aG,aH,rfl,fF,fG,dP,dQ,aB,bJ,mY⟩:=open_rec hx;clear hx;try rw[aB.out]
 obtain⟨dw,aY,dA,rfl,oU,oV,bQ,E8⟩:=lM hq;clear hq;try rw[bQ.out]
 obtain⟨dI,ay,dh,rfl,rC,rD,bG,Jd⟩:=nH hg;clear hg;try rw[bG.out]
 obtain⟨W0,hW0,aV,jK,aF⟩:=zO w (.slice aP ak aJ) (.slice aO aG aH) (.slice dw aY dA) (.slice dI ay dh) 25 28 31;obtain⟨eX,bK,bT⟩:=mY W0 aV.out;clear mY;obtain⟨zL,gu⟩:=E8 W0 aV.out;clear E8;obtain⟨Bg,dU⟩:=Jd W0 aV.out;clear Jd;have asT:=hlp;obtain⟨rc,rs,hr⟩:∃c s,dB (jv x q g)=(c,s):=⟨_,_,rfl⟩;have aZ:=zh hr;rw[hr];unfold iY;dsimp only;obtain⟨W1,hW1⟩:=ze (W0.alloc (.cells #[.int .u8 0,.string ⟨#[]⟩] 38));have aI:Hid (O0 W0 W1):=zAc;have iM:Hid (∀W,O0 W1 W->W.heap[W0.heap.size]? =some (.cells #[.int .u8 0,.string ⟨#[]⟩] 38 (0,0))):=fun W ho=>by exact zDt
 have wZ:Hid (O0 W1 W1):=Only.refl _ _;clear hr;obtain⟨c1,s1,h1⟩:∃c s,dB (lk1 x g)=(c,s):=⟨_,_,rfl⟩;have HC1:Hid (Calls Tryz.prog 60 #[.agg #[.slice aP ak aJ,.slice aO aG aH],.agg #[.slice dI ay dh]] W1 fun e w'=>e= .returned (.agg #[.int .u8 c1,.string s1])/\O0 W1 w'):=by
  have h:Calls Tryz.prog 60 #[.agg #[.slice aP ak aJ,.slice aO aG aH],.agg #[.slice dI ay dh]] W1 fun e w'=>iY (dB (lk1 x g)) W1 w' e:=by exact abZ (eX.out W1 (aI.out.same wZ.out)) (Bg.out W1 (aI.out.same wZ.out))
  unfold iY at h;rw[h1]at h;exact h
 have H1:=zh h1;clear h1;obtain⟨k0,k1,k2,k3⟩:=aF.out W1 (aI.out.same wZ.out);have hW0':=hW0.symm;clear hW0;go_enter Tryz.func17,Tryz.ntmps17;go_wp2_with fail;clear hW1 hW0' k0 k1 k2 k3;refine HC1.out.mono ?_;rintro e v1 ⟨rfl,O1⟩;have GU:Hid (O0 W1 v1):=(wZ.out).same O1;have Na:Hid ((v1.alloc (.cells #[.int .u8 0,.string ⟨#[]⟩] 38)).heap[v1.heap.size]? =some (.cells #[.int .u8 0,.string ⟨#[]⟩] 38)):=qL v1 _;obtain⟨X1,hX1⟩:=ze (v1.alloc (.cells #[.int .u8 c1,.string s1] 38));have HB1:Hid (X1.heap[v1.heap.size]? =some (.cells #[.int .u8 c1,.string s1] 38 (0,0))):=by rw[<-hX1];exact qL v1 _
 have HX1:Hid (O0 W1 X1):=by rw[<-hX1];exact GU.out.alloc _
 have n0:X1.cell? ⟨v1.heap.size,0,none⟩=some (.int .u8 c1):=by rw[aj HB1.out];rfl
 clear O1 HC1;obtain⟨k0,k1,k2,k3⟩:=aF.out X1 (aI.out.same HX1.out);by_cases z1:c1=0
 ·subst z1;have En:=zh (ae7 H1.out);obtain⟨c2,s2,h2⟩:∃c s,dB (lk2 x q g)=(c,s):=⟨_,_,rfl⟩;have HC2:Hid (Calls Tryz.prog 61 #[.agg #[.slice aP ak aJ,.slice aO aG aH],.agg #[.slice dw aY dA],.agg #[.slice dI ay dh]] X1 fun e w'=>e= .returned (.agg #[.int .u8 c2,.string s2])/\O0 X1 w'):=by
   have h:Calls Tryz.prog 61 #[.agg #[.slice aP ak aJ,.slice aO aG aH],.agg #[.slice dw aY dA],.agg #[.slice dI ay dh]] X1 fun e w'=>iY (dB (lk2 x q g)) X1 w' e:=by exact ab3 (eX.out X1 (aI.out.same HX1.out)) (zL.out X1 (aI.out.same HX1.out)) (Bg.out X1 (aI.out.same HX1.out)) En.out
   unfold iY at h;rw[h2]at h;exact h
  have H2:=zh h2;clear h2;go_wp2_with (fail);clear hX1 n0 Na;clear k0 k1 k2 k3;refine HC2.out.mono ?_;rintro e v2 ⟨rfl,O2⟩;have uN:Hid (O0 W1 v2):=(HX1.out).same O2;have Na:Hid (v2.heap[v1.heap.size]? =some (.cells #[.int .u8 0,.string s1] 38 (0,0))):=aA HB1.out O2 (fun f=>f);obtain⟨X2,hX2⟩:=ze (v2.setRow v1.heap.size #[.int .u8 c2,.string s2]);have HB2:Hid (X2.heap[v1.heap.size]? =some (.cells #[.int .u8 c2,.string s2] 38 (0,0))):=by rw[<-hX2];exact setRow_heap _ _ _ _ _ _ Na.out
  have HX2:Hid (O0 W1 X2):=by rw[<-hX2];exact uN.out.trans (aK _ _ _) fun k hk=>.inr zCf
  have n0:X2.cell? ⟨v1.heap.size,0,none⟩=some (.int .u8 c2):=by rw[aj HB2.out];rfl
  clear O2 HC2;obtain⟨k0,k1,k2,k3⟩:=aF.out X2 (aI.out.same HX2.out);by_cases z2:c2=0
  ·subst z2;obtain⟨c3,s3,h3⟩:∃c s,dB (lk3 x q g)=(c,s):=⟨_,_,rfl⟩;have HC3:Hid (Calls Tryz.prog 62 #[.agg #[.slice aP ak aJ,.slice aO aG aH],.agg #[.slice dw aY dA],.agg #[.slice dI ay dh]] X2 fun e w'=>e= .returned (.agg #[.int .u8 c3,.string s3])/\O0 X2 w'):=by
    have h:Calls Tryz.prog 62 #[.agg #[.slice aP ak aJ,.slice aO aG aH],.agg #[.slice dw aY dA],.agg #[.slice dI ay dh]] X2 fun e w'=>iY (dB (lk3 x q g)) X2 w' e:=by exact Zj (eX.out X2 (aI.out.same HX2.out)) (zL.out X2 (aI.out.same HX2.out)) (Bg.out X2 (aI.out.same HX2.out)) En.out JF
    unfold iY at h;rw[h3]at h;exact h
   have H3:=zh h3;clear h3;go_wp2_with (refine wpList_store_row rfl 38 (.tmp 7) (.tmp 17) rfl v1.heap.size #[.int .u8 0,.string s2] rfl rfl 38 #[.int .u8 0,.string s1] Na.out zk rfl zk ?_);clear hX2 n0 Na;clear k0 k1 k2 k3;refine HC3.out.mono ?_;rintro e v3 ⟨rfl,O3⟩;have VD:Hid (O0 W1 v3):=(HX2.out).same O3;have Na:Hid (v3.heap[v1.heap.size]? =some (.cells #[.int .u8 0,.string s2] 38 (0,0))):=aA HB2.out O3 (fun f=>f);obtain⟨X3,hX3⟩:=ze (v3.setRow v1.heap.size #[.int .u8 c3,.string s3]);have HB3:Hid (X3.heap[v1.heap.size]? =some (.cells #[.int .u8 c3,.string s3] 38 (0,0))):=by rw[<-hX3];exact setRow_heap _ _ _ _ _ _ Na.out
   have HX3:Hid (O0 W1 X3):=by rw[<-hX3];exact VD.out.trans (aK _ _ _) fun k hk=>.inr zCf
   have n0:X3.cell? ⟨v1.heap.size,0,none⟩=some (.int .u8 c3):=zAq;clear O3 HC3;obtain⟨k0,k1,k2,k3⟩:=aF.out X3 (aI.out.same HX3.out);by_cases z3:c3=0
   ·subst z3;obtain⟨c4,s4,h4⟩:∃c s,dB (lk4 x q g)=(c,s):=⟨_,_,rfl⟩;have X6:Hid (Calls Tryz.prog 63 #[.agg #[.slice aP ak aJ,.slice aO aG aH],.agg #[.slice dw aY dA],.agg #[.slice dI ay dh]] X3 fun e w'=>e= .returned (.agg #[.int .u8 c4,.string s4])/\O0 X3 w'):=by
     have h:Calls Tryz.prog 63 #[.agg #[.slice aP ak aJ,.slice aO aG aH],.agg #[.slice dw aY dA],.agg #[.slice dI ay dh]] X3 fun e w'=>iY (dB (lk4 x q g)) X3 w' e:=by rw[ajJ hok En.out];exact ach (eX.out X3 (aI.out.same HX3.out)) (zL.out X3 (aI.out.same HX3.out)) (Bg.out X3 (aI.out.same HX3.out)) En.out hlp hlg
     unfold iY at h;rw[h4]at h;exact h
    have H4:=zh h4;clear h4;go_wp2_with (refine wpList_store_row rfl 38 (.tmp 7) (.tmp 24) rfl v1.heap.size #[.int .u8 0,.string s3] rfl rfl 38 #[.int .u8 0,.string s2] Na.out zk rfl zk ?_);clear hX3 n0 Na;clear k0 k1 k2 k3;refine X6.out.mono ?_;rintro e v4 ⟨rfl,O4⟩;have MF:Hid (O0 W1 v4):=(HX3.out).same O4;have Na:Hid (v4.heap[v1.heap.size]? =some (.cells #[.int .u8 0,.string s3] 38 (0,0))):=aA HB3.out O4 (fun f=>f);obtain⟨X4,hX4⟩:=ze (v4.setRow v1.heap.size #[.int .u8 c4,.string s4]);have HB4:Hid (X4.heap[v1.heap.size]? =some (.cells #[.int .u8 c4,.string s4] 38 (0,0))):=by rw[<-hX4];exact setRow_heap _ _ _ _ _ _ Na.out
    have HX4:Hid (O0 W1 X4):=by rw[<-hX4];exact MF.out.trans (aK _ _ _) fun k hk=>.inr zCf
    have n0:X4.cell? ⟨v1.heap.size,0,none⟩=some (.int .u8 c4):=by rw[aj HB4.out];rfl
    clear O4 X6;obtain⟨k0,k1,k2,k3⟩:=aF.out X4 (aI.out.same HX4.out);have n1:X4.cell? ⟨v1.heap.size,1,none⟩=some (.string s4):=by rw[aj HB4.out];rfl
    obtain⟨rfl,rfl⟩:c4=rc/\s4=rs:=by have h2:=(aoY H1.out H2.out H3.out H4.out).symm.trans aZ.out;exact zDT
    go_wp2_with (first
     | (refine wpList_store_row rfl 38 (.tmp 7) (.tmp 31) rfl v1.heap.size #[.int .u8 c4,.string s4] rfl rfl 38 #[.int .u8 0,.string s3] Na.out zk rfl zk ?_)
     | (refine wpList_load_row rfl 38 (.tmp 7) rfl v1.heap.size rfl 38 #[.int .u8 c4,.string s4] (0,0) _ HB4.out Tryz.underlying38 rfl zk ?_)
     | (refine wpList_store_row rfl 38 (.tmp 6) (.tmp 32) rfl W0.heap.size #[.int .u8 c4,.string s4] rfl rfl 38 #[.int .u8 0,.string ⟨#[]⟩] (iM.out X4 HX4.out) zk rfl zk ?_))
    refine cO (p:=6) rfl rfl rfl (run_loadVar_row _ _ _ _ _ (0,0) _ (setRow_heap _ _ _ _ _ _ (iM.out X4 HX4.out)) Tryz.underlying38 rfl zk) ?_;exact⟨rfl,(aV.out.same (aI.out.same HX4.out)).trans (aK _ _ _) fun k hk=>.inr zAO⟩
   have hne:(c3==0)=false:=by simp[z3]
   obtain⟨rfl,rfl⟩:c3=rc/\s3=rs:=by have h2:=(aoX H1.out H2.out H3.out z3).symm.trans aZ.out;exact zDT
   go_wp2_with (first
    | (refine wpList_store_row rfl 38 (.tmp 7) (.tmp 24) rfl v1.heap.size #[.int .u8 c3,.string s3] rfl rfl 38 #[.int .u8 0,.string s2] Na.out zk rfl zk ?_)
    | (refine wpList_load_row rfl 38 (.tmp 7) rfl v1.heap.size rfl 38 #[.int .u8 c3,.string s3] (0,0) _ HB3.out Tryz.underlying38 rfl zk ?_)
    | (refine wpList_store_row rfl 38 (.tmp 6) (.tmp 32) rfl W0.heap.size #[.int .u8 c3,.string s3] rfl rfl 38 #[.int .u8 0,.string ⟨#[]⟩] (iM.out X3 HX3.out) zk rfl zk ?_))
   refine cO (p:=6) rfl rfl rfl (run_loadVar_row _ _ _ _ _ (0,0) _ (setRow_heap _ _ _ _ _ _ (iM.out X3 HX3.out)) Tryz.underlying38 rfl zk) ?_;exact⟨rfl,(aV.out.same (aI.out.same HX3.out)).trans (aK _ _ _) fun k hk=>.inr zAO⟩
  have hne:(c2==0)=false:=by simp[z2]
  obtain⟨rfl,rfl⟩:c2=rc/\s2=rs:=by have h2:=(aoW H1.out H2.out z2).symm.trans aZ.out;exact zDT
  go_wp2_with (first
   | (refine wpList_store_row rfl 38 (.tmp 7) (.tmp 17) rfl v1.heap.size #[.int .u8 c2,.string s2] rfl rfl 38 #[.int .u8 0,.string s1] Na.out zk rfl zk ?_)
   | (refine wpList_load_row rfl 38 (.tmp 7) rfl v1.heap.size rfl 38 #[.int .u8 c2,.string s2] (0,0) _ HB2.out Tryz.underlying38 rfl zk ?_)
   | (refine wpList_store_row rfl 38 (.tmp 6) (.tmp 32) rfl W0.heap.size #[.int .u8 c2,.string s2] rfl rfl 38 #[.int .u8 0,.string ⟨#[]⟩] (iM.out X2 HX2.out) zk rfl zk ?_))
  refine cO (p:=6) rfl rfl rfl (run_loadVar_row _ _ _ _ _ (0,0) _ (setRow_heap _ _ _ _ _ _ (iM.out X2 HX2.out)) Tryz.underlying38 rfl zk) ?_;exact⟨rfl,(aV.out.same (aI.out.same HX2.out)).trans (aK _ _ _) fun k hk=>.inr zAO⟩
 have hne:(c1==0)=false:=by simp[z1]
 obtain⟨rfl,rfl⟩:c1=rc/\s1=rs:=by have h2:=(aoV H1.out z1).symm.trans aZ.out;exact zDT
 go_wp2_with (first
  | (fail)
  | (refine wpList_load_row rfl 38 (.tmp 7) rfl v1.heap.size rfl 38 #[.int .u8 c1,.string s1] (0,0) _ HB1.out Tryz.underlying38 rfl zk ?_)
  | (refine wpList_store_row rfl 38 (.tmp 6) (.tmp 32) rfl W0.heap.size #[.int .u8 c1,.string s1] rfl rfl 38 #[.int .u8 0,.string ⟨#[]⟩] (iM.out X1 HX1.out) zk rfl zk ?_))
 refine cO (p:=6) rfl rfl rfl (run_loadVar_row _ _ _ _ _ (0,0) _ (setRow_heap _ _ _ _ _ _ (iM.out X1 HX1.out)) Tryz.underlying38 rfl zk) ?_;exact⟨rfl,(aV.out.same (aI.out.same HX1.out)).trans (aK _ _ _) fun k hk=>.inr zAO⟩
end
end Go.Proofs.YtdmmebjjojimiaaGreatDoor
namespace Go.Proofs
theorem zA9{p:Prop}(h:p:=by(intro w hSw;obtain⟨k0,k1,k2,k3⟩:=aF.out w hSw;obtain⟨p0,p1,p2,p3⟩:=oZ.out w hSw;go_simp<;>(try with_reducible rfl))):p:=h
end Go.Proofs
namespace Go.Proofs.YtdmmebjjojimiaaGreatDoor
open Go.RowKit
section
variable {w w':World} {B:Nat}
attribute [local irreducible] wpQuiet
structure lH (B:Nat) (w:World) (bp:Nat) (x:aQ) (q:dD) (g:List aC):Prop where
 parts:∃lC Ba CS,fO B w lC x/\mg B w Ba q/\rU B w CS g/\∀W,O0 w W->W.rangeAt bp 0 (lC++(Ba++CS))
theorem lH.only{bp:Nat}{x:aQ}{q:dD}{g:List aC}(h:lH B w bp x q g)(ho:O0 w w'):lH B w' bp x q g:=by obtain⟨lC,Ba,CS,h1,h2,h3,h4⟩:=h.parts;exact⟨lC,Ba,CS,fO.keep h1 (Kp.dV ho),mg.keep h2 (Kp.dV ho),rU.keep h3 (Kp.dV ho),fun W hW=>h4 W (ho.same hW)⟩
theorem lH.open{bp:Nat}{x:aQ}{q:dD}{g:List aC}(h:lH B w bp x q g):∃(a1:Option Addr) (n1 c1:Nat) (a2:Option Addr) (n2 c2:Nat) (a3:Option Addr) (n3 c3:Nat) (a4:Option Addr) (n4 c4:Nat),Hid (x.packs.length=n1)/\Hid (q.roots.length=n3)/\Hid (g.length=n4)/\n1<=c1/\n3<=c3/\n4<=c4/\Hid (∀W,O0 w W->W.cell? ⟨bp,0,none⟩=some (.slice a1 n1 c1)/\W.cell? ⟨bp,1,none⟩=some (.slice a2 n2 c2)/\W.cell? ⟨bp,2,none⟩=some (.slice a3 n3 c3)/\W.cell? ⟨bp,3,none⟩=some (.slice a4 n4 c4))/\Hid (∀W,O0 w W->fO B W [.slice a1 n1 c1,.slice a2 n2 c2] x)/\Hid (∀W,O0 w W->mg B W [.slice a3 n3 c3] q)/\Hid (∀W,O0 w W->rU B W [.slice a4 n4 c4] g)/\Hid (∀W,O0 w W->aS 8 gY B W (.slice a1 n1 c1) x.packs)/\Hid (∀W,O0 w W->aS 4 mM B W (.slice a3 n3 c3) q.roots)/\Hid (∀W,O0 w W->aS 4 dH B W (.slice a4 n4 c4) g):=by obtain⟨lC,Ba,CS,h1,h2,h3,h4⟩:=h.parts;obtain⟨a1,n1,c1,a2,n2,c2,rfl,g1,-,g2,-,N1,N2,F1⟩:=open_rec h1;obtain⟨a3,n3,c3,rfl,g3,-,N3,F3⟩:=lM h2;obtain⟨a4,n4,c4,rfl,g4,-,N4,F4⟩:=nH h3;obtain⟨K1,R1,-⟩:=F1 w zr;obtain⟨K3,R3⟩:=F3 w zr;obtain⟨K4,R4⟩:=F4 w zr;refine⟨a1,n1,c1,a2,n2,c2,a3,n3,c3,a4,n4,c4,N1,N3,N4,g1,g3,g4,fun W hW=>?_,K1,K3,K4,R1,R3,R4⟩;have hr:=h4 W hW;exact⟨hr 0 _ rfl,hr 1 _ rfl,hr 2 _ rfl,hr 3 _ rfl⟩
theorem QN(w:World)(v0 v1 v2 v3:Value)(t0:TypeId):∃W0,W0=(w.alloc (.cells #[v0,v1,v2,v3] t0))/\Hid (O0 w W0)/\Hid (W0.heap.size=w.heap.size+1)/\Hid (∀W,O0 W0 W->W.cell? ⟨w.heap.size,0,none⟩=some v0/\W.cell? ⟨w.heap.size,1,none⟩=some v1/\W.cell? ⟨w.heap.size,2,none⟩=some v2/\W.cell? ⟨w.heap.size,3,none⟩=some v3):=by obtain⟨W0,hW0⟩:=zB (w.alloc (.cells #[v0,v1,v2,v3] t0));refine⟨W0,hW0,by rw[hW0];exact zr.alloc _,by rw[hW0];simp[Hid],fun W ho=>?_⟩;have b0:W0.heap[w.heap.size]? =some (.cells #[v0,v1,v2,v3] t0):=zBf;have d0:=aA b0 ho (fun f=>f);exact⟨by rw[aj d0];rfl,by rw[aj d0];rfl,by rw[aj d0];rfl,by rw[aj d0];rfl⟩
theorem ae8{bp:Nat}{x:aQ}{b off n1 c1 n2 c2 n3 c3 n4 c4 n5 c5 n6 c6 m1 e1 m2 e2 m3 e3 m4 e4 m5 e5 m6 e6:Nat}{a2 a3 a4 a5 a6 d1 d2 d3 d4 d5 d6:Option Addr}{s1 s2 y1:Str}{y2:Int}(hx:fO B w [.slice (some ⟨b,off,none⟩) n1 c1,.slice a2 n2 c2] x)(hCk:∀W,O0 w W->W.cell? ⟨bp,0,none⟩=some (.slice (some ⟨b,off,none⟩) n1 c1)/\W.cell? ⟨bp,1,none⟩=some (.slice a2 n2 c2)/\W.cell? ⟨bp,2,none⟩=some (.slice a3 n3 c3)/\W.cell? ⟨bp,3,none⟩=some (.slice a4 n4 c4)){p:Nat}(hp:x.find s1=(p:Int))(hpn:p<n1)(hr:∀W,O0 w W->W.rangeAt b (off+p*8) [.string y1,.int .i64 y2,.slice d1 m1 e1,.slice d2 m2 e2,.slice d3 m3 e3,.slice d4 m4 e4,.slice d5 m5 e5,.slice d6 m6 e6]):Calls Tryz.prog 193 #[.pointer (some ⟨bp,0,none⟩),.agg #[.string s1,.string s2,.slice a5 n5 c5,.slice a6 n6 c6]] w fun e w'=>e= .returned (.agg #[.string y1,.int .i64 y2,.slice d1 m1 e1,.slice d2 m2 e2,.slice d3 m3 e3,.slice d4 m4 e4,.slice d5 m5 e5,.slice d6 m6 e6])/\O0 w w':=by
 have HX:=zh hx;obtain⟨W0,hW0,aV,jK,aF⟩:=QN w (.string s1) (.string s2) (.slice a5 n5 c5) (.slice a6 n6 c6) 83;obtain⟨W1,hW1⟩:=ze (W0.alloc (.cells #[.string ⟨#[]⟩,.int .i64 0,.slice none 0 0,.slice none 0 0,.slice none 0 0,.slice none 0 0,.slice none 0 0,.slice none 0 0] 101));have aI:Hid (O0 W0 W1):=zAc;have iM:Hid (W1.heap[W0.heap.size]? =some (.cells #[.string ⟨#[]⟩,.int .i64 0,.slice none 0 0,.slice none 0 0,.slice none 0 0,.slice none 0 0,.slice none 0 0,.slice none 0 0] 101 (0,0))):=zBK;have HF:Hid (∀W,O0 W1 W->Calls Tryz.prog 182 #[.agg #[.slice (some ⟨b,off,none⟩) n1 c1,.slice a2 n2 c2],.string s1] W fun e w'=>e= .returned (.int .i64 (p:Int))/\O0 W w'):=fun W hW=>by rw[<-hp];exact rX (fO.keep HX.out (Kp.dV (aV.out.same (aI.out.same hW)):Kp B w W)) s1
 have HR:Hid (∀W,O0 W1 W->W.rangeAt b (off+p*8) [.string y1,.int .i64 y2,.slice d1 m1 e1,.slice d2 m2 e2,.slice d3 m3 e3,.slice d4 m4 e4,.slice d5 m5 e5,.slice d6 m6 e6]):=fun W hW=>hr W (aV.out.same (aI.out.same hW));have oZ:Hid (∀W,O0 W1 W->W.cell? ⟨bp,0,none⟩=some (.slice (some ⟨b,off,none⟩) n1 c1)/\W.cell? ⟨bp,1,none⟩=some (.slice a2 n2 c2)/\W.cell? ⟨bp,2,none⟩=some (.slice a3 n3 c3)/\W.cell? ⟨bp,3,none⟩=some (.slice a4 n4 c4)):=fun W hW=>hCk W (aV.out.same (aI.out.same hW));replace aF:Hid (∀W,O0 W1 W->W.cell? ⟨w.heap.size,0,none⟩=some (.string s1)/\W.cell? ⟨w.heap.size,1,none⟩=some (.string s2)/\W.cell? ⟨w.heap.size,2,none⟩=some (.slice a5 n5 c5)/\W.cell? ⟨w.heap.size,3,none⟩=some (.slice a6 n6 c6)):=fun W hW=>aF.out W (aI.out.same hW);replace aV:Hid (O0 w W1):=aV.out.same aI.out;have hW0':=hW0.symm;clear hx hr hW0 HX aI hCk;go_enter Tryz.func193,Tryz.ntmps193;go_wp2_with fail;clear hW1 hW0';refine dn (n:=15) (E:=fun k=>k=14) (S:=fun W=>O0 W1 W) zk rfl (by exact zr.drew) (fun hHeld=>?_);refine tW 0 ?_;refine tW 1 ?_;refine tW 2 ?_;refine tW 3 ?_;refine tK 4 ?_ (hy:=zA9);refine tW 5 ?_;refine tW 6 ?_;refine tW 7 ?_;refine tK 8 ?_ (hy:=zA9);refine tW 9 ?_;refine tK 10 ?_ (hy:=zA9);refine tO 11 fun K hK=>?_;(go_simp;refine(HF.out _ hHeld).mono ?_;rintro e w5 ⟨rfl,o5⟩;try go_wp2_with fail);refine hK.out _ _ ?_ (fun hHeld=>?_);·exact zD8
 clear hK K;try simp only[Act.put,fA,fD,fB,dW,dX,dY]
 refine tW 12 ?_;refine tK 13 ?_ (hy:=zBi);refine dN (rs:=[14]) zk zAP ?_;refine bI.late (i:=14) rfl zk (fun K hK=>?_) ?_;·(rw[if_pos zk];refine mG 101 (.tmp 4) (.tmp 18) rfl W0.heap.size #[.string y1,.int .i64 y2,.slice d1 m1 e1,.slice d2 m2 e2,.slice d3 m3 e3,.slice d4 m4 e4,.slice d5 m5 e5,.slice d6 m6 e6] rfl rfl 101 #[.string ⟨#[]⟩,.int .i64 0,.slice none 0 0,.slice none 0 0,.slice none 0 0,.slice none 0 0,.slice none 0 0,.slice none 0 0] (aA iM.out (by first|exact hHeld|exact Only.same hHeld o5) (fun f=>f)) zk rfl zk ?_;intro W3 hg3 ho3);exact zEf
 exact bI.nil
theorem Jm{bp:Nat}{x:aQ}{q:dD}{g:List aC}(hc:lH B w bp x q g){zQ:List Value}{n:aC}(hn:dH B w zQ n)(hf:0<=x.find n.name):∃LY,gY B w LY (bY x n)/\∀W,O0 w W->Calls Tryz.prog 193 #[.pointer (some ⟨bp,0,none⟩),.agg zQ.toArray] W fun e w'=>e= .returned (.agg LY.toArray)/\O0 W w':=by
 obtain⟨a1,n1,c1,a2,n2,c2,a3,n3,c3,a4,n4,c4,N1,N3,N4,g1,g3,g4,oZ,HX,-,-,HP,-,-⟩:=hc.open;obtain⟨v3,v4,rfl,-,-,r3,r4⟩:=hn;obtain⟨a5,c5,rfl,-,-⟩:=r3.shape;obtain⟨a6,c6,rfl,-,-⟩:=r4.shape;obtain⟨p,hp⟩:∃p:Nat,x.find n.name=(p:Int):=⟨(x.find n.name).toNat,by omega⟩;have hlt:=x.uM n.name;have hpl:p<x.packs.length:=zAA;obtain⟨y,hy⟩:=zG x.packs p hpl;have ey:bY x n=y:=by unfold bY aQ.pack;rw[hp,yT,qC,hy];rfl
 obtain⟨b,off,d1,m1,e1,d2,m2,e2,d3,m3,e3,d4,m4,e4,d5,m5,e5,d6,m6,e6,rfl,-,-,-,-,-,-,-,-,HE⟩:=jy (HP.out w zr) hy;rw[ey];refine⟨_,(HE w zr).2.2.2.2.2.2.2,fun W hW=>?_⟩;exact ae8 (HX.out W hW) (fun W' hW'=>oZ.out W' (hW.same hW')) hp (by rw[<-N1.out];exact hpl) fun W' hW'=>(HE W' (hW.same hW')).1
end
end Go.Proofs.YtdmmebjjojimiaaGreatDoor
namespace Go.Proofs
theorem zA2{p:Prop}(h:p:=by exact((Only.refl (fun _=>False) W0)).drew):p:=h
theorem zA3{p:Prop}(h:p:=by(intro w hSw;(try dsimp only at hSw);obtain⟨k0,k1,k2⟩:=aF.out w hSw;obtain⟨p0,p1,p2,p3⟩:=oZ.out w hSw;go_simp<;>(try with_reducible rfl))):p:=h
theorem zCH{p:Prop}(h:p:=by rw[N4.out];omega):p:=h
end Go.Proofs
namespace Go.Proofs.YtdmmebjjojimiaaGreatDoor
open Go.RowKit
section
variable {w w':World} {B:Nat}
attribute [local irreducible] wpQuiet
theorem al1(w:World)(v0 v1 v2:Value)(t0:TypeId):∃W0,W0=(w.alloc (.cells #[v0,v1,v2] t0))/\Hid (O0 w W0)/\Hid (W0.heap.size=w.heap.size+1)/\Hid (∀W,O0 W0 W->W.cell? ⟨w.heap.size,0,none⟩=some v0/\W.cell? ⟨w.heap.size,1,none⟩=some v1/\W.cell? ⟨w.heap.size,2,none⟩=some v2):=by obtain⟨W0,hW0⟩:=zB (w.alloc (.cells #[v0,v1,v2] t0));refine⟨W0,hW0,by rw[hW0];exact zr.alloc _,by rw[hW0];simp[Hid],fun W ho=>?_⟩;have b0:W0.heap[w.heap.size]? =some (.cells #[v0,v1,v2] t0):=zBf;have d0:=aA b0 ho (fun f=>f);exact⟨by rw[aj d0];rfl,by rw[aj d0];rfl,by rw[aj d0];rfl⟩
theorem Zp{bp:Nat}{x:aQ}{q:dD}{g:List aC}(hc:lH B w bp x q g){css:List Value}{s:iW}(hs:dJ B w css s)(hL:Laid w):Calls Tryz.prog 195 #[.pointer (some ⟨bp,0,none⟩),.agg css.toArray] w fun e w'=>e= .returned (.bool (Bd g s))/\O0 w w':=by
 obtain⟨a1,n1,c1,a2,n2,c2,a3,n3,c3,a4,n4,c4,-,-,N4,-,-,g4,Xu,-,-,HG0,-,-,HR0⟩:=hc.open;have hs0:=hs;obtain⟨v5,v6,rfl,-,r5,r6⟩:=hs;obtain⟨a5,c5,rfl,-,-⟩:=r5.shape;obtain⟨a6,c6,rfl,-,-⟩:=r6.shape;obtain⟨n5,h5⟩:=ze s.spans.length;obtain⟨n6,h6⟩:=ze s.sets.length;rw[h5]at r5 hs0⊢;rw[h6]at r6 hs0⊢;obtain⟨W0,hW0,aV,jK,aF⟩:=al1 w (.string s.name) (.slice a5 n5 c5) (.slice a6 n6 c6) 108;have oZ:Hid (∀W,O0 W0 W->W.cell? ⟨bp,0,none⟩=some (.slice a1 n1 c1)/\W.cell? ⟨bp,1,none⟩=some (.slice a2 n2 c2)/\W.cell? ⟨bp,2,none⟩=some (.slice a3 n3 c3)/\W.cell? ⟨bp,3,none⟩=some (.slice a4 n4 c4)):=fun W hW=>Xu.out W (aV.out.same hW);have VN:Hid (∀W,O0 W0 W->dJ B W [.string s.name,.slice a5 n5 c5,.slice a6 n6 c6] s):=fun W hW=>dJ.keep hs0 (Kp.dV (aV.out.same hW));have MH:Hid (∀W,O0 W0 W->aS 4 dH B W (.slice a4 n4 c4) g):=fun W hW=>HR0.out W (aV.out.same hW);have NV:Hid (Laid W0):=hL.only aV.out;obtain⟨f,hf⟩:=ze (jG g s.name);obtain⟨r,hr⟩:=ze (Bd g s);rw[hr];have Gw:=xk g s.name;have ajy:=Ox g s.name;rw[hf]at Gw ajy;rw[N4.out]at Gw;have HHr:=zh hr;have HHf:=zh hf;have HF:Hid (∀W,O0 W0 W->Calls Tryz.prog 207 #[.agg #[.slice a4 n4 c4],.string s.name] W fun e w'=>e= .returned (.int .i64 f)/\O0 W w'):=fun W hW=>by rw[<-hf];exact MZ (HG0.out W (aV.out.same hW)) s.name
 have HRs:Hid (∀W,O0 W0 W->W.rangeAt w.heap.size 0 [.string s.name,.slice a5 n5 c5,.slice a6 n6 c6]):=fun W hW i u hu=>by obtain⟨k1,k2,k3⟩:=aF.out W hW;exact zD5
 have hW0':=hW0.symm;clear hf hr hs0 r5 r6 h5 h6 hc Xu HG0 HR0 hL hW0;go_enter Tryz.func195,Tryz.ntmps195;go_wp2_with fail;clear hW0';refine aU (fun w'=>O0 W0 w') zk zk zA2 ?_;iterate 3 refine qV ?_
 refine qV ?_ (hy:=zA3);refine qV ?_;refine qV ?_ (hy:=zA3);refine bF (v:=.int .i64 f) (f:=207) (args:= #[.agg #[.slice a4 n4 c4],.string s.name]) (by rfl) ?_ ?_ ?_;·exact zDQ
 ·exact zDj
 try simp only[Act.put,fA,fD,fB,dW,dX,dY]
 refine qV ?_;refine wpQuiet_nil ?_;(intro w9 dR;have fK:=zh dR;clear dR);have aI:=fK;clear fK;by_cases h0:0<=f
 ·obtain⟨i,rfl⟩:∃i:Nat,f=i:=⟨f.toNat,by omega⟩;have ci:i<n4:=zAA;obtain⟨yn,hxn⟩:=zG g i zCH;obtain⟨Kv,wI,nR,nU,nV,mV,lD,mP,hen,lY,lG,Fp,Eo,jO⟩:=jf (MH.out W0 zr) hxn;first|subst hen| (simp only[qG,qO,and_true]at hen;obtain⟨rfl,rfl⟩:=hen)
  have jg:=zh jO;have uJ:=zh hxn;clear jO hxn lY lG;have vG:Hid (∀W,O0 W0 W->dH B W [.string yn.name,.string yn.version,.slice nR nU nV,.slice mV lD mP] yn):=fun W ho=>(jg.out W ho).2.2.2;have en:nodeAt g i=yn:=by unfold nodeAt;rw[qC,uJ.out];rfl
  have HHo:Hid (∀W,O0 W0 W->Calls Tryz.prog 202 #[.agg #[.string yn.name,.string yn.version,.slice nR nU nV,.slice mV lD mP],.agg #[.string s.name,.slice a5 n5 c5,.slice a6 n6 c6]] W fun e w'=>e= .returned (.bool r)/\O0 W w'):=fun W hW=>by
   have h1:jr yn s=r:=by rw[<-HHr.out];unfold Bd;rw[HHf.out,qX h0,yT,en];rfl
   rw[<-h1];exact OB (vG.out W hW) (VN.out W hW) (NV.out.only hW)
  clear en h0;go_wp2_with fail;refine aU (fun w'=>O0 W0 w') zk zk (by exact(aI.out).drew) ?_;iterate 7 refine qV ?_
  refine qV ?_ (hy:=zA3);iterate 2 refine qV ?_
  refine bM (by rfl) rfl rfl (fun w hSw=>(jg.out w hSw).1) Tryz.underlying83 rfl zk ?_;try simp only[Act.put,fA,fD,fB,dW,dX,dY]
  refine bM (b:=w.heap.size) (off:=0) (by rfl) rfl rfl (fun w hSw=>HRs.out w hSw) Tryz.underlying108 rfl zk ?_;try simp only[Act.put,fA,fD,fB,dW,dX,dY]
  refine bF (v:=.bool r) (f:=202) (args:= #[.agg #[.string yn.name,.string yn.version,.slice nR nU nV,.slice mV lD mP],.agg #[.string s.name,.slice a5 n5 c5,.slice a6 n6 c6]]) (by rfl) ?_ ?_ ?_;·exact zDQ
  ·exact zGy
  exact zFH
 obtain rfl:r=false:=by rw[<-HHr.out];unfold Bd;rw[HHf.out,qP h0];rfl
 have h0':decide ((0:Int)<=f)=false:=qP h0;go_wp2_with fail;refine aU (fun w'=>O0 W0 w') zk zk (by exact(aI.out).drew) ?_;iterate 3 refine qV ?_
 iterate 10 refine qS ?_
 iterate 2 refine qV ?_
 exact zDb
end
end Go.Proofs.YtdmmebjjojimiaaGreatDoor
namespace Go.Proofs
theorem zD3{p:Prop}(h:p:=by
 obtain⟨k1,k2,k3,k4⟩:=aF.out W hW
 match i,hu with
 |0,hu=>simp at hu;subst hu;exact k1
 |1,hu=>simp at hu;subst hu;exact k2
 |2,hu=>simp at hu;subst hu;exact k3
 |3,hu=>simp at hu;subst hu;exact k4
 |i+4,hu=>simp at hu):p:=h
end Go.Proofs
namespace Go.Proofs.YtdmmebjjojimiaaGreatDoor
open Go.RowKit
section
variable {w w':World} {B:Nat}
attribute [local irreducible] wpQuiet
theorem Zq{bp:Nat}{x:aQ}{q:dD}{g:List aC}(hc:lH B w bp x q g){zQ:List Value}{n:aC}(hn:dH B w zQ n)(hf:0<=x.find n.name)(hB:B<=w.heap.size)(hrl:(bY x n).jc.length<=1000000)(hL:Laid w)(ix:Int):Calls Tryz.prog 112 #[.pointer (some ⟨bp,0,none⟩),.int .i64 ix,.agg zQ.toArray] w fun e w'=>e= .returned (.bool (yx x n))/\O0 w w':=by
 have hn0:=hn;obtain⟨v5,v6,rfl,-,ok2,r5,r6⟩:=hn;obtain⟨a5,c5,rfl,-,-⟩:=r5.shape;obtain⟨a6,c6,rfl,-,-⟩:=r6.shape;obtain⟨n5,h5⟩:=ze n.sets.length;obtain⟨n6,h6⟩:=ze n.needs.length;rw[h5]at r5 hn0⊢;rw[h6]at r6 hn0⊢;obtain⟨W0,hW0,aV,jK,aF⟩:=QN w (.string n.name) (.string n.version) (.slice a5 n5 c5) (.slice a6 n6 c6) 83;obtain⟨OI,qm,kS⟩:=Jm (hc.only aV.out) (dH.keep hn0 (Kp.dV aV.out)) hf;obtain⟨F9,Gf,Gg,Ea,Eb,Ec,Ep,Es,Et,Gh,xB,Gi,FB,DJ,FC,Gj,Gl,Gm,zY,gd1,hd1,gd2,hd2,gd3,hd3,gd4,hd4,gd5,hd5,gd6,hd6,Nd1,Nd2,Nd3,SH,Nd5,Nd6,Fd⟩:=iO qm;subst zY;obtain⟨HKd,OJ,Ky,Kz,Hu,KA,OL⟩:=Fd W0 zr;replace kS:=zh kS;clear Fd qm;have HRn:Hid (∀W,O0 W0 W->W.rangeAt w.heap.size 0 [.string n.name,.string n.version,.slice a5 n5 c5,.slice a6 n6 c6]):=fun W hW i u hu=>by exact zD3
 obtain⟨r,hr⟩:=ze (Lh (bY x n) n.version);have hv:yx x n=decide (r<0):=by unfold yx;rw[hr]
 rw[hv];have HRk:Hid (∀W,O0 W0 W->Calls Tryz.prog 192 #[.agg #[.string (bY x n).name,.int .i64 (bY x n).line,.slice F9 Gf Gg,.slice Ea Eb Ec,.slice Ep Es Et,.slice Gh xB Gi,.slice FB DJ FC,.slice Gj Gl Gm],.string n.version] W fun e w'=>e= .returned (.int .i64 r)/\O0 W w'):=fun W hW=>by rw[<-hr];exact aiW (HKd.out W hW) (qR hB (aV.out.same hW).size) hrl _ ok2 (hL.only (aV.out.same hW))
 clear hr hv;have hW0':=hW0.symm;clear hn0 r5 r6 h5 h6 hc hW0 hL hB;go_enter Tryz.func112,Tryz.ntmps112;go_wp2_with fail;clear hW0';refine aU (fun w'=>O0 W0 w') zk zk zA2 ?_;refine qV ?_;refine bM (b:=w.heap.size) (off:=0) (by rfl) rfl rfl (fun w hSw=>HRn.out w hSw) Tryz.underlying83 rfl zk ?_;try simp only[Act.put,fA,fD,fB,dW,dX,dY]
 refine bF (v:=.agg #[.string (bY x n).name,.int .i64 (bY x n).line,.slice F9 Gf Gg,.slice Ea Eb Ec,.slice Ep Es Et,.slice Gh xB Gi,.slice FB DJ FC,.slice Gj Gl Gm]) (f:=193) (args:= #[.pointer (some ⟨bp,0,none⟩),.agg #[.string n.name,.string n.version,.slice a5 n5 c5,.slice a6 n6 c6]]) (by rfl) ?_ ?_ ?_;·exact zDQ
 ·exact zEI
 try simp only[Act.put,fA,fD,fB,dW,dX,dY]
 refine qV ?_;refine qV ?_ (hy:=zAX);refine bF (v:=.int .i64 r) (f:=192) (args:= #[.agg #[.string (bY x n).name,.int .i64 (bY x n).line,.slice F9 Gf Gg,.slice Ea Eb Ec,.slice Ep Es Et,.slice Gh xB Gi,.slice FB DJ FC,.slice Gj Gl Gm],.string n.version]) (by rfl) ?_ ?_ ?_;·exact zDQ
 ·exact zGw
 exact zFH
theorem Xv{bp:Nat}{x:aQ}{q:dD}{g:List aC}(hc:lH B w bp x q g){zQ:List Value}{n:aC}(hn:dH B w zQ n)(hf:0<=x.find n.name)(ix:Int):Calls Tryz.prog 114 #[.pointer (some ⟨bp,0,none⟩),.int .i64 ix,.agg zQ.toArray] w fun e w'=>e= .returned (.bool (setW x n))/\O0 w w':=by
 have hn0:=hn;obtain⟨v5,v6,rfl,-,ok2,r5,r6⟩:=hn;obtain⟨a5,c5,rfl,-,-⟩:=r5.shape;obtain⟨a6,c6,rfl,-,-⟩:=r6.shape;obtain⟨n5,h5⟩:=ze n.sets.length;obtain⟨n6,h6⟩:=ze n.needs.length;rw[h5]at r5 hn0⊢;rw[h6]at r6 hn0⊢;obtain⟨W0,hW0,aV,jK,aF⟩:=QN w (.string n.name) (.string n.version) (.slice a5 n5 c5) (.slice a6 n6 c6) 83;obtain⟨OI,qm,kS⟩:=Jm (hc.only aV.out) (dH.keep hn0 (Kp.dV aV.out)) hf;obtain⟨F9,Gf,Gg,Ea,Eb,Ec,Ep,Es,Et,Gh,xB,Gi,FB,DJ,FC,Gj,Gl,Gm,zY,gd1,hd1,gd2,hd2,gd3,hd3,gd4,hd4,gd5,hd5,gd6,hd6,Nd1,Nd2,Nd3,SH,Nd5,Nd6,Fd⟩:=iO qm;subst zY;obtain⟨HKd,OJ,Ky,Kz,Hu,KA,OL⟩:=Fd W0 zr;replace kS:=zh kS;clear Fd qm;have HRn:Hid (∀W,O0 W0 W->W.rangeAt w.heap.size 0 [.string n.name,.string n.version,.slice a5 n5 c5,.slice a6 n6 c6]):=fun W hW i u hu=>by exact zD3
 obtain⟨r,hr⟩:=ze (vH (bY x n).vars n.sets);have hv:setW x n= !r:=by unfold setW;rw[hr]
 rw[hv];have HLg:Hid (∀W,O0 W0 W->Calls Tryz.prog 194 #[.slice Ea Eb Ec,.slice a5 n5 c5] W fun e w'=>e= .returned (.bool r)/\O0 W w'):=fun W hW=>by rw[<-hr];exact aeF (Ky.out W hW) (r5.keep dO.keep (Kp.dV (aV.out.same hW)))
 have hfv:=fun W=>Xl (.string (bY x n).name) (.int .i64 (bY x n).line) (.slice F9 Gf Gg) (.slice Ea Eb Ec) (.slice Ep Es Et) (.slice Gh xB Gi) (.slice FB DJ FC) (.slice Gj Gl Gm) W;clear hr hv;have hW0':=hW0.symm;clear hn0 r5 r6 h5 h6 hc hW0;go_enter Tryz.func114,Tryz.ntmps114;go_wp2_with fail;clear hW0';refine aU (fun w'=>O0 W0 w') zk zk zA2 ?_;refine qV ?_;refine bM (b:=w.heap.size) (off:=0) (by rfl) rfl rfl (fun w hSw=>HRn.out w hSw) Tryz.underlying83 rfl zk ?_;try simp only[Act.put,fA,fD,fB,dW,dX,dY]
 refine bF (v:=.agg #[.string (bY x n).name,.int .i64 (bY x n).line,.slice F9 Gf Gg,.slice Ea Eb Ec,.slice Ep Es Et,.slice Gh xB Gi,.slice FB DJ FC,.slice Gj Gl Gm]) (f:=193) (args:= #[.pointer (some ⟨bp,0,none⟩),.agg #[.string n.name,.string n.version,.slice a5 n5 c5,.slice a6 n6 c6]]) (by rfl) ?_ ?_ ?_;·exact zDQ
 ·exact zEI
 try simp only[Act.put,fA,fD,fB,dW,dX,dY]
 refine qV ?_ (hy:=zAX);refine qV ?_;refine qV ?_ (hy:=zAX);refine bF (v:=.bool r) (f:=194) (args:= #[.slice Ea Eb Ec,.slice a5 n5 c5]) (by rfl) ?_ ?_ ?_;·exact zDQ
 ·exact zGx
 exact zFH
end
end Go.Proofs.YtdmmebjjojimiaaGreatDoor
namespace Go.Proofs
theorem zBO{p:Prop}(h:p:=by rw[<-hW1];exact qL w _):p:=h
theorem zDn{p:Prop}(h:p:=by
 have b0:W1.heap[w.heap.size]? =some (.cells #[.int .u8 0,.string ⟨#[]⟩] 38):=zBO
 exact aA b0 ho (fun f=>f)):p:=h
theorem zEE{p:Prop}(h:p:=by exact⟨rfl,(aV.out.same (aI.out.same jZ.out)).trans (aK _ _ _) fun k hk=>.inr zAO⟩):p:=h
end Go.Proofs
namespace Go.Proofs.YtdmmebjjojimiaaGreatDoor
open Go.RowKit
section
variable {w w':World} {B:Nat}
attribute [local irreducible] wpQuiet
def DN(B:Nat)(w:World)(f:Nat)(ba cb:Array Value)(g:List aC)(p:Nat->aC->Bool):Prop:=
 ∀(i:Nat) (n:aC),g[i]? =some n->∀(W:World) (cs:List Value),O0 w W->dH B W cs n->Calls Tryz.prog f (ba++(#[.int .i64 (i:Int),.agg cs.toArray]++cb)) W fun e w'=>e= .returned (.bool (p i n))/\O0 W w'
theorem oM{bp:Nat}{x:aQ}{q:dD}{g:List aC}(hc:lH B w bp x q g)(cd:Int){f:Nat}{ba cb:Array Value}{p:Nat->aC->Bool}(eg:∀args w,(callFunc f args).run Tryz.prog w= .ok (.enter f args) w)(hp:DN B w f ba cb g p):Calls Tryz.prog 109 #[.pointer (some ⟨bp,0,none⟩),.int .u8 cd,.func (.func f) ba cb] w fun e w'=>iY (dB [(cd,aX g p)]) w w' e:=by
 obtain⟨a1,n1,c1,a2,n2,c2,a3,n3,c3,a4,n4,c4,-,-,N4,-,-,g4,oZ,-,-,-,-,-,MH⟩:=hc.open;have hn4:n4<=9223372036854775807:=by obtain⟨_,_,_,hb1,hb2⟩:=(MH.out w zr).shape;rw[<-N4.out];omega
 have hp:=zh hp;have aV:Hid (O0 w w):=Only.refl _ _;clear hc;obtain⟨rc,rs,hr⟩:∃c s,dB [(cd,aX g p)]=(c,s):=⟨_,_,rfl⟩;have aZ:=zh hr;rw[hr];unfold iY;dsimp only;obtain⟨W1,hW1⟩:=ze (w.alloc (.cells #[.int .u8 0,.string ⟨#[]⟩] 38));have aI:Hid (O0 w W1):=zAc;have iM:Hid (∀W,O0 W1 W->W.heap[w.heap.size]? =some (.cells #[.int .u8 0,.string ⟨#[]⟩] 38 (0,0))):=fun W ho=>by exact zDn
 have wZ:Hid (O0 W1 W1):=Only.refl _ _;clear hr;obtain⟨p0,p1,p2,p3⟩:=oZ.out W1 aI.out;go_enter Tryz.func109,Tryz.ntmps109;go_wp2_with fail;clear hW1 p0 p1 p2 p3;have fQ:=wZ;go_loopw [15] (fun vi bD=>Hid (O0 W1 bD)/\∃i:Nat,vi= .int .i64 i/\i<=n4/\Hid (∀j,j<i->p j (nodeAt g j)=false)) (fun v _=>n4-(RowKit.intOf v).toNat);case atStart=>exact⟨fQ,0,rfl,qE _,show Hid _ from fun j hj=>by omega⟩
 case round=>
  obtain⟨bD,rfl⟩:=zB wr;clear fQ;obtain⟨jD,i,rfl,hi,HQ⟩:=hrel;by_cases ci:i<n4
  ·have iE:=zw (i+1);obtain⟨yn,hxn⟩:=zG g i zCH;obtain⟨Kv,wI,nR,nU,nV,mV,lD,mP,hen,lY,lG,Fp,Eo,jO⟩:=jf (MH.out w zr) hxn;first|subst hen| (simp only[qG,qO,and_true]at hen;obtain⟨rfl,rfl⟩:=hen)
   have jg:=zh jO;have uJ:=zh hxn;clear jO hxn lY lG;have vG:Hid (∀W,O0 w W->dH B W [.string yn.name,.string yn.version,.slice nR nU nV,.slice mV lD mP] yn):=fun W ho=>(jg.out W ho).2.2.2;obtain⟨y,hy⟩:=ze (p i yn);have HY:=zh hy;have O8:O0 w (bD.alloc (.cells #[.string yn.name,.string yn.version,.slice nR nU nV,.slice mV lD mP] 83)):=(aI.out.same jD.out).alloc _;have HC:=zh (hp.out i yn uJ.out _ _ O8 (vG.out _ O8));rw[hy]at HC;have Jo:Hid ((bD.alloc (.cells #[.string yn.name,.string yn.version,.slice nR nU nV,.slice mV lD mP] 83)).heap[bD.heap.size]? =some (.cells #[.string yn.name,.string yn.version,.slice nR nU nV,.slice mV lD mP] 83 (0,0))):=qL bD _;have U9:Hid (O0 W1 (bD.alloc (.cells #[.string yn.name,.string yn.version,.slice nR nU nV,.slice mV lD mP] 83))):=jD.out.alloc _;have hr1:=zh (jg.out bD (aI.out.same jD.out)).1;clear hy O8;go_wp2_with (refine wpList_load_mid rfl 83 (.tmp 18) rfl Kv (wI+i*4) rfl _ _ hr1.out Tryz.underlying83 rfl zk ?_);refine HC.out.mono ?_;rintro e w9 ⟨rfl,O9⟩;have jZ:=zh (U9.out.same O9);have n0:w9.cell? ⟨bD.heap.size,0,none⟩=some (.string yn.name):=by rw[aj (aA Jo.out O9 (fun f=>f))];rfl
   clear O9 HC;cases y with
   |true=>
    obtain⟨rfl,rfl⟩:cd=rc/\yn.name=rs:=by
     have h:dB [(cd,aX g p)]=(cd,yn.name):=by rw[show aX g p=some yn.name from nJ uJ.out HQ.out HY.out];rfl
     exact zDS
    go_wp2_with (refine wpList_store_row rfl 38 (.tmp 6) (.tmp 27) rfl w.heap.size #[.int .u8 cd,.string yn.name] rfl rfl 38 #[.int .u8 0,.string ⟨#[]⟩] (iM.out w9 jZ.out) zk rfl zk ?_);refine cO (p:=6) rfl rfl rfl (run_loadVar_row _ _ _ _ _ (0,0) _ (setRow_heap _ _ _ _ _ _ (iM.out w9 jZ.out)) Tryz.underlying38 rfl zk) ?_;exact zEE
   |false=>have pI:Hid (∀j,j<i+1->p j (nodeAt g j)=false):=zh (kM (p:=p) uJ.out HQ.out HY.out);exact zD1
  obtain rfl:n4=i:=by omega
  have hq:aX g p=none:=kL.2 fun j hj=>HQ.out j (by rw[N4.out]at hj;exact hj);obtain⟨rfl,rfl⟩:0=rc/\ByteArray.empty=rs:=by
   have h:dB [(cd,aX g p)]=(0,ByteArray.empty):=by rw[hq];rfl
   exact zDS
  go_wp2_with (refine wpList_store_row rfl 38 (.tmp 6) (.tmp 29) rfl w.heap.size #[.int .u8 0,.string ByteArray.empty] rfl rfl 38 #[.int .u8 0,.string ⟨#[]⟩] (iM.out bD jD.out) zk rfl zk ?_);exact zFE
end
end Go.Proofs.YtdmmebjjojimiaaGreatDoor
