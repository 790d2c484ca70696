/- LkW7 LkW8, in one text.; lock.Write, and the example of the law of locks. -/
import Derived.Test.YtdmmebjjojimiaaGreatDoorG40
import Derived.Test.YtdmmebjjojimiaaGreatDoorG39
import Derived.Test.YtdmmebjjojimiaaGreatDoorG33
set_option maxRecDepth 100000
set_option maxHeartbeats 8000000
set_option linter.all false
namespace Go.Proofs
theorem zCl{p:Prop}(h:p:=by first|kernel_rfl|rfl|simp[Value.oneCell']):p:=h
theorem zCp{p:Prop}(h:p:=by first|omega| (simp;done)| (simp;omega)):p:=h
theorem zCu{p:Prop}(h:p:=by have:=jK.out;unfold okS maxLen;omega):p:=h
theorem zDU{p:Prop}(h:p:=by
 go_wp2_with fail
 refine HRt.out.mono ?_
 rintro e w2 ⟨rfl,o2⟩
 have eF:Hid (Only (fun k=>w1.heap.size<=k\/k=R+2) w1 w2):=gK.out.same (o2.mono fun _ h=>.inl h)
 clear o2 HRt cP qx
 cases rr with
 |true=>
  obtain⟨h2,h3,-,-,ow⟩:=HF2.out w2 (eF.out)
  have h3':(w2.setRow R #[.slice none 0 0]).heap[R+1]? =some (.cells #[.int .i64 0,.int .i64 0] 113 (0,0)):=((cZ w2 R #[.slice none 0 0]).block (R+1) (yA.1 h3).1 zAA).trans h3
  have HA2:=zh h2
  have Ql:=zh h3
  have Q5:=zh h3'
  have qp:=zh ow
  clear h2 h3 h3' ow
  go_wp2_with (first| (refine wpList_store_row rfl 31 (.tmp 2) (.tmp 63) rfl R #[.slice none 0 0] rfl rfl 31 #[.slice none 0 0] HA2.out zk rfl zCl ?_)| (refine wpList_store_row rfl 113 (.tmp 3) (.tmp 65) rfl (R+1) #[.int .i64 (((i:Int)+1+1)),.int .i64 0] rfl rfl 113 #[.int .i64 0,.int .i64 0] Q5.out zk rfl zAF ?_))
  exact wJ HA2.out Ql.out zAA rfl rfl rfl rfl (jV.err sJ.out zCp (Af qp.out HR.out))
 |false=>
  obtain⟨h2,h3,-,-,ow⟩:=HF2.out w2 (eF.out)
  have h3':(w2.setRow R #[.slice none 0 0]).heap[R+1]? =some (.cells #[.int .i64 0,.int .i64 0] 113 (0,0)):=((cZ w2 R #[.slice none 0 0]).block (R+1) (yA.1 h3).1 zAA).trans h3
  have HA2:=zh h2
  have Ql:=zh h3
  have Q5:=zh h3'
  have qp:=zh ow
  clear h2 h3 h3' ow
  go_wp2_with (first| (refine wpList_store_row rfl 31 (.tmp 2) (.tmp 63) rfl R #[.slice none 0 0] rfl rfl 31 #[.slice none 0 0] HA2.out zk rfl zCl ?_)| (refine wpList_store_row rfl 113 (.tmp 3) (.tmp 65) rfl (R+1) #[.int .i64 (((i:Int)+1)),.int .i64 0] rfl rfl 113 #[.int .i64 0,.int .i64 0] Q5.out zk rfl zAF ?_))
  exact wJ HA2.out Ql.out zAA rfl rfl rfl rfl (jV.err sJ.out zCp (Af qp.out HR.out))):p:=h
end Go.Proofs
namespace Go.Proofs.YtdmmebjjojimiaaGreatDoor
open Go.RowKit
open Lk (sG uZ mO Em kG xM)
section
variable {w w':World} {B:Nat}
theorem TA:(⟨#[110,111,100,101,32]⟩:ByteArray).toList=sG:=by rw[toList_data];rfl
theorem TB:(⟨#[32,32,110,101,101,100,115,32]⟩:ByteArray).toList=uZ:=by rw[toList_data];rfl
theorem ain{P:Nat}{L:List LN}(line:Str)(hs:line.size<4294967281)(h:GB B w P L)(hl:L.length<=24)(hn:∀n∈L,n.x.needs.length<=24)(hM:vK w)(hB:B<=w.heap.size):Calls Tryz.prog 102 #[.pointer (some ⟨P,0,none⟩),.string line] w (fun e w'=>jP B P (Em (fM (L.map LN.x)) line.toList) L w w' e):=by
 have HGB:=zh h;have HM:=zh hM;have EU:=zh hB;have HN:=zh hn;have jK:=zh hs;have HC1:=zh (Xx (w:=w) line ⟨#[110,111,100,101,32]⟩);have HC2:=zh (Xx (w:=w) line ⟨#[32,32,110,101,101,100,115,32]⟩);clear h hM hB hn hs;rw[TA]at HC1;rw[TB]at HC2;obtain⟨p1,hp1⟩:=ze (sG.isPrefixOf line.toList);obtain⟨p2,hp2⟩:=ze (uZ.isPrefixOf line.toList);rw[hp1]at HC1;rw[hp2]at HC2;go_enter Tryz.func102,Tryz.ntmps102;cases p1 with
 |true=>
  have HR:Hid (Em (fM (L.map LN.x)) line.toList=kG (fM (L.map LN.x)) (line.toList.drop 5)):=by show _=_;unfold Em;rw[if_pos hp1]
  clear hp1 hp2 HC2;go_wp2_with fail;refine HC1.out.mono ?_;rintro e w1 ⟨r,rfl,h1,h2,rfl⟩;have hr:r.toList=line.toList.drop 5:=h1 trivial;have Qi:=zh (ahu (w:=w1) r (by have:=jK.out;omega) HGB.out hl HM.out EU.out);rw[hr,<-HR.out]at Qi;clear h1 h2 hr HC1;go_wp2_with fail;refine Qi.out.mono ?_;rintro e w2 ⟨b,rfl,o2,h2⟩;have HE:Hid (jP B P (Em (fM (L.map LN.x)) line.toList) L w1 w2 (.returned (.bool b))):=⟨b,rfl,o2,h2⟩;clear o2 h2 Qi;exact zEy
 |false=>
  go_wp2_with fail;refine HC1.out.mono ?_;rintro e w1 ⟨r,rfl,-,-,rfl⟩;clear HC1;cases p2 with
  |false=>
   have HR:Hid (Em (fM (L.map LN.x)) line.toList=none):=by show _=_;unfold Em;rw[hp1,hp2];rfl
   clear hp1 hp2;go_wp2_with fail;refine HC2.out.mono ?_;rintro e w2 ⟨r2,rfl,-,-,rfl⟩;have HE:Hid (jP B P (Em (fM (L.map LN.x)) line.toList) L w2 w2 (.returned (.bool false))):=jP.no HR.out HGB.out zr rfl;clear HC2;exact zEy
  |true=>
   have HR:Hid (Em (fM (L.map LN.x)) line.toList=xM (fM (L.map LN.x)) (line.toList.drop 8)):=by show _=_;unfold Em;rw[hp1,if_neg zAP,if_pos hp2]
   clear hp1 hp2;go_wp2_with fail;refine HC2.out.mono ?_;rintro e w2 ⟨r2,rfl,h1,h2,rfl⟩;have hr:r2.toList=line.toList.drop 8:=h1 trivial;have Qi:=zh (ahh (w:=w2) r2 zCu HGB.out hl HN.out EU.out);rw[hr,<-HR.out]at Qi;clear h1 h2 hr HC2;go_wp2_with fail;refine Qi.out.mono ?_;rintro e w3 ⟨b,rfl,o2,h2⟩;have HE:Hid (jP B P (Em (fM (L.map LN.x)) line.toList) L w2 w3 (.returned (.bool b))):=⟨b,rfl,o2,h2⟩;clear o2 h2 Qi;exact zEy
def Vs(G:List Lk.NB)(i:Nat)(l:List UInt8):Bool:=if i=0 then decide (l=mO)else (Em G l).isSome
theorem ahx{rv:Value}{L:List LN}(i:Nat)(line:Str)(hs:line.size<4294967281)(h:vU B w rv L)(hl:L.length<=24)(hn:∀n∈L,n.x.needs.length<=24)(hM:vK w)(hB:B<=w.heap.size)(r:Bool)(hr:Vs (fM (L.map LN.x)) i line.toList=r):Calls Tryz.prog 103 #[.agg #[rv],.int .i64 (i:Int),.string line] w (fun e w'=>e= .returned (.bool r)/\Kp B w w'):=by
 have QG:Hid (Calls Tryz.prog 102 #[.pointer (some ⟨w.heap.size,0,none⟩),.string line] (w.alloc (.cells #[rv] 31)) (fun e w'=>jP B w.heap.size (Em (fM (L.map LN.x)) line.toList) L (w.alloc (.cells #[rv] 31)) w' e)):=
  ain line hs ⟨rv,qL _ _,h.dK (zr.alloc _)⟩ hl hn (hM.only (zr.alloc _)) zBL
 have HR:=zh hr;have hdec:(line.toList==[108,111,99,107,32,49])=decide (line.toList=mO):=by
  show(line.toList==mO)=_;by_cases h:line.toList=mO;·rw[qX h,h];exact beq_self_eq_true _
  rw[qP h];exact yC.2 h
 clear hr hB hM hn hs h;by_cases c:i=0;·subst c;have hr:decide (line.toList=mO)=r:=HR.out;rw[hr]at hdec;clear HR;go_enter Tryz.func103,Tryz.ntmps103;go_wp2_with fail;go_ret;exact⟨rfl,Kp.dV (zr.alloc _)⟩
 have ci:((i:Int)==0)=false:=by rw[yC];omega
 have hr:(Em (fM (L.map LN.x)) line.toList).isSome=r:=by have h:=HR.out;unfold Vs at h;rw[if_neg c]at h;exact h
 have HR2:=zh hr;clear HR hr;go_enter Tryz.func103,Tryz.ntmps103;go_wp2_with fail;refine QG.out.mono ?_;rintro e w1 ⟨b,rfl,o1,h1⟩;have hb:b=r:=by
  rw[<-HR2.out]
  cases hh:Em (fM (L.map LN.x)) line.toList with
  |none=>rw[hh]at h1;exact h1.1
  |some g=>rw[hh]at h1;exact h1.1
 subst hb;have hk:Kp B w w1:=(Only.refl _ _ |>.alloc _:Only (fun k=>B<=k) w (w.alloc (.cells #[rv] 31))).trans o1 fun k hk=>by
  rcases hk with hk|hk;·exact .inl hk
  exact .inr zAA
 have HK:=zh hk;clear o1 h1 hk QG HR2;go_wp2_with fail;go_ret;exact⟨rfl,HK.out⟩
end
end Go.Proofs.YtdmmebjjojimiaaGreatDoor
namespace Go.Proofs.YtdmmebjjojimiaaGreatDoor
open Go.RowKit
open Lk (mO Em iy goB eG dL)
section
variable {w w':World} {B:Nat}
def XQ(s:Str)(w w':World)(e:Ending):Prop:= ∃gv ln er,e= .returned (.tuple #[.agg #[gv],.agg #[.int .i64 ln,.int .i64 0],.int .i64 er])/\O0 w w'/\
 (match eG s.toList with| .ok G=>ln=0/\er=0/\∃g,fM g=G/\aS 4 dH w'.heap.size w' gv g| .error n=>ln=(n:Int)/\er=2/\gv= .slice none 0 0)
def jV(s:Str)(w w':World)(e:Ending):Prop:= ∃gv ln er,e= .returned (.tuple #[.agg #[gv],.agg #[.int .i64 ln,.int .i64 0],.int .i64 er])/\O0 w w'/\
 (match eG s.toList with| .ok G=>ln=0/\er=0/\∃g,fM g=G/\∀W,Only (fun k=>k<w.heap.size) w' W->aS 4 dH W.heap.size W gv g| .error n=>ln=(n:Int)/\er=2/\gv= .slice none 0 0)
theorem jV.weak{s:Str}{w w':World}{e:Ending}(h:jV s w w' e):XQ s w w' e:=by
 obtain⟨gv,ln,er,he,ho,hm⟩:=h;refine⟨gv,ln,er,he,ho,?_⟩;cases hp:eG s.toList with
 |error n=>rw[hp]at hm;exact hm
 |ok G=>rw[hp]at hm;obtain⟨h1,h2,g,h3,h4⟩:=hm;exact⟨h1,h2,g,h3,h4 w' zr⟩
theorem wJ{Q:Ending->World->Prop}{W:World}{R2 R3:Nat}{T:Act}{c2 c3:Array Value}{gv:Value}{ln er:Int}(hb2:W.heap[R2]? =some (.cells c2 31 (0,0)))(hb3:W.heap[R3]? =some (.cells c3 113 (0,0)))(hne:R2≠R3)(h2:T.tmps.getD 2 undef= .pointer (some ⟨R2,0,none⟩))(h3:T.tmps.getD 3 undef= .pointer (some ⟨R3,0,none⟩))(h4:T.tmps.getD 4 undef= .int .i64 er)(hd:T.defers=[])(h:Q (.returned (.tuple #[.agg #[gv],.agg #[.int .i64 ln,.int .i64 0],.int .i64 er])) ((W.setRow R2 #[gv]).setRow R3 #[.int .i64 ln,.int .i64 0])):bodyPost Tryz.prog Tryz.f49 Q Exit.ret T ((W.setRow R2 #[gv]).setRow R3 #[.int .i64 ln,.int .i64 0]):=by
 refine bodyPost_ret (v:=.tuple #[.agg #[gv],.agg #[.int .i64 ln,.int .i64 0],.int .i64 er]) ?_ hd h;have a2:=setRow_heap W R2 c2 #[gv] 31 (0,0) hb2;have a3:(W.setRow R2 #[gv]).heap[R3]? =some (.cells c3 113 (0,0)):=((cZ W R2 #[gv]).block R3 (yA.1 hb3).1 (fun e=>hne e.symm)).trans hb3;have b3:=setRow_heap (W.setRow R2 #[gv]) R3 c3 #[.int .i64 ln,.int .i64 0] 113 (0,0) a3;have b2:((W.setRow R2 #[gv]).setRow R3 #[.int .i64 ln,.int .i64 0]).heap[R2]? =some (.cells #[gv] 31 (0,0)):=((cZ (W.setRow R2 #[gv]) R3 #[.int .i64 ln,.int .i64 0]).block R2 (yA.1 a2).1 hne).trans a2;have e:Tryz.f49.results= #[.cell 2 31,.cell 3 113,.tmp 4]:=rfl;have l2:=run_loadVar_row (P:=Tryz.prog) _ R2 31 31 #[gv] (0,0) _ b2 Tryz.underlying31 rfl zk;have l3:=run_loadVar_row (P:=Tryz.prog) _ R3 113 113 #[.int .i64 ln,.int .i64 0] (0,0) _ b3 Tryz.underlying113 rfl zk;have g2:T.tmps[2]?.getD undef= .pointer (some ⟨R2,0,none⟩):=zB0;have g3:T.tmps[3]?.getD undef= .pointer (some ⟨R3,0,none⟩):=zCd;have g4:T.tmps[4]?.getD undef= .int .i64 er:=by simpa using h4
 simp only[results,e];simp[Sem.run_bind,Result.andThen,g2,g3,g4,asAddr,l2,l3]
theorem aaQ{l:List (List UInt8)}{i:Nat}{x:List UInt8}{G:List Lk.NB}(hx:l[i]? =some x)(hi:i+1=l.length):goB (l.drop i) i G=if 0<i/\x=[]then .ok G else if i=0 then (if x=mO then .error 2 else .error 1)else match iy G x with|none=>.error (i+1)|some _=>.error (i+2):=by
 have e:l.drop i=[x]:=by obtain⟨h1,h2⟩:=qJ.1 hx;rw[List.drop_eq_getElem_cons h1,h2,List.drop_of_length_le zAA]
 rw[e];unfold goB;by_cases c:0<i/\x=[];·rw[if_pos c,if_pos c]
 rw[if_neg c,if_neg c];by_cases c0:i=0;·rw[if_pos c0,if_pos c0]
 rw[if_neg c0,if_neg c0];cases iy G x<;>rfl
theorem go_on{l:List (List UInt8)}{i:Nat}{x:List UInt8}{G:List Lk.NB}(hx:l[i]? =some x)(hi:i+1<l.length):goB (l.drop i) i G=if i=0 then (if x=mO then goB (l.drop (i+1)) (i+1) G else .error 1)else match iy G x with|none=>.error (i+1)|some G'=>goB (l.drop (i+1)) (i+1) G':=by
 obtain⟨h1,h2⟩:=qJ.1 hx;have e:l.drop i=x::l.drop (i+1):=by rw[List.drop_eq_getElem_cons h1,h2]
 obtain⟨m,r,e2⟩:∃m r,l.drop (i+1)=m::r:=⟨_,_,List.drop_eq_getElem_cons hi⟩;rw[e,e2];conv=>lhs;unfold goB
 by_cases c0:i=0;·subst c0;rw[if_pos rfl,if_pos rfl]
 rw[if_neg c0,if_neg c0];cases iy G x<;>rfl
theorem XR{P:Nat}{L:List LN}(h:dL (fM (L.map LN.x))=true):L.length<=24/\∀n∈L,n.x.needs.length<=24:=by obtain⟨h1,-,h3⟩:=Lk.qh h;refine⟨by simpa[fM]using h3,fun n hn=>?_⟩;have:=(h1 n.x.toB (by show _∈List.map _ _;exact List.mem_map_of_mem (List.mem_map_of_mem hn))).n24;simpa[aC.toB]using this
theorem Af{W:World}{R:Nat}{c2 c3:Array Value}(h:O0 w W)(hR:w.heap.size=R):O0 w ((W.setRow R c2).setRow (R+1) c3):=(h.trans (cZ W R c2) fun k hk=>.inr zCj).trans (cZ _ (R+1) c3) fun k hk=>.inr zAA
theorem jV.err{s:Str}{W:World}{n:Nat}{k:Int}(hp:eG s.toList= .error n)(hk:k=(n:Int))(o:O0 w W):jV s w W (.returned (.tuple #[.agg #[.slice none 0 0],.agg #[.int .i64 k,.int .i64 0],.int .i64 2])):=by subst hk;refine⟨_,_,_,rfl,o,?_⟩;rw[hp];exact⟨rfl,rfl,rfl⟩
theorem jV.ok{s:Str}{W:World}{rv:Value}{L:List LN}(hp:eG s.toList= .ok (fM (L.map LN.x)))(h:vU B W rv L)(hB:w.heap.size<=B)(o:O0 w W):jV s w W (.returned (.tuple #[.agg #[rv],.agg #[.int .i64 0,.int .i64 0],.int .i64 0])):=by refine⟨_,_,_,rfl,o,?_⟩;rw[hp];exact⟨rfl,rfl,L.map LN.x,rfl,fun V hV=>(h.only hV (fun k hk e=>by have:=h.new k hk;omega) (fun n hn k hk e=>by have:=(h.each n hn).new1 k hk;omega) (fun n hn k hk e=>by have:=(h.each n hn).new2 k hk;omega)).read⟩
theorem vU.rows{W:World}{R R3:Nat}{rv:Value}{L:List LN}{c2 c3 d2 d3:Array Value}(h:vU B W rv L)(h2:W.heap[R]? =some (.cells c2 31 (0,0)))(h3:W.heap[R3]? =some (.cells c3 113 (0,0))):vU B ((W.setRow R d2).setRow R3 d3) rv L:=by have f2:=h.free h2 zC6 zHZ zAH;have f3:=h.free h3 zC6 zHZ zAH;exact(h.only (cZ W R d2) (fun k hk e=>f2.1 k hk e) (fun n hn k hk e=>f2.2.1 n hn k hk e) (fun n hn k hk e=>f2.2.2 n hn k hk e)).only (cZ _ R3 d3) (fun k hk e=>f3.1 k hk e) (fun n hn k hk e=>f3.2.1 n hn k hk e) (fun n hn k hk e=>f3.2.2 n hn k hk e)
theorem aaR(s:Str)(hs:s.size<4294967281)(hM:vK w):Calls Tryz.prog 49 #[.string s] w (fun e w'=>jV s w w' e):=by
 obtain⟨w0,hw0⟩:=ze (((w.alloc (.cells #[.slice none 0 0] 31)).alloc (.cells #[.int .i64 0,.int .i64 0] 113)).alloc (.cells #[.slice none 0 0] 31));obtain⟨R,hR⟩:=ze w.heap.size;have b2:w0.heap[R]? =some (.cells #[.slice none 0 0] 31 (0,0)):=by have h:=qL w (.cells #[.slice none 0 0] 31);have o:=((Only.refl (fun _=>False) (w.alloc (.cells #[.slice none 0 0] 31))).alloc (.cells #[.int .i64 0,.int .i64 0] 113)).alloc (.cells #[.slice none 0 0] 31);rw[<-hw0,<-hR];exact(o.block w.heap.size zAP (fun f=>f)).trans h
 have b3:w0.heap[R+1]? =some (.cells #[.int .i64 0,.int .i64 0] 113 (0,0)):=by have h:=qL (w.alloc (.cells #[.slice none 0 0] 31)) (.cells #[.int .i64 0,.int .i64 0] 113);have o:=(Only.refl (fun _=>False) ((w.alloc (.cells #[.slice none 0 0] 31)).alloc (.cells #[.int .i64 0,.int .i64 0] 113))).alloc (.cells #[.slice none 0 0] 31);rw[World.size_alloc,hR]at h;rw[<-hw0];exact(o.block (R+1) zBL (fun f=>f)).trans h
 have bP:w0.heap[R+2]? =some (.cells #[.slice none 0 0] 31 (0,0)):=by rw[<-hw0];have h:=qL ((w.alloc (.cells #[.slice none 0 0] 31)).alloc (.cells #[.int .i64 0,.int .i64 0] 113)) (.cells #[.slice none 0 0] 31);rw[World.size_alloc,World.size_alloc,hR]at h;exact h
 have o0:O0 w w0:=by rw[<-hw0];exact((zr.alloc _).alloc _).alloc _
 have hsz0:w0.heap.size=R+3:=by rw[<-hw0];simp;omega
 have VN:=zh (aaH (w:=w0) s hs 10 (hM.only o0));have HM:=zh hM;have jK:=zh hs;have jW:=zh o0;have H2:=zh b2;have H3:=zh b3;have HPb:=zh bP;have TU:=zh hsz0;have HR:=zh hR;clear hs hM o0 b2 b3 bP hsz0;go_enter Tryz.func49,Tryz.ntmps49;go_wp2_with fail;refine VN.out.mono ?_;rintro e w1 ⟨l,hcut,rfl,hw1,hrow,hsz,hln⟩;have ho1:O0 w0 w1:=by rw[hw1];exact zr.alloc _
 have hsz1:w1.heap.size=R+4:=by rw[hw1];simp[TU.out]
 rw[TU.out]at hrow⊢;obtain⟨n,hn⟩:=ze l.length;have hn0:0<n:=by rw[<-hn];have:=congrArg List.length hcut;rw[qM]at this;rw[this];exact List.length_pos_iff.2 (Au 10 _)
 have hn1:n<=4294967282:=by have:=jK.out;omega
 have KP:=zh hcut;have aI:=zh ho1;have Z4:=zh hsz1;have HL:=zh hrow;have QZ:=zh hsz;have HN:=zh hn;have En:Hid ((l.map ByteArray.toList).length=n):=by show _=_;rw[qM,hn]
 rw[hn]at HL⊢;have HG0:Hid (GB w1.heap.size w1 (R+2) []):=⟨.slice none 0 0,(ho1.block _ (yA.1 HPb.out).1 (fun f=>f)).trans HPb.out,vU.nil⟩;have HF2:Hid (∀W,Only (fun k=>w1.heap.size<=k\/k=R+2) w1 W->W.heap[R]? =some (.cells #[.slice none 0 0] 31 (0,0))/\W.heap[R+1]? =some (.cells #[.int .i64 0,.int .i64 0] 113 (0,0))/\(∀(i:Nat) (x:Str),l[i]? =some x->W.cell? ⟨R+3,i,none⟩=some (.string x))/\vK W/\O0 w W):=fun W o=>by have hs1:=Z4.out;have a2:=(aI.out.block R (yA.1 H2.out).1 (fun f=>f)).trans H2.out;have a3:=(aI.out.block (R+1) (yA.1 H3.out).1 (fun f=>f)).trans H3.out;have ow:O0 w W:=(jW.out.same aI.out).trans o fun k hk=>.inr (by rw[HR.out];rcases hk with hk|hk<;>omega);refine⟨(o.block R (yA.1 a2).1 (by rw[hs1];omega)).trans a2,(o.block (R+1) (yA.1 a3).1 (by rw[hs1];omega)).trans a3,fun i x hx=>?_,HM.out.only ow,ow⟩;obtain⟨b',off',he,-,hE⟩:=iR HL.out hx;cases he;have h1:=(hE w1 zr).1 0 _ rfl;simp only[qF,yH,Nat.zero_add]at h1;rw[World.cell?_of_block (w:=w1) (o.block (R+3) (by rw[hs1];omega) (by rw[hs1];omega))];exact h1
 clear hcut ho1 hsz1 hrow hsz hn hln hw1 hw0 VN;go_wp2_with fail;go_loopw [15] (fun vi wr=>Hid (Only (fun k=>w1.heap.size<=k\/k=R+2) w1 wr)/\∃(i:Nat) (L:List LN),vi= .int .i64 i/\i<n/\Hid (GB w1.heap.size wr (R+2) L)/\Hid (dL (fM (L.map LN.x))=true)/\Hid (goB (l.map ByteArray.toList) 0 []=goB ((l.map ByteArray.toList).drop i) i (fM (L.map LN.x)))) (fun v _=>n-(RowKit.intOf v).toNat);case atStart=>exact⟨show Hid _ from Only.refl _ _,0,[],rfl,hn0,HG0,rfl,by show goB _ _ _=goB _ _ _;rw[List.drop_zero];rfl⟩
 case round=>
  obtain⟨gK,i,L,rfl,hi,HGi,HGr,HGo⟩:=hrel;obtain⟨x,hx⟩:=zG l i (by rw[HN.out];exact hi);have hxB:(l.map ByteArray.toList)[i]? =some x.toList:=by rw[List.getElem?_map,hx];rfl
  have HX:=zh hxB;have qx:=(HF2.out wr gK.out).2.2.1 i x hx;have hxs:x.size<4294967281:=by have:=QZ.out x (qT hx);have:=jK.out;omega
  have AV:=zh hxs;obtain⟨rv,hb,hr⟩:=HGi.out;obtain⟨ao,cap,oK,-,-⟩:=bg hr.own;subst oK;have cP:wr.cell? ⟨R+2,0,none⟩=some (.slice ao L.length cap):=by rw[aj hb];rfl
  have pO:=zh hr;have hsm:=XR (P:=0) HGr.out;have QI:=zh hsm;have hBs:w1.heap.size<=wr.heap.size:=gK.out.size;have EU:=zh hBs;have aj6:Hid (eG s.toList=goB ((l.map ByteArray.toList).drop i) i (fM (L.map LN.x))):=by show _=_;unfold eG;rw[<-KP.out];exact HGo.out
  have ew1:=zw (i+1);have ew2:=zw ((i:Int)+1+1);clear hx hxB hxs hb hr hsm hBs;by_cases ce:i+1=n
  ·subst ce;have ew0:IntKind.i64.wrap (i:Int)=(i:Int):=zBR;have hlast:=aaQ (G:=fM (L.map LN.x)) HX.out En.out.symm;rw[<-aj6.out]at hlast;have Ed:=zh hlast;clear hlast;by_cases cok:0<i/\x.toList=[]
   ·have hpo:eG s.toList= .ok (fM (L.map LN.x)):=by rw[Ed.out,if_pos cok]
    have HPo:=zh hpo;obtain⟨c0,hx0⟩:=cok;have c0':(0:Int)<(i:Int):=zAA;have hxe:(x.toList==([]:List UInt8))=true:=by rw[hx0];rfl
    clear hpo;obtain⟨h2,h3,-,-,ow⟩:=HF2.out wr gK.out;have h3':(wr.setRow R #[.slice ao L.length cap]).heap[R+1]? =some (.cells #[.int .i64 0,.int .i64 0] 113 (0,0)):=((cZ wr R #[.slice ao L.length cap]).block (R+1) (yA.1 h3).1 zAA).trans h3;have HA2:=zh h2;have Ql:=zh h3;have Q5:=zh h3';have qp:=zh ow;clear h2 h3 h3' ow;go_wp2_with (first| (refine wpList_store_row rfl 31 (.tmp 2) (.tmp 35) rfl R #[.slice ao L.length cap] rfl rfl 31 #[.slice none 0 0] HA2.out zk rfl zCl ?_)| (refine wpList_store_row rfl 113 (.tmp 3) (.tmp 36) rfl (R+1) #[.int .i64 0,.int .i64 0] rfl rfl 113 #[.int .i64 0,.int .i64 0] Q5.out zk rfl zAF ?_));exact wJ HA2.out Ql.out zAA rfl rfl rfl rfl (jV.ok HPo.out (pO.out.rows HA2.out Ql.out) (by have:=Z4.out;have:=HR.out;omega) (Af qp.out HR.out))
   have hnot:(decide (0<i/\x.toList=[]))=false:=qP cok;obtain⟨rr,hrr⟩:=ze (Vs (fM (L.map LN.x)) i x.toList);have HRt:=zh (ahx (w:=wr) (B:=w1.heap.size) i x AV.out pO.out QI.out.1 QI.out.2 (HF2.out wr gK.out).2.2.2.1 EU.out rr hrr);have hpe:eG s.toList= .error (if rr=true then i+2 else i+1):=by
    rw[Ed.out,if_neg cok,<-hrr];unfold Vs;by_cases c0:i=0
    ·rw[if_pos c0,if_pos c0];by_cases ch:x.toList=mO;·rw[if_pos ch,qX ch,if_pos rfl,c0]
     rw[if_neg ch,qP ch,if_neg zAH,c0]
    rw[if_neg c0,if_neg c0,Lk.one_step HGr.out];cases iy (fM (L.map LN.x)) x.toList<;>rfl
   have sJ:=zh hpe;clear hpe hrr;by_cases c0:0<i
   ·have c0':(0:Int)<(i:Int):=by omega
    have hxe:(x.toList==([]:List UInt8))=false:=by rw[yC];exact fun h=>cok ⟨c0,h⟩
    exact zDU
   have c0':¬(0:Int)<(i:Int):=by omega
   exact zDU
  have ce1:i+1<n:=by omega
  have ew0:=zw ((n:Int)-1);have hne:((i:Int)==(n:Int)-1)=false:=zBd;have hon:=go_on (G:=fM (L.map LN.x)) HX.out (by rw[En.out];exact ce1);have Ik:=zh hon;clear hon;by_cases c0:i=0
  ·have c0':((i:Int)==0)=true:=by rw[beq_iff_eq];omega
   have apG:¬(0:Int)<(i:Int):=zAA;have C0:=zh c0;clear c0;by_cases ch:x.toList=mO
   ·have hxh:(x.toList==[108,111,99,107,32,49])=true:=by rw[ch];rfl
    have aj7:Hid (goB (l.map ByteArray.toList) 0 []=goB ((l.map ByteArray.toList).drop (i+1)) (i+1) (fM (L.map LN.x))):=by show _=_;rw[HGo.out,Ik.out,if_pos C0.out,if_pos ch]
    clear ch;go_wp2_with fail;go_roundw;case rel=>exact⟨gK,i+1,L,by first|rfl|go_num,ce1,HGi,HGr,aj7⟩
    case measure=>simp[RowKit.intOf]<;>omega
   have hxh:(x.toList==[108,111,99,107,32,49])=false:=by rw[yC];exact ch
   have sJ:Hid (eG s.toList= .error 1):=by show _=_;rw[aj6.out,Ik.out,if_pos C0.out,if_neg ch]
   clear ch;obtain⟨h2,h3,-,-,ow⟩:=HF2.out wr (gK.out);have h3':(wr.setRow R #[.slice none 0 0]).heap[R+1]? =some (.cells #[.int .i64 0,.int .i64 0] 113 (0,0)):=((cZ wr R #[.slice none 0 0]).block (R+1) (yA.1 h3).1 zAA).trans h3;have HA2:=zh h2;have Ql:=zh h3;have Q5:=zh h3';have qp:=zh ow;clear h2 h3 h3' ow;go_wp2_with (first| (refine wpList_store_row rfl 31 (.tmp 2) (.tmp 63) rfl R #[.slice none 0 0] rfl rfl 31 #[.slice none 0 0] HA2.out zk rfl zCl ?_)| (refine wpList_store_row rfl 113 (.tmp 3) (.tmp 65) rfl (R+1) #[.int .i64 (((i:Int)+1)),.int .i64 0] rfl rfl 113 #[.int .i64 0,.int .i64 0] Q5.out zk rfl zAF ?_));exact wJ HA2.out Ql.out zAA rfl rfl rfl rfl (jV.err sJ.out (by first| (have h:=C0.out;omega)| (simp;done)| (simp;omega)) (Af qp.out HR.out))
  have c0':((i:Int)==0)=false:=by rw[yC];omega
  have apG:(0:Int)<(i:Int):=zAA;have QG:=zh (ain (w:=wr) (B:=w1.heap.size) (P:=R+2) x AV.out HGi.out QI.out.1 QI.out.2 (HF2.out wr gK.out).2.2.2.1 EU.out);go_wp2_with fail;refine QG.out.mono ?_;rintro e w2 ⟨bb,rfl,o2,h2⟩;rw[Lk.one_step HGr.out]at h2;have eF:=zh (gK.out.same o2);clear o2 QG cP qx;cases hst:iy (fM (L.map LN.x)) x.toList with
  |none=>
   rw[hst]at h2;obtain⟨rfl,-⟩:=h2;have sJ:Hid (eG s.toList= .error (i+1)):=by show _=_;rw[aj6.out,Ik.out,if_neg c0,hst]
   clear hst;obtain⟨h2,h3,-,-,ow⟩:=HF2.out w2 (eF.out);have h3':(w2.setRow R #[.slice none 0 0]).heap[R+1]? =some (.cells #[.int .i64 0,.int .i64 0] 113 (0,0)):=((cZ w2 R #[.slice none 0 0]).block (R+1) (yA.1 h3).1 zAA).trans h3;have HA2:=zh h2;have Ql:=zh h3;have Q5:=zh h3';have qp:=zh ow;clear h2 h3 h3' ow;go_wp2_with (first| (refine wpList_store_row rfl 31 (.tmp 2) (.tmp 63) rfl R #[.slice none 0 0] rfl rfl 31 #[.slice none 0 0] HA2.out zk rfl zCl ?_)| (refine wpList_store_row rfl 113 (.tmp 3) (.tmp 65) rfl (R+1) #[.int .i64 (((i:Int)+1)),.int .i64 0] rfl rfl 113 #[.int .i64 0,.int .i64 0] Q5.out zk rfl zAF ?_));exact wJ HA2.out Ql.out zAA rfl rfl rfl rfl (jV.err sJ.out zCp (Af qp.out HR.out))
  |some G2=>
   rw[hst]at h2;obtain⟨rfl,L2,hL2,hG2⟩:=h2;have aj7:Hid (goB (l.map ByteArray.toList) 0 []=goB ((l.map ByteArray.toList).drop (i+1)) (i+1) (fM (L2.map LN.x))):=by show _=_;rw[HGo.out,Ik.out,if_neg c0,hst,hL2]
   have apH:Hid (dL (fM (L2.map LN.x))=true):=by show _=_;rw[hL2];exact(Lk.step_some hst).1
   have apI:=zh hG2;clear hst hL2 hG2;go_wp2_with fail;go_roundw;case rel=>exact⟨eF,i+1,L2,by first|rfl|go_num,ce1,apI,apH,aj7⟩
   case measure=>simp[RowKit.intOf]<;>omega
theorem ahy(s:Str)(hs:s.size<4294967281)(hM:vK w):Calls Tryz.prog 49 #[.string s] w (fun e w'=>XQ s w w' e):=(aaR s hs hM).mono fun _ _ h=>h.weak
end
end Go.Proofs.YtdmmebjjojimiaaGreatDoor
namespace Go.Proofs.YtdmmebjjojimiaaGreatDoor
open Go.RowKit
open Lk (Aw dL eG)
section
variable {w w':World}
def exG:List aC:=[⟨⟨#[97]⟩,⟨#[49]⟩,[],[]⟩]
theorem aj8:fM exG=[⟨[97],[49],[],[]⟩]:=by
 have e1:(⟨#[97]⟩:ByteArray).toList=[97]:=by rw[toList_data]
 have e2:(⟨#[49]⟩:ByteArray).toList=[49]:=by rw[toList_data]
 simp[exG,fM,aC.toB,e1,e2]
theorem afE:eG (⟨#[108,111,99,107,32,49,10,110,111,100,101,32,97,32,49,10]⟩:ByteArray).toList= .ok (fM exG):=by have h:=Lk.Di (G:=[⟨[97],[49],[],[]⟩]) zAH;rw[aj8,toList_data];exact h
theorem Vt(hM:vK w):Calls Tryz.prog 10 #[] w (fun e w'=>e= .returned (.bool true)/\O0 w w'):=by have HP:=zh (ahy (⟨#[108,111,99,107,32,49,10,110,111,100,101,32,97,32,49,10]⟩:ByteArray) zAH hM);clear hM;go_enter Tryz.func10,Tryz.ntmps10;go_wp2_with fail;refine HP.out.mono ?_;rintro e w2 ⟨gv,ln,er,rfl,O2,hm⟩;rw[afE]at hm;obtain⟨rfl,rfl,g2,hG,hr⟩:=hm;obtain rfl:=IX hG;obtain⟨ao,cap,hv,k1,k2⟩:=hr.shape;have hv':gv= .slice ao 1 cap:=hv;subst hv';clear hv;obtain⟨b,off,le,ca,p1,d1,p2,d2,he,-,-,-,-,-,-,-,hE⟩:=Dt (i:=0) (x:=⟨⟨#[97]⟩,⟨#[49]⟩,[],[]⟩) hr rfl;cases he;have O3:O0 w2 ((w2.alloc (.cells #[.slice (some ⟨b,off,none⟩) 1 cap] 31)).alloc (.cells #[.int .i64 0,.int .i64 0] 113)):=(zr.alloc _).alloc _;have p0:=(hE _ O3).1 0 _ rfl;have p1':=(hE _ O3).1 1 _ rfl;simp only[Nat.zero_mul,qF]at p0 p1';have f1:((⟨#[97]⟩:ByteArray).toList==(⟨#[97]⟩:ByteArray).toList)=true:=beq_self_eq_true _;have f2:((⟨#[49]⟩:ByteArray).toList==(⟨#[49]⟩:ByteArray).toList)=true:=beq_self_eq_true _;have HO:=zh (O2.same O3);clear hE O2 O3 hr hG k1 k2;exact zDy
end
section
variable {w w':World}
theorem ZH{g:List aC}{t:Str}(hs:H7 g)(ht:t.toList=Aw (fM g)):t.size<=700000:=by have hl:=Gp hs g.length (qH _);unfold xu at hl;rw[List.take_length]at hl;have h30:=hs.1;have e2:Aw (fM g)=Lk.joinL (Lk.mO::Lk.sH (fM g)):=rfl;rw[<-bC,ht,e2];omega
end
end Go.Proofs.YtdmmebjjojimiaaGreatDoor
