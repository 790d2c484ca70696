/- SlicesI CnfFn Cnf CnfLaw CnfLaw2, in one text.; The walks of cooperref12: None, Atom, Same. -/
import Derived.Test.YtdmmebjjojimiaaGreatDoorG05
import Derived.Test.YtdmmebjjojimiaaGreatDoorG01
set_option maxRecDepth 100000
set_option maxHeartbeats 8000000
set_option linter.all false
namespace Go.Proofs
theorem zAv{p:Prop}(h:p:=by simpa using hi):p:=h
theorem zA1{p:Prop}(h:p:=by simpa using hj):p:=h
theorem zCL{p:Prop}(h:p:=by
 go_ret
 exact⟨rfl,rfl⟩):p:=h
theorem zC0{p:Prop}(h:p:=by
 show(w.heap.modify g _)[g]? =_
 rw[Array.getElem?_modify,if_pos rfl,hg]
 rfl):p:=h
theorem zDE{p:Prop}(h:p:=by exact this.mono fun i hi=>by subst hi;rfl):p:=h
theorem zDT{p:Prop}(h:p:=by
 have h2:=aG h1 (oQ (Only.refl (fun _=>False) _) os) (fun _ _ f=>f)
 simpa using h2):p:=h
theorem zD5{p:Prop}(h:p:=by rw[hw];exact Only.refl _ _):p:=h
theorem zEx{p:Prop}(h:p:=by
 rw[qM]
 have:=yO (Lib.keeps xs.toArray) (List.range xs.length)
 simpa using this):p:=h
theorem zE0{p:Prop}(h:p:=by
 rw[rounds_succ]
 go_wp2
 rw[rounds_succ]
 go_wp2
 go_ret
 exact⟨by simp,rfl⟩):p:=h
end Go.Proofs
namespace Go.Proofs.YtdmmebjjojimiaaGreatDoor
open Go.RowKit Go.Lib Go.Sort Go.Shelf
theorem J4{w:World}{e:TypeId}{g n cap:Nat}{xs:List Value}(h:w.ownsRow 0 e 1 (.slice (some ⟨g,0,none⟩) n cap) n xs)(d:Array Int)(hd:d.size=n):(putRow (Value.int .i64) w g 0 d).ownsRow 0 e 1 (.slice (some ⟨g,0,none⟩) n cap) n (d.toList.map cI):=by
 rcases h.2 with⟨h',_⟩| ⟨g',cap',cur,h',hb,hg,h1,h2,h3,htake⟩;·simp at h'
 simp only[qU,qG,qO,and_true,true_and]at h';obtain⟨rfl,rfl⟩:=h';refine⟨by simp[hd],.inr ⟨g,cap,putCells (Value.int .i64) 0 d cur,rfl,qE _,?_,h1,h2,?_,?_⟩⟩;·exact zC0
 ·simpa[putCells]using h3
 apply List.ext_getElem?;intro j;simp only[yH,putCells,List.getElem?_take,List.getElem?_map];by_cases hj:j<n
 ·have hjd:j<d.size:=by omega
  have hjc:j<cur.size:=zAB;simp[hj,hjd,hjc,cI]
 have hjd:¬j<d.size:=by omega
 simp[hj,hjd]
theorem IJ(w:World)(g:Nat)(d:Array Int):Only (fun k=>k=g) w (putRow (Value.int .i64) w g 0 d):=
 ⟨rfl,rfl,rfl,by simp[putRow,mapBlock],fun k _ hk=>by
  show(w.heap.modify g _)[k]? =_
  rw[Array.getElem?_modify,if_neg (fun e=>hk e.symm)]⟩
theorem oQ{F:Nat->Prop}{w w':World}(h:Only F w w')(os:Array Obj):Only F w (grow w' os):=
 h.trans (G:=fun _=>False) ⟨rfl,rfl,rfl,by simp[grow],fun k hk _=>by
  show(w'.heap++os)[k]? =_
  rw[Array.getElem?_append_left hk]⟩ (fun _ f=>f.elim)
theorem su{F:Nat->Prop}{w w':World}(h:Only F w w')(n:Nat):Only F w (Sort.ahead w' n):=⟨h.os,h.tape,h.output,h.size,h.block⟩
theorem OB{w:World}{e:TypeId}{g n cap:Nat}{xs:List Int}(h:w.ownsRow 0 e 1 (.slice (some ⟨g,0,none⟩) n cap) n (xs.map cI)):Holds (Value.int .i64) w g 0 xs.toArray:=by
 intro j hj;have hn:xs.length=n:=by simpa using h.1
 have hj':j<xs.length:=zA1;refine⟨?_,h.frozenAt _⟩;rw[Nat.zero_add,h.cellAt j zAB];simp[hj',cI]
theorem J5{w:World}{v:Value}{xs:List Int}(hI:Ints w v xs)(hb:xs.length<=17592186043904):Calls Tryz.prog 83 #[v] w fun e w'=> ∃v',e= .returned v'/\w'.ownsRow 0 3 1 v' xs.length (xs.map cI)/\(∀k,v'.ownBlock=some k->w.heap.size<=k)/\O0 w w':=by
 obtain⟨ao,cap,rfl,hl,hm⟩:=hI.shape;have fin:∀(n:Nat) (zs:List Value) (e:Ending) (w':World),(∃v',e= .returned v'/\w'.ownsRow w.heap.size 3 1 v' n zs/\v'≠ .slice none 0 0/\Below w.heap.size w w')->∃v',e= .returned v'/\w'.ownsRow 0 3 1 v' n zs/\(∀k,v'.ownBlock=some k->w.heap.size<=k)/\O0 w w':=by
  rintro n zs e w' ⟨v',he,ho,_,hbel⟩;refine⟨v',he,⟨ho.1,?_⟩,fun k hk=>(ho.lt k hk).1,(Only.of_below hbel).trans' ?_⟩
  ·rcases ho.2 with h| ⟨g,c,cur,h1,h2,h3⟩;·exact .inl h
   exact .inr ⟨g,c,cur,h1,qE _,h3⟩
  intro i hi;exact hi
 by_cases h0:xs.length=0
 ·have hx:xs=[]:=yF h0;subst hx;cases ao with
  |none=>exact(Tryz.slices_Clone_int_nil 0 cap w).mono fun e w' ⟨he,hw⟩=>⟨_,he,by rw[hw];exact World.ownsRow_nil _ _ _ _,fun k hk=>by simp[Value.ownBlock]at hk,by rw[hw];exact Only.refl _ _⟩
  |some a=>exact(Tryz.slices_Clone_int_zero a cap w).mono fun e w' h=>fin 0 [] e w' h
 obtain⟨b,off,rfl,hbb,hc⟩:=hI.cells _ _ _ rfl zAB;refine(Tryz.slices_Clone_int b off xs.length cap xs w (qH _) zAB hc).mono fun e w' h=>?_;rw[qI (qH _)]at h;exact fin _ _ e w' h
theorem G5{w:World}{v:Value}{xs:List Int}(hI:Ints w v xs)(hb:xs.length<=1099511627776):Calls Tryz.prog 83 #[v] w fun e w'=> ∃v',e= .returned v'/\w'.ownsRow 0 3 1 v' xs.length (xs.map cI)/\(∀k,v'.ownBlock=some k->w.heap.size<=k)/\O0 w w':=J5 hI zAB
theorem ZC{w:World}{v:Value}{xs:List Int}(h:w.ownsRow 0 3 1 v xs.length (xs.map cI))(hb:xs.length<=17592186043904)(cf:Int->Int->Int)(hO:SWO (ltOf cf))(hT:∀x y,(ltOf cf) x y=false->(ltOf cf) y x=false->x=y)(g:Nat)(cb:Array Value)(eg:∀args w,(callFunc g args).run Tryz.prog w= .ok (.enter g args) w)(hcmp:∀(W:World) (x y:Int),Calls Tryz.prog g (#[.int .i64 x,.int .i64 y]++cb) W fun e w'=>e= .returned (.int .i64 (cf x y))/\∃q os',w'=grow (W.drewN q) os'):Calls Tryz.prog 296 #[v,.func (.func g) #[] cb] w fun e w'=>e= .returned (.tuple #[])/\w'.ownsRow 0 3 1 v xs.length ((xs.mergeSort fun x y=> !(ltOf cf) y x).map cI)/\Only (fun k=>v.ownBlock=some k) w w':=by
 by_cases h0:xs.length=0
 ·have hx:xs=[]:=yF h0;subst hx;obtain⟨ao,cap,rfl,_,_⟩:=aJ h;refine(Tryz.slices_SortFunc_none (α:=Int) ao cap _ w).mono fun e w' ⟨he,hw⟩=>⟨he,?_,?_⟩;·rw[hw];simpa using h
  exact zD5
 obtain⟨gb,cap,rfl,_,_⟩:=dU h zAB;have hH:=OB h;have hlt:=dP h (k:=gb) rfl;have key:=Tryz.slices_SortFunc_total (Value.int .i64) (fun _=>rfl) cf hO g cb gb 0 cap xs.toArray w eg (fun m os dk _ x y=>hcmp _ x y) hH hlt (by simp;omega) hT;simp only[List.size_toArray]at key;refine key.mono fun e w' ⟨he,n,os,hw⟩=>⟨he,?_,?_⟩;·subst hw;unfold sortWorld;have h1:=J4 (w:=Sort.ahead w n) (g:=gb) (n:=xs.length) (cap:=cap) (e:=3) h (xs.mergeSort fun x y=> !(ltOf cf) y x).toArray zAF;exact zDT
 subst hw;unfold sortWorld;refine oQ ?_ os;have:=(su (Only.refl (fun k=>k=gb) w) n).same (IJ (Sort.ahead w n) gb (xs.mergeSort fun x y=> !(ltOf cf) y x).toArray);exact zDE
theorem D8(xs:List Int):(Lib.compact xs).length<=xs.length:=by unfold Lib.compact Lib.compactUpTo;exact zEx
theorem Tc{w:World}{v:Value}{xs:List Int}(h:w.ownsRow 0 3 1 v xs.length (xs.map cI)):Calls Tryz.prog 299 #[v] w fun e w'=> ∃v',e= .returned v'/\w'.ownsRow 0 3 1 v' (Lib.compact xs).length ((Lib.compact xs).map cI)/\v'.ownBlock=v.ownBlock/\Only (fun k=>v.ownBlock=some k) w w':=by
 by_cases h0:xs.length=0
 ·have hx:xs=[]:=yF h0;subst hx;obtain⟨ao,cap,rfl,_,_⟩:=aJ h;refine(Tryz.slices_Compact_int_empty ao cap w).mono fun e w' ⟨he,hw⟩=>⟨_,he,?_,rfl,?_⟩;·rw[hw];exact h
  exact zD5
 obtain⟨gb,cap,rfl,hc1,hc2⟩:=dU h zAB;have hH:=OB h;unfold maxLen at hc2;refine(Tryz.slices_Compact_int gb 0 cap xs w hH zAB hc1).mono fun e w' ⟨he,q,hw⟩=>⟨_,he,?_,rfl,?_⟩;·subst hw;have hle:=D8 xs;have h1:=J4 (w:=Sort.ahead w q) (g:=gb) (n:=xs.length) (cap:=cap) (e:=3) h (Lib.compact xs++List.replicate (xs.length-(Lib.compact xs).length) 0).toArray (by simp;omega);have h2:=Yr h1 (Lib.compact xs).length hle;simpa using h2
 subst hw;have:=(su (Only.refl (fun k=>k=gb) w) q).same (IJ (Sort.ahead w q) gb (Lib.compact xs++List.replicate (xs.length-(Lib.compact xs).length) 0).toArray);exact zDE
namespace ig
def G6:Int:= -9223372036854775808
def wr(x:Int):Bool:=x==0||x==G6
def tX(x:Int):Int:=max x (IntKind.i64.wrap (-x))
def cf(x y:Int):Int:=if Lib.compareInt (tX x) (tX y)=0 then Lib.compareInt x y else Lib.compareInt (tX x) (tX y)
def lt(x y:Int):Bool:=decide (tX x<tX y\/(tX x=tX y/\x<y))
theorem lt_eq(x y:Int):ltOf cf x y=lt x y:=by unfold ltOf cf lt Lib.compareInt;congr 1;apply propext;split<;>split<;>(try split)<;>(try split)<;>omega
theorem lt_iff(x y:Int):lt x y=true↔tX x<tX y\/(tX x=tX y/\x<y):=by simp[lt]
theorem AU(x y:Int):lt x y=false↔tX y<=tX x/\(tX x=tX y->y<=x):=by rw[<-Bool.not_eq_true,lt_iff];omega
theorem swo:SWO (ltOf cf) where
 irrefl x:=by rw[lt_eq,AU];omega
 trans x y z h1 h2:=by rw[lt_eq,lt_iff]at*;omega
 ntrans x y z h1 h2:=by rw[lt_eq,AU]at*;omega
theorem total(x y:Int)(h1:(ltOf cf) x y=false)(h2:(ltOf cf) y x=false):x=y:=by rw[lt_eq,AU]at*;omega
def sortL(xs:List Int):List Int:=xs.mergeSort fun x y=> !(ltOf cf) y x
def tY(xs:List Int):List Int:=Lib.compact (sortL xs)
def clash(l:List Int):Bool:=(List.range l.length).any fun i=>decide (1<=i)&&(l.getD i 0==IntKind.i64.wrap (-(l.getD (i-1) 0)))
def form(xs:List Int):Option (List Int):=if xs.any wr then none else if clash (tY xs)then none else some (tY xs)
end ig
section
variable {w:World}
theorem OC(x:Int):Calls Tryz.prog 222 #[.int .i64 x] w fun e w'=>e= .returned (.bool (ig.wr x))/\w=w':=by
 unfold ig.wr;by_cases h0:x=0;·subst h0;go_enter Tryz.func222,Tryz.ntmps222;go_wp2;exact zCL
 have h1:(x==0)=false:=yC.2 h0;generalize hm:(x==ig.G6)=r;unfold ig.G6 at hm;rw[h1];clear h0;cases r;all_goals go_enter Tryz.func222,Tryz.ntmps222;go_wp2;go_ret;exact⟨rfl,rfl⟩
theorem Yu(x:Int)(r:Int)(hr:ig.tX x=r):Calls Tryz.prog 298 #[.int .i64 x] w fun e w'=>e= .returned (.int .i64 r)/\w=w':=by subst hr;unfold ig.tX;generalize hy:IntKind.i64.wrap (-x)=y;go_enter Tryz.func298,Tryz.ntmps298;go_wp2;exact zCL
theorem ahw(g:Nat)(a b:Int)(h0:w.cell? ⟨g,0,none⟩=some (.int .i64 a))(h1:w.cell? ⟨g,1,none⟩=some (.int .i64 b)):Calls Tryz.prog 234 #[.slice (some ⟨g,0,none⟩) 2 2] w fun e w'=>e= .returned (.int .i64 (if a=0 then b else a))/\w=w':=by
 by_cases ha:a=0
 ·subst ha;by_cases hb:b=0;·subst hb;go_enter Tryz.func234,Tryz.ntmps234;go_wp2;refine wp_loop_rounds 3 ?_;rw[rounds_succ];go_wp2;exact zE0
  have hb':(b != 0)=true:=bne_iff_ne.2 hb;clear hb;go_enter Tryz.func234,Tryz.ntmps234;go_wp2;refine wp_loop_rounds 2 ?_;exact zE0
 have ha':(a != 0)=true:=bne_iff_ne.2 ha;rw[if_neg ha];clear ha;go_enter Tryz.func234,Tryz.ntmps234;go_wp2;refine wp_loop_rounds 1 ?_;rw[rounds_succ];go_wp2;exact zCL
theorem agG(g:Nat)(a b r:Int)(h0:w.cell? ⟨g,0,none⟩=some (.int .i64 a))(h1:w.cell? ⟨g,1,none⟩=some (.int .i64 b))(hr:(if a=0 then b else a)=r):Calls Tryz.prog 234 #[.slice (some ⟨g,0,none⟩) 2 2] w fun e w'=>e= .returned (.int .i64 r)/\w=w':=by subst hr;exact ahw g a b h0 h1
theorem Wj(w:World)(o:Obj):w.alloc o=grow (w.drewN 0) #[o]:=by show({w with heap:=w.heap.push o}:World)={w with heap:=w.heap++ #[o]};rw[Array.push_eq_append]
theorem ahx(x y:Int):Calls Tryz.prog 297 #[.int .i64 x,.int .i64 y] w fun e w'=>e= .returned (.int .i64 (ig.cf x y))/\∃q os',w'=grow (w.drewN q) os':=by unfold ig.cf;have c1:=fun W=>(Tryz.cmp_Compare_int (ig.tX x) (ig.tX y) W).mono fun _ _ h=>(⟨h.1,h.2.symm⟩:_/\W=_);have c2:=fun W=>(Tryz.cmp_Compare_int x y W).mono fun _ _ h=>(⟨h.1,h.2.symm⟩:_/\W=_);have C1:=zh c1;have C2:=zh c2;clear c1 c2;generalize Lib.compareInt (ig.tX x) (ig.tX y)=p at*;generalize Lib.compareInt x y=q at*;generalize hax:ig.tX x=ax at*;generalize hay:ig.tX y=ay at*;have HX:=zh hax;have HY:=zh hay;clear hax hay;generalize hr:(if p=0 then q else p)=r;have HR:=zh hr;clear hr;go_enter Tryz.func297,Tryz.ntmps297;go_wp2_with fail;refine(Yu x ax HX.out).mono ?_;rintro e w1 ⟨rfl,rfl⟩;go_wp2_with fail;refine(Yu y ay HY.out).mono ?_;rintro e w1 ⟨rfl,rfl⟩;go_wp2_with fail;refine(C1.out _).mono ?_;rintro e w1 ⟨rfl,rfl⟩;go_wp2_with fail;refine(C2.out _).mono ?_;rintro e w1 ⟨rfl,rfl⟩;go_wp2_with fail;refine(agG w.heap.size p q r (by simp) zAF HR.out).mono ?_;rintro e w2 ⟨rfl,rfl⟩;go_wp2_with fail;go_ret;exact⟨rfl,0,#[.cells #[.int .i64 p,.int .i64 q] 3],Wj _ _⟩
end
def P9(l:List Int)(k:Nat):Prop:= ∀i,1<=i->i<k->(l.getD i 0==IntKind.i64.wrap (-(l.getD (i-1) 0)))=false
theorem ZE{l:List Int}{k:Nat}(h1:1<=k)(hk:k<l.length)(h:(l.getD k 0==IntKind.i64.wrap (-(l.getD (k-1) 0)))=true):ig.clash l=true:=by unfold ig.clash;rw[yU];exact⟨k,by simpa using hk,by rw[h];simp[h1]⟩
theorem Wl{l:List Int}(h:P9 l l.length):ig.clash l=false:=by unfold ig.clash;rw[<-Bool.not_eq_true,yU];rintro⟨i,hi,hc⟩;simp only[Bool.and_eq_true,yP]at hc;rw[h i hc.1 zAv]at hc;exact absurd hc.2 zAF
theorem Td{xs:List Int}(h:∀x∈xs,bg x):∀x∈ig.tY xs,bg x:=by
 intro x hx;unfold ig.tY Lib.compact Lib.compactUpTo at hx;obtain⟨i,hi,rfl⟩:=yD.1 hx;have hi2:=(List.mem_filter.1 hi).1;rw[yI]at hi2;have hm:(ig.sortL xs).toArray[i]! ∈ig.sortL xs:=by simp[hi2]
 exact h _ ((List.mergeSort_perm xs _).mem_iff.1 hm)
theorem OD{w:World}{e:TypeId}{g n cap:Nat}{xs:List Int}(h:w.ownsRow 0 e 1 (.slice (some ⟨g,0,none⟩) n cap) n (xs.map cI)){i:Nat}(hi:i<xs.length):w.cell? ⟨g,i,none⟩=some (.int .i64 (xs.getD i 0)):=by
 have hn:xs.length=n:=by simpa using h.1
 rw[h.cellAt i zAB];simp[List.getD,qA hi]
def xZ(w:World)(xs:List Int)(e:Ending)(w':World):Prop:=
 match ig.form xs with
 |none=>e= .returned (.tuple #[.slice none 0 0,.bool false])/\O0 w w'
 |some l=> ∃v,e= .returned (.tuple #[v,.bool true])/\w'.ownsRow 0 3 1 v l.length (l.map cI)/\(∀k,v.ownBlock=some k->w.heap.size<=k)/\O0 w w'
theorem ZF{w:World}{v:Value}{xs:List Int}(hI:Ints w v xs)(hb:xs.length<=17592186043904):Calls Tryz.prog 220 #[v] w (xZ w xs):=by
 have abH:∀args w,(callFunc 222 args).run Tryz.prog w= .ok (.enter 222 args) w:=enters_of Tryz.func222 zk rfl;have akv:∀args w,(callFunc 297 args).run Tryz.prog w= .ok (.enter 297 args) w:=enters_of Tryz.func297 zk rfl;have hpred:abA w 222 #[] ig.wr xs:=fun x _ W _=>(OC x).mono fun _ _ ⟨he,hw⟩=>⟨he,by rw[hw];exact Only.refl _ _⟩;have ahy:=zh abH;have akw:=zh akv;have abI:=zh hpred;clear abH akv hpred;cases hany:xs.any ig.wr
 ·have J6:=zh hany;clear hany;go_enter Tryz.func220,Tryz.ntmps220;go_wp2_with fail;refine(rV hI 222 #[] ig.wr ahy.out abI.out false J6.out).mono ?_;rintro e w1 ⟨rfl,O1⟩;have hI1:=hI.aH O1;go_wp2_with fail;refine(J5 hI1 hb).mono ?_;rintro e w2 ⟨v2,rfl,R2,N2,O2⟩;go_wp2_with fail;refine(ZC R2 hb ig.cf ig.swo ig.total 297 #[] akw.out (fun W x y=>ahx x y)).mono ?_;rintro e w3 ⟨rfl,R3,O3⟩;have R3':w3.ownsRow 0 3 1 v2 (ig.sortL xs).length ((ig.sortL xs).map cI):=by have:(ig.sortL xs).length=xs.length:=List.length_mergeSort xs;rw[this];exact R3
  go_wp2_with fail;refine(Tc R3').mono ?_;rintro e w4 ⟨v4,rfl,R4,B4,O4⟩;have hl:Lib.compact (ig.sortL xs)=ig.tY xs:=rfl;rw[hl]at R4;have hlen:(ig.tY xs).length<=17592186043904:=by have h1:=D8 (ig.sortL xs);have h2:(ig.sortL xs).length=xs.length:=List.length_mergeSort xs;rw[hl]at h1;omega
  have hr4:=Td hI.range;have hform:ig.form xs=if ig.clash (ig.tY xs)then none else some (ig.tY xs):=by unfold ig.form;rw[J6.out];rfl
  have N4:∀k,v4.ownBlock=some k->w.heap.size<=k:=fun k hk=>by rw[B4]at hk;have:=N2 k hk;have:=O1.size;omega
  have O5:O0 w w4:=((O1.same O2).trans O3 fun i hi=>.inr (by have:=N2 i hi;have:=O1.size;omega)).trans O4 fun i hi=>.inr (by have:=N2 i hi;have:=O1.size;omega);have HF:=zh hform;clear hl hform O1 O2 O3 O4 R2 R3 R3' N2 B4 hI1 hI J6 abI ahy akw;generalize ig.tY xs=l at*;obtain⟨ao,cap,rfl,hc1,hc2⟩:=aJ R4;unfold maxLen at hc2;go_wp2_with fail;go_loopw [5] (fun v wr=> ∃(k:Nat),v= .int .i64 k/\1<=k/\(k<=l.length\/k=1)/\P9 l k/\wr.ownsRow 0 3 1 (.slice ao l.length cap) l.length (l.map cI)/\O0 w wr) (fun v _=>l.length-(intOf v).toNat);case atStart=>exact⟨1,rfl,qH _,.inr rfl,fun i h1 h2=>by omega,R4,O5⟩
  case round=>
   clear R4 O5;obtain⟨k,rfl,hk1,hk2,hN,R4,O5⟩:=hrel;have HN:=zh hN;have HK2:=zh hk2;clear hN hk2;by_cases c:k<l.length
   ·obtain⟨g,cap',he,_,_⟩:=dU R4 zAB;simp only[qU]at he;obtain⟨rfl,-,rfl⟩:=he;obtain⟨j,rfl⟩:∃j,k=j+1:=⟨k-1,by omega⟩;have q1:wr.cell? ⟨g,j+1,none⟩=some (.int .i64 (l.getD (j+1) 0)):=OD R4 c;have q2:wr.cell? ⟨g,j,none⟩=some (.int .i64 (l.getD j 0)):=OD R4 zAB;have e2:IntKind.i64.wrap (j:Int)=j:=IntWalk.i64_in _ zAB;have e3:(j:Int)<(l.length:Int):=zAB;have e4:(j:Int)+1<(l.length:Int):=zAB;have hcl:=fun h=>ZE (l:=l) (k:=j+1) hk1 c h;have hnc:(l.getD (j+1) 0==IntKind.i64.wrap (-(l.getD j 0)))=false->P9 l (j+2):=by
     intro hcmp i h1 h2;rcases yK i (j+1)with h3|h3;·exact HN.out i h1 h3
     have:i=j+1:=by omega
     subst this;simpa using hcmp
    simp only[Nat.add_sub_cancel]at hcl;generalize l.getD (j+1) 0=a at*;generalize l.getD j 0=b at*;generalize hnb:IntKind.i64.wrap (-b)=nb at*;cases hcmp:(a==nb)
    ·have HS:=zh (hnc hcmp);clear hcl hnc;go_wp2_with fail;go_quiet (fail);clear e2;go_wp2_with fail;go_roundw;case rel=>exact⟨j+2,by go_num,by omega,.inl zAB,HS.out,R4,O5.drewN _⟩
     case measure=>simp[intOf];omega
    have HC:=zh (hcl hcmp);clear hcl hnc;go_wp2_with fail;go_quiet (fail);clear e2;go_wp2_with fail;go_ret2;unfold xZ;rw[HF.out,HC.out];exact⟨rfl,O5.drewN _⟩
   have hcl:ig.clash l=false:=by refine Wl fun i h1 h2=>HN.out i h1 ?_;have:=HK2.out;omega
   have HC:=zh hcl;clear hcl;go_wp2_with fail;go_ret2;unfold xZ;rw[HF.out,HC.out];exact⟨_,rfl,R4,N4,O5⟩
 have J6:=zh hany;clear hany;go_enter Tryz.func220,Tryz.ntmps220;go_wp2_with fail;refine(rV hI 222 #[] ig.wr ahy.out abI.out true J6.out).mono ?_;rintro e w1 ⟨rfl,O1⟩;go_wp2_with fail;go_ret2;have hf:ig.form xs=none:=by unfold ig.form;rw[J6.out];rfl
 unfold xZ;rw[hf];exact⟨rfl,O1⟩
theorem abJ{w:World}{v:Value}{xs:List Int}(hI:Ints w v xs)(hb:xs.length<=1099511627776):Calls Tryz.prog 220 #[v] w (xZ w xs):=ZF hI zAB
namespace ig
def Strict(l:List Int):Prop:=l.Pairwise fun x y=>lt x y=true
theorem Wn(xs:List Int):(sortL xs).Perm xs:=List.mergeSort_perm xs _
theorem Qa(xs:List Int):(sortL xs).Pairwise fun x y=>lt y x=false:=by
 have h:=List.pairwise_mergeSort (le:=fun x y=> !(ltOf cf) y x) (l:=xs)
  (by
    intro a b c h1 h2
    simp only[Bool.not_eq_true']at*
    exact swo.ntrans c b a h2 h1)
  (by
    intro a b
    simp only[Bool.or_eq_true,Bool.not_eq_true']
    rw[lt_eq,lt_eq,AU,AU];omega)
 exact h.imp (by intro a b h;simpa[lt_eq]using h)
theorem J7{l:List Int}(h:l.Pairwise fun x y=>lt y x=false){i j:Nat}(hij:i<j)(hj:j<l.length):lt (l.getD j 0) (l.getD i 0)=false:=by have:=(List.pairwise_iff_getElem.1 h) i j zAB hj hij;simpa[qC,hj,show i<l.length by omega]using this
theorem G7(l:List Int)(j:Nat)(hj:j<l.length):Lib.keeps l.toArray j=true↔j=0\/l.getD j 0≠l.getD (j-1) 0:=by
 unfold Lib.keeps;simp only[yP];have h1:l.toArray[j]! =l.getD j 0:=by simp[hj,qC]
 have h2:l.toArray[j-1]! =l.getD (j-1) 0:=by simp[show j-1<l.length by omega,qC]
 rw[h1,h2]
theorem J8{l:List Int}(h:l.Pairwise fun x y=>lt y x=false):Strict (Lib.compact l):=by
 unfold Strict Lib.compact Lib.compactUpTo;rw[List.pairwise_map];have hr:(List.range l.length).Pairwise (· < ·):=List.pairwise_lt_range;have hf:=(hr.filter (Lib.keeps l.toArray));refine hf.imp_of_mem ?_;intro i j hi hj hij;obtain⟨hi1,hi2⟩:=List.mem_filter.1 hi;obtain⟨hj1,hj2⟩:=List.mem_filter.1 hj;rw[yI]at hi1 hj1;have e1:l.toArray[i]! =l.getD i 0:=by simp[hi1,qC]
 have e2:l.toArray[j]! =l.getD j 0:=by simp[hj1,qC]
 rw[e1,e2];have hk:=(G7 l j hj1).1 hj2;have hne:l.getD j 0≠l.getD (j-1) 0:=by
  rcases hk with hk|hk;·omega
  exact hk
 have h1:=J7 h (i:=j-1) (j:=j) zAB hj1;rw[AU]at h1;rw[lt_iff];by_cases e:i=j-1;·subst e;omega
 have h2:=J7 h (i:=i) (j:=j-1) zBU zAB;rw[AU]at h2;omega
theorem mem_compact(l:List Int)(x:Int):x∈Lib.compact l↔x∈l:=by
 unfold Lib.compact Lib.compactUpTo;constructor;·intro hx;obtain⟨i,hi,rfl⟩:=yD.1 hx;have hi1:=(List.mem_filter.1 hi).1;rw[yI]at hi1;simp[hi1]
 intro hx; -- the first place where it stands
 have key:∀n,∀i,i=n->i<l.length->l.getD i 0=x->∃j,j<l.length/\Lib.keeps l.toArray j=true/\l.getD j 0=x:=by
  intro n
  induction n with
  |zero=>intro i hi hl he;subst hi;exact⟨0,hl,(G7 l 0 hl).2 (.inl rfl),he⟩
  |succ n ih=>
   intro i hi hl he
   subst hi
   by_cases hk:l.getD (n+1) 0=l.getD n 0
   ·exact ih n rfl zAB (by rw[<-hk];exact he)
   ·exact⟨n+1,hl,(G7 l (n+1) hl).2 (.inr (by simpa using hk)),he⟩
 obtain⟨i,hi,rfl⟩:=List.getElem_of_mem hx;obtain⟨j,hj1,hj2,hj3⟩:=key i i rfl hi (by simp[qC,hi]);rw[yD];refine⟨j,List.mem_filter.2 ⟨by simpa using hj1,hj2⟩,?_⟩;rw[<-hj3];simp[hj1,qC]
theorem EX(xs:List Int):Strict (tY xs):=J8 (Qa xs)
theorem oU(xs:List Int)(x:Int):x∈tY xs↔x∈xs:=by unfold tY;rw[mem_compact];exact(Wn xs).mem_iff
theorem J9:∀{a b:List Int},Strict a->Strict b->(∀x,x∈a↔x∈b)->a=b
 | [],[],_,_,_=>rfl
 | [],y::b,_,_,h=>absurd ((h y).2 (qQ ..)) zAF
 |x::a,[],_,_,h=>absurd ((h x).1 (qQ ..)) zAF
 |x::a,y::b,ha,hb,h=>by
  unfold Strict at ha hb
  rw[List.pairwise_cons]at ha hb
  have hxy:x=y:=by
   have h1:=(h x).1 (qQ ..)
   have h2:=(h y).2 (qQ ..)
   rcases qY.1 h1 with e|h1
   ·exact e
   ·rcases qY.1 h2 with e|h2
    ·exact e.symm
    ·have k1:=ha.1 y h2
     have k2:=hb.1 x h1
     rw[lt_iff]at k1 k2;omega
  subst hxy
  have irr:∀z,lt z z=false:=fun z=>by rw[AU];omega
  rw[J9 ha.2 hb.2 fun z=>?_]
  have hz:=h z
  simp only[qY]at hz
  constructor
  ·intro hza
   rcases hz.1 (.inr hza)with e|e
   ·subst e;have:=ha.1 z hza;rw[irr]at this;cases this
   ·exact e
  ·intro hzb
   rcases hz.2 (.inr hzb)with e|e
   ·subst e;have:=hb.1 z hzb;rw[irr]at this;cases this
   ·exact e
end ig
namespace ig
structure Lit (x:Int):Prop where
 r:bg x
 w:wr x=false
theorem Lit.ne0{x:Int}(h:Lit x):x≠0:=by intro e;subst e;have:=h.w;revert this;decide
theorem Lit.lo{x:Int}(h:Lit x): -9223372036854775807<=x/\x<=9223372036854775807:=by
 have h1:=h.r;have h2:x≠G6:=by intro e;have:=h.w;unfold wr at this;rw[e]at this;simp at this
 unfold G6 at h2;unfold bg at h1;omega
theorem Lit.neg{x:Int}(h:Lit x):Lit (-x):=by have h1:=h.lo;have h2:=h.ne0;refine⟨by unfold bg;omega,?_⟩;unfold wr G6;simp only[Bool.or_eq_false_iff,yC];omega
theorem Lit.wrap{x:Int}(h:Lit x):IntKind.i64.wrap (-x)= -x:=IntWalk.i64_in _ (by have:=h.lo;omega)
theorem Lit.abs{x:Int}(h:Lit x):tX x=x.natAbs:=by unfold tX;rw[h.wrap];omega
def mX(l:List Int):Prop:=l.Pairwise fun x y=>x.natAbs<y.natAbs
theorem mX.strict{l:List Int}(h:mX l)(hl:∀x∈l,Lit x):Strict l:=by unfold mX at h;unfold Strict;refine h.imp_of_mem ?_;intro a b ha hb hab;rw[lt_iff,(hl a ha).abs,(hl b hb).abs];omega
theorem abK{xs:List Int}(h:∀x∈xs,Lit x):xs.any wr=false:=by rw[<-Bool.not_eq_true,yU];rintro⟨x,hx,hw⟩;rw[(h x hx).w]at hw;cases hw
theorem AV{l:List Int}(h:mX l)(hl:∀x∈l,Lit x):clash l=false:=by
 unfold clash;rw[<-Bool.not_eq_true,yU];rintro⟨i,hi,hc⟩;simp only[Bool.and_eq_true,yP,beq_iff_eq]at hc;rw[yI]at hi;obtain⟨h1,h2⟩:=hc;have e1:l.getD i 0=l[i]:=by simp[qC,hi]
 have e2:l.getD (i-1) 0=l[i-1]:=by simp[qC,show i-1<l.length by omega]
 have h3:=(List.pairwise_iff_getElem.1 h) (i-1) i zBU hi zAB;rw[e1,e2,(hl _ (qZ zAB)).wrap]at h2;rw[h2]at h3;omega
theorem G8{xs o:List Int}(hx:∀x∈xs,Lit x)(ho:mX o)(hm:∀y,y∈o↔y∈xs):form xs=some o:=by have hl:∀x∈o,Lit x:=fun x h=>hx x ((hm x).1 h);have e:tY xs=o:=J9 (EX xs) (ho.strict hl) (fun y=>(oU xs y).trans (hm y).symm);unfold form;rw[abK hx,e,AV ho hl];rfl
end ig
end Go.Proofs.YtdmmebjjojimiaaGreatDoor
namespace Go.Proofs
theorem zBs{p:Prop}(h:p:=by rw[e]):p:=h
end Go.Proofs
namespace Go.Proofs.YtdmmebjjojimiaaGreatDoor
open Go.RowKit
section
variable {w:World}
theorem AX(x:Int)(hx:bg x)(r:Bool)(hr:ig.wr x=r):Calls Tryz.prog 97 #[.int .i64 x] w fun e w'=>e= .returned (.bool r)/\w=w':=by
 subst hr;unfold ig.wr;obtain⟨h1,h2⟩:=hx;by_cases h0:x=0;·subst h0;go_enter Tryz.func97,Tryz.ntmps97;go_wp2;exact zCL
 have k0:(x==0)=false:=yC.2 h0;have key:(x==IntKind.i64.wrap (-x))=(x==ig.G6):=by rw[Bool.eq_iff_iff,beq_iff_eq,beq_iff_eq,qD];unfold ig.G6;omega
 rw[k0];generalize hnx:IntKind.i64.wrap (-x)=nx at*;cases hm:(x==ig.G6);all_goals rw[hm]at key;clear hm h0 h1 h2;go_enter Tryz.func97,Tryz.ntmps97;go_wp2;go_ret;exact⟨rfl,rfl⟩
theorem Tf(x:Int)(hx:bg x)(hw:ig.wr x=false):Calls Tryz.prog 98 #[.int .i64 x] w fun e w'=>e= .returned (.int .i64 (x.natAbs:Int))/\w=w':=by
 obtain⟨h1,h2⟩:=hx;have hne:x≠ -9223372036854775808:=by intro e;rw[e]at hw;revert hw;decide
 have hw': -9223372036854775807<=x:=zAB;clear hw hne h1;by_cases h0:x<0
 ·have e:((x.natAbs:Nat):Int)= -x:=by omega
  rw[e];go_enter Tryz.func98,Tryz.ntmps98;go_wp2;exact zCL
 have e:((x.natAbs:Nat):Int)=x:=by omega
 rw[e];clear e;go_enter Tryz.func98,Tryz.ntmps98;go_wp2;exact zCL
theorem abL{va vb:Value}{xs ys:List Int}(ha:Ints w va xs)(hb:Ints w vb ys):Calls Tryz.prog 69 #[va,vb] w fun e w'=>e= .returned (.bool (xs==ys))/\O0 w w':=by
 obtain⟨ao,ca,rfl,ha1,ha2⟩:=ha.shape;obtain⟨bo,cb,rfl,hb1,hb2⟩:=hb.shape;by_cases hl:xs.length=ys.length
 ·have k1:((xs.length:Int) != (ys.length:Int))=false:=by simp[hl]
  have HL:=zh hl;clear hl;go_enter Tryz.func69,Tryz.ntmps69;go_wp2;go_loopw [13] (fun v wr=> ∃k:Nat,v= .int .i64 k/\k<=xs.length/\(∀j,j<k->xs.getD j 0=ys.getD j 0)/\O0 w wr) (fun v _=>xs.length-(intOf v).toNat);case atStart=>exact⟨0,rfl,qE _,fun j hj=>by omega,Only.refl _ _⟩
  case round=>
   obtain⟨k,rfl,hk,hE,hO⟩:=hrel;have HE:=zh hE;clear hE;by_cases c:k<xs.length
   ·obtain⟨b1,o1,rfl,_,c1⟩:=(ha.aH hO).cells _ _ _ rfl zAB;obtain⟨b2,o2,rfl,_,c2⟩:=(hb.aH hO).cells _ _ _ rfl (by have:=HL.out;omega);have q1:=c1 k c;have q2:=c2 k (by have:=HL.out;omega);have e1:(k:Int)<(xs.length:Int):=zAB;have e2:(k:Int)<(ys.length:Int):=by have:=HL.out;omega
    clear c1 c2;generalize hx:xs.getD k 0=x at*;generalize hy:ys.getD k 0=y at*;have HX:=zh hx;have HY:=zh hy;clear hx hy;cases hc:(x != y)
    ·have hxy:x=y:=by simpa using hc
     have HXY:=zh hxy;clear hxy;go_wp2_with fail;go_quiet (fail);go_wp2_with fail;go_roundw;case rel=>
      refine⟨k+1,by go_num,by omega,fun j hj=>?_,hO.drewN _⟩;rcases yK j k with h1|h1;·exact HE.out j h1
      rw[show j=k by omega,HX.out,HY.out,HXY.out]
     case measure=>simp[intOf];omega
    have hne:(xs==ys)=false:=yC.2 (fun e=>by
     have h1:=HX.out
     rw[e,HY.out]at h1
     rw[h1]at hc
     simp at hc)
    have HNE:=zh hne;clear hne;go_wp2_with fail;go_quiet (fail);go_wp2_with fail;go_ret;rw[HNE.out];exact⟨rfl,hO.drewN _⟩
   have heq:(xs==ys)=true:=by rw[beq_iff_eq];apply List.ext_getElem HL.out;intro i h1 h2;have:=HE.out i zAB;simpa[qC,h1,h2]using this
   have HEQ:=zh heq;clear heq;go_wp2_with fail;go_ret;rw[HEQ.out];exact⟨rfl,hO⟩
 have k1:((xs.length:Int) != (ys.length:Int))=true:=bne_iff_ne.2 zAB;have hne:(xs==ys)=false:=yC.2 (fun e=>hl zBs);rw[hne];clear hl hne;go_enter Tryz.func69,Tryz.ntmps69;go_wp2;go_ret;exact⟨rfl,Only.refl _ _⟩
end
namespace Rup
theorem Ti{c f:List Int}(h:ig.form c=some f):∀x,x∈f↔x∈c:=by
 unfold ig.form at h;split at h;·cases h
 split at h;·cases h
 simp at h;subst h;exact ig.oU c
end Rup
theorem Wp{xs f:List Int}(h:∀x∈xs,bg x)(hf:ig.form xs=some f):∀x∈f,bg x:=fun x hx=>h x ((Rup.Ti hf x).1 hx)
end Go.Proofs.YtdmmebjjojimiaaGreatDoor
