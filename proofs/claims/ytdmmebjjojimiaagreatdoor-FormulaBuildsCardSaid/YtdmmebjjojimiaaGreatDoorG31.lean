/- slices.SortFunc laid at nodes, by name (formula.Read$1). Printed by gen_fms.py.; Rows of other types lie in other blocks. -/
import Derived.Test.YtdmmebjjojimiaaGreatDoorG30
set_option maxRecDepth 100000
set_option maxHeartbeats 8000000
set_option linter.all false
namespace Go.Proofs.YtdmmebjjojimiaaGreatDoor
open Go.RowKit Go.Sort Go.Shelf
def Tryz.N8:Go.Shelf.Ren:=⟨fun |6=>93|15=>174|14=>173|28=>252|29=>253|20=>244|21=>245|22=>246|23=>247|24=>248|25=>249|26=>250|27=>251|46=>317|47=>318|48=>319|49=>320|50=>321|57=>363|n=>n,fun |22=>29|24=>83|25=>173|3=>3|39=>239|0=>0|53=>288|55=>290|4=>4|46=>281|45=>280|50=>285|5=>5|9=>9|66=>332|70=>336|76=>369|77=>264|n=>n,fun |n=>n⟩
theorem Tryz.PE:Go.Proofs.SlLaysF0.n6 Tryz.prog Tryz.N8:={
 mixed:=by kernel_rfl
 f6:=⟨Tryz.f93.name,by decide,Tryz.func93.trans (congrArg some zk)⟩
 f14:=⟨Tryz.f173.name,by decide,Tryz.func173.trans (congrArg some zk)⟩
 f15:=Tryz.func174.trans (congrArg some zk)
 f20:=⟨Tryz.f244.name,by decide,Tryz.func244.trans (congrArg some zk)⟩
 f21:=⟨Tryz.f245.name,by decide,Tryz.func245.trans (congrArg some zk)⟩
 f22:=⟨Tryz.f246.name,by decide,Tryz.func246.trans (congrArg some zk)⟩
 f23:=⟨Tryz.f247.name,by decide,Tryz.func247.trans (congrArg some zk)⟩
 f24:=⟨Tryz.f248.name,by decide,Tryz.func248.trans (congrArg some zk)⟩
 f25:=⟨Tryz.f249.name,by decide,Tryz.func249.trans (congrArg some zk)⟩
 f26:=⟨Tryz.f250.name,by decide,Tryz.func250.trans (congrArg some zk)⟩
 f27:=⟨Tryz.f251.name,by decide,Tryz.func251.trans (congrArg some zk)⟩
 f28:=Tryz.func252.trans (congrArg some zk)
 f29:=Tryz.func253.trans (congrArg some zk)
 f46:=⟨Tryz.f317.name,by decide,Tryz.func317.trans (congrArg some zk)⟩
 f47:=Tryz.func318.trans (congrArg some zk)
 f48:=Tryz.func319.trans (congrArg some zk)
 f49:=⟨Tryz.f320.name,by decide,Tryz.func320.trans (congrArg some zk)⟩
 f50:=⟨Tryz.f321.name,by decide,Tryz.func321.trans (congrArg some zk)⟩
 f57:=⟨Tryz.f363.name,by decide,Tryz.func363.trans (congrArg some zk)⟩
 t0:=Tryz.underlying0
 a0:=Tryz.isAgg0
 z0:=Tryz.sizeOf0
 v0:=Tryz.zeroValue0
 t3:=Tryz.underlying3
 a3:=Tryz.isAgg3
 z3:=Tryz.sizeOf3
 v3:=Tryz.zeroValue3
 t4:=Tryz.underlying4
 a4:=Tryz.isAgg4
 z4:=Tryz.sizeOf4
 v4:=Tryz.zeroValue4
 t5:=Tryz.underlying5
 a5:=Tryz.isAgg5
 z5:=Tryz.sizeOf5
 v5:=Tryz.zeroValue5
 t9:=Tryz.underlying9
 a9:=Tryz.isAgg9
 z9:=Tryz.sizeOf9
 v9:=Tryz.zeroValue9
 t22:=Tryz.underlying29
 a22:=Tryz.isAgg29
 z22:=Tryz.sizeOf29
 v22:=Tryz.zeroValue29
 t25:=Tryz.underlying173
 a25:=Tryz.isAgg173
 z25:=Tryz.sizeOf173
 v25:=Tryz.zeroValue173
 t39:=Tryz.underlying239
 a39:=Tryz.isAgg239
 z39:=Tryz.sizeOf239
 v39:=Tryz.zeroValue239
 t45:=Tryz.underlying280
 a45:=Tryz.isAgg280
 z45:=Tryz.sizeOf280
 v45:=Tryz.zeroValue280
 t46:=Tryz.underlying281
 a46:=Tryz.isAgg281
 z46:=Tryz.sizeOf281
 v46:=Tryz.zeroValue281
 t50:=Tryz.underlying285
 a50:=Tryz.isAgg285
 z50:=Tryz.sizeOf285
 v50:=Tryz.zeroValue285
 t53:=Tryz.underlying288
 a53:=Tryz.isAgg288
 z53:=Tryz.sizeOf288
 v53:=Tryz.zeroValue288
 t55:=Tryz.underlying290
 a55:=Tryz.isAgg290
 z55:=Tryz.sizeOf290
 v55:=Tryz.zeroValue290
 t66:=Tryz.underlying332
 a66:=Tryz.isAgg332
 z66:=Tryz.sizeOf332
 v66:=Tryz.zeroValue332
 t70:=Tryz.underlying336
 a70:=Tryz.isAgg336
 z70:=Tryz.sizeOf336
 v70:=Tryz.zeroValue336
 t76:=Tryz.underlying369
 a76:=Tryz.isAgg369
 z76:=Tryz.sizeOf369
 v76:=Tryz.zeroValue369
 t77:=Tryz.underlying264
 a77:=Tryz.isAgg264
 z77:=Tryz.sizeOf264
 v77:=Tryz.zeroValue264}
structure FN where
 name:Str
 ver:Str
 a1:Option Addr
 n1:Nat
 c1:Nat
 a2:Option Addr
 n2:Nat
 c2:Nat
instance:Inhabited FN:=⟨⟨.empty,.empty,none,0,0,none,0,0⟩⟩
def FN.cells(x:FN):List Value:=[.string x.name,.string x.ver,.slice x.a1 x.n1 x.c1,.slice x.a2 x.n2 x.c2]
def jZ(L:List FN):List Value:=L.flatMap FN.cells
def cfN(x y:FN):Int:=KW x.name.toList y.name.toList
theorem afX(x y:FN)(w:World):Calls Tryz.prog 94 #[.agg x.cells.toArray,.agg y.cells.toArray] w fun e w'=>e= .returned (.int .i64 (cfN x y))/\∃q os',w'=grow (w.drewN q) os':=by have HC:Hid (∀W:World,Calls Tryz.prog 95 #[.string x.name,.string y.name] W fun e w'=>e= .returned (.int .i64 (cfN x y))/\w'=W):=fun W=>Ui x.name y.name;obtain⟨r,hr⟩:=ze (cfN x y);rw[hr]at HC⊢;clear hr;obtain⟨xn,xv,a1,n1,c1,a2,n2,c2⟩:=x;obtain⟨yn,yv,b1,m1,d1,b2,m2,d2⟩:=y;unfold FN.cells;dsimp only at*;go_enter Tryz.func94,Tryz.ntmps94;go_wp2_with fail;refine(HC.out _).mono ?_;rintro e w1 ⟨rfl,rfl⟩;go_wp2_with fail;go_ret;exact⟨rfl,0,#[_,_],rfl⟩
theorem JL(x y:FN):ltOf cfN x y=true↔x.name.toList<y.name.toList:=by
 unfold ltOf cfN KW;rw[decide_eq_true_iff];by_cases h:x.name.toList<y.name.toList;·rw[if_pos h];exact⟨fun _=>h,fun _=>by decide⟩
 rw[if_neg h];refine⟨fun h2=>?_,fun h2=>absurd h2 h⟩;split at h2;·exact absurd h2 zAD
 exact absurd h2 zAD
theorem zu(x y:FN):ltOf cfN x y=false↔ ¬x.name.toList<y.name.toList:=by rw[<-JL,Bool.not_eq_true]
theorem apx:SWO (ltOf cfN) where
 irrefl x:=by rw[zu];exact List.lt_irrefl _
 trans x y z:=by rw[JL,JL,JL];exact List.lt_trans
 ntrans x y z:=by
  rw[zu,zu,zu]
  intro h1 h2
  exact List.not_lt.2 (List.le_trans (List.not_lt.1 h2) (List.not_lt.1 h1))
theorem Es:∀(L:List FN),(jZ L).length=L.length*4
 | []=>rfl
 |x::r=>by
  have ih:=Es r
  have hs:jZ (x::r)=x.cells++jZ r:=rfl
  rw[hs,qK,ih,qN]
  simp[FN.cells]
  omega
theorem CB:∀(L:List FN) (i:Nat) (n:FN),L[i]? =some n->∀(j:Nat) (u:Value),n.cells[j]? =some u->(jZ L)[i*4+j]? =some u
 | [],i,n,h,_,_,_=>by simp at h
 |x::r,0,n,h,j,u,hj=>by
  simp at h;subst h
  have hl:j<x.cells.length:=by
   by_cases hc:j<x.cells.length
   ·exact hc
   ·rw[List.getElem?_eq_none zAB]at hj;cases hj
  show(x.cells++jZ r)[0*4+j]? =_
  rw[Nat.zero_mul,Nat.zero_add,yM hl]
  exact hj
 |x::r,i+1,n,h,j,u,hj=>by
  have ih:=CB r i n zA0 j u hj
  show(x.cells++jZ r)[(i+1)*4+j]? =_
  have hl:x.cells.length=4:=rfl
  rw[yN zAB,hl,show(i+1)*4+j-4=i*4+j by omega]
  exact ih
theorem U1(L:List FN)(n:FN):jZ (L++[n])=jZ L++n.cells:=by simp[jZ]
theorem Gm(xs:List FN):flatK FN.cells 4 xs.toArray=(jZ xs).toArray:=by
 refine ext_get! (by simp[Es]) fun t ht=>?_;have ht2:t<xs.length*4:=by simpa using ht
 rw[get_flatK _ _ _ t (by simpa using ht2)];have hi:t/4<xs.length:=zAB;obtain⟨e,he⟩:=zG xs (t/4) hi;have h1:xs.toArray[t/4]! =e:=by simp[he]
 rw[h1];have h2:=CB xs (t/4) e he;have hr:((jZ xs).toArray)[t]! =((jZ xs)[t]?).getD default:=zAF;rw[hr];have hm:t%4=0\/t%4=1\/t%4=2\/t%4=3:=zAB;have e1:t/4*4+t%4=t:=zAB;have k0:=h2 0 _ (rfl:e.cells[0]? =some (.string e.name));have k1:=h2 1 _ (rfl:e.cells[1]? =some (.string e.ver));have k2:=h2 2 _ (rfl:e.cells[2]? =some (.slice e.a1 e.n1 e.c1));have k3:=h2 3 _ (rfl:e.cells[3]? =some (.slice e.a2 e.n2 e.c2));rcases hm with hm|hm|hm|hm;·rw[hm]at e1⊢;rw[e1]at k0;rw[k0];rfl
 ·rw[hm]at e1⊢;rw[e1]at k1;rw[k1];rfl
 ·rw[hm]at e1⊢;rw[e1]at k2;rw[k2];rfl
 rw[hm]at e1⊢;rw[e1]at k3;rw[k3];rfl
theorem U2{w:World}{e:TypeId}{g n cap:Nat}{xs:List Value}(h:w.ownsRow 0 e 4 (.slice (some ⟨g,0,none⟩) n cap) n xs)(d:Array Value)(hd:d.size=n*4):(putRow id w g 0 d).ownsRow 0 e 4 (.slice (some ⟨g,0,none⟩) n cap) n d.toList:=by
 rcases h.2 with⟨h',_⟩| ⟨g',cap',cur,h',hb,hg,h1,h2,h3,htake⟩;·simp at h'
 simp only[qU,qG,qO,and_true,true_and]at h';obtain⟨rfl,rfl⟩:=h';refine⟨by simp[hd],.inr ⟨g,cap,putCells id 0 d cur,rfl,qE _,?_,h1,h2,?_,?_⟩⟩;·exact zC0
 ·simpa[putCells]using h3
 apply List.ext_getElem?;intro j;simp only[putCells,List.getElem?_take];by_cases hj:j<n*4
 ·have hc:j<cur.size:=by omega
  simp[hj,hc,hd]
 rw[if_neg hj,List.getElem?_eq_none (by simp[hd];omega)]
theorem aiL{w:World}{e:TypeId}{g n cap:Nat}{xs:List Value}(h:w.ownsRow 0 e 4 (.slice (some ⟨g,0,none⟩) n cap) n xs):Holds id w g 0 xs.toArray:=by intro j hj;have hn:xs.length=n*4:=h.1;exact zC8
theorem U3:∀args w,(callFunc 94 args).run Tryz.prog w= .ok (.enter 94 args) w:=enters_of Tryz.func94 zk rfl
theorem afY{w:World}{v:Value}{xs:List FN}(h:w.ownsRow 0 83 4 v xs.length (jZ xs))(hb:xs.length<=1000000):Calls Tryz.prog 93 #[v,.func (.func 94) #[] #[]] w fun e w'=> ∃ys:List FN,e= .returned (.tuple #[])/\ys.Perm xs/\(ys.Pairwise fun a b=>¬b.name.toList<a.name.toList)/\w'.ownsRow 0 83 4 v xs.length (jZ ys)/\Only (fun k=>v.ownBlock=some k) w w':=by
 by_cases h0:xs.length=0
 ·have hx:xs=[]:=yF h0;subst hx;obtain⟨ao,cap,rfl⟩:=LU h;refine(AnyF.slices_SortFunc_none Tryz.PE ao cap _ w).mono fun e w' ⟨he,hw⟩=>⟨[],he,List.Perm.refl _,List.Pairwise.nil,?_,?_⟩;·rw[hw];simpa using h
  exact zD5
 obtain⟨gb,cap,e1⟩:∃gb cap,v= .slice (some ⟨gb,0,none⟩) xs.length cap:=by exact zEM
 subst e1;have hH:HoldsK FN.cells 4 w gb 0 xs.toArray:=by unfold HoldsK;rw[Gm];exact aiL h
 have hlt:=dP h (k:=gb) rfl;have key:=AnyQ.slices_SortFunc Tryz.PE 4 Tryz.isAgg83 Tryz.sizeOf83 FN.cells (fun _=>rfl) (fun x v hv=>by simp[FN.cells]at hv;rcases hv with rfl|rfl|rfl|rfl<;>rfl) cfN apx 94 #[] gb 0 cap xs.toArray w U3 (fun m os dk _ x y=>afX x y _) hH hlt zAU;simp only[List.size_toArray]at key;refine key.mono fun e w' ⟨he,d',n,os,hp,hs,hw⟩=>?_;have hsz:d'.size=xs.length:=by have:=hp.1;simpa using this
 have hpm:d'.toList.Perm xs:=by exact zEb
 have hso:d'.toList.Pairwise fun a b=>ltOf cfN b a=false:=by exact zDJ
 refine⟨d'.toList,he,hpm,hso.imp fun h=>(zu _ _).1 h,?_,?_⟩
 ·subst hw;unfold sortWorldK putRowK;have e3:flatK FN.cells 4 d'=(jZ d'.toList).toArray:=by rw[<-Gm]
  rw[e3];have h1:=U2 (w:=Sort.ahead w n) (g:=gb) (n:=xs.length) (cap:=cap) (e:=83) h (jZ d'.toList).toArray (by simp[Es,hsz]);exact zDT
 subst hw;unfold sortWorldK putRowK;refine oQ ?_ os;have:=(su (Only.refl (fun k=>k=gb) w) n).same (Gl (Sort.ahead w n) gb (flatK FN.cells 4 d'));exact zDE
end Go.Proofs.YtdmmebjjojimiaaGreatDoor
namespace Go.Proofs.YtdmmebjjojimiaaGreatDoor
open Go.RowKit
theorem LZ{w:World}{e e':TypeId}{s s' n n':Nat}{v v':Value}{xs xs':List Value}(hne:e≠e')(h:w.ownsRow 0 e s v n xs)(h':w.ownsRow 0 e' s' v' n' xs'){k:Nat}(hk:v.ownBlock=some k):v'.ownBlock≠some k:=by
 intro h2;rcases h.2 with⟨rfl,_⟩| ⟨g,cap,cur,rfl,-,hg,-⟩;·cases hk
 rcases h'.2 with⟨rfl,_⟩| ⟨g',cap',cur',rfl,-,hg',-⟩;·cases h2
 simp only[Value.ownBlock,qG]at hk h2;subst hk;subst h2;rw[hg]at hg';simp only[qG,Obj.cells.injEq]at hg';exact hne hg'.2.1
theorem jV{w:World}{e t:TypeId}{s n b:Nat}{v:Value}{xs:List Value}{c:Array Value}{f:Nat×Nat}(hne:e≠t)(h:w.ownsRow 0 e s v n xs)(hb:w.heap[b]? =some (.cells c t f)):v.ownBlock≠some b:=by
 intro h2;rcases h.2 with⟨rfl,_⟩| ⟨g,cap,cur,rfl,-,hg,-⟩;·cases h2
 simp only[Value.ownBlock,qG]at h2;subst h2;rw[hb]at hg;simp only[qG,Obj.cells.injEq]at hg;exact hne hg.2.1.symm
end Go.Proofs.YtdmmebjjojimiaaGreatDoor
