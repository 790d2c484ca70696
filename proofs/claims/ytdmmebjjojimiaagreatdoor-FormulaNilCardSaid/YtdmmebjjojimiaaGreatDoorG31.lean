/- slices.SortFunc laid at edges: what it leaves is mergeSort's. Printed by gen_edzs.py.; slices.SortFunc laid at nodes, by name (formula.Read$1). Printed by gen_fms.py. -/
import Derived.Test.YtdmmebjjojimiaaGreatDoorG30
set_option maxRecDepth 100000
set_option maxHeartbeats 8000000
set_option linter.all false
namespace Go.Proofs
theorem zDz{p:Prop}(h:p:=by
 have hj':j<xs.length:=zAm
 refine⟨?_,h.frozenAt _⟩
 rw[Nat.zero_add,h.cellAt j zBB]
 simp[hj']):p:=h
theorem zCT{p:Prop}(h:p:=by
 rw[List.pairwise_iff_getElem]
 intro i j hi hj hij
 have:=hs i j (qE _) hij (by simp at hj;omega)
 simp at hi hj
 simpa[getElem!_pos d' j hj,getElem!_pos d' i hi]using this):p:=h
theorem zDG{p:Prop}(h:p:=by
 obtain⟨n,hn⟩:∃n,xs.length=n+1:=⟨xs.length-1,by omega⟩
 rw[hn]at h⊢
 exact zu h):p:=h
theorem zEA{p:Prop}(h:p:=by
 have:=hp.2.2
 have h3:List.take d'.size xs=xs:=qI zBB
 simpa[<-hsz,h3]using this):p:=h
end Go.Proofs
namespace Go.Proofs.YtdmmebjjojimiaaGreatDoor
open Go.RowKit Go.Sort Go.Shelf
def Tryz.IQ:Go.Shelf.Ren:=⟨fun |6=>313|15=>174|14=>362|28=>252|29=>253|20=>391|21=>392|22=>393|23=>394|24=>395|25=>396|26=>397|27=>398|46=>410|47=>318|48=>319|49=>411|50=>412|57=>418|n=>n,fun |22=>223|24=>226|25=>274|3=>3|39=>239|0=>0|53=>288|55=>290|4=>4|46=>281|45=>280|50=>285|5=>5|9=>9|66=>332|70=>336|76=>369|77=>264|n=>n,fun |n=>n⟩
theorem Tryz.JE:Go.Proofs.SlLaysF0.n6 Tryz.prog Tryz.IQ:={
 mixed:=by kernel_rfl
 f6:=⟨Tryz.f313.name,by decide,Tryz.func313.trans (congrArg some zk)⟩
 f14:=⟨Tryz.f362.name,by decide,Tryz.func362.trans (congrArg some zk)⟩
 f15:=Tryz.func174.trans (congrArg some zk)
 f20:=⟨Tryz.f391.name,by decide,Tryz.func391.trans (congrArg some zk)⟩
 f21:=⟨Tryz.f392.name,by decide,Tryz.func392.trans (congrArg some zk)⟩
 f22:=⟨Tryz.f393.name,by decide,Tryz.func393.trans (congrArg some zk)⟩
 f23:=⟨Tryz.f394.name,by decide,Tryz.func394.trans (congrArg some zk)⟩
 f24:=⟨Tryz.f395.name,by decide,Tryz.func395.trans (congrArg some zk)⟩
 f25:=⟨Tryz.f396.name,by decide,Tryz.func396.trans (congrArg some zk)⟩
 f26:=⟨Tryz.f397.name,by decide,Tryz.func397.trans (congrArg some zk)⟩
 f27:=⟨Tryz.f398.name,by decide,Tryz.func398.trans (congrArg some zk)⟩
 f28:=Tryz.func252.trans (congrArg some zk)
 f29:=Tryz.func253.trans (congrArg some zk)
 f46:=⟨Tryz.f410.name,by decide,Tryz.func410.trans (congrArg some zk)⟩
 f47:=Tryz.func318.trans (congrArg some zk)
 f48:=Tryz.func319.trans (congrArg some zk)
 f49:=⟨Tryz.f411.name,by decide,Tryz.func411.trans (congrArg some zk)⟩
 f50:=⟨Tryz.f412.name,by decide,Tryz.func412.trans (congrArg some zk)⟩
 f57:=⟨Tryz.f418.name,by decide,Tryz.func418.trans (congrArg some zk)⟩
 t0:=Tryz.underlying0
 a0:=Tryz.isAgg0
 z0:=Tryz.sizeOf0
 v0:=Tryz.zeroValue0
 t3:=Tryz.underlying3
 a3:=Tryz.isAgg3
 z3:=Tryz.sizeOf3
 v3:=Tryz.zeroValue3
 t4:=Tryz.underlying4
 a4:=Tryz.isAgg4
 z4:=Tryz.sizeOf4
 v4:=Tryz.zeroValue4
 t5:=Tryz.underlying5
 a5:=Tryz.isAgg5
 z5:=Tryz.sizeOf5
 v5:=Tryz.zeroValue5
 t9:=Tryz.underlying9
 a9:=Tryz.isAgg9
 z9:=Tryz.sizeOf9
 v9:=Tryz.zeroValue9
 t22:=Tryz.underlying223
 a22:=Tryz.isAgg223
 z22:=Tryz.sizeOf223
 v22:=Tryz.zeroValue223
 t25:=Tryz.underlying274
 a25:=Tryz.isAgg274
 z25:=Tryz.sizeOf274
 v25:=Tryz.zeroValue274
 t39:=Tryz.underlying239
 a39:=Tryz.isAgg239
 z39:=Tryz.sizeOf239
 v39:=Tryz.zeroValue239
 t45:=Tryz.underlying280
 a45:=Tryz.isAgg280
 z45:=Tryz.sizeOf280
 v45:=Tryz.zeroValue280
 t46:=Tryz.underlying281
 a46:=Tryz.isAgg281
 z46:=Tryz.sizeOf281
 v46:=Tryz.zeroValue281
 t50:=Tryz.underlying285
 a50:=Tryz.isAgg285
 z50:=Tryz.sizeOf285
 v50:=Tryz.zeroValue285
 t53:=Tryz.underlying288
 a53:=Tryz.isAgg288
 z53:=Tryz.sizeOf288
 v53:=Tryz.zeroValue288
 t55:=Tryz.underlying290
 a55:=Tryz.isAgg290
 z55:=Tryz.sizeOf290
 v55:=Tryz.zeroValue290
 t66:=Tryz.underlying332
 a66:=Tryz.isAgg332
 z66:=Tryz.sizeOf332
 v66:=Tryz.zeroValue332
 t70:=Tryz.underlying336
 a70:=Tryz.isAgg336
 z70:=Tryz.sizeOf336
 v70:=Tryz.zeroValue336
 t76:=Tryz.underlying369
 a76:=Tryz.isAgg369
 z76:=Tryz.sizeOf369
 v76:=Tryz.zeroValue369
 t77:=Tryz.underlying264
 a77:=Tryz.isAgg264
 z77:=Tryz.sizeOf264
 v77:=Tryz.zeroValue264}
theorem UH{a b:Int}(h:a<b):Lib.compareInt a b= -1:=by unfold Lib.compareInt;rw[if_pos h]
theorem UJ{a b:Int}(h:b<a):Lib.compareInt a b=1:=by unfold Lib.compareInt;rw[if_neg zAB,if_pos zBB]
theorem UK{a b:Int}(h:a=b):Lib.compareInt a b=0:=by unfold Lib.compareInt;rw[if_neg zAB,if_neg zBB]
theorem Et(x y:Nat×Nat):ltOf cfE x y=true↔x.1<y.1\/(x.1=y.1/\x.2<y.2):=by
 unfold ltOf cfE;rw[decide_eq_true_iff];rcases Nat.lt_trichotomy x.1 y.1 with h|h|h;·rw[UH zBB,if_neg zBC];exact⟨fun _=>.inl h,fun _=>by decide⟩
 ·rw[UK zBB,if_pos rfl];rcases Nat.lt_trichotomy x.2 y.2 with h2|h2|h2;·rw[UH zBB];exact⟨fun _=>.inr ⟨h,h2⟩,fun _=>by decide⟩
  ·rw[UK zBB];exact⟨fun h3=>absurd h3 zBC,fun h3=>by omega⟩
  rw[UJ zBB];exact⟨fun h3=>absurd h3 zBC,fun h3=>by omega⟩
 rw[UJ zBB,if_neg zBC];exact⟨fun h3=>absurd h3 zAC,fun h3=>by omega⟩
theorem fD(x y:Nat×Nat):ltOf cfE x y=false↔ ¬(x.1<y.1\/(x.1=y.1/\x.2<y.2)):=by rw[<-Et,Bool.not_eq_true]
theorem akJ:SWO (ltOf cfE) where
 irrefl x:=by rw[fD];omega
 trans x y z:=by rw[Et,Et,Et];omega
 ntrans x y z:=by rw[fD,fD,fD];omega
theorem iw(x y:Nat×Nat):jh x y=true↔ltOf cfE y x=false:=by rw[fD];unfold jh;simp;omega
theorem Py{xs l:List (Nat×Nat)}(hp:l.Perm xs)(hs:l.Pairwise fun a b=>ltOf cfE b a=false):l=xs.mergeSort jh:=by
 have tr:∀a b c:Nat×Nat,jh a b=true->jh b c=true->jh a c=true:=fun a b c=>by rw[iw,iw,iw,fD,fD,fD];omega
 have tot:∀a b:Nat×Nat,(jh a b||jh b a)=true:=fun a b=>by rw[Bool.or_eq_true,iw,iw,fD,fD];omega
 refine List.Perm.eq_of_pairwise (le:=fun a b=>jh a b=true) (fun a b _ _ h1 h2=>?_) (hs.imp fun h=>(iw _ _).2 h) (List.pairwise_mergeSort tr tot xs) (hp.trans (List.mergeSort_perm xs jh).symm);rw[iw,fD]at h1 h2;exact Prod.ext zAB zBB
theorem Pz:∀(xs:List (Nat×Nat)) (i:Nat) (e:Nat×Nat),xs[i]? =some e->(ji xs)[i*2]? =some (.int .i64 (e.1:Int))/\(ji xs)[i*2+1]? =some (.int .i64 (e.2:Int))
 | [],i,e,h=>by simp at h
 |x::r,0,e,h=>by
  simp at h;subst h
  exact⟨rfl,rfl⟩
 |x::r,i+1,e,h=>by
  have ih:=Pz r i e zAg
  have hs:ji (x::r)=[.int .i64 (x.1:Int),.int .i64 (x.2:Int)]++ji r:=rfl
  rw[hs,yN (by simp;omega),yN zAK]
  simp only[qN,List.length_nil]
  rw[show(i+1)*2-(0+1+1)=i*2 by omega,show(i+1)*2+1-(0+1+1)=i*2+1 by omega]
  exact ih
theorem DN(xs:List (Nat×Nat)):flatK LC 2 xs.toArray=(ji xs).toArray:=by
 refine ext_get! (by simp[JD]) fun t ht=>?_;have ht2:t<xs.length*2:=by simpa using ht
 rw[get_flatK _ _ _ t (by simpa using ht2)];have hi:t/2<xs.length:=zBB;obtain⟨e,he⟩:=zG xs (t/2) hi;have h1:xs.toArray[t/2]! =e:=by simp[he]
 rw[h1];have h2:=Pz xs (t/2) e he;have hr:((ji xs).toArray)[t]! =((ji xs)[t]?).getD default:=zAE;rw[hr];rcases Nat.mod_two_eq_zero_or_one t with hm|hm
 ·have e1:t/2*2=t:=by omega
  rw[e1]at h2;rw[h2.1,hm];rfl
 have e1:t/2*2+1=t:=by omega
 rw[e1]at h2;rw[h2.2,hm];rfl
theorem PD{w:World}{e:TypeId}{g n cap:Nat}{xs:List Value}(h:w.ownsRow 0 e 2 (.slice (some ⟨g,0,none⟩) n cap) n xs)(d:Array Value)(hd:d.size=n*2):(putRow id w g 0 d).ownsRow 0 e 2 (.slice (some ⟨g,0,none⟩) n cap) n d.toList:=by
 rcases h.2 with⟨h',_⟩| ⟨g',cap',cur,h',hb,hg,h1,h2,h3,htake⟩;·simp at h'
 simp only[qU,qG,qO,and_true,true_and]at h';obtain⟨rfl,rfl⟩:=h';refine⟨by simp[hd],.inr ⟨g,cap,putCells id 0 d cur,rfl,qE _,?_,h1,h2,?_,?_⟩⟩;·exact zCF
 ·simpa[putCells]using h3
 apply List.ext_getElem?;intro j;simp only[putCells,List.getElem?_take];by_cases hj:j<n*2
 ·have hc:j<cur.size:=by omega
  simp[hj,hc,hd]
 rw[if_neg hj,List.getElem?_eq_none (by simp[hd];omega)]
theorem holds2{w:World}{e:TypeId}{g n cap:Nat}{xs:List Value}(h:w.ownsRow 0 e 2 (.slice (some ⟨g,0,none⟩) n cap) n xs):Holds id w g 0 xs.toArray:=by intro j hj;have hn:xs.length=n*2:=h.1;exact zDz
theorem Gt{w:World}{base:Nat}{e:TypeId}{size:Nat}{v:Value}{n:Nat}{xs:List Value}(h:w.ownsRow base e size v n xs):∃ao cap,v= .slice ao n cap:=by
 rcases h.2 with⟨rfl,rfl⟩| ⟨g,cap,_,h',_⟩;·exact⟨none,0,rfl⟩
 exact⟨_,cap,h'⟩
theorem AX(w:World)(g:Nat)(F:Array Value):Only (fun k=>k=g) w (putRow id w g 0 F):=
 ⟨rfl,rfl,rfl,by simp[putRow,mapBlock],fun k _ hk=>by
  show(w.heap.modify g _)[k]? =_
  rw[Array.getElem?_modify,if_neg (fun e=>hk e.symm)]⟩
theorem LD:∀args w,(callFunc 233 args).run Tryz.prog w= .ok (.enter 233 args) w:=enters_of Tryz.func233 zk rfl
theorem abp{w:World}{v:Value}{xs:List (Nat×Nat)}(h:w.ownsRow 0 226 2 v xs.length (ji xs))(hb:xs.length<=1000000):Calls Tryz.prog 313 #[v,.func (.func 233) #[] #[]] w fun e w'=>e= .returned (.tuple #[])/\w'.ownsRow 0 226 2 v xs.length (ji (xs.mergeSort jh))/\Only (fun k=>v.ownBlock=some k) w w':=by
 by_cases h0:xs.length=0
 ·have hx:xs=[]:=yF h0;subst hx;obtain⟨ao,cap,rfl⟩:=Gt h;refine(AnyF.slices_SortFunc_none Tryz.JE ao cap _ w).mono fun e w' ⟨he,hw⟩=>⟨he,?_,?_⟩;·rw[hw];simpa using h
  exact zCy
 obtain⟨gb,cap,e1⟩:∃gb cap,v= .slice (some ⟨gb,0,none⟩) xs.length cap:=by exact zDG
 subst e1;have hH:HoldsK LC 2 w gb 0 xs.toArray:=by unfold HoldsK;rw[DN];exact holds2 h
 have hlt:=dn h (k:=gb) rfl;have key:=AnyQ.slices_SortFunc Tryz.JE 2 Tryz.isAgg226 Tryz.sizeOf226 LC (fun _=>rfl) (fun x v hv=>by simp[LC]at hv;rcases hv with rfl|rfl<;>rfl) cfE akJ 233 #[] gb 0 cap xs.toArray w LD (fun m os dk _ x y=>abo x y _) hH hlt zAK;simp only[List.size_toArray]at key;refine key.mono fun e w' ⟨he,d',n,os,hp,hs,hw⟩=>⟨he,?_,?_⟩
 ·have hsz:d'.size=xs.length:=by have:=hp.1;simpa using this
  have hpm:d'.toList.Perm xs:=by exact zEA
  have hso:d'.toList.Pairwise fun a b=>ltOf cfE b a=false:=by exact zCT
  have e2:=Py hpm hso;subst hw;unfold sortWorldK putRowK;have e3:flatK LC 2 d'=(ji (xs.mergeSort jh)).toArray:=by rw[<-e2,<-DN]
  rw[e3];have h1:=PD (w:=Sort.ahead w n) (g:=gb) (n:=xs.length) (cap:=cap) (e:=226) h (ji (xs.mergeSort jh)).toArray (by simp[JD]);exact zCZ
 subst hw;unfold sortWorldK putRowK;refine kY ?_ os;have:=(mW (Only.refl (fun k=>k=gb) w) n).same (AX (Sort.ahead w n) gb (flatK LC 2 d'));exact zCP
def Tryz.IU:Go.Shelf.Ren:=⟨fun |6=>93|15=>174|14=>173|28=>252|29=>253|20=>244|21=>245|22=>246|23=>247|24=>248|25=>249|26=>250|27=>251|46=>317|47=>318|48=>319|49=>320|50=>321|57=>363|n=>n,fun |22=>29|24=>83|25=>173|3=>3|39=>239|0=>0|53=>288|55=>290|4=>4|46=>281|45=>280|50=>285|5=>5|9=>9|66=>332|70=>336|76=>369|77=>264|n=>n,fun |n=>n⟩
theorem Tryz.JF:Go.Proofs.SlLaysF0.n6 Tryz.prog Tryz.IU:={
 mixed:=by kernel_rfl
 f6:=⟨Tryz.f93.name,by decide,Tryz.func93.trans (congrArg some zk)⟩
 f14:=⟨Tryz.f173.name,by decide,Tryz.func173.trans (congrArg some zk)⟩
 f15:=Tryz.func174.trans (congrArg some zk)
 f20:=⟨Tryz.f244.name,by decide,Tryz.func244.trans (congrArg some zk)⟩
 f21:=⟨Tryz.f245.name,by decide,Tryz.func245.trans (congrArg some zk)⟩
 f22:=⟨Tryz.f246.name,by decide,Tryz.func246.trans (congrArg some zk)⟩
 f23:=⟨Tryz.f247.name,by decide,Tryz.func247.trans (congrArg some zk)⟩
 f24:=⟨Tryz.f248.name,by decide,Tryz.func248.trans (congrArg some zk)⟩
 f25:=⟨Tryz.f249.name,by decide,Tryz.func249.trans (congrArg some zk)⟩
 f26:=⟨Tryz.f250.name,by decide,Tryz.func250.trans (congrArg some zk)⟩
 f27:=⟨Tryz.f251.name,by decide,Tryz.func251.trans (congrArg some zk)⟩
 f28:=Tryz.func252.trans (congrArg some zk)
 f29:=Tryz.func253.trans (congrArg some zk)
 f46:=⟨Tryz.f317.name,by decide,Tryz.func317.trans (congrArg some zk)⟩
 f47:=Tryz.func318.trans (congrArg some zk)
 f48:=Tryz.func319.trans (congrArg some zk)
 f49:=⟨Tryz.f320.name,by decide,Tryz.func320.trans (congrArg some zk)⟩
 f50:=⟨Tryz.f321.name,by decide,Tryz.func321.trans (congrArg some zk)⟩
 f57:=⟨Tryz.f363.name,by decide,Tryz.func363.trans (congrArg some zk)⟩
 t0:=Tryz.underlying0
 a0:=Tryz.isAgg0
 z0:=Tryz.sizeOf0
 v0:=Tryz.zeroValue0
 t3:=Tryz.underlying3
 a3:=Tryz.isAgg3
 z3:=Tryz.sizeOf3
 v3:=Tryz.zeroValue3
 t4:=Tryz.underlying4
 a4:=Tryz.isAgg4
 z4:=Tryz.sizeOf4
 v4:=Tryz.zeroValue4
 t5:=Tryz.underlying5
 a5:=Tryz.isAgg5
 z5:=Tryz.sizeOf5
 v5:=Tryz.zeroValue5
 t9:=Tryz.underlying9
 a9:=Tryz.isAgg9
 z9:=Tryz.sizeOf9
 v9:=Tryz.zeroValue9
 t22:=Tryz.underlying29
 a22:=Tryz.isAgg29
 z22:=Tryz.sizeOf29
 v22:=Tryz.zeroValue29
 t25:=Tryz.underlying173
 a25:=Tryz.isAgg173
 z25:=Tryz.sizeOf173
 v25:=Tryz.zeroValue173
 t39:=Tryz.underlying239
 a39:=Tryz.isAgg239
 z39:=Tryz.sizeOf239
 v39:=Tryz.zeroValue239
 t45:=Tryz.underlying280
 a45:=Tryz.isAgg280
 z45:=Tryz.sizeOf280
 v45:=Tryz.zeroValue280
 t46:=Tryz.underlying281
 a46:=Tryz.isAgg281
 z46:=Tryz.sizeOf281
 v46:=Tryz.zeroValue281
 t50:=Tryz.underlying285
 a50:=Tryz.isAgg285
 z50:=Tryz.sizeOf285
 v50:=Tryz.zeroValue285
 t53:=Tryz.underlying288
 a53:=Tryz.isAgg288
 z53:=Tryz.sizeOf288
 v53:=Tryz.zeroValue288
 t55:=Tryz.underlying290
 a55:=Tryz.isAgg290
 z55:=Tryz.sizeOf290
 v55:=Tryz.zeroValue290
 t66:=Tryz.underlying332
 a66:=Tryz.isAgg332
 z66:=Tryz.sizeOf332
 v66:=Tryz.zeroValue332
 t70:=Tryz.underlying336
 a70:=Tryz.isAgg336
 z70:=Tryz.sizeOf336
 v70:=Tryz.zeroValue336
 t76:=Tryz.underlying369
 a76:=Tryz.isAgg369
 z76:=Tryz.sizeOf369
 v76:=Tryz.zeroValue369
 t77:=Tryz.underlying264
 a77:=Tryz.isAgg264
 z77:=Tryz.sizeOf264
 v77:=Tryz.zeroValue264}
structure FN where
 name:Str
 ver:Str
 a1:Option Addr
 n1:Nat
 c1:Nat
 a2:Option Addr
 n2:Nat
 c2:Nat
instance:Inhabited FN:=⟨⟨.empty,.empty,none,0,0,none,0,0⟩⟩
def FN.cells(x:FN):List Value:=[.string x.name,.string x.ver,.slice x.a1 x.n1 x.c1,.slice x.a2 x.n2 x.c2]
def iW(L:List FN):List Value:=L.flatMap FN.cells
def cfN(x y:FN):Int:=FM x.name.toList y.name.toList
theorem abr(x y:FN)(w:World):Calls Tryz.prog 94 #[.agg x.cells.toArray,.agg y.cells.toArray] w fun e w'=>e= .returned (.int .i64 (cfN x y))/\∃q os',w'=grow (w.drewN q) os':=by have HC:Hid (∀W:World,Calls Tryz.prog 95 #[.string x.name,.string y.name] W fun e w'=>e= .returned (.int .i64 (cfN x y))/\w'=W):=fun W=>Oq x.name y.name;obtain⟨r,hr⟩:=ze (cfN x y);rw[hr]at HC⊢;clear hr;obtain⟨xn,xv,a1,n1,c1,a2,n2,c2⟩:=x;obtain⟨yn,yv,b1,m1,d1,b2,m2,d2⟩:=y;unfold FN.cells;dsimp only at*;go_enter Tryz.func94,Tryz.ntmps94;go_wp2_with fail;refine(HC.out _).mono ?_;rintro e w1 ⟨rfl,rfl⟩;go_wp2_with fail;go_ret;exact⟨rfl,0,#[_,_],rfl⟩
theorem Eu(x y:FN):ltOf cfN x y=true↔x.name.toList<y.name.toList:=by
 unfold ltOf cfN FM;rw[decide_eq_true_iff];by_cases h:x.name.toList<y.name.toList;·rw[if_pos h];exact⟨fun _=>h,fun _=>by decide⟩
 rw[if_neg h];refine⟨fun h2=>?_,fun h2=>absurd h2 h⟩;split at h2;·exact absurd h2 zAC
 exact absurd h2 zAC
theorem tH(x y:FN):ltOf cfN x y=false↔ ¬x.name.toList<y.name.toList:=by rw[<-Eu,Bool.not_eq_true]
theorem akK:SWO (ltOf cfN) where
 irrefl x:=by rw[tH];exact List.lt_irrefl _
 trans x y z:=by rw[Eu,Eu,Eu];exact List.lt_trans
 ntrans x y z:=by
  rw[tH,tH,tH]
  intro h1 h2
  exact List.not_lt.2 (List.le_trans (List.not_lt.1 h2) (List.not_lt.1 h1))
theorem zx:∀(L:List FN),(iW L).length=L.length*4
 | []=>rfl
 |x::r=>by
  have ih:=zx r
  have hs:iW (x::r)=x.cells++iW r:=rfl
  rw[hs,qK,ih,qN]
  simp[FN.cells]
  omega
theorem CY:∀(L:List FN) (i:Nat) (n:FN),L[i]? =some n->∀(j:Nat) (u:Value),n.cells[j]? =some u->(iW L)[i*4+j]? =some u
 | [],i,n,h,_,_,_=>by simp at h
 |x::r,0,n,h,j,u,hj=>by
  simp at h;subst h
  have hl:j<x.cells.length:=by
   by_cases hc:j<x.cells.length
   ·exact hc
   ·rw[List.getElem?_eq_none zBB]at hj;cases hj
  show(x.cells++iW r)[0*4+j]? =_
  rw[Nat.zero_mul,Nat.zero_add,yM hl]
  exact hj
 |x::r,i+1,n,h,j,u,hj=>by
  have ih:=CY r i n zAg j u hj
  show(x.cells++iW r)[(i+1)*4+j]? =_
  have hl:x.cells.length=4:=rfl
  rw[yN zBB,hl,show(i+1)*4+j-4=i*4+j by omega]
  exact ih
theorem PE(L:List FN)(n:FN):iW (L++[n])=iW L++n.cells:=by simp[iW]
theorem AY(xs:List FN):flatK FN.cells 4 xs.toArray=(iW xs).toArray:=by
 refine ext_get! (by simp[zx]) fun t ht=>?_;have ht2:t<xs.length*4:=by simpa using ht
 rw[get_flatK _ _ _ t (by simpa using ht2)];have hi:t/4<xs.length:=zBB;obtain⟨e,he⟩:=zG xs (t/4) hi;have h1:xs.toArray[t/4]! =e:=by simp[he]
 rw[h1];have h2:=CY xs (t/4) e he;have hr:((iW xs).toArray)[t]! =((iW xs)[t]?).getD default:=zAE;rw[hr];have hm:t%4=0\/t%4=1\/t%4=2\/t%4=3:=zBB;have e1:t/4*4+t%4=t:=zBB;have k0:=h2 0 _ (rfl:e.cells[0]? =some (.string e.name));have k1:=h2 1 _ (rfl:e.cells[1]? =some (.string e.ver));have k2:=h2 2 _ (rfl:e.cells[2]? =some (.slice e.a1 e.n1 e.c1));have k3:=h2 3 _ (rfl:e.cells[3]? =some (.slice e.a2 e.n2 e.c2));rcases hm with hm|hm|hm|hm;·rw[hm]at e1⊢;rw[e1]at k0;rw[k0];rfl
 ·rw[hm]at e1⊢;rw[e1]at k1;rw[k1];rfl
 ·rw[hm]at e1⊢;rw[e1]at k2;rw[k2];rfl
 rw[hm]at e1⊢;rw[e1]at k3;rw[k3];rfl
theorem PG{w:World}{e:TypeId}{g n cap:Nat}{xs:List Value}(h:w.ownsRow 0 e 4 (.slice (some ⟨g,0,none⟩) n cap) n xs)(d:Array Value)(hd:d.size=n*4):(putRow id w g 0 d).ownsRow 0 e 4 (.slice (some ⟨g,0,none⟩) n cap) n d.toList:=by
 rcases h.2 with⟨h',_⟩| ⟨g',cap',cur,h',hb,hg,h1,h2,h3,htake⟩;·simp at h'
 simp only[qU,qG,qO,and_true,true_and]at h';obtain⟨rfl,rfl⟩:=h';refine⟨by simp[hd],.inr ⟨g,cap,putCells id 0 d cur,rfl,qE _,?_,h1,h2,?_,?_⟩⟩;·exact zCF
 ·simpa[putCells]using h3
 apply List.ext_getElem?;intro j;simp only[putCells,List.getElem?_take];by_cases hj:j<n*4
 ·have hc:j<cur.size:=by omega
  simp[hj,hc,hd]
 rw[if_neg hj,List.getElem?_eq_none (by simp[hd];omega)]
theorem aeh{w:World}{e:TypeId}{g n cap:Nat}{xs:List Value}(h:w.ownsRow 0 e 4 (.slice (some ⟨g,0,none⟩) n cap) n xs):Holds id w g 0 xs.toArray:=by intro j hj;have hn:xs.length=n*4:=h.1;exact zDz
theorem PK:∀args w,(callFunc 94 args).run Tryz.prog w= .ok (.enter 94 args) w:=enters_of Tryz.func94 zk rfl
theorem UL{w:World}{v:Value}{xs:List FN}(h:w.ownsRow 0 83 4 v xs.length (iW xs))(hb:xs.length<=1000000):Calls Tryz.prog 93 #[v,.func (.func 94) #[] #[]] w fun e w'=> ∃ys:List FN,e= .returned (.tuple #[])/\ys.Perm xs/\(ys.Pairwise fun a b=>¬b.name.toList<a.name.toList)/\w'.ownsRow 0 83 4 v xs.length (iW ys)/\Only (fun k=>v.ownBlock=some k) w w':=by
 by_cases h0:xs.length=0
 ·have hx:xs=[]:=yF h0;subst hx;obtain⟨ao,cap,rfl⟩:=Gt h;refine(AnyF.slices_SortFunc_none Tryz.JF ao cap _ w).mono fun e w' ⟨he,hw⟩=>⟨[],he,List.Perm.refl _,List.Pairwise.nil,?_,?_⟩;·rw[hw];simpa using h
  exact zCy
 obtain⟨gb,cap,e1⟩:∃gb cap,v= .slice (some ⟨gb,0,none⟩) xs.length cap:=by exact zDG
 subst e1;have hH:HoldsK FN.cells 4 w gb 0 xs.toArray:=by unfold HoldsK;rw[AY];exact aeh h
 have hlt:=dn h (k:=gb) rfl;have key:=AnyQ.slices_SortFunc Tryz.JF 4 Tryz.isAgg83 Tryz.sizeOf83 FN.cells (fun _=>rfl) (fun x v hv=>by simp[FN.cells]at hv;rcases hv with rfl|rfl|rfl|rfl<;>rfl) cfN akK 94 #[] gb 0 cap xs.toArray w PK (fun m os dk _ x y=>abr x y _) hH hlt zAK;simp only[List.size_toArray]at key;refine key.mono fun e w' ⟨he,d',n,os,hp,hs,hw⟩=>?_;have hsz:d'.size=xs.length:=by have:=hp.1;simpa using this
 have hpm:d'.toList.Perm xs:=by exact zEA
 have hso:d'.toList.Pairwise fun a b=>ltOf cfN b a=false:=by exact zCT
 refine⟨d'.toList,he,hpm,hso.imp fun h=>(tH _ _).1 h,?_,?_⟩
 ·subst hw;unfold sortWorldK putRowK;have e3:flatK FN.cells 4 d'=(iW d'.toList).toArray:=by rw[<-AY]
  rw[e3];have h1:=PG (w:=Sort.ahead w n) (g:=gb) (n:=xs.length) (cap:=cap) (e:=83) h (iW d'.toList).toArray (by simp[zx,hsz]);exact zCZ
 subst hw;unfold sortWorldK putRowK;refine kY ?_ os;have:=(mW (Only.refl (fun k=>k=gb) w) n).same (AX (Sort.ahead w n) gb (flatK FN.cells 4 d'));exact zCP
section
variable {w w':World} {gt gb gp:Tag} {X:G9} {Bs:Nat} {D:rU} {E:ES}
theorem Qe:∀args w,(callFunc 314 args).run Tryz.prog w= .ok (.enter 314 args) w:=enters_of Tryz.func314 zk rfl
abbrev zA(w:World):Value:=.func (.func 314) #[] #[.pointer (some ⟨w.heap.size,0,none⟩)]
theorem abQ(w:World)(B:Nat):Calls Tryz.prog 232 #[.map (some B)] w fun e w'=>e= .returned (zA w)/\w'=w.alloc (.cells #[.map (some B)] 150):=by go_enter Tryz.func232,Tryz.ntmps232;exact zBd
theorem Tq{g:Tag}{τ B:Nat}{m:List ((Nat×Nat)×List Int)}{val:Nat×Nat->Value}(H:lU KE w g τ B m val)(hl:m.length<=1000000):Calls Tryz.prog 312 #[zA w] (w.alloc (.cells #[.map (some B)] 150)) fun e w'=> ∃(v:Value) (ss:List (Nat×Nat)),e= .returned v/\ss.Perm (keysOf m)/\w'.ownsRow 0 226 2 v ss.length (ji ss)/\(∀k,v.ownBlock=some k->w.heap.size<=k)/\O0 w w':=by
 have hc:=callsIn_wide.1 (IK 5 zAB _ _ Qe (fun ss=>ss.Perm (keysOf m)) m.length hl _ (Px H 4 zBB));obtain⟨w0,hw0⟩:=ze (w.alloc (.cells #[.map (some B)] 150));have o0:O0 w w0:=by rw[<-hw0];exact zr.alloc _
 rw[hw0]at hc⊢;have HC:=zh hc;obtain⟨a,ha⟩:=ze w.heap.size;have HA:=zh ha;have hsz:w0.heap.size=a+1:=by rw[<-hw0,<-ha];simp
 have HS:=zh hsz;unfold zA;rw[ha];unfold zA at HC;rw[ha]at HC;have O0:=zh o0;clear hc hw0 o0 ha hsz;go_enter Tryz.func312,Tryz.ntmps312;go_wp2_with fail;refine HC.out.mono ?_;rintro e w1 ⟨v,ss,rfl,hp,hrow,hb⟩;have R:=zh hrow;have HB:=zh hb;have HP:=zh hp;clear hrow hb hp HC;go_wp2_with fail;go_ret;have o1:=Only.of_below HB.out;refine⟨_,ss,rfl,HP.out,ownsRow_base_a R.out (qE _),fun k hk=>?_,?_⟩;·have:=(R.out.lt k hk).1;have h1:=HS.out;have h2:=HA.out;omega
 exact O0.out.trans o1 fun k hk=>.inr (qR O0.out.size hk)
theorem WT{g:Tag}{τ B:Nat}{m:List ((Nat×Nat)×List Int)}{val:Nat×Nat->Value}(H:lU KE w g τ B m val)(hl:m.length<=1000000):Calls Tryz.prog 231 #[zA w,.func (.func 233) #[] #[]] (w.alloc (.cells #[.map (some B)] 150)) fun e w'=> ∃v,e= .returned v/\w'.ownsRow 0 226 2 v ((keysOf m).mergeSort jh).length (ji ((keysOf m).mergeSort jh))/\(∀k,v.ownBlock=some k->w.heap.size<=k)/\O0 w w':=by
 have HC:=zh (Tq H hl);obtain⟨w0,hw0⟩:=ze (w.alloc (.cells #[.map (some B)] 150));rw[hw0]at HC⊢;obtain⟨a,ha⟩:=ze w.heap.size;unfold zA at HC⊢;rw[ha]at HC⊢;clear hw0;go_enter Tryz.func231,Tryz.ntmps231;go_wp2_with fail;refine HC.out.mono ?_;rintro e w1 ⟨v,ss,rfl,hp,hrow,hb,o1⟩;have e1:ss.mergeSort jh=(keysOf m).mergeSort jh:=(Py ((List.mergeSort_perm ss jh).trans hp) (by
  have tr:∀a b c:Nat×Nat,jh a b=true->jh b c=true->jh a c=true:=fun a b c=>by
   rw[iw,iw,iw,fD,fD,fD];omega
  have tot:∀a b:Nat×Nat,(jh a b||jh b a)=true:=fun a b=>by
   rw[Bool.or_eq_true,iw,iw,fD,fD];omega
  exact(List.pairwise_mergeSort tr tot ss).imp fun h=>(iw _ _).1 h))
 have hln:ss.length=m.length:=by rw[hp.length_eq];simp[keysOf]
 have hS:=abp hrow zBB;rw[e1]at hS;have e2:ss.length=((keysOf m).mergeSort jh).length:=by rw[<-e1,List.length_mergeSort]
 rw[e2]at hS;have HS:=zh hS;have HB:=zh hb;have HO:=zh o1;clear hp hrow hb o1 e1 e2 hln hS HC;go_wp2_with fail;refine HS.out.mono ?_;rintro e w2 ⟨rfl,r2,o2⟩;have R2:=zh r2;have O2:=zh o2;clear r2 o2 HS;go_wp2_with fail;go_ret;exact⟨_,rfl,R2.out,HB.out,HO.out.trans O2.out fun k hk=>.inr (by rw[ha];exact HB.out k hk)⟩
theorem abR(H:gI w gt gb gp X Bs D E)(hl:E.2.of.length<=65536):Calls Tryz.prog 162 #[.pointer (some ⟨X.px,0,none⟩)] w fun e w'=> ∃v,e= .returned v/\w'.ownsRow 0 226 2 v E.2.edges.length (ji E.2.edges)/\(∀k,v.ownBlock=some k->w.heap.size<=k)/\O0 w w':=by obtain⟨val,hR⟩:=H.of;obtain⟨-,-,q2,-⟩:=H.cells;have HK:=zh (abQ w X.m1);have HS:=zh (WT hR zBB);have he:E.2.edges=(keysOf E.2.of).mergeSort jh:=rfl;rw[<-he]at HS;unfold zA at HK HS;clear hR he H;go_enter Tryz.func162,Tryz.ntmps162;go_wp2_with fail;refine HK.out.mono ?_;rintro e w1 ⟨rfl,rfl⟩;go_wp2_with fail;refine HS.out.mono ?_;rintro e w2 ⟨v,rfl,r,b,o⟩;have R:=zh r;have B:=zh b;have O:=zh o;clear r b o HS HK;go_wp2_with fail;go_ret;exact⟨_,rfl,R.out,B.out,O.out⟩
theorem ZT{b:Nat}{v1 v2 v3:Value}{x1 x2 x3:List Int}(hb:w.heap[b]? =some (.cells #[v1,v2,v3] 78 (0,0)))(h1:Ints w v1 x1)(h2:Ints w v2 x2)(h3:Ints w v3 x3)(hl:x1.length+x2.length+x3.length<=100000000):Calls Tryz.prog 166 #[.slice (some ⟨b,0,none⟩) 3 3] w fun e w'=> ∃v,e= .returned v/\w'.ownsRow 0 3 1 v (x1++(x2++x3)).length ((x1++(x2++x3)).map cI)/\(∀k,v.ownBlock=some k->w.heap.size<=k)/\O0 w w':=by
 have h:=Wj (w:=w) (b:=b) (vs:=[v1,v2,v3]) (xs:=[x1,x2,x3]) hb rfl (fun i v x hv hx=>by
  rcases i with _|_|_|i
  ·simp at hv hx;subst hv hx;exact h1
  ·simp at hv hx;subst hv hx;exact h2
  ·simp at hv hx;subst hv hx;exact h3
  ·simp at hv) (by simp;omega) zAE (n:=3) rfl
 have e:[x1,x2,x3].flatten=x1++(x2++x3):=zAE;rw[e]at h;exact h
end
def Tryz.Wq:Go.Shelf.Ren:=⟨fun |6=>157|8=>174|9=>223|19=>252|20=>253|21=>301|22=>302|23=>303|24=>304|25=>305|26=>306|27=>307|28=>308|29=>309|31=>318|32=>319|36=>356|37=>357|38=>358|39=>175|41=>390|n=>n,fun |0=>0|3=>3|4=>4|5=>5|9=>9|26=>81|27=>81|29=>9|32=>239|35=>280|36=>281|41=>285|44=>288|46=>290|53=>332|57=>336|63=>369|64=>264|n=>n,fun n=>n⟩
theorem Tryz.oh:Go.Proofs.SlLaysM.n6 Tryz.prog Tryz.Wq:={
 mixed:=by kernel_rfl
 f6:=⟨Tryz.f157.name,by decide,Tryz.func157.trans (congrArg some zk)⟩
 f8:=Tryz.func174.trans (congrArg some zk)
 f9:=⟨Tryz.f223.name,by decide,Tryz.func223.trans (congrArg some zk)⟩
 f19:=Tryz.func252.trans (congrArg some zk)
 f20:=Tryz.func253.trans (congrArg some zk)
 f21:=⟨Tryz.f301.name,by decide,Tryz.func301.trans (congrArg some zk)⟩
 f22:=⟨Tryz.f302.name,by decide,Tryz.func302.trans (congrArg some zk)⟩
 f23:=⟨Tryz.f303.name,by decide,Tryz.func303.trans (congrArg some zk)⟩
 f24:=⟨Tryz.f304.name,by decide,Tryz.func304.trans (congrArg some zk)⟩
 f25:=⟨Tryz.f305.name,by decide,Tryz.func305.trans (congrArg some zk)⟩
 f26:=⟨Tryz.f306.name,by decide,Tryz.func306.trans (congrArg some zk)⟩
 f27:=⟨Tryz.f307.name,by decide,Tryz.func307.trans (congrArg some zk)⟩
 f28:=⟨Tryz.f308.name,by decide,Tryz.func308.trans (congrArg some zk)⟩
 f29:=⟨Tryz.f309.name,by decide,Tryz.func309.trans (congrArg some zk)⟩
 f31:=Tryz.func318.trans (congrArg some zk)
 f32:=Tryz.func319.trans (congrArg some zk)
 f36:=⟨Tryz.f356.name,by decide,Tryz.func356.trans (congrArg some zk)⟩
 f37:=⟨Tryz.f357.name,by decide,Tryz.func357.trans (congrArg some zk)⟩
 f38:=⟨Tryz.f358.name,by decide,Tryz.func358.trans (congrArg some zk)⟩
 f39:=⟨Tryz.f175.name,by decide,Tryz.func175.trans (congrArg some zk)⟩
 f41:=⟨Tryz.f390.name,by decide,Tryz.func390.trans (congrArg some zk)⟩
 t0:=Tryz.underlying0
 a0:=Tryz.isAgg0
 z0:=Tryz.sizeOf0
 v0:=Tryz.zeroValue0
 t3:=Tryz.underlying3
 a3:=Tryz.isAgg3
 z3:=Tryz.sizeOf3
 v3:=Tryz.zeroValue3
 t4:=Tryz.underlying4
 a4:=Tryz.isAgg4
 z4:=Tryz.sizeOf4
 v4:=Tryz.zeroValue4
 t5:=Tryz.underlying5
 a5:=Tryz.isAgg5
 z5:=Tryz.sizeOf5
 v5:=Tryz.zeroValue5
 t9:=Tryz.underlying9
 a9:=Tryz.isAgg9
 z9:=Tryz.sizeOf9
 v9:=Tryz.zeroValue9
 t26:=Tryz.underlying81
 a26:=Tryz.isAgg81
 z26:=Tryz.sizeOf81
 v26:=Tryz.zeroValue81
 t27:=Tryz.underlying81
 a27:=Tryz.isAgg81
 z27:=Tryz.sizeOf81
 v27:=Tryz.zeroValue81
 t29:=Tryz.underlying9
 a29:=Tryz.isAgg9
 z29:=Tryz.sizeOf9
 v29:=Tryz.zeroValue9
 t32:=Tryz.underlying239
 a32:=Tryz.isAgg239
 z32:=Tryz.sizeOf239
 v32:=Tryz.zeroValue239
 t35:=Tryz.underlying280
 a35:=Tryz.isAgg280
 z35:=Tryz.sizeOf280
 v35:=Tryz.zeroValue280
 t36:=Tryz.underlying281
 a36:=Tryz.isAgg281
 z36:=Tryz.sizeOf281
 v36:=Tryz.zeroValue281
 t41:=Tryz.underlying285
 a41:=Tryz.isAgg285
 z41:=Tryz.sizeOf285
 v41:=Tryz.zeroValue285
 t44:=Tryz.underlying288
 a44:=Tryz.isAgg288
 z44:=Tryz.sizeOf288
 v44:=Tryz.zeroValue288
 t46:=Tryz.underlying290
 a46:=Tryz.isAgg290
 z46:=Tryz.sizeOf290
 v46:=Tryz.zeroValue290
 t53:=Tryz.underlying332
 a53:=Tryz.isAgg332
 z53:=Tryz.sizeOf332
 v53:=Tryz.zeroValue332
 t57:=Tryz.underlying336
 a57:=Tryz.isAgg336
 z57:=Tryz.sizeOf336
 v57:=Tryz.zeroValue336
 t63:=Tryz.underlying369
 a63:=Tryz.isAgg369
 z63:=Tryz.sizeOf369
 v63:=Tryz.zeroValue369
 t64:=Tryz.underlying264
 a64:=Tryz.isAgg264
 z64:=Tryz.sizeOf264
 v64:=Tryz.zeroValue264}
def Tryz.LG:Go.Shelf.Ren:=⟨fun |194=>158|n=>n,fun |0=>0|3=>3|4=>4|9=>9|31=>81|n=>n,fun n=>n⟩
theorem Tryz.fM:Go.Proofs.Lays.n194 Tryz.prog Tryz.LG:={
 mixed:=by kernel_rfl
 f194:=Tryz.func158.trans (congrArg some zk)
 t0:=Tryz.underlying0
 a0:=Tryz.isAgg0
 z0:=Tryz.sizeOf0
 v0:=Tryz.zeroValue0
 t3:=Tryz.underlying3
 a3:=Tryz.isAgg3
 z3:=Tryz.sizeOf3
 v3:=Tryz.zeroValue3
 t4:=Tryz.underlying4
 a4:=Tryz.isAgg4
 z4:=Tryz.sizeOf4
 v4:=Tryz.zeroValue4
 t9:=Tryz.underlying9
 a9:=Tryz.isAgg9
 z9:=Tryz.sizeOf9
 v9:=Tryz.zeroValue9
 t31:=Tryz.underlying81
 a31:=Tryz.isAgg81
 z31:=Tryz.sizeOf81
 v31:=Tryz.zeroValue81}
abbrev dY(s:Str):List UInt8:=s.data.toList
abbrev ofL(l:List UInt8):Str:=⟨l.toArray⟩
theorem wK(s:Str):ofL (dY s)=s:=by cases s with|mk d=>simp[ofL,dY]
theorem UM(l:List Str):(l.map dY).map ofL=l:=by
 rw[List.map_map];conv=>rhs;rw[<-List.map_id l]
 exact List.map_congr_left fun s _=>wK s
theorem Gu(l:List (List UInt8)):l.map encStr=dZ (l.map ofL):=by unfold dZ;rw[List.map_map];rfl
theorem JG(l:List Str):dZ l=(l.map dY).map encStr:=by rw[Gu,UM]
def oh(l:List Str):List Str:=((l.map dY).mergeSort fun x y=>decide (x<=y)).map ofL
def fM(l:List Str):List Str:=(Lib.compact (l.map dY)).map ofL
theorem Gv(l:List Str):(oh l).Perm l:=by have h:=(List.mergeSort_perm (l.map dY) fun x y=>decide (x<=y)).map ofL;rw[UM]at h;exact h
theorem wL(l:List Str):(oh l).length=l.length:=(Gv l).length_eq
theorem uI{α:Type}[DecidableEq α][Inhabited α](xs:List α):(∀x∈Lib.compact xs,x∈xs)/\(Lib.compact xs).length<=xs.length:=by
 unfold Lib.compact Lib.compactUpTo;refine⟨fun x hx=>?_,?_⟩
 ·obtain⟨i,hi,rfl⟩:=yD.1 hx;have h2:=yI.1 (List.mem_filter.1 hi).1;have h3:i<xs.length:=by simpa using h2
  simp[h3]
 exact zDc
theorem LH(l:List Str):(fM l).length<=l.length:=by unfold fM;rw[qM];have:=(uI (l.map dY)).2;rwa[qM]at this
theorem LJ{l:List Str}{s:Str}(h:s∈fM l):s∈l:=by unfold fM at h;obtain⟨b,hb,rfl⟩:=yD.1 h;obtain⟨s,hs,rfl⟩:=yD.1 ((uI (l.map dY)).1 b hb);rw[wK];exact hs
section
variable {w:World}
theorem DR{α:Type}[Inhabited α](enc:α->Value){e:TypeId}{g n cap:Nat}{xs:List Value}(h:w.ownsRow 0 e 1 (.slice (some ⟨g,0,none⟩) n cap) n xs)(d:Array α)(hd:d.size=n):(putRow enc w g 0 d).ownsRow 0 e 1 (.slice (some ⟨g,0,none⟩) n cap) n (d.toList.map enc):=by
 rcases h.2 with⟨h',_⟩| ⟨g',cap',cur,h',hb,hg,h1,h2,h3,htake⟩;·simp at h'
 simp only[qU,qG,qO,and_true,true_and]at h';obtain⟨rfl,rfl⟩:=h';refine⟨by simp[hd],.inr ⟨g,cap,putCells enc 0 d cur,rfl,qE _,?_,h1,h2,?_,?_⟩⟩;·exact zCF
 ·simpa[putCells]using h3
 apply List.ext_getElem?;intro j;simp only[yH,putCells,List.getElem?_take,List.getElem?_map];by_cases hj:j<n
 ·have hc:j<cur.size:=by omega
  simp[hj,hc,hd]
 rw[if_neg hj,List.getElem?_eq_none (by simp[hd];omega)];rfl
theorem AZ{α:Type}[Inhabited α](enc:α->Value)(w:World)(g:Nat)(d:Array α):Only (fun k=>k=g) w (putRow enc w g 0 d):=
 ⟨rfl,rfl,rfl,by simp[putRow,mapBlock],fun k _ hk=>by
  show(w.heap.modify g _)[k]? =_
  rw[Array.getElem?_modify,if_neg (fun e=>hk e.symm)]⟩
theorem Gw{e:TypeId}{g n cap:Nat}{xs:List (List UInt8)}(h:w.ownsRow 0 e 1 (.slice (some ⟨g,0,none⟩) n cap) n (xs.map encStr)):Holds encStr w g 0 xs.toArray:=by
 intro j hj;have hn:xs.length=n:=by simpa using h.1
 have hj':j<xs.length:=zAm;refine⟨?_,h.frozenAt _⟩;rw[Nat.zero_add,h.cellAt j zBB];simp[hj']
theorem LK{v:Value}{l:List Str}{n:Nat}(hn:l.length=n)(h:w.ownsRow 0 9 1 v n (dZ l))(hb:n<=1000000):Calls Tryz.prog 157 #[v] w fun e w'=>e= .returned (.tuple #[])/\w'.ownsRow 0 9 1 v n (dZ (oh l))/\Only (fun k=>v.ownBlock=some k) w w':=by
 subst hn;by_cases h0:l.length=0
 ·have hx:l=[]:=yF h0;subst hx;obtain⟨ao,cap,rfl,_,_⟩:=aH h;refine(AnyM.slices_Sort_string_none Tryz.oh ao cap w).mono fun e w' ⟨he,hw⟩=>⟨he,?_,?_⟩;·rw[hw];simpa[oh]using h
  exact zCy
 obtain⟨gb,cap,rfl,_,_⟩:=dB h zBB;rw[JG]at h;have hH:=Gw h;have hlt:=dn h (k:=gb) rfl;have key:=AnyM.slices_Sort_string Tryz.oh gb 0 cap (l.map dY) w hH hlt zAK;rw[qM]at key;refine key.mono fun e w' ⟨he,q,os,hw⟩=>⟨he,?_,?_⟩;·subst hw;have h1:=DR encStr (w:=Sort.ahead w q) (g:=gb) (n:=l.length) (cap:=cap) (e:=9) h ((l.map dY).mergeSort fun x y=>decide (x<=y)).toArray zAE;have h2:=aB h1 (kY (Only.refl (fun _=>False) _) os) (fun _ _ f=>f);rw[Gu]at h2;exact h2
 subst hw;refine kY ?_ os;have:=(mW (Only.refl (fun k=>k=gb) w) q).same (AZ encStr (Sort.ahead w q) gb ((l.map dY).mergeSort fun x y=>decide (x<=y)).toArray);exact zCP
theorem Gy{v:Value}{l:List Str}{n:Nat}(hn:l.length=n)(h:w.ownsRow 0 9 1 v n (dZ l)):Calls Tryz.prog 158 #[v] w fun e w'=> ∃v',e= .returned v'/\w'.ownsRow 0 9 1 v' (fM l).length (dZ (fM l))/\v'.ownBlock=v.ownBlock/\Only (fun k=>v.ownBlock=some k) w w':=by
 subst hn;by_cases h0:l.length=0
 ·have hx:l=[]:=yF h0;subst hx;obtain⟨ao,cap,rfl,_,_⟩:=aH h;refine(Any.slices_Compact_string_empty Tryz.fM ao cap w).mono fun e w' ⟨he,hw⟩=>⟨_,he,?_,rfl,?_⟩;·rw[hw];exact h
  exact zCy
 obtain⟨gb,cap,rfl,hc1,hc2⟩:=dB h zBB;rw[JG]at h;have hH:=Gw h;unfold maxLen at hc2;have key:=Any.slices_Compact_string Tryz.fM gb 0 cap (l.map dY) w hH zAK (by simpa using hc1);rw[qM]at key;have hlen:(fM l).length=(Lib.compact (l.map dY)).length:=by unfold fM;rw[qM]
 refine key.mono fun e w' ⟨he,q,hw⟩=>⟨_,he,?_,rfl,?_⟩
 ·subst hw;have hle:=(uI (l.map dY)).2;rw[qM]at hle;have h1:=DR encStr (w:=Sort.ahead w q) (g:=gb) (n:=l.length) (cap:=cap) (e:=9) h (Lib.compact (l.map dY)++List.replicate (l.length-(Lib.compact (l.map dY)).length) []).toArray zAK;have h2:=TK h1 (Lib.compact (l.map dY)).length hle;rw[hlen];have e:((Lib.compact (l.map dY)++List.replicate (l.length-(Lib.compact (l.map dY)).length) []).toArray.toList.map encStr).take (Lib.compact (l.map dY)).length=dZ (fM l):=by unfold fM;rw[<-Gu];simp
  rw[e]at h2;exact h2
 subst hw;have:=(mW (Only.refl (fun k=>k=gb) w) q).same (AZ encStr (Sort.ahead w q) gb (Lib.compact (l.map dY)++List.replicate (l.length-(Lib.compact (l.map dY)).length) []).toArray);exact zCP
end
end Go.Proofs.YtdmmebjjojimiaaGreatDoor
