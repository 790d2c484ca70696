/- Region Region2 Region3 Region4, in one text.; Regions that draw their order, whose operations only read and whose callees at most make m -/
import Derived.Test.YtdmmebjjojimiaaGreatDoorG00
import Derived.Deep.RegionHeld3
import Derived.Test.YtdmmebjjojimiaaGreatDoorRows
import Derived.Deep.Slices
set_option maxRecDepth 100000
set_option maxHeartbeats 8000000
set_option linter.all false
namespace Go.Proofs
theorem zBF{p:Prop}(h:p:=by simpa using hr):p:=h
theorem zB7{p:Prop}(h:p:=by omega):p:=h
theorem zEK{p:Prop}(h:p:=by
 rw[hr]
 simp only[Oper.upon]
 refine hc.mono fun e w' he=>?_
 obtain⟨rfl,rfl⟩:=he
 exact h):p:=h
end Go.Proofs
namespace Go.Proofs.YtdmmebjjojimiaaGreatDoor
section
variable {P:Program} {ops:Array Oper} {Q:Exit->Act->World->Prop} {o:Oper}
def wH(P:Program)(ops:Array Oper)(o:Oper)(Q:Exit->Act->World->Prop):Exit->Act->World->Prop
 | .normal,a,w=>wpList P ops Q [o] a w
 | .panic _,_,_=>False
 |e,a,w=>Q e a w
theorem FY(h:LetsOut (wH P ops o Q)):LetsOut Q:=h
theorem aeK{o':Oper}{a:Act}{w:World}{K K':Act->World->Prop}(h:∀a w,K a w->K' a w)(hh:o'.wp P a w K (wH P ops o Q)):o'.wp P a w K' Q:=by
 unfold Oper.wp at*;generalize (execOp a.eval o').run P w=r at*;cases r with
 |ok n w'=>
  cases n<;>simp only[Oper.upon]at hh⊢;case value=>exact h _ _ hh
  case skip=>exact h _ _ hh
  case defer=>exact h _ _ hh
  case enter=>
   refine Calls.mono hh (fun e w'' he=>?_)
   cases e with
   |returned v=>exact h _ _ he
   |panicked c=>exact(he:False).elim
   |outgrown=>exact FY he
  case row=>exact Rows.mono hh (fun _ _ he=>h _ _ he)
 |halt x w'=>cases x<;>simp only[Oper.upon]at hh⊢;case panic=>exact(hh:False).elim
theorem Zm{i:Nat}{a:Act}{w:World}{K K':Act->World->Prop}(h:∀a w,K a w->K' a w)(hh:wpOp P ops (wH P ops o Q) i K a w):wpOp P ops Q i K' a w:=by
 unfold wpOp at*;split;·exact h _ _ (by simpa[*]using hh)
 rename_i o' ho;simp only[ho]at hh;split;·rename_i hw;simp only[hw,if_true]at hh;exact hh.imp (aeK h) (fun⟨h1,h2⟩=>⟨h1,FY h2⟩)
 rename_i hw;simp only[hw]at hh;exact h _ _ hh
theorem NW{listed:Array Bool}{i:Nat}(h:i<listed.size)(d:Bool):(listed.setIfInBounds i true).getD i d=true:=by simp[Array.getD,h]
end
section
variable {P:Program} {ops:Array Oper} {Q:Exit->Act->World->Prop} {o:Oper}
def EO(ops:Array Oper)(n:Nat):Bool:=
 ops.size==n+1&&((ops[n]?).map fun o=>o.guard.isNone).getD false&&((List.range n).all fun j=>(List.range (n+1)).any fun i=>decide (j<i)&&((ops[i]?).map fun oi=>oi.after.any fun e=>Region.binds .any e&&e.on==j).getD false)&&
  (List.range (n+1)).all fun i=>((ops[i]?).map fun o=>o.after.all fun e=>decide (e.on<i)).getD false
structure FZ (ops:Array Oper) (n:Nat) (o:Oper):Prop where
 size:ops.size=n+1
 at_:ops[n]? =some o
 guard:o.guard=none
 waits:∀j,j<n->∃i oi,j<i/\i<n+1/\ops[i]? =some oi/\∃e∈oi.after,Region.binds .any e=true/\e.on=j
 early:∀i oi,i<n+1->ops[i]? =some oi->∀e∈oi.after,e.on<i
theorem NY{n:Nat}(ho:ops[n]? =some o)(h:EO ops n=true):FZ ops n o:=by
 unfold EO at h;rw[ho]at h;simp only[Option.map_some,Option.getD_some,Bool.and_eq_true,beq_iff_eq,List.all_eq_true,yU,yI,Option.isNone_iff_eq_none,yP]at h;obtain⟨⟨⟨h1,h2⟩,h3⟩,h4⟩:=h;refine⟨h1,ho,h2,fun j hj=>?_,fun i oi hi hoi e he=>?_⟩;·obtain⟨i,hi,hji,h5⟩:=h3 j hj;obtain⟨oi,hoi⟩:∃oi,ops[i]? =some oi:=⟨ops[i]'zB7,Array.getElem?_eq_getElem _⟩;rw[hoi]at h5;simp only[Option.map_some,Option.getD_some]at h5;rw[Array.any_eq_true]at h5;obtain⟨k,hk,h6⟩:=h5;simp only[Bool.and_eq_true,beq_iff_eq]at h6;exact⟨i,oi,hji,hi,hoi,_,Array.getElem_mem hk,h6⟩
 have h5:=h4 i hi;rw[hoi]at h5;simp only[Option.map_some,Option.getD_some,Array.all_eq_true_iff_forall_mem,yP]at h5;exact h5 e he
def Closed(ops:Array Oper)(listed:Array Bool):Prop:= ∀i oi,ops[i]? =some oi->listed.getD i false=true->∀e∈oi.after,Region.binds .any e=true->listed.getD e.on false=true
theorem Closed.add{listed:Array Bool}{i:Nat}(h:Closed ops listed)(hi:i∈Region.ready .any ops listed):Closed ops (listed.setIfInBounds i true):=by
 intro k ok hok hk e he hb;obtain⟨h0,oi,hoi,hall⟩:=mem_ready.1 hi;by_cases c:i=k;·subst c;rw[hoi]at hok;obtain rfl:=Option.some.inj hok;exact getD_set_true (hall e he hb)
 rw[getD_set_ne false c]at hk;exact getD_set_true (h k ok hok hk e he hb)
theorem Wp{n:Nat}(L:FZ ops n o){listed:Array Bool}(hc:Closed ops listed)(hn:n∈Region.ready .any ops listed):∀m j,n-j=m->j<n->listed.getD j false=true:=by
 intro m;induction m using Nat.strongRecOn with
 |ind m ih=>
  intro j hm hj;obtain⟨i,oi,h1,h2,h3,e,he,hb,heo⟩:=L.waits j hj;by_cases c:i=n;·subst c;obtain⟨_,oi',hoi',hall⟩:=mem_ready.1 hn;rw[h3]at hoi';obtain rfl:=Option.some.inj hoi';rw[<-heo];exact hall e he hb
  rw[<-heo];exact hc i oi h3 (ih (n-i) (by omega) i rfl zB7) e he hb
theorem TD{n:Nat}(L:FZ ops n o){listed:Array Bool}{i:Nat}(hi:i∈Region.ready .any ops (listed.setIfInBounds n true))(hs:n<listed.size):i<n/\i∈Region.ready .any ops listed:=by
 rw[mem_ready]at*;obtain⟨h0,oi,ho,hall⟩:=hi;have hne:n≠i:=by intro e;subst e;rw[NW hs]at h0;cases h0
 have hlt:i<n:=by have:=(yA.1 ho).1;have:=L.size;omega
 refine⟨hlt,by rw[getD_set_ne true hne]at h0;exact h0,oi,ho,fun e he hb=>?_⟩;have h1:=hall e he hb;have h2:=L.early i oi zB7 ho e he;rw[getD_set_ne false zB7]at h1;exact h1
theorem TF{n:Nat}(L:FZ ops n o){listed:Array Bool}(hs:listed.size=ops.size)(h:Region.ready .any ops (listed.setIfInBounds n true)=[]):∀j,j<n->listed.getD j false=true:=by
 intro j;induction j using Nat.strongRecOn with
 |ind j ih=>
  intro hj;cases hc:listed.getD j false with
  |true=>rfl
  |false=>
   exfalso;have hsz:=L.size;have hlt:j<ops.size:=zB7;obtain⟨oj,hoj⟩:∃oj,ops[j]? =some oj:=⟨ops[j],by simp[hlt]⟩;have hm:j∈Region.ready .any ops (listed.setIfInBounds n true):=by
    rw[mem_ready];refine⟨?_,oj,hoj,fun e he hb=>?_⟩;·rw[getD_set_ne true zB7];have:j<listed.size:=zB7;simp[Array.getD,this]at hc⊢;exact hc
    have he1:=L.early j oj zB7 hoj e he;exact getD_set_true (ih e.on he1 zB7)
   rw[h]at hm;cases hm
theorem TG{n:Nat}(L:FZ ops n o):∀(fuel:Nat) (listed:Array Bool) (a:Act) (w:World),listed.size=ops.size->listed.getD n true=false->Closed ops listed->wpAny P .any ops (wH P ops o Q) fuel (listed.setIfInBounds n true) a w->wpAny P .any ops Q (fuel+1) listed a w:=by
 have hsz:=L.size; -- where the others are through
 have fin:∀(fuel:Nat) (listed:Array Bool) (a:Act) (w:World),listed.size=ops.size->listed.getD n true=false->Region.ready .any ops (listed.setIfInBounds n true)=[]->
   wH P ops o Q .normal a w->wpAny P .any ops Q (fuel+1) listed a w:=by
  intro fuel listed a w hs hn hr hq
  have hall:=TF L hs hr
  have hmem:n∈Region.ready .any ops listed:=by
   rw[mem_ready]
   exact⟨hn,o,L.at_,fun e he hb=>by
    rcases yK e.on n with h|h
    ·exact hall _ h
    ·have:=L.early n o zB7 L.at_ e he;omega⟩
  refine⟨fun h=>(by rw[h]at hmem;cases hmem),fun i hi=>?_⟩
  by_cases e:i=n
  ·subst e
   unfold wpOp
   simp only[L.at_]
   unfold wH wpList at hq
   simp only[wpList]at hq
   split
   ·rename_i hw
    rw[if_pos hw]at hq
    exact hq.imp (Oper.wp_mono fun a w h=>wpAny_done hr h _) id
   ·rename_i hw
    rw[if_neg hw]at hq
    exact wpAny_done hr hq _
  ·have:=ready_mono (i:=n) hi e
   rw[hr]at this;cases this
 intro fuel;induction fuel with
 |zero=>intro listed a w hs hn hcl h;exact fin 0 listed a w hs hn h.1 h.2
 |succ fuel ih=>
  intro listed a w hs hn hcl h;by_cases hr:Region.ready .any ops (listed.setIfInBounds n true)=[];·exact fin _ listed a w hs hn hr (h.1 hr)
  -- somebody is still to come
  obtain⟨k,hk⟩:=List.exists_mem_of_ne_nil _ hr;have hk':=TD L hk zB7;refine⟨fun h0=>(by rw[h0]at hk';cases hk'.2),fun i hi=>?_⟩;have hin:i≠n:=by intro e;subst e;have h1:=Wp L hcl hi _ k rfl hk'.1;have h2:=(mem_ready.1 hk'.2).1;have h3:k<listed.size:=zB7;simp[Array.getD,h3]at h1 h2;rw[h2]at h1;cases h1
  refine Zm (fun a' w' h'=>ih (listed.setIfInBounds i true) a' w' (by simpa using hs) ?_ (hcl.add hi) ?_) (h.2 i (ready_mono hi hin));·rw[getD_set_ne true hin];exact hn
  rw[Array.setIfInBounds_comm _ _ hin];exact h'
theorem Bh{id n:Nat}{a:Act}{w:World}{S:World->Prop}(hm:P.follows .mixedOrders=true)(ho:ops[n]? =some o)(hL:EO ops n=true)(hS:S w.drew)(h:S w.drew->wpAnyH P .any ops (wH P ops o Q) S n ((Array.replicate (n+1) false).setIfInBounds n true) a w.drew):(Code.region id ops true).wp P Q a w:=by have L:=NY ho hL;refine wp_region_any hm ?_;rw[L.size];exact TG L n _ a _ (by simp[L.size]) (by simp[Array.getD]) (by intro i oi _ h;simp[Array.getD]at h) (wpAny_of_held _ _ _ _ (h hS))
end
section
variable {P:Program} {ops:Array Oper} {Q:Exit->Act->World->Prop} {md:Region.Mode} {S:World->Prop}
structure F5 (P:Program) (ops:Array Oper) (S:World->Prop) (o:Oper) (v:Value) (a:Act):Prop where
 want:Region.wanted o (yielded ops a.tmps)=true
 run:∀w,S w->∃f args,(execOp a.eval o).run P w= .ok (.enter f args) w/\Calls P f args w fun e w'=>e= .returned v/\w=w'
theorem F5.of_same{o:Oper}{v:Value}{a a':Act}(hy:F5 P ops S o v a)(he:execOp a'.eval o=execOp a.eval o)
  (hw:Region.wanted o (yielded ops a'.tmps)=Region.wanted o (yielded ops a.tmps)):F5 P ops S o v a':=
 ⟨by rw[hw];exact hy.want,fun w hS=>by rw[he];exact hy.run w hS⟩
theorem F5.wpOp{i:Nat}{o:Oper}{v:Value}{a:Act}(hi:ops[i]? =some o)(hy:F5 P ops S o v a){K:Act->World->Prop}{w:World}(hS:S w)(h:K (a.put o.dst v) w):wpOp P ops Q i K a w:=by unfold Go.wpOp;simp only[hi,hy.want,if_true];obtain⟨f,args,hr,hc⟩:=hy.run w hS;refine .inl ?_;unfold Oper.wp;exact zEK
end
section
variable {P:Program} {ops:Array Oper} {Q:Exit->Act->World->Prop} {md:Region.Mode} {S:World->Prop} {E:Nat->Bool}
def Gives(P:Program)(ops:Array Oper)(S:World->Prop)(o:Oper)(v:Value)(a:Act):Prop:=
 (Region.wanted o (yielded ops a.tmps)=true/\∀w,S w->(execOp a.eval o).run P w= .ok (.value v) w\/ ∃f args,(execOp a.eval o).run P w= .ok (.enter f args) w/\Calls P f args w fun e w'=>e= .returned v/\w=w')\/
 (Region.wanted o (yielded ops a.tmps)=false/\v=undef)
theorem Gives.of_same{o:Oper}{v:Value}{a a':Act}(hy:Gives P ops S o v a)(he:execOp a'.eval o=execOp a.eval o)(hw:Region.wanted o (yielded ops a'.tmps)=Region.wanted o (yielded ops a.tmps)):Gives P ops S o v a':=by
 rcases hy with⟨h1,h2⟩| ⟨h1,h2⟩;·exact .inl ⟨by rw[hw];exact h1,fun w hS=>by rw[he];exact h2 w hS⟩
 exact .inr ⟨by rw[hw];exact h1,h2⟩
theorem Gives.wpOp{i:Nat}{o:Oper}{v:Value}{a:Act}(hi:ops[i]? =some o)(hy:Gives P ops S o v a){K:Act->World->Prop}{w:World}(hS:S w)(h:K (a.put o.dst v) w):wpOp P ops Q i K a w:=by
 unfold Go.wpOp;rcases hy with⟨want,run⟩| ⟨want,rfl⟩
 ·simp only[hi,want,if_true];refine .inl ?_;unfold Oper.wp;rcases run w hS with hr| ⟨f,args,hr,hc⟩;·rw[hr];simp only[Oper.upon];exact h
  exact zEK
 simp only[hi,want,Bool.false_eq_true,if_false];exact h
theorem Zn{j:Nat}{oi oj:Oper}{v:Value}(hj:ops[j]? =some oj)(hap:oi.apart ops oj=true)(hsi:∀cs b,oi.op≠ .select cs b)(hsj:∀cs b,oj.op≠ .select cs b)(hQ:∀c a w,Q (.panic c) (a.put oi.dst v) w->Q (.panic c) a w){K:Act->World->Prop}{a:Act}{w:World}(hy:Gives P ops S oi v a)(h:wpOp P ops Q j K (a.put oi.dst v) w):wpOp P ops Q j (fun a' w'=>Gives P ops S oi v a'/\K (a'.put oi.dst v) w') a w:=by
 obtain⟨h1,h2,h3⟩:=Oper.apart_spec hap;have keep:∀(a:Act),Gives P ops S oi v a->∀u,Gives P ops S oi v (a.put oj.dst u):=fun a hy u=>
  hy.of_same (execOp_put oi hsi a oj.dst u h3) (wanted_put oi a oj.dst u h3)
 have keepD:∀d,Gives P ops S oi v {a with defers:=d::a.defers}:=fun d=>hy.of_same rfl rfl;unfold wpOp at*;simp only[hj]at*;rw[wanted_put oj a oi.dst v h1]at h;split
 ·rename_i hw;simp only[hw,if_true]at h;rcases h with h| ⟨hasks,hlets⟩;case inr=>exact .inr ⟨by unfold Oper.asks at*;rw[execOp_put oj hsj a oi.dst v h1]at hasks;exact hasks,hlets⟩
  refine .inl ?_;unfold Oper.wp at*;rw[execOp_put oj hsj a oi.dst v h1]at h;generalize (execOp a.eval oj).run P w=r at*;cases r with
  |ok n w'=>
   cases n<;>simp only[Oper.upon]at h⊢;case value u=>exact⟨keep a hy u,by rw[<-Act.put_comm a v u h2];exact h⟩
   case skip=>exact⟨keep a hy _,by rw[<-Act.put_comm a v undef h2];exact h⟩
   case defer d=>refine⟨keep _ (keepD d) _,?_⟩;rw[<-Act.put_comm _ v undef h2,<-Act.put_defers];exact h
   case enter f args=>
    refine Calls.mono h fun e w'' he=>?_
    cases e with
    |returned u=>exact⟨keep a hy u,by rw[<-Act.put_comm a v u h2];exact he⟩
    |panicked c=>exact hQ _ _ _ he
    |outgrown=>exact he
   case row row args=>exact Rows.mono h fun u w'' he=>⟨keep a hy u,by rw[<-Act.put_comm a v u h2];exact he⟩
  |halt x w'=>cases x<;>simp only[Oper.upon]at h⊢;case panic u=>exact hQ _ _ _ h
 rename_i hw;simp only[hw]at h;exact⟨keep a hy _,by rw[<-Act.put_comm a v undef h2];exact h⟩
def kQ(ops:Array Oper)(E:Nat->Bool)(listed:Array Bool):Bool:=(List.range ops.size).any fun j=>E j&&listed.getD j false
theorem KL{listed:Array Bool}{i:Nat}(h:E i=false):kQ ops E (listed.setIfInBounds i true)=kQ ops E listed:=by
 unfold kQ;congr 1;funext j;by_cases e:j=i;·subst e;rw[h];simp
 rw[getD_set_ne false (Ne.symm e)]
theorem Jr{listed:Array Bool}{i:Nat}(h:kQ ops E (listed.setIfInBounds i true)=false):kQ ops E listed=false:=by unfold kQ at*;rw[List.any_eq_false]at*;intro j hj hc;refine h j hj ?_;simp only[Bool.and_eq_true]at hc⊢;exact⟨hc.1,getD_set_true hc.2⟩
def jq(P:Program)(md:Region.Mode)(ops:Array Oper)(Q:Exit->Act->World->Prop)(S:World->Prop)(E:Nat->Bool):Nat->Array Bool->Act->World->Prop
 |0,listed,a,w=>Region.ready md ops listed=[]/\Q .normal a w
 |fuel+1,listed,a,w=>
  (Region.ready md ops listed=[]->Q .normal a w)/\
  ∀i∈Region.ready md ops listed,wpOp P ops Q i (fun a' w'=>(kQ ops E (listed.setIfInBounds i true)=false->S w')/\jq P md ops Q S E fuel (listed.setIfInBounds i true) a' w') a w
theorem KN:∀(fuel:Nat) (listed:Array Bool) (a:Act) (w:World),jq P md ops Q S E fuel listed a w->wpAny P md ops Q fuel listed a w
 |0,_,_,_,h=>h
 |fuel+1,_,_,_,h=>⟨h.1,fun i hi=>wpOp_mono (fun a' w' h'=>KN fuel _ a' w' h'.2) (h.2 i hi)⟩
def zx(ops:Array Oper)(md:Region.Mode)(E:Nat->Bool)(i:Nat):Bool:=
 (List.range ops.size).all fun j=> !E j||((ops[j]?).map fun o=>o.after.any fun e=>Region.binds md e&&e.on==i).getD true
theorem Em{i:Nat}(h:zx ops md E i=true):∀j oj,ops[j]? =some oj->E j=true->∃e∈oj.after,Region.binds md e=true/\e.on=i:=by intro j oj hj hE;unfold zx at h;rw[List.all_eq_true]at h;have:=h j (by rw[yI];exact(yA.1 hj).1);rw[hE,hj]at this;simp only[Bool.not_true,Bool.false_or,Option.map_some,Option.getD_some,Array.any_eq_true]at this;obtain⟨k,hk,h2⟩:=this;simp only[Bool.and_eq_true,beq_iff_eq]at h2;exact⟨_,Array.getElem_mem hk,h2.1,h2.2⟩
theorem vO{SS:World->Prop}{i:Nat}{oi:Oper}{v:Value}(hi:ops[i]? =some oi)(hsel:∀(j:Nat) (o:Oper) cs b,ops[j]? =some o->o.op≠ .select cs b)(hQ:∀c a w,Q (.panic c) (a.put oi.dst v) w->Q (.panic c) a w)(hEi:E i=false)(hc:(∀w,SS w)\/((∀w,S w->SS w)/\∀j oj,ops[j]? =some oj->E j=true->∃e∈oj.after,Region.binds md e=true/\e.on=i)):∀(fuel:Nat) (listed:Array Bool) (a:Act) (w:World),(∀j oj,ops[j]? =some oj->j≠i->listed.getD j true=false->(∀e∈oj.after,Region.binds md e=true->e.on≠i)->oi.apart ops oj=true)->i∈Region.ready md ops listed->Gives P ops SS oi v a->SS w->(kQ ops E listed=false->S w)->((∀w,SS w)\/kQ ops E listed=false)->jq P md ops Q S E fuel (listed.setIfInBounds i true) (a.put oi.dst v) w->jq P md ops Q S E (fuel+1) listed a w:=by
 intro fuel;induction fuel with
 |zero=>
  intro listed a w _ hr hy hS hS2 _ H;refine⟨fun h=>(by rw[h]at hr;cases hr),fun j hj=>?_⟩;by_cases hji:j=i;·subst hji;exact hy.wpOp hi hS ⟨fun h=>hS2 (Jr h),H⟩
  have:=ready_mono hj hji;rw[H.1]at this;cases this
 |succ fuel ih=>
  intro listed a w hfree hr hy hS hS2 hD H;refine⟨fun h=>(by rw[h]at hr;cases hr),fun j hj=>?_⟩;by_cases hji:j=i;·subst hji;exact hy.wpOp hi hS ⟨fun h=>hS2 (Jr h),H⟩
  have h1:=H.2 j (ready_mono hj hji);obtain⟨hjun,oj,hoj,hall⟩:=mem_ready.1 hj;have hnot:∀e∈oj.after,Region.binds md e=true->e.on≠i:=fun e he hb heq=>by
   have h1:=hall e he hb;have h0:=(mem_ready.1 hr).1;rw[heq]at h1;rcases yK i listed.size with h'|h';·simp[h']at h0 h1;rw[h0]at h1;cases h1
   simp[Array.getElem?_eq_none h']at h1
  have h2:=Zn hoj (hfree j oj hoj hji hjun hnot) (fun cs b=>hsel i oi cs b hi) (fun cs b=>hsel j oj cs b hoj) hQ hy h1;have hfree':∀k ok,ops[k]? =some ok->k≠i->(listed.setIfInBounds j true).getD k true=false->
    (∀e∈ok.after,Region.binds md e=true->e.on≠i)->oi.apart ops ok=true:=fun k ok hk hki hun hno=>by
   refine hfree k ok hk hki ?_ hno
   by_cases hjk:j=k
   ·subst hjk;exact hjun
   ·rw[getD_set_ne true hjk]at hun;exact hun
  refine wpOp_mono (fun a' w' h3=>?_) h2;have hS':kQ ops E (listed.setIfInBounds j true)=false->S w':=by have h4:=h3.2.1;rw[Array.setIfInBounds_comm _ _ (Ne.symm hji),KL hEi]at h4;exact h4
  have hw':SS w'/\((∀w,SS w)\/kQ ops E (listed.setIfInBounds j true)=false):=by
   rcases hc with h| ⟨hSS,hw⟩;·exact⟨h w',.inl h⟩
   rcases hD with h|hD;·exact⟨h w',.inl h⟩
   cases hEj:E j
   ·have h4:kQ ops E (listed.setIfInBounds j true)=false:=by rw[KL hEj];exact hD
    exact⟨hSS w' (hS' h4),.inr h4⟩
   obtain⟨e,he,hb,heq⟩:=hw j oj hoj hEj;exact absurd heq (hnot e he hb)
  refine⟨hS',ih (listed.setIfInBounds j true) a' w' hfree' (ready_mono hr (Ne.symm hji)) h3.1 hw'.1 hS' hw'.2 ?_⟩;rw[Array.setIfInBounds_comm _ _ hji];exact h3.2.2
theorem Js{i:Nat}{oi:Oper}{v:Value}{fuel:Nat}{listed:Array Bool}{a:Act}{w:World}(hi:ops[i]? =some oi)(hs:Region.noSelect ops=true)(hf:Region.free md ops listed i=true)(hr:(Region.ready md ops listed).contains i=true)(hEi:E i=false)(hE:zx ops md E i=true)(hD:kQ ops E listed=false)(hQ:∀c a w,Q (.panic c) (a.put oi.dst v) w->Q (.panic c) a w)(hS:S w)(hw:Region.wanted oi (yielded ops a.tmps)=true)(hy:∀w,S w->(execOp a.eval oi).run P w= .ok (.value v) w)(h:jq P md ops Q S E fuel (listed.setIfInBounds i true) (a.put oi.dst v) w):jq P md ops Q S E (fuel+1) listed a w:=vO (SS:=S) hi (Region.noSelect_spec hs) hQ hEi (.inr ⟨fun _ h=>h,Em hE⟩) fuel listed a w (Region.free_spec hi hf) zBF (.inl ⟨hw,fun w hS=>.inl (hy w hS)⟩) hS (fun _=>hS) (.inr hD) h
theorem nX{i:Nat}{oi:Oper}{v:Value}{fuel:Nat}{listed:Array Bool}{a:Act}{w:World}(hi:ops[i]? =some oi)(hs:Region.noSelect ops=true)(hf:Region.free md ops listed i=true)(hr:(Region.ready md ops listed).contains i=true)(hEi:E i=false)(hE:zx ops md E i=true)(hD:kQ ops E listed=false)(hQ:∀c a w,Q (.panic c) (a.put oi.dst v) w->Q (.panic c) a w)(hS:S w)(hw:Region.wanted oi (yielded ops a.tmps)=true){f:FuncId}{args:Array Value}(hy:∀w,(execOp a.eval oi).run P w= .ok (.enter f args) w)(hcall:∀w,S w->Calls P f args w fun e w'=>e= .returned v/\w=w')(h:jq P md ops Q S E fuel (listed.setIfInBounds i true) (a.put oi.dst v) w):jq P md ops Q S E (fuel+1) listed a w:=vO (SS:=S) hi (Region.noSelect_spec hs) hQ hEi (.inr ⟨fun _ h=>h,Em hE⟩) fuel listed a w (Region.free_spec hi hf) zBF (.inl ⟨hw,fun w hS=>.inr ⟨f,args,hy w,hcall w hS⟩⟩) hS (fun _=>hS) (.inr hD) h
theorem F6{i:Nat}{oi:Oper}{v:Value}{fuel:Nat}{listed:Array Bool}{a:Act}{w:World}(hi:ops[i]? =some oi)
  (hs:Region.noSelect ops=true) (hf:Region.free md ops listed i=true) (hr:(Region.ready md ops listed).contains i=true) (hEi:E i=false)
  (hQ:∀c a w,Q (.panic c) (a.put oi.dst v) w->Q (.panic c) a w) (hS:kQ ops E listed=true\/S w) (hw:Region.wanted oi (yielded ops a.tmps)=true) (hy:∀w,(execOp a.eval oi).run P w= .ok (.value v) w)
  (h:jq P md ops Q S E fuel (listed.setIfInBounds i true) (a.put oi.dst v) w):jq P md ops Q S E (fuel+1) listed a w:=
 vO (SS:=fun _=>True) hi (Region.noSelect_spec hs) hQ hEi (.inl fun _=>trivial) fuel listed a w (Region.free_spec hi hf) zBF (.inl ⟨hw,fun w _=>.inl (hy w)⟩) trivial (fun e=>hS.elim (fun h=>by rw[h]at e;cases e) id) (.inl fun _=>trivial) h
theorem TI{i:Nat}{oi:Oper}{fuel:Nat}{listed:Array Bool}{a:Act}{w:World}(hi:ops[i]? =some oi)
  (hs:Region.noSelect ops=true) (hf:Region.free md ops listed i=true) (hr:(Region.ready md ops listed).contains i=true) (hEi:E i=false)
  (hQ:∀c a w,Q (.panic c) (a.put oi.dst undef) w->Q (.panic c) a w) (hS:kQ ops E listed=true\/S w) (hw:Region.wanted oi (yielded ops a.tmps)=false)
  (h:jq P md ops Q S E fuel (listed.setIfInBounds i true) (a.put oi.dst undef) w):jq P md ops Q S E (fuel+1) listed a w:=
 vO (SS:=fun _=>True) hi (Region.noSelect_spec hs) hQ hEi (.inl fun _=>trivial) fuel listed a w (Region.free_spec hi hf) zBF (.inr ⟨hw,rfl⟩) trivial (fun e=>hS.elim (fun h=>by rw[h]at e;cases e) id) (.inl fun _=>trivial) h
theorem tqW{i:Nat}{oi:Oper}{v:Value}{fuel:Nat}{listed:Array Bool}{a:Act}{w:World}(hi:ops[i]? =some oi)
  (hS:kQ ops E listed=true\/S w) (hy:∀w,(execOp a.eval oi).run P w= .ok (.value v) w)
  (h:jq P md ops Q S E fuel (listed.setIfInBounds i true) (a.put oi.dst v) w)
  (hs:Region.noSelect ops=true:=by kernel_rfl) (hf:Region.free md ops listed i=true:=by kernel_rfl) (hr:(Region.ready md ops listed).contains i=true:=by kernel_rfl) (hEi:E i=false:=by exact rfl)
  (hQ:∀c a w,Q (.panic c) (a.put oi.dst v) w->Q (.panic c) a w:=by exact fun _ _ _ h=>h) (hw:Region.wanted oi (yielded ops a.tmps)=true:=by rfl):jq P md ops Q S E (fuel+1) listed a w:=
 F6 hi hs hf hr hEi hQ hS hw hy h
theorem tqK{i:Nat}{oi:Oper}{v:Value}{fuel:Nat}{listed:Array Bool}{a:Act}{w:World}(hi:ops[i]? =some oi)
  (hy:∀w,S w->(execOp a.eval oi).run P w= .ok (.value v) w)
  (h:jq P md ops Q S E fuel (listed.setIfInBounds i true) (a.put oi.dst v) w)
  (hs:Region.noSelect ops=true:=by kernel_rfl) (hf:Region.free md ops listed i=true:=by kernel_rfl) (hr:(Region.ready md ops listed).contains i=true:=by kernel_rfl) (hEi:E i=false:=by exact rfl) (hE:zx ops md E i=true:=by kernel_rfl) (hD:kQ ops E listed=false:=by kernel_rfl)
  (hQ:∀c a w,Q (.panic c) (a.put oi.dst v) w->Q (.panic c) a w:=by exact fun _ _ _ h=>h) (hS:S w:=by assumption) (hw:Region.wanted oi (yielded ops a.tmps)=true:=by rfl):jq P md ops Q S E (fuel+1) listed a w:=
 Js hi hs hf hr hEi hE hD hQ hS hw hy h
def dA(P:Program)(md:Region.Mode)(ops:Array Oper)(Q:Exit->Act->World->Prop)(S:World->Prop)(E:Nat->Bool)(fuel:Nat)(listed:Array Bool)(a:Act)(w:World)(rs:List Nat):Prop:=
 ∀i∈rs,wpOp P ops Q i (fun a' w'=>(kQ ops E (listed.setIfInBounds i true)=false->S w')/\jq P md ops Q S E fuel (listed.setIfInBounds i true) a' w') a w
theorem fP{rs:List Nat}{fuel:Nat}{listed:Array Bool}{a:Act}{w:World}(hr:Region.ready md ops listed=rs)(hne:rs≠[])(h:dA P md ops Q S E fuel listed a w rs):jq P md ops Q S E (fuel+1) listed a w:=⟨fun h0=>absurd (hr▸h0) hne,hr▸h⟩
theorem dA.nil{fuel:Nat}{listed:Array Bool}{a:Act}{w:World}:dA P md ops Q S E fuel listed a w []:=fun _ h=>by cases h
theorem dA.cons{i:Nat}{o:Oper}{rs:List Nat}{fuel:Nat}{listed:Array Bool}{a:Act}{w:World}(ho:ops[i]? =some o)(h:∀K':Act->World->Prop,Shut (∀a w,S w->(S w->jq P md ops Q S E fuel (listed.setIfInBounds i true) a w)->K' a w)->if Region.wanted o (yielded ops a.tmps)=true then Oper.wp P o a w K' Q else K' (a.put o.dst undef) w)(hrs:dA P md ops Q S E fuel listed a w rs):dA P md ops Q S E fuel listed a w (i::rs):=by
 intro j hj;rcases qY.1 hj with rfl|hj;·exact wpOp_step ho (fun K' hK=>h K' (fun a w hS hW=>hK a w ⟨fun _=>hS,hW hS⟩))
 exact hrs j hj
theorem dA.late{i:Nat}{o:Oper}{rs:List Nat}{fuel:Nat}{listed:Array Bool}{a:Act}{w:World}(ho:ops[i]? =some o)(hE:kQ ops E (listed.setIfInBounds i true)=true)(h:∀K':Act->World->Prop,Shut (∀a w,jq P md ops Q S E fuel (listed.setIfInBounds i true) a w->K' a w)->if Region.wanted o (yielded ops a.tmps)=true then Oper.wp P o a w K' Q else K' (a.put o.dst undef) w)(hrs:dA P md ops Q S E fuel listed a w rs):dA P md ops Q S E fuel listed a w (i::rs):=by
 intro j hj;rcases qY.1 hj with rfl|hj;·exact wpOp_step ho (fun K' hK=>h K' (fun a w hW=>hK a w ⟨fun e=>(by rw[hE]at e;cases e),hW⟩))
 exact hrs j hj
theorem aZ{listed:Array Bool}{a:Act}{w:World}(hr:Region.ready md ops listed=[])(h:Q .normal a w):
  ∀fuel,jq P md ops Q S E fuel listed a w
 |0=>⟨hr,h⟩
 |_+1=>⟨fun _=>h,by rw[hr];simp⟩
theorem bH{id n:Nat}{a:Act}{w:World}{S:World->Prop}{E:Nat->Bool}(hm:P.follows .mixedOrders=true)(hn:ops.size=n)(hS:S w.drew)(h:S w.drew->jq P .any ops Q S E n (Array.replicate n false) a w.drew):(Code.region id ops true).wp P Q a w:=by refine wp_region_any hm ?_;rw[hn];exact KN _ _ _ _ (h hS)
end
section
variable {P:Program} {ops:Array Oper} {C:World->Prop} {Q:Act->Prop} {a:Act} {o:Oper} {rest:List Oper}
theorem Yo{v:Value}(hw:Region.wanted o (yielded ops a.tmps)=true)(hv:∀w,C w->(execOp a.eval o).run P w= .ok (.value v) w)
  (h:wpQuiet P ops C Q rest (a.put o.dst v)):wpQuiet P ops C Q (o::rest) a:=
 wpQuiet_step fun K hK=>by
  rw[if_pos hw]
  refine⟨v,fun w hC=>?_,hK _ h⟩
  unfold Oper.quietAt
  rw[hv w hC]
  exact⟨rfl,rfl⟩
theorem kR{v:Value}{f:FuncId}{args:Array Value}(hw:Region.wanted o (yielded ops a.tmps)=true)(he:∀w,(execOp a.eval o).run P w= .ok (.enter f args) w)
  (hc:∀w,C w->Calls P f args w fun e w'=>e= .returned v/\C w')
  (h:wpQuiet P ops C Q rest (a.put o.dst v)):wpQuiet P ops C Q (o::rest) a:=
 wpQuiet_step fun K hK=>by
  rw[if_pos hw]
  refine⟨v,fun w hC=>?_,hK _ h⟩
  unfold Oper.quietAt
  rw[he w]
  exact⟨rfl,hc w hC⟩
theorem abp(hw:Region.wanted o (yielded ops a.tmps)=false)(h:wpQuiet P ops C Q rest (a.put o.dst undef)):wpQuiet P ops C Q (o::rest) a:=
 wpQuiet_step fun K hK=>by rw[if_neg (by rw[hw];exact Bool.false_ne_true)];exact hK _ h
theorem eY{id:Nat}{Q:Exit->Act->World->Prop}{a:Act}{w:World}{l:List Oper}(C:World->Prop)(hm:P.follows .mixedOrders=true)(hB:Region.lexB .any l.toArray=true)(hC:C w.drew)
  (h:wpQuiet P l.toArray C (fun a'=> ∀w',C w'->Q .normal a' w') l a):(Code.region id l.toArray true).wp P Q a w:=
 wp_region_quiet (C:=C) hm hB hC (by simpa using h)
end
end Go.Proofs.YtdmmebjjojimiaaGreatDoor
namespace Go.Proofs.YtdmmebjjojimiaaGreatDoor
open Go.RowKit
section
variable {P:Program} {ops:Array Oper} {Q:Exit->Act->World->Prop} {md:Region.Mode} {S:World->Prop} {E:Nat->Bool}
theorem tW(i:Nat){oi:Oper}{v:Value}{fuel:Nat}{listed L2:Array Bool}{a a2:Act}{w:World}(h:jq P md ops Q S E fuel L2 a2 w)(hi:ops[i]? =some oi:=by exact rfl)
  (hS:kQ ops E listed=true\/S w:=by exact .inr (by assumption)) (hw:Region.wanted oi (yielded ops a.tmps)=true:=by rfl) (hs:Region.noSelect ops=true:=by kernel_rfl) (hf:Region.free md ops listed i=true:=by kernel_rfl) (hr:(Region.ready md ops listed).contains i=true:=by kernel_rfl) (hEi:E i=false:=by exact rfl)
  (hy:∀w,(execOp a.eval oi).run P w= .ok (.value v) w:=by(intro w;go_simp<;>(try with_reducible rfl)))
  (eL:listed.setIfInBounds i true=L2:=by first| (simp only[List.getElem_toArray,List.getElem_cons_succ,List.getElem_cons_zero,List.setIfInBounds_toArray,List.set_cons_zero,List.set_cons_succ];rfl)|rfl) (eA:a.put oi.dst v=a2:=by first| (simp only[Act.put,gJ,gU,gK,gu,gy,gG];rfl)|rfl)
  (hQ:∀c a w,Q (.panic c) (a.put oi.dst v) w->Q (.panic c) a w:=by exact fun _ _ _ h=>h):jq P md ops Q S E (fuel+1) listed a w:=
 F6 hi hs hf hr hEi hQ hS hw hy (by rw[eL,eA];exact h)
theorem tK(i:Nat){oi:Oper}{v:Value}{fuel:Nat}{listed L2:Array Bool}{a a2:Act}{w:World}(h:jq P md ops Q S E fuel L2 a2 w)(hi:ops[i]? =some oi:=by exact rfl)
  (hS:S w:=by assumption) (hw:Region.wanted oi (yielded ops a.tmps)=true:=by rfl) (hs:Region.noSelect ops=true:=by kernel_rfl) (hf:Region.free md ops listed i=true:=by kernel_rfl) (hr:(Region.ready md ops listed).contains i=true:=by kernel_rfl) (hEi:E i=false:=by exact rfl) (hE:zx ops md E i=true:=by kernel_rfl) (hD:kQ ops E listed=false:=by kernel_rfl)
  (hy:∀w,S w->(execOp a.eval oi).run P w= .ok (.value v) w:=by(intro w hSw;(try dsimp only at hSw);go_simp<;>(try with_reducible rfl)))
  (eL:listed.setIfInBounds i true=L2:=by first| (simp only[List.getElem_toArray,List.getElem_cons_succ,List.getElem_cons_zero,List.setIfInBounds_toArray,List.set_cons_zero,List.set_cons_succ];rfl)|rfl) (eA:a.put oi.dst v=a2:=by first| (simp only[Act.put,gJ,gU,gK,gu,gy,gG];rfl)|rfl)
  (hQ:∀c a w,Q (.panic c) (a.put oi.dst v) w->Q (.panic c) a w:=by exact fun _ _ _ h=>h):jq P md ops Q S E (fuel+1) listed a w:=
 Js hi hs hf hr hEi hE hD hQ hS hw hy (by rw[eL,eA];exact h)
theorem tS(i:Nat){oi:Oper}{fuel:Nat}{listed L2:Array Bool}{a a2:Act}{w:World}(h:jq P md ops Q S E fuel L2 a2 w)(hi:ops[i]? =some oi:=by exact rfl)
  (hS:kQ ops E listed=true\/S w:=by exact .inr (by assumption)) (hw:Region.wanted oi (yielded ops a.tmps)=false:=by rfl) (hs:Region.noSelect ops=true:=by kernel_rfl) (hf:Region.free md ops listed i=true:=by kernel_rfl) (hr:(Region.ready md ops listed).contains i=true:=by kernel_rfl) (hEi:E i=false:=by exact rfl)
  (eL:listed.setIfInBounds i true=L2:=by first| (simp only[List.getElem_toArray,List.getElem_cons_succ,List.getElem_cons_zero,List.setIfInBounds_toArray,List.set_cons_zero,List.set_cons_succ];rfl)|rfl) (eA:a.put oi.dst undef=a2:=by first| (simp only[Act.put,gJ,gU,gK,gu,gy,gG];rfl)|rfl)
  (hQ:∀c a w,Q (.panic c) (a.put oi.dst undef) w->Q (.panic c) a w:=by exact fun _ _ _ h=>h):jq P md ops Q S E (fuel+1) listed a w:=
 TI hi hs hf hr hEi hQ hS hw (by rw[eL,eA];exact h)
theorem tO(i:Nat){oi:Oper}{fuel:Nat}{listed:Array Bool}{a:Act}{w:World}
  (h:∀K':Act->World->Prop,Shut (∀a w,S w->(S w->jq P md ops Q S E fuel (listed.setIfInBounds i true) a w)->K' a w)->if Region.wanted oi (yielded ops a.tmps)=true then Oper.wp P oi a w K' Q else K' (a.put oi.dst undef) w)
  (hi:ops[i]? =some oi:=by exact rfl) (hr:Region.ready md ops listed=[i]:=by kernel_rfl):jq P md ops Q S E (fuel+1) listed a w:=
 fP hr (by simp) (dA.cons hi h dA.nil)
end
section
variable {P:Program} {ops:Array Oper} {C:World->Prop} {Q:Act->Prop} {a:Act} {o:Oper} {rest:List Oper}
theorem qV{v:Value}{a2:Act}(h:wpQuiet P ops C Q rest a2)(hw:Region.wanted o (yielded ops a.tmps)=true:=by rfl)
  (hy:∀w,C w->(execOp a.eval o).run P w= .ok (.value v) w:=by(intro w hSw;(try dsimp only at hSw);go_simp<;>(try with_reducible rfl)))
  (eA:a.put o.dst v=a2:=by first| (simp only[Act.put,gJ,gU,gK,gu,gy,gG];rfl)|rfl):wpQuiet P ops C Q (o::rest) a:=
 Yo hw hy (by rw[eA];exact h)
theorem qS{a2:Act}(h:wpQuiet P ops C Q rest a2)(hw:Region.wanted o (yielded ops a.tmps)=false:=by kernel_rfl)
  (eA:a.put o.dst undef=a2:=by first| (simp only[Act.put,gJ,gU,gK,gu,gy,gG];rfl)|rfl):wpQuiet P ops C Q (o::rest) a:=
 abp hw (by rw[eA];exact h)
end
end Go.Proofs.YtdmmebjjojimiaaGreatDoor
namespace Go.Proofs.YtdmmebjjojimiaaGreatDoor
section
variable {P:Program} {ops:Array Oper} {C:World->Prop} {Q:Act->Prop} {a:Act} {o:Oper} {rest:List Oper}
theorem iD{ty:TypeId}{x:Operand}{b off:Nat}{cs:List Value}{d:TypeDesc}{w:World}(ho:o.op= .load ty x)(hx:a.eval x= .pointer (some ⟨b,off,none⟩))(hc:w.rangeAt b off cs)(hu:P.underlying ty=some d)(hd:d.isRow=true)(hi:(P.info? ty).map (·.size)=some cs.length):(execOp a.eval o).run P w= .ok (.value (.agg cs.toArray)) w:=by unfold execOp;simp only[ho,hx,Instr.loadAt,Instr.sureAddr,Sem.run_bind,Sem.run_pure,Result.andThen_ok,run_loadVar_mid w b off ty cs d hc hu hd hi]
theorem aar{ty:TypeId}{x:Operand}{b off:Nat}{cs:List Value}{d:TypeDesc}(hw:Region.wanted o (yielded ops a.tmps)=true)(ho:o.op= .load ty x)(hx:a.eval x= .pointer (some ⟨b,off,none⟩))(hc:∀w,C w->w.rangeAt b off cs)
  (hu:P.underlying ty=some d) (hd:d.isRow=true) (hi:(P.info? ty).map (·.size)=some cs.length) (h:wpQuiet P ops C Q rest (a.put o.dst (.agg cs.toArray))):wpQuiet P ops C Q (o::rest) a:=
 Yo hw (fun w hC=>iD ho hx (hc w hC) hu hd hi) h
end
end Go.Proofs.YtdmmebjjojimiaaGreatDoor
namespace Go.Proofs
theorem zBk{p:Prop}(h:p:=by omega):p:=h
theorem zAG{p:Prop}(h:p:=by decide):p:=h
theorem zAM{p:Prop}(h:p:=by simp):p:=h
theorem zBp{p:Prop}(h:p:=by unfold maxLen;omega):p:=h
theorem zBL{p:Prop}(h:p:=by simp[Region.wanted,hgd]):p:=h
theorem zAC{p:Prop}(h:p:=by omega):p:=h
theorem zAe{p:Prop}(h:p:=by unfold maxLen;omega):p:=h
theorem zFB{p:Prop}(h:p:=by
 simp only[qU]at hv
 obtain⟨rfl,rfl,rfl⟩:=hv
 obtain⟨g,cap',he,_,_⟩:=fJ h hp
 simp only[qU]at he
 obtain⟨rfl,-,rfl⟩:=he
 refine⟨g,0,rfl,dX h rfl,fun i hi=>?_⟩
 rw[Nat.zero_add,h.cellAt i zBk]
 simp[List.getD,qA hi]):p:=h
theorem zC1{p:Prop}(h:p:=by
 obtain⟨b,off,rfl,hb,hc⟩:=h.cells ao len cap hv hp
 refine⟨b,off,rfl,Nat.lt_of_lt_of_le hb ho.size,fun i hi=>?_⟩
 rw[World.cell?_of_block (w:=w) (ho.block b hb (hF b (by rw[hv];rfl)))]
 exact hc i hi):p:=h
theorem zFH{p:Prop}(h:p:=by
 obtain⟨b,off,he,_,hc⟩:=h.cells _ _ _ rfl zBk
 rw[had]at he
 obtain rfl:=Option.some.inj he
 rw[Go.WideShapes.add_plain,hc j hj]
 rw[<-hu]
 simp[List.getD,hj]):p:=h
theorem zDY{p:Prop}(h:p:=by
 simp[Value.ownBlock]at hk
 subst hk
 rcases r3 bb rfl with hh|hh
 ·rw[Tag.xW _ _ (dX h.own hh)];exact h.tg _ hh
 ·exact Tag.Ah _ _ hh (dX r1 rfl)):p:=h
theorem zEI{p:Prop}(h:p:=by exact⟨none,0,rfl,qH _,by unfold maxLen;omega⟩):p:=h
theorem zFP{p:Prop}(h:p:=by
 obtain⟨g,cap,rfl,hc1,hc2⟩:=fJ r1 zBk
 exact⟨g,cap,rfl,hc1,hc2,r3 g rfl⟩):p:=h
end Go.Proofs
namespace Go.Proofs.YtdmmebjjojimiaaGreatDoor
open Go.RowKit
structure Only (F:Nat->Prop) (w w':World):Prop where
 os:w'.os=w.os
 tape:w'.tape=w.tape
 output:w'.output=w.output
 size:w.heap.size<=w'.heap.size
 block:∀k,k<w.heap.size->¬F k->w'.heap[k]? =w.heap[k]?
abbrev O0(w w':World):Prop:=Only (fun _=>False) w w'
theorem Only.refl(F:Nat->Prop)(w:World):Only F w w:=⟨rfl,rfl,rfl,qH _,fun _ _ _=>rfl⟩
theorem Only.trans{F G:Nat->Prop}{a b c:World}(h:Only F a b)(k:Only G b c)(hG:∀i,G i->F i\/a.heap.size<=i):Only F a c:=
 ⟨k.os.trans h.os,k.tape.trans h.tape,k.output.trans h.output,qR h.size k.size,fun i hi hF=>
  (k.block i (Nat.lt_of_lt_of_le hi h.size) (fun g=>by rcases hG i g with g|g;exact hF g;omega)).trans (h.block i hi hF)⟩
theorem Only.same{F:Nat->Prop}{a b c:World}(h:Only F a b)(k:Only F b c):Only F a c:=h.trans k fun _ g=>.inl g
theorem Only.mono{F G:Nat->Prop}{w w':World}(h:Only F w w')(hG:∀i,F i->G i):Only G w w':=⟨h.os,h.tape,h.output,h.size,fun k hk hn=>h.block k hk fun f=>hn (hG k f)⟩
theorem Only.drewN{F:Nat->Prop}{a w:World}(h:Only F a w)(n:Nat):Only F a (w.drewN n):=⟨h.os,h.tape,h.output,h.size,h.block⟩
theorem Only.drew{F:Nat->Prop}{a w:World}(h:Only F a w):Only F a w.drew:=⟨h.os,h.tape,h.output,h.size,h.block⟩
theorem Only.setCell{F:Nat->Prop}{a w:World}(h:Only F a w){p:Addr}(hp:F p.block\/a.heap.size<=p.block)(u:Value):Only F a (w.setCell p u):=
 h.trans (G:=fun k=>k=p.block) ⟨rfl,rfl,rfl,by simp[World.setCell],fun k _ hk=>Below.heap_setCell _ _ _ _ hk⟩ (by intro i hi;subst hi;exact hp)
theorem Only.alloc{F:Nat->Prop}{a w:World}(h:Only F a w)(o:Obj):Only F a (w.alloc o):=
 h.trans (G:=fun _=>False) ⟨rfl,rfl,rfl,by simp,fun k hk _=>Below.heap_alloc _ _ _ hk⟩ (by intro i hi;exact hi.elim)
theorem Only.grown{F:Nat->Prop}{a w w':World}{row:Option Nat}(h:Only F a w)(hg:w.grownBy w' row)(hr:∀k,row=some k->F k\/a.heap.size<=k):Only F a w':=h.trans (G:=fun k=>row=some k) ⟨hg.os,hg.tape,hg.output,hg.size,fun k hk hn=>hg.block k hk (fun e=>hn e.symm)⟩ hr
theorem Only.below{B:Nat}{w w':World}(h:Only (fun k=>B<=k) w w'):B<=w.heap.size->Below B w w':=fun hB=>⟨h.os,h.tape,h.output,h.size,fun k hk=>h.block k zAC zBk⟩
theorem Only.ag2{w w':World}(h:O0 w w'):Below w.heap.size w w':=⟨h.os,h.tape,h.output,h.size,fun k hk=>h.block k hk (fun f=>f)⟩
theorem Only.trans'{F G:Nat->Prop}{w w':World}(h:Only F w w')(hG:∀i,F i->w.heap.size<=i):Only G w w':=
 ⟨h.os,h.tape,h.output,h.size,fun k hk _=>h.block k hk fun f=>by have:=hG k f;omega⟩
theorem Only.of_below{B:Nat}{w w':World}(h:Below B w w'):Only (fun k=>B<=k) w w':=⟨h.os,h.tape,h.output,h.size,fun k _ hk=>h.block k zBk⟩
theorem aI{w w':World}{base:Nat}{e:TypeId}{size:Nat}{v:Value}{n:Nat}{xs:List Value}{F:Nat->Prop}(h:w.ownsRow base e size v n xs)(ho:Only F w w')(hne:∀k,v.ownBlock=some k->¬F k):w'.ownsRow base e size v n xs:=by
 refine⟨h.1,?_⟩;rcases h.2 with h2| ⟨g,cap,cur,rfl,hb,hg,r⟩;·exact .inl h2
 exact .inr ⟨g,cap,cur,rfl,hb,by rw[ho.block g (yA.1 hg).1 (hne g rfl)];exact hg,r⟩
theorem dX{w:World}{base:Nat}{e:TypeId}{size:Nat}{v:Value}{n:Nat}{xs:List Value}(h:w.ownsRow base e size v n xs){k:Nat}(hk:v.ownBlock=some k):k<w.heap.size:=(h.lt k hk).2
theorem fJ{w:World}{base:Nat}{e:TypeId}{size:Nat}{v:Value}{n:Nat}{xs:List Value}(h:w.ownsRow base e size v n xs)(hn:0<n):∃g cap,v= .slice (some ⟨g,0,none⟩) n cap/\n<=cap/\cap<=maxLen:=by
 rcases h.2 with⟨_,h2⟩| ⟨g,cap,cur,rfl,hb,hg,h1,h2,_⟩;·omega
 exact⟨g,cap,rfl,h1,h2⟩
theorem aC{w:World}{base:Nat}{e:TypeId}{size:Nat}{v:Value}{n:Nat}{xs:List Value}(h:w.ownsRow base e size v n xs):∃ao cap,v= .slice ao n cap/\n<=cap/\cap<=maxLen:=by
 rcases h.2 with⟨rfl,rfl⟩| ⟨g,cap,cur,rfl,hb,hg,h1,h2,_⟩;·exact zEI
 exact⟨_,cap,rfl,h1,h2⟩
theorem Yp{w:World}{e:TypeId}{g n cap:Nat}{xs:List Value}(h:w.ownsRow 0 e 1 (.slice (some ⟨g,0,none⟩) n cap) n xs)(m:Nat)(hm:m<=n):w.ownsRow 0 e 1 (.slice (some ⟨g,0,none⟩) m cap) m (xs.take m):=by
 rcases h.2 with⟨h',_⟩| ⟨g',cap',cur,h',hb,hg,h1,h2,h3,htake⟩;·simp at h'
 simp only[qU,qG,qO,and_true,true_and]at h';obtain⟨rfl,rfl⟩:=h';have hx:=h.1;simp only[yH]at hx htake;refine⟨by simp;omega,.inr ⟨g,cap,cur,rfl,qE _,hg,by omega,h2,h3,?_⟩⟩;rw[yH,<-htake,List.take_take,Nat.min_eq_left hm]
theorem ah{w:World}{b:Nat}{c:Array Value}{t:TypeId}{f:Nat×Nat}(h:w.heap[b]? =some (.cells c t f))(i:Nat):w.cell? ⟨b,i,none⟩=c[i]? :=by simp[World.cell?,h]
theorem iG{w:World}{b:Nat}{c:Array Value}{t:TypeId}(h:w.heap[b]? =some (.cells c t (0,0)))(i:Nat):w.frozen? ⟨b,i,none⟩=false:=by simp[World.frozen?,h]
theorem dR{w:World}{b:Nat}{o:Obj}(h:w.heap[b]? =some o):b<w.heap.size:=(yA.1 h).1
theorem jX{w:World}{b:Nat}{c:Array Value}{t:TypeId}(h:w.heap[b]? =some (.cells c t (0,0)))(i:Nat)(u:Value):(w.setCell ⟨b,i,none⟩ u).heap[b]? =some (.cells (c.setIfInBounds i u) t (0,0)):=heap_setCell_same w b i c t u h
theorem Bj{w:World}{b:Nat}{o:Obj}(h:w.heap[b]? =some o){p:Addr}(hp:b≠p.block)(u:Value):
  (w.setCell p u).heap[b]? =some o:=by rw[Below.heap_setCell _ _ _ _ hp];exact h
theorem dw{w:World}{b:Nat}{o:Obj}(h:w.heap[b]? =some o)(o':Obj):(w.alloc o').heap[b]? =some o:=by rw[Below.heap_alloc _ _ _ (dR h)];exact h
theorem aF{w w':World}{b:Nat}{o:Obj}{F:Nat->Prop}(h:w.heap[b]? =some o)(ho:Only F w w')(hb:¬F b):w'.heap[b]? =some o:=by rw[ho.block b (dR h) hb];exact h
structure BM (P:Program) (t e:TypeId) (size bytes:Nat):Prop where
 und:P.underlying t=some (.slice e)
 info:∃i z,P.info? e=some i/\i.zero=some z/\i.size=size/\i.bytes=bytes/\z.cells.size=size
 pos:0<size
theorem BM.mk'{P:Program}{t e:TypeId}{size bytes:Nat}{z:Value}(h:P.underlying t=some (.slice e))(hi:(P.info? e).map (fun i=>(i.zero,i.size,i.bytes))=some (some z,size,bytes))(hz:z.cells.size=size)(hp:0<size):BM P t e size bytes:=by obtain⟨i,h1,h2,h3,h4⟩:=info_parts hi;exact⟨h,⟨i,z,h1,h2,h3,h4,hz⟩,hp⟩
theorem nY{P:Program}(w:World){t e ty:TypeId}{size bytes:Nat}(T:BM P t e size bytes)(v:Value)(n:Nat)(xs:List Value)(hown:w.ownsRow 0 e size v n xs)(a:Addr)(m c:Nat)(news:List Value)(hl:news.length=m*size)(hnews:∀j u,news[j]? =some u->w.cell? (a.add j)=some u)(h1:∀u∈news,u.oneCell'=true)(h63:n+m<=maxLen)(hbytes:(n+m)*bytes<=140737488355328):∃v' w',(Builtin.append_ #[t,t] ty #[v,.slice (some a) m c]).run P w= .ok v' w'/\w'.ownsRow 0 e size v' (n+m) (xs++news)/\w.grownBy w' v.ownBlock/\(∀k,v'.ownBlock=some k->v.ownBlock=some k\/w.heap.size<=k)/\(∃k,v'.ownBlock=some k)=(v.ownBlock≠none\/0<m):=by
 obtain⟨i,z,h2,h3,h4,h5,h6⟩:=T.info;obtain⟨v',w',hr,ho,hg,hnil⟩:=run_append_own (P:=P) w 0 t ty e i z size bytes T.und h2 h3 h4 h5 h6 T.pos v n xs hown a m c news hl hnews h1 h63 hbytes (qE _);have hsome:(∃k,v'.ownBlock=some k)=(v.ownBlock≠none\/0<m):=by
  apply propext;have hv':(∃k,v'.ownBlock=some k)↔ ¬v'= .slice none 0 0:=by rcases ho.2 with⟨rfl,_⟩| ⟨g,cap,cur,rfl,_⟩<;>simp[Value.ownBlock]
  have hv:v.ownBlock≠none↔ ¬v= .slice none 0 0:=by rcases hown.2 with⟨rfl,_⟩| ⟨g,cap,cur,rfl,_⟩<;>simp[Value.ownBlock]
  rw[hv',hv,hnil];by_cases hv0:v= .slice none 0 0;·simp[hv0];omega
  simp[hv0]
 refine⟨v',w',hr,ho,hg,?_,hsome⟩;intro k hk;rcases hown.2 with⟨rfl,rfl⟩| ⟨g,cap,cur,rfl,hbg,hgg,hnc,hcm,hcs,htake⟩;·have hxs:xs=[]:=yF (by simpa using hown.1);subst hxs;obtain⟨v2,w2,hr2,ho2,_⟩:=run_append_own (P:=P) w w.heap.size t ty e i z size bytes T.und h2 h3 h4 h5 h6 T.pos _ 0 [] (World.ownsRow_nil w w.heap.size e size) a m c news hl hnews h1 h63 hbytes (qH _);rw[hr]at hr2;injection hr2 with e1 e2;subst e1;exact .inr (ho2.lt k hk).1
 by_cases hroom:n+m<=cap;·obtain⟨w2,hr2,_⟩:=run_append_fits (P:=P) w 0 t ty e i size T.und h2 h4 g n cap xs hown a m c news hl hnews h1 hroom;rw[hr]at hr2;injection hr2 with e1 e2;subst e1;exact .inl hk
 obtain⟨v2,w2,hr2,ho2,_⟩:=run_append_arg_grows (P:=P) w t ty e i z size bytes T.und h2 h3 h4 h5 h6 T.pos ⟨g,0,none⟩ n cap xs hown.1 (hown.cells (g:=g) rfl) a m c news hl hnews zBk h63 hbytes;rw[hr]at hr2;injection hr2 with e1 e2;subst e1;exact .inr (ho2.lt k hk).1
theorem wpA{P:Program}{w:World}{ops:Array Oper}{rest:List Oper}{o:Oper}{a:Act}{Q:Exit->Act->World->Prop}{t e:TypeId}{size bytes:Nat}(T:BM P t e size bytes)
  (hgd:o.guard=none) (s x:Operand)
  (ho:o.op= .call {callee:=.builtin .append,args:= #[s,x],argTypes:= #[t,t]})
  {v:Value} {n:Nat} {xs:List Value} (hs:a.eval s=v) (hown:w.ownsRow 0 e size v n xs)
  {ad:Addr} {m c:Nat} {news:List Value} (hx:a.eval x= .slice (some ad) m c) (hl:news.length=m*size) (hnews:∀j u,news[j]? =some u->w.cell? (ad.add j)=some u) (h1:∀u∈news,u.oneCell'=true)
  (h63:n+m<=maxLen) (hbytes:(n+m)*bytes<=140737488355328)
  (h:∀v' w',w'.ownsRow 0 e size v' (n+m) (xs++news)->w.grownBy w' v.ownBlock->(∀k,v'.ownBlock=some k->v.ownBlock=some k\/w.heap.size<=k)->(∃k,v'.ownBlock=some k)=(v.ownBlock≠none\/0<m)->wpList P ops Q rest (a.put o.dst v') w'):wpList P ops Q (o::rest) a w:=by
 refine wpList_plain hgd fun K hK=>?_
 obtain⟨v',w',hr,h2,h3,h4,h5⟩:=nY (P:=P) (ty:=o.type) w T v n xs hown ad m c news hl hnews h1 h63 hbytes
 unfold Oper.wp execOp
 simp only[ho,resolve,invoke,builtin,Sem.run_bind,Sem.run_pure,Result.andThen_ok,List.map_toArray,List.map_cons,List.map_nil,hs,hx,hr]
 exact hK _ _ (h v' w' h2 h3 h4 h5)
def BN(w:World)(v v':Value)(m:Nat):Prop:= ∃g cap,v'= .slice (some ⟨g,0,none⟩) m cap/\m<=cap/\cap<=maxLen/\(v.ownBlock=some g\/w.heap.size<=g)
theorem tC{P:Program}{w:World}{u:Value}{ops:Array Oper}{rest:List Oper}{o:Oper}{a:Act}{Q:Exit->Act->World->Prop}{t e:TypeId}{bytes:Nat}(T:BM P t e 1 bytes)
  (hgd:o.guard=none) (s x:Operand)
  (ho:o.op= .call {callee:=.builtin .append,args:= #[s,x],argTypes:= #[t,t]})
  {v:Value} {n:Nat} {xs:List Value} {g:Nat} (hs:a.eval s=v) (hx:a.eval x= .slice (some ⟨g,0,none⟩) 1 1) (hc:w.cell? ⟨g,0,none⟩=some u) (hu:u.oneCell'=true) (hown:w.ownsRow 0 e 1 v n xs)
  (h63:n+1<=1099511627776) (hbytes:bytes<=64)
  (h:∀v' w',w'.ownsRow 0 e 1 v' (n+1) (xs++[u])->Only (fun k=>v.ownBlock=some k) w w'->BN w v v' (n+1)->wpList P ops Q rest (a.put o.dst v') w'):
  wpList P ops Q (o::rest) a w:=by
 refine wpA T hgd s x ho (news:=[u]) hs hown hx rfl ?_ ?_ ?_ ?_ ?_
 ·intro j x hj
  match j,hj with
  |0,hj=>
   simp at hj;subst hj
   simpa[Addr.add]using hc
 ·intro x hxm;simp at hxm;subst hxm;exact hu
 ·unfold maxLen;omega
 ·have:(n+1)*bytes<=1099511627776*64:=Nat.mul_le_mul h63 hbytes
  omega
 ·intro v' w' r1 r2 r3 r4
  refine h v' w' r1 ?_ ?_
  ·exact(Only.refl _ w).grown r2 fun k hk=>.inl hk
  ·exact zFP
theorem wpM{P:Program}{w:World}{ops:Array Oper}{rest:List Oper}{o:Oper}{a:Act}{Q:Exit->Act->World->Prop}{t e:TypeId}{bytes:Nat}{z:Value}(hu:P.underlying t=some (.slice e))(hi:(P.info? e).map (fun i=>(i.zero,i.size,i.bytes))=some (some z,1,bytes))(hz:z.cells= #[z])(hg:o.guard=none)(l c:Operand)(hop:o.op=Op.makeSlice t l c)(n:Nat){kl kc:IntKind}{L C:Int}(hl:a.eval l= .int kl L)(hc:a.eval c= .int kc C)(hL:L=(n:Int))(hC:C=(n:Int))(hn:n<=1099511627776)(hb:bytes<=64)(h:∀w',w'.ownsRow 0 e 1 (.slice (some ⟨w.heap.size,0,none⟩) n n) n (List.replicate n z)->O0 w w'->w.heap.size<w'.heap.size->wpList P ops Q rest (a.put o.dst (.slice (some ⟨w.heap.size,0,none⟩) n n)) w'):wpList P ops Q (o::rest) a w:=by
 obtain⟨i,h1,h2,h3,h4⟩:=info_parts hi;refine wpList_make_full w hg l c t hop 0 e i z 1 hu h1 h2 h3 kl kc L C n hl hc hL hC ?_ ?_ (qE _) ?_;·rw[h4];have:bytes*n<=64*1099511627776:=Nat.mul_le_mul hb hn;omega
 ·unfold maxLen;omega
 intro w' r1 r2;rw[hz,toList_madeCells_one,yH]at r1;refine h w' r1 ((Only.refl _ w).grown r2 fun k hk=>by cases hk) ?_;exact dX r1 rfl
abbrev cI(x:Int):Value:=.int .i64 x
def bU(x:Int):Prop:= -9223372036854775808<=x/\x<=9223372036854775807
structure Ints (w:World) (v:Value) (xs:List Int):Prop where
 shape:∃ao cap,v= .slice ao xs.length cap/\xs.length<=cap/\cap<=9223372036854775807
 cells:∀ao len cap,v= .slice ao len cap->0<xs.length->∃b off,ao=some ⟨b,off,none⟩/\b<w.heap.size/\∀i,i<xs.length->w.cell? ⟨b,off+i,none⟩=some (.int .i64 (xs.getD i 0))
 range:∀x∈xs,bU x
 nil:∀len cap,v= .slice none len cap->len=0/\cap=0
theorem Ints.range'{w:World}{v:Value}{xs:List Int}(h:Ints w v xs)(i:Nat):bU (xs.getD i 0):=by
 rw[qC];cases hx:xs[i]? with
 |none=>simp[bU]
 |some x=>exact h.range x (qT hx)
def Value.blk:Value->Option Nat
 | .slice (some a) _ _=>some a.block
 |_=>none
theorem Ints.only{w w':World}{v:Value}{xs:List Int}{F:Nat->Prop}(h:Ints w v xs)(ho:Only F w w')(hF:∀b,Value.blk v=some b->¬F b):Ints w' v xs:=by refine⟨h.shape,fun ao len cap hv hp=>?_,h.range,h.nil⟩;exact zC1
theorem Ints.aN{w w':World}{v:Value}{xs:List Int}(h:Ints w v xs)(ho:O0 w w'):Ints w' v xs:=h.only ho (fun _ _ f=>f)
theorem QG{w:World}{e:TypeId}{size len cap n:Nat}{xs:List Value}(h:w.ownsRow 0 e size (.slice none len cap) n xs):len=0/\cap=0:=by
 rcases h.2 with⟨h2,_⟩| ⟨g,c,cur,h2,_⟩;·simp only[qU,true_and]at h2;exact h2
 simp at h2
theorem Ints.fH{w:World}{v:Value}{xs:List Int}(h:w.ownsRow 0 3 1 v xs.length (xs.map (Value.int .i64)))(hr:∀x∈xs,bU x):Ints w v xs:=by obtain⟨ao,cap,rfl,h1,h2⟩:=aC h;unfold maxLen at h2;refine⟨⟨ao,cap,rfl,h1,by omega⟩,fun ao' len' cap' hv hp=>?_,hr,fun len' cap' hv=>by rw[hv]at h;exact QG h⟩;exact zFB
def abq(w:World)(g:Nat)(cb:Array Value)(p:Int->Bool)(xs:List Int):Prop:=
 ∀x∈xs,∀W,O0 w W->Calls Tryz.prog g (#[.int .i64 x]++cb) W fun e W'=>e= .returned (.bool (p x))/\O0 W W'
def TJ(p:Int->Bool)(xs:List Int):Int:=if xs.any p then (xs.findIdx p:Int)else -1
def NoneTo(p:Int->Bool)(xs:List Int)(k:Nat):Prop:= ∀j,j<k->p (xs.getD j 0)=false
theorem abr{p:Int->Bool}{xs:List Int}{k:Nat}(h:NoneTo p xs k)(hk:k<xs.length)(hp:p (xs.getD k 0)=true):TJ p xs=k:=by
 have hg:xs.getD k 0=xs[k]:=by simp[qC,hk]
 rw[hg]at hp;unfold TJ;rw[if_pos (yU.2 ⟨xs[k],qZ hk,hp⟩)];congr 1;rw[List.findIdx_eq hk];refine⟨hp,fun j hj=>?_⟩;have:=h j hj;simpa[qC,show j<xs.length by omega]using this
theorem Zo{p:Int->Bool}{xs:List Int}(h:NoneTo p xs xs.length):TJ p xs= -1:=by unfold TJ;rw[if_neg];rw[yU];rintro⟨x,hx,hp⟩;obtain⟨j,hj,rfl⟩:=List.getElem_of_mem hx;have:=h j hj;simp[qC,hj]at this;rw[this]at hp;cases hp
theorem NZ{w:World}{v:Value}{xs:List Int}(hI:Ints w v xs)(g:Nat)(cb:Array Value)(p:Int->Bool)(eg:∀args w,(callFunc g args).run Tryz.prog w= .ok (.enter g args) w)(hp:abq w g cb p xs):Calls Tryz.prog 300 #[v,.func (.func g) #[] cb] w fun e w'=>e= .returned (.int .i64 (TJ p xs))/\O0 w w':=by
 have HP:=zh hp;clear hp;obtain⟨ao,cap,rfl,hl,hm⟩:=hI.shape;go_enter Tryz.func300,Tryz.ntmps300;go_wp2_with fail;go_loopw [8] (fun v wr=> ∃k:Nat,v= .int .i64 k/\k<=xs.length/\NoneTo p xs k/\O0 w wr) (fun v _=>xs.length-(intOf v).toNat);case atStart=>exact⟨0,rfl,qE _,fun j hj=>by omega,Only.refl _ _⟩
 case round=>
  obtain⟨k,rfl,hk,hN,hO⟩:=hrel;by_cases c:k<xs.length
  ·obtain⟨b,off,rfl,hb,hc⟩:=(hI.aN hO).cells _ _ _ rfl zBk;have hcell:=hc k c;have hmem:xs.getD k 0∈xs:=by rw[qC,qA c];exact qZ c
   have hcall:=HP.out _ hmem wr hO;have HC:=zh hcall;have HN:=zh hN;clear hc hcall hmem hN;generalize hx:xs.getD k 0=x at*;have HX:=zh hx;clear hx;cases hpx:p x
   ·have HPX:=zh hpx;clear hpx;go_wp2_with fail;refine HC.out.mono ?_;rintro e w2 ⟨rfl,O2⟩;rw[HPX.out];go_wp2_with fail;go_roundw;case rel=>
     refine⟨k+1,by go_num,by omega,fun j hj=>?_,hO.same O2⟩;rcases yK j k with h1|h1;·exact HN.out j h1
     rw[show j=k by omega,HX.out];exact HPX.out
    case measure=>simp[intOf];omega
   have HPX:=zh hpx;clear hpx;go_wp2_with fail;refine HC.out.mono ?_;rintro e w2 ⟨rfl,O2⟩;rw[HPX.out];go_wp2_with fail;go_ret;refine⟨?_,hO.same O2⟩;rw[abr HN.out c (by rw[HX.out];exact HPX.out)];rfl
  have hk':k=xs.length:=by omega
  subst hk';have HN:=zh hN;clear hN;go_wp2_with fail;go_ret;refine⟨?_,hO⟩;rw[Zo HN.out];rfl
theorem aeL(p:Int->Bool)(xs:List Int):decide (0<=TJ p xs)=xs.any p:=by
 unfold TJ;cases h:xs.any p;·simp
 simp
theorem tH{w:World}{v:Value}{xs:List Int}(hI:Ints w v xs)(g:Nat)(cb:Array Value)(p:Int->Bool)(eg:∀args w,(callFunc g args).run Tryz.prog w= .ok (.enter g args) w)(hp:abq w g cb p xs)(r:Bool)(hr:xs.any p=r):Calls Tryz.prog 221 #[v,.func (.func g) #[] cb] w fun e w'=>e= .returned (.bool r)/\O0 w w':=by subst hr;rw[<-aeL];have hcon:=NZ hI g cb p eg hp;have HC:=zh hcon;clear hcon hp;generalize TJ p xs=z at*;go_enter Tryz.func221,Tryz.ntmps221;go_wp2_with fail;refine HC.out.mono ?_;rintro e w2 ⟨rfl,O2⟩;go_wp2_with fail;go_ret;exact⟨rfl,O2⟩
def Wq(w:World)(v v':Value):Prop:= ∀k,v'.ownBlock=some k->v.ownBlock=some k\/w.heap.size<=k
theorem KO{P:Program}{w:World}{ops:Array Oper}{rest:List Oper}{o:Oper}{a:Act}{Q:Exit->Act->World->Prop}{t e:TypeId}{bytes:Nat}(T:BM P t e 1 bytes)
  (hgd:o.guard=none) (s x:Operand)
  (ho:o.op= .call {callee:=.builtin .append,args:= #[s,x],argTypes:= #[t,t]})
  {v:Value} {n:Nat} {xs:List Value} (hs:a.eval s=v) (hown:w.ownsRow 0 e 1 v n xs)
  {ao:Option Addr} {m c:Nat} {news:List Value} (hx:a.eval x= .slice ao m c) (hl:news.length=m) (hnone:ao=none->m=0/\c=0) (hnews:∀ad,ao=some ad->∀j u,news[j]? =some u->w.cell? (ad.add j)=some u) (h1:∀u∈news,u.oneCell'=true)
  (h63:n+m<=1099511627776) (hbytes:bytes<=64)
  (h:∀v' w',w'.ownsRow 0 e 1 v' (n+m) (xs++news)->Only (fun k=>v.ownBlock=some k) w w'->Wq w v v'->wpList P ops Q rest (a.put o.dst v') w'):wpList P ops Q (o::rest) a w:=by
 cases ao with
 |none=>
  obtain⟨rfl,rfl⟩:=hnone rfl
  have hn:news=[]:=yF hl
  subst hn
  obtain⟨i,z,h2,h3,h4,h5,h6⟩:=T.info
  refine wpList_plain hgd fun K hK=>?_
  have hr:=run_append_owned_none (P:=P) w 0 t o.type e i 1 T.und h2 v n xs hown
  unfold Oper.wp execOp
  simp only[ho,resolve,invoke,builtin,Sem.run_bind,Sem.run_pure,Result.andThen_ok,List.map_toArray,List.map_cons,List.map_nil,hs,hx,hr]
  exact hK _ _ (h v w (by simpa using hown) (Only.refl _ _) (fun k hk=>.inl hk))
 |some ad=>
  refine wpA T hgd s x ho (news:=news) hs hown hx zBk (hnews ad rfl) h1 zAe ?_ ?_
  ·have:(n+m)*bytes<=1099511627776*64:=Nat.mul_le_mul h63 hbytes
   omega
  ·intro v' w' r1 r2 r3 r4
   exact h v' w' r1 ((Only.refl _ w).grown r2 fun k hk=>.inl hk) r3
theorem Ints.news{w:World}{ao:Option Addr}{len cap:Nat}{xs:List Int}(h:Ints w (.slice ao len cap) xs):∀ad,ao=some ad->∀j u,(xs.map (Value.int .i64))[j]? =some u->w.cell? (ad.add j)=some u:=by
 intro ad had j u hu;have hj:j<xs.length:=by have:=(qJ.1 hu).1;simpa using this
 exact zFH
theorem zy(xs:List Int):∀u∈xs.map (Value.int .i64),u.oneCell'=true:=ints_oneCell .i64 xs
theorem kJ:BM Tryz.prog 78 3 1 8:=BM.mk' (z:=.int .i64 0) Tryz.underlying78 zk rfl zAG
theorem wI(w:World):(w.alloc (.cells #[] 3)).ownsRow 0 3 1 (.slice (some ⟨w.heap.size,0,none⟩) 0 0) 0 []:=World.ownsRow_lit (base:=0) (e:=3) (size:=1) w #[] 0 (qE _) zAe zAM
theorem cell_new0(w:World)(u:Value)(t:TypeId):(w.alloc (.cells #[u] t)).cell? ⟨w.heap.size,0,none⟩=some u:=by simp
theorem Ws(xs:List Int)(k:Nat)(h:k<xs.length):xs.take (k+1)=xs.take k++[xs.getD k 0]:=by rw[yL h];simp[qC,h]
abbrev bP:Value:=.slice none 0 0
structure Cells (w:World) (v:Value) (us:List Value):Prop where
 shape:∃ao cap,v= .slice ao us.length cap/\us.length<=cap/\cap<=9223372036854775807
 cells:∀ao len cap,v= .slice ao len cap->0<us.length->∃b off,ao=some ⟨b,off,none⟩/\b<w.heap.size/\∀i,i<us.length->w.cell? ⟨b,off+i,none⟩=some (us.getD i bP)
 nil:∀len cap,v= .slice none len cap->len=0/\cap=0
theorem Cells.only{w w':World}{v:Value}{us:List Value}{F:Nat->Prop}(h:Cells w v us)(ho:Only F w w')(hF:∀b,Value.blk v=some b->¬F b):Cells w' v us:=by refine⟨h.shape,fun ao len cap hv hp=>?_,h.nil⟩;exact zC1
theorem Cells.aN{w w':World}{v:Value}{us:List Value}(h:Cells w v us)(ho:O0 w w'):Cells w' v us:=h.only ho (fun _ _ f=>f)
theorem Cells.fH{w:World}{v:Value}{us:List Value}{t:TypeId}(h:w.ownsRow 0 t 1 v us.length us):Cells w v us:=by obtain⟨ao,cap,rfl,h1,h2⟩:=aC h;unfold maxLen at h2;refine⟨⟨ao,cap,rfl,h1,by omega⟩,fun ao' len' cap' hv hp=>?_,fun len' cap' hv=>by rw[hv]at h;exact QG h⟩;exact zFB
theorem Cells.news{w:World}{ao:Option Addr}{len cap:Nat}{us:List Value}(h:Cells w (.slice ao len cap) us):∀ad,ao=some ad->∀j u,us[j]? =some u->w.cell? (ad.add j)=some u:=by intro ad had j u hu;have hj:j<us.length:=(qJ.1 hu).1;exact zFH
def lG(w:World)(us:List Value)(css:List (List Int)):Prop:=us.length=css.length/\∀i,i<css.length->Ints w (us.getD i bP) (css.getD i [])
theorem lG.aN{w w':World}{us:List Value}{css:List (List Int)}(h:lG w us css)(ho:O0 w w'):lG w' us css:=⟨h.1,fun i hi=>(h.2 i hi).aN ho⟩
theorem tJ{α:Type}(xs ys:List α)(d:α){i:Nat}(h:i<xs.length):(xs++ys).getD i d=xs.getD i d:=by simp only[qC];rw[yM h]
theorem tN{α:Type}(xs ys:List α)(d:α){i:Nat}(h:xs.length<=i):(xs++ys).getD i d=ys.getD (i-xs.length) d:=by simp only[qC];rw[yN h]
theorem lG.snoc{w:World}{us:List Value}{css:List (List Int)}(h:lG w us css){u:Value}{c:List Int}(hu:Ints w u c):lG w (us++[u]) (css++[c]):=by
 refine⟨by simp[h.1],fun i hi=>?_⟩;have hl:=h.1;by_cases hi':i<css.length;·rw[tJ _ _ _ zBk,tJ _ _ _ hi'];exact h.2 i hi'
 have:i=css.length:=by simp at hi;omega
 subst this;rw[tN _ _ _ zAC,tN _ _ _ zBk,hl];simpa using hu
theorem lG.one{w:World}{us:List Value}{css:List (List Int)}(h:lG w us css):∀u∈us,u.oneCell'=true:=by intro u hu;obtain⟨i,hi,rfl⟩:=List.getElem_of_mem hu;have:=h.2 i (by rw[<-h.1];exact hi);rw[qC,qA hi]at this;obtain⟨ao,cap,e,-⟩:=this.shape;simp only[Option.getD_some]at e;rw[e];rfl
def En(w:World)(v:Value)(css:List (List Int)):Prop:= ∃us,Cells w v us/\lG w us css
theorem En.aN{w w':World}{v:Value}{css:List (List Int)}(h:En w v css)(ho:O0 w w'):En w' v css:=by obtain⟨us,h1,h2⟩:=h;exact⟨us,h1.aN ho,h2.aN ho⟩
theorem En.shape{w:World}{v:Value}{css:List (List Int)}(h:En w v css):∃ao cap,v= .slice ao css.length cap/\css.length<=cap/\cap<=9223372036854775807:=by obtain⟨us,h1,h2⟩:=h;rw[<-h2.1];exact h1.shape
theorem En.at{w:World}{ao:Option Addr}{len cap:Nat}{css:List (List Int)}(h:En w (.slice ao len cap) css){k:Nat}(hk:k<css.length):∃b off u,ao=some ⟨b,off,none⟩/\b<w.heap.size/\w.cell? ⟨b,off+k,none⟩=some u/\Ints w u (css.getD k []):=by obtain⟨us,h1,h2⟩:=h;obtain⟨b,off,rfl,hb,hc⟩:=h1.cells _ _ _ rfl (by rw[h2.1];omega);exact⟨b,off,_,rfl,hb,hc k (by rw[h2.1];exact hk),h2.2 k hk⟩
theorem abt:BM Tryz.prog 66 78 1 24:=BM.mk' (z:=bP) Tryz.underlying66 zk rfl zAG
theorem ql{α:Type}{xs:List α}{k:Nat}(d:α)(h:k<xs.length):xs.getD k d∈xs:=by rw[qC,qA h];exact qZ h
abbrev Tag:=Nat->Nat×Nat
def Agree(w:World)(g g':Tag):Prop:= ∀k,k<w.heap.size->g' k=g k
theorem Agree.refl(w:World)(g:Tag):Agree w g g:=fun _ _=>rfl
theorem Agree.trans{w w1:World}{g g1 g2:Tag}(h:Agree w g g1)(h1:Agree w1 g1 g2)(hs:w.heap.size<=w1.heap.size):Agree w g g2:=fun k hk=>(h1 k zBk).trans (h k hk)
def sV(w:World)(g:Tag):Prop:= ∀k,w.heap.size<=k->(g k).1=0
theorem sV.more{w w':World}{g:Tag}(h:sV w g)(hs:w.heap.size<=w'.heap.size):sV w' g:=fun k hk=>h k zBk
def Tag.put(g:Tag)(lo hi:Nat)(t:Nat×Nat):Tag:=fun k=>if lo<=k/\k<hi then t else g k
theorem Tag.xW(g:Tag){lo hi k:Nat}(t:Nat×Nat)(h:k<lo):Tag.put g lo hi t k=g k:=by unfold Tag.put;rw[if_neg zBk]
theorem Tag.Ah(g:Tag){lo hi k:Nat}(t:Nat×Nat)(h:lo<=k)(h2:k<hi):Tag.put g lo hi t k=t:=by unfold Tag.put;rw[if_pos ⟨h,h2⟩]
theorem Tag.Kt(g:Tag){lo hi k:Nat}(t:Nat×Nat)(h:hi<=k):Tag.put g lo hi t k=g k:=by unfold Tag.put;rw[if_neg zBk]
theorem Agree.put{w:World}(g:Tag){lo hi:Nat}(t:Nat×Nat)(h:w.heap.size<=lo):Agree w g (Tag.put g lo hi t):=fun k hk=>Tag.xW g t zBk
theorem sV.put{w w':World}{g:Tag}{lo:Nat}(t:Nat×Nat)(h:sV w g)(hs:w.heap.size<=w'.heap.size):sV w' (Tag.put g lo w'.heap.size t):=
 fun k hk=>by rw[Tag.Kt _ _ hk];exact h k zBk
structure Row (w:World) (g:Tag) (t:Nat×Nat) (e:TypeId) (v:Value) (xs:List Value):Prop where
 own:w.ownsRow 0 e 1 v xs.length xs
 tg:∀k,v.ownBlock=some k->g k=t
section
variable {w w':World} {g g':Tag} {t t':Nat×Nat} {e:TypeId} {v:Value} {xs:List Value}
theorem Row.keep(h:Row w g t e v xs){F:Nat->Prop}(ho:Only F w w')(hF:∀k,g k=t->¬F k)(hg:Agree w g g'):Row w' g' t e v xs:=⟨aI h.own ho fun k hk=>hF k (h.tg k hk),fun k hk=>(hg k (dX h.own hk)).trans (h.tg k hk)⟩
theorem Row.only(h:Row w g t e v xs){F:Nat->Prop}(ho:Only F w w')(hF:∀k,g k=t->¬F k):Row w' g t e v xs:=h.keep ho hF (Agree.refl _ _)
theorem Row.alloc(h:Row w g t e v xs)(o:Obj):Row (w.alloc o) g t e v xs:=h.only ((Only.refl (fun _=>False) _).alloc o) (fun _ _ f=>f)
theorem Row.drewN(h:Row w g t e v xs)(n:Nat):Row (w.drewN n) g t e v xs:=h.only ((Only.refl (fun _=>False) _).drewN n) (fun _ _ f=>f)
theorem Row.drew(h:Row w g t e v xs):Row w.drew g t e v xs:=h.only ((Only.refl (fun _=>False) _).drew) (fun _ _ f=>f)
theorem Row.far(h:Row w g t e v xs){p:Addr}(hp:g p.block≠t)(u:Value):Row (w.setCell p u) g t e v xs:=
 h.only (F:=fun k=>k=p.block) (Only.setCell (Only.refl (fun k=>k=p.block) w) (p:=p) (.inl rfl) u) (fun k hk hF=>hp (by rw[<-hF];exact hk))
theorem Row.shape(h:Row w g t e v xs):∃ao cap,v= .slice ao xs.length cap/\xs.length<=cap/\cap<=maxLen:=aC h.own
theorem Row.pos(h:Row w g t e v xs)(hn:0<xs.length):∃b cap,v= .slice (some ⟨b,0,none⟩) xs.length cap/\xs.length<=cap/\cap<=maxLen/\g b=t/\b<w.heap.size:=by obtain⟨b,cap,rfl,h1,h2⟩:=fJ h.own hn;exact⟨b,cap,rfl,h1,h2,h.tg b rfl,dX h.own rfl⟩
theorem Row.len{ao:Option Addr}{n cap:Nat}(h:Row w g t e (.slice ao n cap) xs):n=xs.length:=by obtain⟨_,_,he,_⟩:=h.shape;simp only[qU]at he;exact he.2.1
theorem Row.cell{b n cap:Nat}(h:Row w g t e (.slice (some ⟨b,0,none⟩) n cap) xs)(d:Value){i:Nat}(hi:i<xs.length):w.cell? ⟨b,i,none⟩=some (xs.getD i d):=by have hn:=h.len;subst hn;rw[h.own.cellAt i zBk];simp[List.getD,qA hi]
theorem Row.free{b n cap:Nat}(h:Row w g t e (.slice (some ⟨b,0,none⟩) n cap) xs)(i:Nat):w.frozen? ⟨b,i,none⟩=false:=by have hn:=h.len;subst hn;exact h.own.frozenAt i
theorem Row.store{b n cap:Nat}(h:Row w g t e (.slice (some ⟨b,0,none⟩) n cap) xs)(i:Nat)(u:Value):Row (w.setCell ⟨b,i,none⟩ u) g t e (.slice (some ⟨b,0,none⟩) n cap) (xs.set i u):=by have hn:=h.len;subst hn;refine⟨?_,h.tg⟩;have:=(h.own.stored i u).1;simpa using this
theorem Row.nil(w:World)(g:Tag)(t:Nat×Nat)(e:TypeId):Row w g t e bP []:=⟨World.ownsRow_nil _ _ _ _,fun k hk=>by simp[Value.ownBlock]at hk⟩
theorem Row.ints{ys:List Int}(h:Row w g t 3 v (ys.map cI))(hr:∀x∈ys,bU x):Ints w v ys:=Ints.fH (by simpa using h.own) hr
theorem Row.blk(h:Row w g t e v xs):∀k,Value.blk v=some k->g k=t:=by
 intro k hk;obtain⟨ao,cap,rfl,h1,h2⟩:=h.shape;rcases h.own.2 with⟨h',_⟩| ⟨g',cap',cur,h',hb,hg,h1,h2,h3,htake⟩;·rw[h']at hk;simp[Value.blk]at hk
 rw[h']at hk;simp[Value.blk]at hk;subst hk;exact h.tg _ (by rw[h'];rfl)
theorem Row.app{P:Program}{u:Value}{ops:Array Oper}{rest:List Oper}{o:Oper}{a:Act}{Q:Exit->Act->World->Prop}{tt:TypeId}{bytes:Nat}(T:BM P tt e 1 bytes)
  (hgd:o.guard=none) (s x:Operand)
  (ho:o.op= .call {callee:=.builtin .append,args:= #[s,x],argTypes:= #[tt,tt]})
  {gb:Nat} (hs:a.eval s=v) (hx:a.eval x= .slice (some ⟨gb,0,none⟩) 1 1) (hc:w.cell? ⟨gb,0,none⟩=some u) (hu:u.oneCell'=true) (h:Row w g t e v xs)
  (h63:xs.length+1<=1099511627776) (hbytes:bytes<=64)
  (hK:∀v' w',Row w' (Tag.put g w.heap.size w'.heap.size t) t e v' (xs++[u])->Only (fun k=>g k=t) w w'->wpList P ops Q rest (a.put o.dst v') w'):
  wpList P ops Q (o::rest) a w:=by
 refine tC T hgd s x ho hs hx hc hu h.own h63 hbytes ?_
 intro v' w' r1 r2 r3
 refine hK v' w' ⟨by simpa using r1,fun k hk=>?_⟩ (r2.mono fun k hk=>h.tg k hk)
 obtain⟨b,cap,rfl,_,_,hh⟩:=r3
 simp[Value.ownBlock]at hk
 subst hk
 rcases hh with hh|hh
 ·rw[Tag.xW _ _ (dX h.own hh)];exact h.tg _ hh
 ·exact Tag.Ah _ _ hh (dX r1 rfl)
theorem Row.step{P:Program}{u:Value}{ops:Array Oper}{o:Oper}{a:Act}{K:Act->World->Prop}{Q:Exit->Act->World->Prop}{E:Prop}{tt:TypeId}{bytes:Nat}(T:BM P tt e 1 bytes)
  (hgd:o.guard=none) (s x:Operand)
  (ho:o.op= .call {callee:=.builtin .append,args:= #[s,x],argTypes:= #[tt,tt]})
  {gb:Nat} (hs:a.eval s=v) (hx:a.eval x= .slice (some ⟨gb,0,none⟩) 1 1) (hc:w.cell? ⟨gb,0,none⟩=some u) (hu:u.oneCell'=true) (h:Row w g t e v xs)
  (h63:xs.length+1<=1099511627776) (hbytes:bytes<=64)
  (hK:∀bb cap w',Row w' (Tag.put g w.heap.size w'.heap.size t) t e (.slice (some ⟨bb,0,none⟩) (xs.length+1) cap) (xs++[u])->Only (fun k=>g k=t) w w'->K (a.put o.dst (.slice (some ⟨bb,0,none⟩) (xs.length+1) cap)) w'):
  if Region.wanted o (yielded ops a.tmps)=true then Oper.wp P o a w K Q else E:=by
 rw[if_pos zBL]
 obtain⟨v',w',hr,r1,r2,r3,r4⟩:=nY (P:=P) (ty:=o.type) w T v xs.length xs h.own ⟨gb,0,none⟩ 1 1 [u] rfl (by
  intro j x hj
  match j,hj with
  |0,hj=>
   simp at hj;subst hj
   simpa[Addr.add]using hc) (by intro x hxm;simp at hxm;subst hxm;exact hu) zBp (by
  have:(xs.length+1)*bytes<=1099511627776*64:=Nat.mul_le_mul h63 hbytes
  omega)
 unfold Oper.wp execOp
 simp only[ho,resolve,invoke,builtin,Sem.run_bind,Sem.run_pure,Result.andThen_ok,List.map_toArray,List.map_cons,List.map_nil,hs,hx,hr]
 obtain⟨bb,cap,rfl,hc1,hc2⟩:=fJ r1 zBk
 refine hK bb cap w' ⟨by simpa using r1,fun k hk=>?_⟩ (((Only.refl _ w).grown r2 fun k hk=>.inl hk).mono fun k hk=>h.tg k hk)
 exact zDY
end
theorem dh{w w':World}{F:Nat->Prop}{b i:Nat}{u:Value}(h:w.cell? ⟨b,i,none⟩=some u)(ho:Only F w w')(hb:¬F b):w'.cell? ⟨b,i,none⟩=some u:=by rw[World.cell?_of_block (w:=w) (ho.block b (World.block_lt_of_cell? w _ h) hb)];exact h
theorem tV{w w':World}{F:Nat->Prop}{b i:Nat}{u:Value}(h:w.cell? ⟨b,i,none⟩=some u)(hf:w.frozen? ⟨b,i,none⟩=false)(ho:Only F w w')(hb:¬F b):w'.frozen? ⟨b,i,none⟩=false:=by have:=ho.block b (World.block_lt_of_cell? w _ h) hb;unfold World.frozen? at*;rw[this];exact hf
theorem Po(w:World)(u:Value)(t:TypeId)(n:Nat)(h:n=w.heap.size):(w.alloc (.cells #[u] t)).cell? ⟨n,0,none⟩=some u:=by subst h;simp
abbrev Mine(g:Tag):Nat->Prop:=fun k=>(g k).1≠0
theorem Only.mine{g:Tag}{w w1 w2:World}{g1:Tag}(h:Only (Mine g) w w1)(hg:Agree w g g1)(h1:Only (Mine g1) w1 w2):Only (Mine g) w w2:=
 h.trans h1 fun i hi=>by
  by_cases c:i<w.heap.size
  ·left;unfold Mine at*;rw[hg i c]at hi;exact hi
  ·right;omega
def Tagged(g:Tag)(t:Nat×Nat)(v:Value)(xs:List Int):Prop:=0<xs.length->∀k,Value.blk v=some k->g k=t
def xX(g:Tag)(v:Value)(xs:List Int):Prop:=0<xs.length->∀k,Value.blk v=some k->(g k).1=0
theorem Ints.only'{w w':World}{v:Value}{xs:List Int}{F:Nat->Prop}(h:Ints w v xs)(ho:Only F w w')(hF:0<xs.length->∀b,Value.blk v=some b->¬F b):Ints w' v xs:=by refine⟨h.shape,fun ao len cap hv hp=>?_,h.range,h.nil⟩;obtain⟨b,off,rfl,hb,hc⟩:=h.cells ao len cap hv hp;refine⟨b,off,rfl,Nat.lt_of_lt_of_le hb ho.size,fun i hi=>?_⟩;rw[World.cell?_of_block (w:=w) (ho.block b hb (hF hp b (by rw[hv];rfl)))];exact hc i hi
theorem Ints.mine{w w':World}{g:Tag}{v:Value}{xs:List Int}(h:Ints w v xs)(hn:xX g v xs)(ho:Only (Mine g) w w'):Ints w' v xs:=h.only' ho fun hp b hb hF=>hF (hn hp b hb)
theorem Ints.F7{w w':World}{g:Tag}{t:Nat×Nat}{v:Value}{xs:List Int}{F:Nat->Prop}(h:Ints w v xs)(ht:Tagged g t v xs)(ho:Only F w w')(hF:∀k,g k=t->¬F k):Ints w' v xs:=h.only' ho fun hp b hb=>hF b (ht hp b hb)
theorem Ints.lt{w:World}{v:Value}{xs:List Int}(h:Ints w v xs)(hp:0<xs.length){k:Nat}(hk:Value.blk v=some k):k<w.heap.size:=by obtain⟨ao,cap,rfl,_,_⟩:=h.shape;obtain⟨b,off,rfl,hb,_⟩:=h.cells _ _ _ rfl hp;simp[Value.blk]at hk;omega
theorem Tagged.agree{w:World}{g g':Tag}{t:Nat×Nat}{v:Value}{xs:List Int}(ht:Tagged g t v xs)(h:Ints w v xs)(hg:Agree w g g'):Tagged g' t v xs:=fun hp k hk=>(hg k (h.lt hp hk)).trans (ht hp k hk)
theorem xX.agree{w:World}{g g':Tag}{v:Value}{xs:List Int}(ht:xX g v xs)(h:Ints w v xs)(hg:Agree w g g'):xX g' v xs:=
 fun hp k hk=>by rw[hg k (h.lt hp hk)];exact ht hp k hk
theorem lG.F7{w w':World}{us:List Value}{css:List (List Int)}(h:lG w us css){g:Tag}{t:Nat×Nat}{F:Nat->Prop}(ht:∀i,i<css.length->Tagged g t (us.getD i bP) (css.getD i []))(ho:Only F w w')(hF:∀k,g k=t->¬F k):lG w' us css:=⟨h.1,fun i hi=>(h.2 i hi).F7 (ht i hi) ho hF⟩
abbrev gJ:= @List.getElem_toArray
abbrev gU:= @List.getElem_cons_succ
abbrev gK:= @List.getElem_cons_zero
abbrev gu:= @List.setIfInBounds_toArray
abbrev gy:= @List.set_cons_zero
abbrev gG:= @List.set_cons_succ
theorem zr{F:Nat->Prop}{w:World}:Only F w w:=Only.refl F w
abbrev Str:=ByteArray
structure jY where
 lo:Str
 hi:Str
structure nZ where
 name:Str
 value:Str
structure jE where
 name:Str
 spans:List jY
 sets:List nZ
structure wJ where
 version:Str
 old:Bool
structure kS where
 name:Str
 values:List Str
structure uY where
 on:jE
 cond:jE
 line:Int
structure Ai where
 cond:jE
 with':jE
 line:Int
structure iT where
 name:Str
 line:Int
 bY:List wJ
 vars:List kS
 provides:List Str
 deps:List uY
 cons:List Ai
 files:List Str
structure TK where
 virtual:Str
 names:List Str
 line:Int
structure aH where
 packs:List iT
 iH:List TK
structure F8 where
 spec:jE
 line:Int
structure fV where
 roots:List F8
instance:Inhabited jY:=⟨⟨.empty,.empty⟩⟩
instance:Inhabited nZ:=⟨⟨.empty,.empty⟩⟩
instance:Inhabited jE:=⟨⟨.empty,[],[]⟩⟩
instance:Inhabited wJ:=⟨⟨.empty,false⟩⟩
instance:Inhabited kS:=⟨⟨.empty,[]⟩⟩
instance:Inhabited uY:=⟨⟨default,default,0⟩⟩
instance:Inhabited Ai:=⟨⟨default,default,0⟩⟩
instance:Inhabited iT:=⟨⟨.empty,0,[],[],[],[],[],[]⟩⟩
instance:Inhabited TK:=⟨⟨.empty,[],0⟩⟩
instance:Inhabited aH:=⟨⟨[],[]⟩⟩
instance:Inhabited F8:=⟨⟨default,0⟩⟩
instance:Inhabited fV:=⟨⟨[]⟩⟩
abbrev Kp(B:Nat)(w w':World):Prop:=Only (fun k=>B<=k) w w'
theorem Kp.iI{B:Nat}{w w':World}(h:O0 w w'):Kp B w w':=h.mono fun _ f=>f.elim
structure aQ {α:Type} (n:Nat) (C:Nat->World->List Value->α->Prop) (B:Nat) (w:World) (v:Value) (xs:List α):Prop where
 shape:∃ao cap,v= .slice ao xs.length cap/\xs.length<=cap/\cap<=9223372036854775807
 cells:∀ao len cap,v= .slice ao len cap->0<xs.length->∃b off,ao=some ⟨b,off,none⟩/\b<B/\B<=w.heap.size/\∀i (h:i<xs.length),∃cs,cs.length=n/\w.rangeAt b (off+i*n) cs/\C B w cs xs[i]
 nil:∀len cap,v= .slice none len cap->len=0/\cap=0
def Keeps{α:Type}(C:Nat->World->List Value->α->Prop):Prop:= ∀ ⦃B:Nat⦄ ⦃w w':World⦄ ⦃cs:List Value⦄ ⦃x:α⦄,C B w cs x->Kp B w w'->C B w' cs x
theorem dO{B b o:Nat}{w w':World}{cs:List Value}(h:w.rangeAt b o cs)(hb:b<B)(hB:B<=w.heap.size)(k:Kp B w w'):w'.rangeAt b o cs:=by intro j u hu;rw[World.cell?_of_block (w:=w) (k.block b zAC zBk)];exact h j u hu
theorem aQ.keep{α:Type}{n:Nat}{C:Nat->World->List Value->α->Prop}(hC:Keeps C){B:Nat}{w w':World}{v:Value}{xs:List α}(h:aQ n C B w v xs)(k:Kp B w w'):aQ n C B w' v xs:=by refine⟨h.shape,fun ao len cap hv hp=>?_,h.nil⟩;obtain⟨b,off,rfl,hb,hB,hc⟩:=h.cells ao len cap hv hp;refine⟨b,off,rfl,hb,qR hB k.size,fun i hi=>?_⟩;obtain⟨cs,hl,hr,hx⟩:=hc i hi;exact⟨cs,hl,dO hr hb hB k,hC hx k⟩
theorem aQ.nilRow{α:Type}{n:Nat}{C:Nat->World->List Value->α->Prop}{B:Nat}{w:World}:aQ n C B w bP ([]:List α):=
 ⟨⟨none,0,rfl,qH _,by decide⟩,fun _ _ _ _ hp=>by simp at hp,fun len cap hv=>by simp at hv;omega⟩
abbrev okS(s:Str):Prop:=s.size<=maxLen
def fM(_:Nat)(_:World)(cs:List Value)(x:Str):Prop:=cs=[.string x]/\okS x
def gq(_:Nat)(_:World)(cs:List Value)(x:jY):Prop:=cs=[.string x.lo,.string x.hi]/\okS x.lo/\okS x.hi
def lg(_:Nat)(_:World)(cs:List Value)(x:nZ):Prop:=cs=[.string x.name,.string x.value]/\okS x.name/\okS x.value
def uZ(_:Nat)(_:World)(cs:List Value)(x:wJ):Prop:=cs=[.string x.version,.bool x.old]/\okS x.version
def eF(B:Nat)(w:World)(cs:List Value)(x:jE):Prop:= ∃v1 v2,cs=[.string x.name,v1,v2]/\okS x.name/\aQ 2 gq B w v1 x.spans/\aQ 2 lg B w v2 x.sets
def pR(B:Nat)(w:World)(cs:List Value)(x:kS):Prop:= ∃v1,cs=[.string x.name,v1]/\okS x.name/\aQ 1 fM B w v1 x.values
def nC(B:Nat)(w:World)(cs:List Value)(x:uY):Prop:= ∃c1 c2,cs=c1++c2++[.int .i64 x.line]/\eF B w c1 x.on/\eF B w c2 x.cond/\bU x.line
def sU(B:Nat)(w:World)(cs:List Value)(x:Ai):Prop:= ∃c1 c2,cs=c1++c2++[.int .i64 x.line]/\eF B w c1 x.cond/\eF B w c2 x.with'/\bU x.line
def iU(B:Nat)(w:World)(cs:List Value)(x:iT):Prop:= ∃v1 v2 v3 v4 v5 v6,cs=[.string x.name,.int .i64 x.line,v1,v2,v3,v4,v5,v6]/\okS x.name/\bU x.line/\
 aQ 2 uZ B w v1 x.bY/\aQ 2 pR B w v2 x.vars/\aQ 1 fM B w v3 x.provides/\aQ 7 nC B w v4 x.deps/\aQ 7 sU B w v5 x.cons/\aQ 1 fM B w v6 x.files
def nS(B:Nat)(w:World)(cs:List Value)(x:TK):Prop:= ∃v1,cs=[.string x.virtual,v1,.int .i64 x.line]/\okS x.virtual/\bU x.line/\aQ 1 fM B w v1 x.names
def jl(B:Nat)(w:World)(cs:List Value)(x:aH):Prop:= ∃v1 v2,cs=[v1,v2]/\aQ 8 iU B w v1 x.packs/\aQ 3 nS B w v2 x.iH
def lY(B:Nat)(w:World)(cs:List Value)(x:F8):Prop:= ∃c1,cs=c1++[.int .i64 x.line]/\eF B w c1 x.spec/\bU x.line
def mV(B:Nat)(w:World)(cs:List Value)(x:fV):Prop:= ∃v1,cs=[v1]/\aQ 4 lY B w v1 x.roots
theorem fM.keep:Keeps fM:=fun _ _ _ _ _ h _=>h
theorem gq.keep:Keeps gq:=fun _ _ _ _ _ h _=>h
theorem lg.keep:Keeps lg:=fun _ _ _ _ _ h _=>h
theorem uZ.keep:Keeps uZ:=fun _ _ _ _ _ h _=>h
theorem eF.keep:Keeps eF:=fun _ _ _ _ _ ⟨v1,v2,h,a,b,c⟩ k=>⟨v1,v2,h,a,b.keep gq.keep k,c.keep lg.keep k⟩
theorem pR.keep:Keeps pR:=fun _ _ _ _ _ ⟨v1,h,a,b⟩ k=>⟨v1,h,a,b.keep fM.keep k⟩
theorem nC.keep:Keeps nC:=fun _ _ _ _ _ ⟨c1,c2,h,a,b,c⟩ k=>⟨c1,c2,h,eF.keep a k,eF.keep b k,c⟩
theorem sU.keep:Keeps sU:=fun _ _ _ _ _ ⟨c1,c2,h,a,b,c⟩ k=>⟨c1,c2,h,eF.keep a k,eF.keep b k,c⟩
theorem iU.keep:Keeps iU:=fun _ _ _ _ _ ⟨v1,v2,v3,v4,v5,v6,h,a,b,c1,c2,c3,c4,c5,c6⟩ k=>⟨v1,v2,v3,v4,v5,v6,h,a,b,c1.keep uZ.keep k,c2.keep pR.keep k,c3.keep fM.keep k,c4.keep nC.keep k,c5.keep sU.keep k,c6.keep fM.keep k⟩
theorem nS.keep:Keeps nS:=fun _ _ _ _ _ ⟨v1,h,a,b,c⟩ k=>⟨v1,h,a,b,c.keep fM.keep k⟩
theorem jl.keep:Keeps jl:=fun _ _ _ _ _ ⟨v1,v2,h,a,b⟩ k=>⟨v1,v2,h,a.keep iU.keep k,b.keep nS.keep k⟩
theorem lY.keep:Keeps lY:=fun _ _ _ _ _ ⟨c1,h,a,b⟩ k=>⟨c1,h,eF.keep a k,b⟩
theorem mV.keep:Keeps mV:=fun _ _ _ _ _ ⟨v1,h,a⟩ k=>⟨v1,h,a.keep lY.keep k⟩
def Lifts{α:Type}(C:Nat->World->List Value->α->Prop):Prop:= ∀ ⦃B B':Nat⦄ ⦃w:World⦄ ⦃cs:List Value⦄ ⦃x:α⦄,C B w cs x->B<=B'->B'<=w.heap.size->C B' w cs x
theorem aQ.lift{α:Type}{n:Nat}{C:Nat->World->List Value->α->Prop}(hC:Lifts C){B B':Nat}{w:World}{v:Value}{xs:List α}(h:aQ n C B w v xs)(h1:B<=B')(h2:B'<=w.heap.size):aQ n C B' w v xs:=by refine⟨h.shape,fun ao len cap hv hp=>?_,h.nil⟩;obtain⟨b,off,rfl,hb,hB,hc⟩:=h.cells ao len cap hv hp;refine⟨b,off,rfl,by omega,h2,fun i hi=>?_⟩;obtain⟨cs,hl,hr,hx⟩:=hc i hi;exact⟨cs,hl,hr,hC hx h1 h2⟩
theorem fM.lift:Lifts fM:=fun _ _ _ _ _ h _ _=>h
theorem gq.lift:Lifts gq:=fun _ _ _ _ _ h _ _=>h
theorem lg.lift:Lifts lg:=fun _ _ _ _ _ h _ _=>h
theorem uZ.lift:Lifts uZ:=fun _ _ _ _ _ h _ _=>h
theorem eF.lift:Lifts eF:=fun _ _ _ _ _ ⟨v1,v2,h,a,b,c⟩ k l=>⟨v1,v2,h,a,b.lift gq.lift k l,c.lift lg.lift k l⟩
theorem pR.lift:Lifts pR:=fun _ _ _ _ _ ⟨v1,h,a,b⟩ k l=>⟨v1,h,a,b.lift fM.lift k l⟩
theorem nC.lift:Lifts nC:=fun _ _ _ _ _ ⟨c1,c2,h,a,b,c⟩ k l=>⟨c1,c2,h,eF.lift a k l,eF.lift b k l,c⟩
theorem sU.lift:Lifts sU:=fun _ _ _ _ _ ⟨c1,c2,h,a,b,c⟩ k l=>⟨c1,c2,h,eF.lift a k l,eF.lift b k l,c⟩
theorem iU.lift:Lifts iU:=fun _ _ _ _ _ ⟨v1,v2,v3,v4,v5,v6,h,a,b,c1,c2,c3,c4,c5,c6⟩ k l=>⟨v1,v2,v3,v4,v5,v6,h,a,b,c1.lift uZ.lift k l,c2.lift pR.lift k l,c3.lift fM.lift k l,c4.lift nC.lift k l,c5.lift sU.lift k l,c6.lift fM.lift k l⟩
theorem nS.lift:Lifts nS:=fun _ _ _ _ _ ⟨v1,h,a,b,c⟩ k l=>⟨v1,h,a,b,c.lift fM.lift k l⟩
theorem jl.lift:Lifts jl:=fun _ _ _ _ _ ⟨v1,v2,h,a,b⟩ k l=>⟨v1,v2,h,a.lift iU.lift k l,b.lift nS.lift k l⟩
theorem lY.lift:Lifts lY:=fun _ _ _ _ _ ⟨c1,h,a,b⟩ k l=>⟨c1,h,eF.lift a k l,b⟩
theorem mV.lift:Lifts mV:=fun _ _ _ _ _ ⟨v1,h,a⟩ k l=>⟨v1,h,a.lift lY.lift k l⟩
section
variable {α:Type} {n:Nat} {C:Nat->World->List Value->α->Prop} {B:Nat} {w:World} {v:Value} {xs:List α}
theorem aQ.sh(h:aQ n C B w v xs):∃ao cap,v= .slice ao xs.length cap/\xs.length<=cap/\cap<=9223372036854775807:=h.shape
theorem aQ.at{ao:Option Addr}{len cap:Nat}(h:aQ n C B w (.slice ao len cap) xs)(hp:0<xs.length):∃b off,ao=some ⟨b,off,none⟩/\b<B/\B<=w.heap.size:=
 let ⟨b,off,e,h1,h2,_⟩:=h.cells ao len cap rfl hp
 ⟨b,off,e,h1,h2⟩
theorem aQ.get{b off len cap:Nat}(h:aQ n C B w (.slice (some ⟨b,off,none⟩) len cap) xs){i:Nat}{x:α}(hi:xs[i]? =some x):∃cs,cs.length=n/\w.rangeAt b (off+i*n) cs/\C B w cs x:=by obtain⟨hlt,rfl⟩:=qJ.1 hi;obtain⟨b',off',e,_,_,hc⟩:=h.cells _ _ _ rfl zBk;simp only[qG,qO,and_true]at e;obtain⟨rfl,rfl⟩:=e;exact hc i hlt
end
theorem iU.cells{B:Nat}{w:World}{cs:List Value}{x:iT}(h:iU B w cs x):∃o1 o2 o3 o4 o5 o6 c1 c2 c3 c4 c5 c6,cs=[.string x.name,.int .i64 x.line,.slice o1 x.bY.length c1,.slice o2 x.vars.length c2,.slice o3 x.provides.length c3,.slice o4 x.deps.length c4,.slice o5 x.cons.length c5,.slice o6 x.files.length c6]/\okS x.name/\bU x.line/\aQ 2 uZ B w (.slice o1 x.bY.length c1) x.bY/\aQ 2 pR B w (.slice o2 x.vars.length c2) x.vars/\aQ 1 fM B w (.slice o3 x.provides.length c3) x.provides/\aQ 7 nC B w (.slice o4 x.deps.length c4) x.deps/\aQ 7 sU B w (.slice o5 x.cons.length c5) x.cons/\aQ 1 fM B w (.slice o6 x.files.length c6) x.files:=by obtain⟨v1,v2,v3,v4,v5,v6,rfl,a,b,h1,h2,h3,h4,h5,h6⟩:=h;obtain⟨o1,c1,rfl,-,-⟩:=h1.shape;obtain⟨o2,c2,rfl,-,-⟩:=h2.shape;obtain⟨o3,c3,rfl,-,-⟩:=h3.shape;obtain⟨o4,c4,rfl,-,-⟩:=h4.shape;obtain⟨o5,c5,rfl,-,-⟩:=h5.shape;obtain⟨o6,c6,rfl,-,-⟩:=h6.shape;exact⟨o1,o2,o3,o4,o5,o6,c1,c2,c3,c4,c5,c6,rfl,a,b,h1,h2,h3,h4,h5,h6⟩
theorem eF.cells{B:Nat}{w:World}{cs:List Value}{x:jE}(h:eF B w cs x):∃o1 o2 c1 c2,cs=[.string x.name,.slice o1 x.spans.length c1,.slice o2 x.sets.length c2]/\okS x.name/\aQ 2 gq B w (.slice o1 x.spans.length c1) x.spans/\aQ 2 lg B w (.slice o2 x.sets.length c2) x.sets:=by obtain⟨v1,v2,rfl,a,h1,h2⟩:=h;obtain⟨o1,c1,rfl,-,-⟩:=h1.shape;obtain⟨o2,c2,rfl,-,-⟩:=h2.shape;exact⟨o1,o2,c1,c2,rfl,a,h1,h2⟩
section
variable {w w':World} {B:Nat}
theorem aQ.placed{α:Type}{n:Nat}{C:Nat->World->List Value->α->Prop}{ao:Option Addr}{len cap i:Nat}{xs:List α}{y:α}(h:aQ n C B w (.slice ao len cap) xs)(hx:xs[i]? =some y):∃b off cs,ao=some ⟨b,off,none⟩/\b<B/\B<=w.heap.size/\cs.length=n/\w.rangeAt b (off+i*n) cs/\C B w cs y:=by obtain⟨hlt,rfl⟩:=qJ.1 hx;obtain⟨b,off,rfl,h1,h2,hc⟩:=h.cells _ _ _ rfl zBk;obtain⟨cs,g1,g2,g3⟩:=hc i hlt;exact⟨b,off,cs,rfl,h1,h2,g1,g2,g3⟩
theorem uy{ao:Option Addr}{len cap i:Nat}{xs:List Str}{y:Str}(h:aQ 1 fM B w (.slice ao len cap) xs)(hx:xs[i]? =some y):∃(b off:Nat),ao=some ⟨b,off,none⟩/\okS y/\∀W,O0 w W->W.rangeAt b (off+i*1) [.string y]/\fM B W [.string y] y:=by obtain⟨b,off,cs,rfl,hb,hB,-,hr,hC⟩:=h.placed hx;have hC0:=hC;obtain⟨rfl,ok1⟩:=hC;exact⟨b,off,rfl,ok1,fun W ho=>⟨dO hr hb hB (Kp.iI ho),fM.keep hC0 (Kp.iI ho)⟩⟩
theorem TL{ao:Option Addr}{len cap i:Nat}{xs:List jY}{y:jY}(h:aQ 2 gq B w (.slice ao len cap) xs)(hx:xs[i]? =some y):∃(b off:Nat),ao=some ⟨b,off,none⟩/\okS y.lo/\okS y.hi/\∀W,O0 w W->W.rangeAt b (off+i*2) [.string y.lo,.string y.hi]/\gq B W [.string y.lo,.string y.hi] y:=by obtain⟨b,off,cs,rfl,hb,hB,-,hr,hC⟩:=h.placed hx;have hC0:=hC;obtain⟨rfl,ok1,ok2⟩:=hC;exact⟨b,off,rfl,ok1,ok2,fun W ho=>⟨dO hr hb hB (Kp.iI ho),gq.keep hC0 (Kp.iI ho)⟩⟩
theorem Yq{ao:Option Addr}{len cap i:Nat}{xs:List nZ}{y:nZ}(h:aQ 2 lg B w (.slice ao len cap) xs)(hx:xs[i]? =some y):∃(b off:Nat),ao=some ⟨b,off,none⟩/\okS y.name/\okS y.value/\∀W,O0 w W->W.rangeAt b (off+i*2) [.string y.name,.string y.value]/\lg B W [.string y.name,.string y.value] y:=by obtain⟨b,off,cs,rfl,hb,hB,-,hr,hC⟩:=h.placed hx;have hC0:=hC;obtain⟨rfl,ok1,ok2⟩:=hC;exact⟨b,off,rfl,ok1,ok2,fun W ho=>⟨dO hr hb hB (Kp.iI ho),lg.keep hC0 (Kp.iI ho)⟩⟩
theorem QH{ao:Option Addr}{len cap i:Nat}{xs:List wJ}{y:wJ}(h:aQ 2 uZ B w (.slice ao len cap) xs)(hx:xs[i]? =some y):∃(b off:Nat),ao=some ⟨b,off,none⟩/\okS y.version/\∀W,O0 w W->W.rangeAt b (off+i*2) [.string y.version,.bool y.old]/\uZ B W [.string y.version,.bool y.old] y:=by obtain⟨b,off,cs,rfl,hb,hB,-,hr,hC⟩:=h.placed hx;have hC0:=hC;obtain⟨rfl,ok1⟩:=hC;exact⟨b,off,rfl,ok1,fun W ho=>⟨dO hr hb hB (Kp.iI ho),uZ.keep hC0 (Kp.iI ho)⟩⟩
theorem F9{ao:Option Addr}{len cap i:Nat}{xs:List kS}{y:kS}(h:aQ 2 pR B w (.slice ao len cap) xs)(hx:xs[i]? =some y):∃(b off:Nat) (a1:Option Addr) (n1 c1:Nat),ao=some ⟨b,off,none⟩/\y.values.length=n1/\okS y.name/\∀W,O0 w W->W.rangeAt b (off+i*2) [.string y.name,.slice a1 n1 c1]/\aQ 1 fM B W (.slice a1 n1 c1) y.values/\pR B W [.string y.name,.slice a1 n1 c1] y:=by obtain⟨b,off,cs,rfl,hb,hB,-,hr,hC⟩:=h.placed hx;have hC0:=hC;obtain⟨v1,rfl,ok1,r1⟩:=hC;obtain⟨a1,c1,rfl,-,-⟩:=r1.shape;exact⟨b,off,a1,_,c1,rfl,rfl,ok1,fun W ho=>⟨dO hr hb hB (Kp.iI ho),r1.keep fM.keep (Kp.iI ho),pR.keep hC0 (Kp.iI ho)⟩⟩
theorem xY{ao:Option Addr}{len cap i:Nat}{xs:List uY}{y:uY}(h:aQ 7 nC B w (.slice ao len cap) xs)(hx:xs[i]? =some y):∃(b off:Nat) (a1:Option Addr) (n1 c1:Nat) (a2:Option Addr) (n2 c2:Nat) (a3:Option Addr) (n3 c3:Nat) (a4:Option Addr) (n4 c4:Nat),ao=some ⟨b,off,none⟩/\y.on.spans.length=n1/\y.on.sets.length=n2/\y.cond.spans.length=n3/\y.cond.sets.length=n4/\okS y.on.name/\okS y.cond.name/\bU y.line/\∀W,O0 w W->W.rangeAt b (off+i*7) [.string y.on.name,.slice a1 n1 c1,.slice a2 n2 c2,.string y.cond.name,.slice a3 n3 c3,.slice a4 n4 c4,.int .i64 y.line]/\aQ 2 gq B W (.slice a1 n1 c1) y.on.spans/\aQ 2 lg B W (.slice a2 n2 c2) y.on.sets/\aQ 2 gq B W (.slice a3 n3 c3) y.cond.spans/\aQ 2 lg B W (.slice a4 n4 c4) y.cond.sets/\nC B W [.string y.on.name,.slice a1 n1 c1,.slice a2 n2 c2,.string y.cond.name,.slice a3 n3 c3,.slice a4 n4 c4,.int .i64 y.line] y:=by obtain⟨b,off,cs,rfl,hb,hB,-,hr,hC⟩:=h.placed hx;have hC0:=hC;obtain⟨q1,q2,rfl,⟨v1,v2,rfl,ok1,r1,r2⟩,⟨v3,v4,rfl,ok2,r3,r4⟩,in1⟩:=hC;obtain⟨a1,c1,rfl,-,-⟩:=r1.shape;obtain⟨a2,c2,rfl,-,-⟩:=r2.shape;obtain⟨a3,c3,rfl,-,-⟩:=r3.shape;obtain⟨a4,c4,rfl,-,-⟩:=r4.shape;exact⟨b,off,a1,_,c1,a2,_,c2,a3,_,c3,a4,_,c4,rfl,rfl,rfl,rfl,rfl,ok1,ok2,in1,fun W ho=>⟨dO hr hb hB (Kp.iI ho),r1.keep gq.keep (Kp.iI ho),r2.keep lg.keep (Kp.iI ho),r3.keep gq.keep (Kp.iI ho),r4.keep lg.keep (Kp.iI ho),nC.keep hC0 (Kp.iI ho)⟩⟩
theorem QI{ao:Option Addr}{len cap i:Nat}{xs:List Ai}{y:Ai}(h:aQ 7 sU B w (.slice ao len cap) xs)(hx:xs[i]? =some y):∃(b off:Nat) (a1:Option Addr) (n1 c1:Nat) (a2:Option Addr) (n2 c2:Nat) (a3:Option Addr) (n3 c3:Nat) (a4:Option Addr) (n4 c4:Nat),ao=some ⟨b,off,none⟩/\y.cond.spans.length=n1/\y.cond.sets.length=n2/\y.with'.spans.length=n3/\y.with'.sets.length=n4/\okS y.cond.name/\okS y.with'.name/\bU y.line/\∀W,O0 w W->W.rangeAt b (off+i*7) [.string y.cond.name,.slice a1 n1 c1,.slice a2 n2 c2,.string y.with'.name,.slice a3 n3 c3,.slice a4 n4 c4,.int .i64 y.line]/\aQ 2 gq B W (.slice a1 n1 c1) y.cond.spans/\aQ 2 lg B W (.slice a2 n2 c2) y.cond.sets/\aQ 2 gq B W (.slice a3 n3 c3) y.with'.spans/\aQ 2 lg B W (.slice a4 n4 c4) y.with'.sets/\sU B W [.string y.cond.name,.slice a1 n1 c1,.slice a2 n2 c2,.string y.with'.name,.slice a3 n3 c3,.slice a4 n4 c4,.int .i64 y.line] y:=by obtain⟨b,off,cs,rfl,hb,hB,-,hr,hC⟩:=h.placed hx;have hC0:=hC;obtain⟨q1,q2,rfl,⟨v1,v2,rfl,ok1,r1,r2⟩,⟨v3,v4,rfl,ok2,r3,r4⟩,in1⟩:=hC;obtain⟨a1,c1,rfl,-,-⟩:=r1.shape;obtain⟨a2,c2,rfl,-,-⟩:=r2.shape;obtain⟨a3,c3,rfl,-,-⟩:=r3.shape;obtain⟨a4,c4,rfl,-,-⟩:=r4.shape;exact⟨b,off,a1,_,c1,a2,_,c2,a3,_,c3,a4,_,c4,rfl,rfl,rfl,rfl,rfl,ok1,ok2,in1,fun W ho=>⟨dO hr hb hB (Kp.iI ho),r1.keep gq.keep (Kp.iI ho),r2.keep lg.keep (Kp.iI ho),r3.keep gq.keep (Kp.iI ho),r4.keep lg.keep (Kp.iI ho),sU.keep hC0 (Kp.iI ho)⟩⟩
theorem jR{ao:Option Addr}{len cap i:Nat}{xs:List iT}{y:iT}(h:aQ 8 iU B w (.slice ao len cap) xs)(hx:xs[i]? =some y):∃(b off:Nat) (a1:Option Addr) (n1 c1:Nat) (a2:Option Addr) (n2 c2:Nat) (a3:Option Addr) (n3 c3:Nat) (a4:Option Addr) (n4 c4:Nat) (a5:Option Addr) (n5 c5:Nat) (a6:Option Addr) (n6 c6:Nat),ao=some ⟨b,off,none⟩/\y.bY.length=n1/\y.vars.length=n2/\y.provides.length=n3/\y.deps.length=n4/\y.cons.length=n5/\y.files.length=n6/\okS y.name/\bU y.line/\∀W,O0 w W->W.rangeAt b (off+i*8) [.string y.name,.int .i64 y.line,.slice a1 n1 c1,.slice a2 n2 c2,.slice a3 n3 c3,.slice a4 n4 c4,.slice a5 n5 c5,.slice a6 n6 c6]/\aQ 2 uZ B W (.slice a1 n1 c1) y.bY/\aQ 2 pR B W (.slice a2 n2 c2) y.vars/\aQ 1 fM B W (.slice a3 n3 c3) y.provides/\aQ 7 nC B W (.slice a4 n4 c4) y.deps/\aQ 7 sU B W (.slice a5 n5 c5) y.cons/\aQ 1 fM B W (.slice a6 n6 c6) y.files/\iU B W [.string y.name,.int .i64 y.line,.slice a1 n1 c1,.slice a2 n2 c2,.slice a3 n3 c3,.slice a4 n4 c4,.slice a5 n5 c5,.slice a6 n6 c6] y:=by obtain⟨b,off,cs,rfl,hb,hB,-,hr,hC⟩:=h.placed hx;have hC0:=hC;obtain⟨v1,v2,v3,v4,v5,v6,rfl,ok1,in1,r1,r2,r3,r4,r5,r6⟩:=hC;obtain⟨a1,c1,rfl,-,-⟩:=r1.shape;obtain⟨a2,c2,rfl,-,-⟩:=r2.shape;obtain⟨a3,c3,rfl,-,-⟩:=r3.shape;obtain⟨a4,c4,rfl,-,-⟩:=r4.shape;obtain⟨a5,c5,rfl,-,-⟩:=r5.shape;obtain⟨a6,c6,rfl,-,-⟩:=r6.shape;exact⟨b,off,a1,_,c1,a2,_,c2,a3,_,c3,a4,_,c4,a5,_,c5,a6,_,c6,rfl,rfl,rfl,rfl,rfl,rfl,rfl,ok1,in1,fun W ho=>⟨dO hr hb hB (Kp.iI ho),r1.keep uZ.keep (Kp.iI ho),r2.keep pR.keep (Kp.iI ho),r3.keep fM.keep (Kp.iI ho),r4.keep nC.keep (Kp.iI ho),r5.keep sU.keep (Kp.iI ho),r6.keep fM.keep (Kp.iI ho),iU.keep hC0 (Kp.iI ho)⟩⟩
theorem Gf{ao:Option Addr}{len cap i:Nat}{xs:List TK}{y:TK}(h:aQ 3 nS B w (.slice ao len cap) xs)(hx:xs[i]? =some y):∃(b off:Nat) (a1:Option Addr) (n1 c1:Nat),ao=some ⟨b,off,none⟩/\y.names.length=n1/\okS y.virtual/\bU y.line/\∀W,O0 w W->W.rangeAt b (off+i*3) [.string y.virtual,.slice a1 n1 c1,.int .i64 y.line]/\aQ 1 fM B W (.slice a1 n1 c1) y.names/\nS B W [.string y.virtual,.slice a1 n1 c1,.int .i64 y.line] y:=by obtain⟨b,off,cs,rfl,hb,hB,-,hr,hC⟩:=h.placed hx;have hC0:=hC;obtain⟨v1,rfl,ok1,in1,r1⟩:=hC;obtain⟨a1,c1,rfl,-,-⟩:=r1.shape;exact⟨b,off,a1,_,c1,rfl,rfl,ok1,in1,fun W ho=>⟨dO hr hb hB (Kp.iI ho),r1.keep fM.keep (Kp.iI ho),nS.keep hC0 (Kp.iI ho)⟩⟩
theorem wK{ao:Option Addr}{len cap i:Nat}{xs:List F8}{y:F8}(h:aQ 4 lY B w (.slice ao len cap) xs)(hx:xs[i]? =some y):∃(b off:Nat) (a1:Option Addr) (n1 c1:Nat) (a2:Option Addr) (n2 c2:Nat),ao=some ⟨b,off,none⟩/\y.spec.spans.length=n1/\y.spec.sets.length=n2/\okS y.spec.name/\bU y.line/\∀W,O0 w W->W.rangeAt b (off+i*4) [.string y.spec.name,.slice a1 n1 c1,.slice a2 n2 c2,.int .i64 y.line]/\aQ 2 gq B W (.slice a1 n1 c1) y.spec.spans/\aQ 2 lg B W (.slice a2 n2 c2) y.spec.sets/\lY B W [.string y.spec.name,.slice a1 n1 c1,.slice a2 n2 c2,.int .i64 y.line] y:=by obtain⟨b,off,cs,rfl,hb,hB,-,hr,hC⟩:=h.placed hx;have hC0:=hC;obtain⟨q1,rfl,⟨v1,v2,rfl,ok1,r1,r2⟩,in1⟩:=hC;obtain⟨a1,c1,rfl,-,-⟩:=r1.shape;obtain⟨a2,c2,rfl,-,-⟩:=r2.shape;exact⟨b,off,a1,_,c1,a2,_,c2,rfl,rfl,rfl,ok1,in1,fun W ho=>⟨dO hr hb hB (Kp.iI ho),r1.keep gq.keep (Kp.iI ho),r2.keep lg.keep (Kp.iI ho),lY.keep hC0 (Kp.iI ho)⟩⟩
end
end Go.Proofs.YtdmmebjjojimiaaGreatDoor
namespace Go.Proofs.YtdmmebjjojimiaaGreatDoor
def wL{α:Type}(p:α->Bool)(xs:List α):Int:=if xs.any p then (xs.findIdx p:Int)else -1
theorem Gg{α:Type}{p:α->Bool}{xs:List α}{k:Nat}{x:α}(hk:xs[k]? =some x)(hp:p x=true)(hn:∀y∈xs.take k,p y=false):wL p xs=k:=by obtain⟨hlt,rfl⟩:=qJ.1 hk;unfold wL;rw[if_pos (yU.2 ⟨xs[k],qZ hlt,hp⟩)];congr 1;rw[List.findIdx_eq hlt];refine⟨hp,fun j hj=>hn _ ?_⟩;rw[List.mem_take_iff_getElem];exact⟨j,by omega,rfl⟩
theorem Dx{α:Type}{p:α->Bool}{xs:List α}(hn:∀y∈xs,p y=false):wL p xs= -1:=by unfold wL;rw[if_neg];rw[yU];rintro⟨x,hx,hp⟩;rw[hn x hx]at hp;cases hp
theorem pU{α:Type}(p:α->Bool)(xs:List α):wL p xs= -1\/ ∃k:Nat,wL p xs=k/\k<xs.length/\∃x,xs[k]? =some x/\p x=true:=by
 unfold wL;split;·rename_i h;have hl:=List.findIdx_lt_length_of_exists (p:=p) (xs:=xs) (by simpa using h);exact .inr ⟨_,rfl,hl,_,qA hl,List.findIdx_getElem⟩
 exact .inl rfl
def intsOf(l:List Nat):List Int:=l.map fun i:Nat=>(i:Int)
def tX(l:List Str)(s:Str):Bool:=l.any fun t=>decide (t=s)
theorem KP{l:List Str}{s:Str}:tX l s=true↔s∈l:=by
 unfold tX;rw[yU];constructor;·rintro⟨t,ht,h⟩;rw[of_decide_eq_true h]at ht;exact ht
 intro h;exact⟨s,h,qX rfl⟩
def aH.find(x:aH)(s:Str):Int:=wL (fun p=>decide (p.name=s)) x.packs
def aH.pack(x:aH)(i:Nat):iT:=x.packs.getD i default
def aH.jI(x:aH)(s:Str)(k:Nat):List Nat:=(List.range k).filter fun i=>tX (x.pack i).provides s
def aH.eG(x:aH)(s:Str):List Nat:=x.jI s x.packs.length
def aH.targets(x:aH)(s:Str):List Nat:=if 0<=x.find s then [(x.find s).toNat]else x.eG s
theorem aH.Jt(x:aH)(s:Str)(k:Nat):x.jI s (k+1)=if tX (x.pack k).provides s=true then x.jI s k++[k]else x.jI s k:=by unfold aH.jI;rw[List.range_succ,List.filter_append];by_cases h:tX (x.pack k).provides s=true<;>simp[h]
theorem aH.vP(x:aH)(s:Str):x.find s<x.packs.length:=by
 rcases pU (fun p=>decide (p.name=s)) x.packs with h| ⟨k,h,hk,_⟩;·unfold aH.find;rw[h];omega
 unfold aH.find;rw[h];omega
theorem aH.tY{x:aH}{s:Str}{i:Nat}(h:i∈x.targets s):i<x.packs.length:=by
 unfold aH.targets at h;split at h;·have:=x.vP s;simp at h;omega
 unfold aH.eG aH.jI at h;simp at h;exact h.1
theorem aH.TM(x:aH)(s:Str):(x.targets s).length<=x.packs.length:=by
 unfold aH.targets;split;·have:=x.vP s;simp;omega
 unfold aH.eG aH.jI;have:=yO (fun i=>tX (x.pack i).provides s) (List.range x.packs.length);simpa using this
inductive aH.Reach (x:aH) (names:List Str):Nat->Prop where
 |root {s i}:s∈names->i∈x.targets s->Reach x names i
 |step {k d i}:Reach x names k->d∈(x.pack k).deps->i∈x.targets d.on.name->Reach x names i
theorem aH.Reach.lt{x:aH}{names:List Str}{i:Nat}(h:x.Reach names i):i<x.packs.length:=by
 cases h with
 |root _ h=>exact tY h
 |step _ _ h=>exact tY h
theorem aH.Reach.mono{x:aH}{a b:List Str}(hab:∀s∈a,s∈b){i:Nat}(h:x.Reach a i):x.Reach b i:=by
 induction h with
 |root h1 h2=>exact .root (hab _ h1) h2
 |step _ h2 h3 ih=>exact .step ih h2 h3
theorem aH.Reach.append{x:aH}{a b:List Str}{i:Nat}:x.Reach (a++b) i↔x.Reach a i\/x.Reach b i:=by
 constructor
 ·intro h;induction h with
  |root h1 h2=>
   rcases qW.1 h1 with h|h;·exact .inl (.root h h2)
   exact .inr (.root h h2)
  |step _ h2 h3 ih=>
   rcases ih with h|h;·exact .inl (.step h h2 h3)
   exact .inr (.step h h2 h3)
 rintro(h|h);·exact h.mono fun s hs=>List.mem_append_left _ hs
 exact h.mono fun s hs=>List.mem_append_right _ hs
open Classical in
noncomputable def aH.closure (x:aH) (names:List Str):List Nat:=(List.range x.packs.length).filter fun i=>decide (x.Reach names i)
theorem aH.lH{x:aH}{names:List Str}{i:Nat}:i∈x.closure names↔x.Reach names i:=by unfold aH.closure;rw[List.mem_filter];simp only[yI,yP];exact⟨fun h=>h.2,fun h=>⟨h.lt,h⟩⟩
theorem aH.KQ(x:aH)(names:List Str):(x.closure names).Pairwise (· < ·):=by unfold aH.closure;exact List.Pairwise.filter _ List.pairwise_lt_range
theorem aH.qm(x:aH)(names:List Str):(x.closure names).length<=x.packs.length:=by unfold aH.closure;have:=yO (fun i=> @decide (x.Reach names i) (Classical.propDecidable _)) (List.range x.packs.length);simpa using this
def iT.names(p:iT):List Str:=p.deps.map fun d=>d.on.name
def Met(x:aH)(roots:List Str)(ks:List Int)(s:Str):Prop:=s∈roots\/ ∃k:Nat,(k:Int)∈ks/\s∈(x.pack k).names
structure rD (x:aH) (roots:List Str) (ks:List Int) (A R:List Str):Prop where
 keys:∀z∈ks,∃i:Nat,z=i/\x.Reach roots i
 names:∀s,s∈A\/s∈R->∀i∈x.targets s,x.Reach roots i
 done:∀s,Met x roots ks s->s∈A\/s∈R\/ ∀i∈x.targets s,(i:Int)∈ks
theorem rD.start(x:aH)(roots:List Str):rD x roots [] roots []:=
 ⟨fun z hz=>(by cases hz),fun s hs i hi=>.root (by simpa using hs) hi,fun s hs=>by
  rcases hs with h| ⟨k,h,_⟩
  ·exact .inl h
  ·cases h⟩
theorem rD.pop{x:aH}{roots:List Str}{ks:List Int}{A:List Str}{s:Str}(h:rD x roots ks (s::A) []):rD x roots ks A [s]:=
 ⟨h.keys,fun t ht=>h.names t (by simp at ht⊢;rcases ht with h|h;exact .inr h;exact .inl h),fun t ht=>by
  have:=h.done t ht
  simp at this⊢
  rcases this with(h|h)|h
  ·exact .inr (.inl h)
  ·exact .inl h
  ·exact .inr (.inr h)⟩
theorem rD.key{x:aH}{roots:List Str}{ks ks':List Int}{A R:List Str}{s:Str}{i:Nat}(h:rD x roots ks A (R++[s]))(hi:i∈x.targets s)(hk:∀z,z∈ks'↔z∈ks\/z=i):rD x roots ks' A ((x.pack i).names++(R++[s])):=by
 have hr:x.Reach roots i:=h.names s (.inr zAM) i hi;refine⟨fun z hz=>?_,fun t ht j hj=>?_,fun t ht=>?_⟩
 ·rcases(hk z).1 hz with hz|rfl;·exact h.keys z hz
  exact⟨i,rfl,hr⟩
 ·rcases ht with ht|ht;·exact h.names t (.inl ht) j hj
  rcases qW.1 ht with ht|ht;·obtain⟨d,hd,rfl⟩:=yD.1 ht;exact .step hr hd hj
  exact h.names t (.inr ht) j hj
 have old:Met x roots ks t->t∈A\/t∈(x.pack i).names++(R++[s])\/ ∀j∈x.targets t,(j:Int)∈ks':=fun hm=>by
  rcases h.done t hm with h1|h1|h1;·exact .inl h1
  ·exact .inr (.inl (List.mem_append_right _ h1))
  exact .inr (.inr fun j hj=>(hk _).2 (.inl (h1 j hj)))
 rcases ht with ht| ⟨k,hkk,ht⟩;·exact old (.inl ht)
 rcases(hk _).1 hkk with h2|h2;·exact old (.inr ⟨k,h2,ht⟩)
 obtain rfl:k=i:=by omega
 exact .inr (.inl (List.mem_append_left _ ht))
theorem rD.push{x:aH}{roots:List Str}{ks:List Int}{A R:List Str}{s:Str}(h:rD x roots ks A (s::R)):rD x roots ks (A++[s]) R:=
 ⟨h.keys,fun t ht=>h.names t (by simp at ht⊢;rcases ht with(h|h)|h;exact .inl h;exact .inr (.inl h);exact .inr (.inr h)),fun t ht=>by
  have:=h.done t ht
  simp at this⊢
  rcases this with h| (h|h)|h
  ·exact .inl (.inl h)
  ·exact .inl (.inr h)
  ·exact .inr (.inl h)
  ·exact .inr (.inr h)⟩
theorem rD.drop{x:aH}{roots:List Str}{ks:List Int}{A:List Str}{s:Str}(h:rD x roots ks A [s])(hi:∀i∈x.targets s,(i:Int)∈ks):rD x roots ks A []:=
 ⟨h.keys,fun t ht=>h.names t (by simp at ht⊢;exact .inl ht),fun t ht=>by
  have:=h.done t ht
  simp at this⊢
  rcases this with h|rfl|h
  ·exact .inl h
  ·exact .inr hi
  ·exact .inr h⟩
theorem rD.fin{x:aH}{roots:List Str}{ks:List Int}(h:rD x roots ks [] [])(z:Int):z∈ks↔ ∃i:Nat,z=i/\i∈x.closure roots:=by
 constructor;·intro hz;obtain⟨i,rfl,hi⟩:=h.keys z hz;exact⟨i,rfl,aH.lH.2 hi⟩
 rintro⟨i,rfl,hi⟩;have hr:=aH.lH.1 hi;clear hi;induction hr with
 |root h1 h2=>
  rcases h.done _ (.inl h1)with h3|h3|h3;·cases h3
  ·cases h3
  exact h3 _ h2
 |step _ h2 h3 ih=>
  rename_i k d i _;rcases h.done d.on.name (.inr ⟨_,ih,yD.2 ⟨d,h2,rfl⟩⟩)with h4|h4|h4;·cases h4
  ·cases h4
  exact h4 _ h3
def aH.IC(x:aH)(ks:List Int):Nat:=((List.range x.packs.length).map fun i:Nat=>if (i:Int)∈ks then 0 else (x.pack i).deps.length).sum
theorem Eo(f g:Nat->Nat)(i c:Nat):∀l:List Nat,l.Nodup->i∈l->g i+c=f i->(∀j∈l,j≠i->g j=f j)->(l.map g).sum+c=(l.map f).sum
 | [],_,h,_,_=>by cases h
 |a::l,hn,hi,hc,ho=>by
  rw[List.nodup_cons]at hn
  rcases qY.1 hi with rfl|hi
  ·have:l.map g=l.map f:=List.map_congr_left fun j hj=>ho j (yE _ hj) fun e=>hn.1 (e▸hj)
   simp only[List.map_cons,List.sum_cons,this];omega
  ·have:=Eo f g i c l hn.2 hi hc fun j hj=>ho j (yE _ hj)
   have h2:=ho a qQ fun e=>hn.1 (e▸hi)
   simp only[List.map_cons,List.sum_cons,h2];omega
theorem aH.aeM{x:aH}{ks ks':List Int}{i:Nat}(hi:i<x.packs.length)(hn:(i:Int)∉ks)(hk:∀z,z∈ks'↔z∈ks\/z=i):x.IC ks'+(x.pack i).deps.length=x.IC ks:=by
 unfold aH.IC;refine Eo _ _ i _ _ List.nodup_range (yI.2 hi) ?_ fun j _ hj=>?_;·rw[if_pos ((hk _).2 (.inr rfl)),if_neg hn];omega
 have:((j:Int)∈ks')↔(j:Int)∈ks:=by
  rw[hk];constructor
  ·rintro(h|h);·exact h
   omega
  exact .inl
 by_cases h:(j:Int)∈ks;·rw[if_pos h,if_pos (this.2 h)]
 rw[if_neg h,if_neg (fun e=>h (this.1 e))]
theorem aH.ag3{x:aH}{M:Nat}(h:∀p∈x.packs,p.deps.length<=M)(ks:List Int):x.IC ks<=x.packs.length*M:=by
 have gen:∀l:List Nat,(∀i∈l,i<x.packs.length)->(l.map fun i:Nat=>if (i:Int)∈ks then 0 else (x.pack i).deps.length).sum<=l.length*M:=by
  intro l
  induction l with
  |nil=>intro _;simp
  |cons a l ih=>
   intro hl
   have h1:=ih fun i hi=>hl i (yE _ hi)
   have h2:(x.pack a).deps.length<=M:=by
    have ha:=hl a qQ
    unfold aH.pack
    rw[qC,qA ha]
    exact h _ (qZ ha)
   simp only[List.map_cons,List.sum_cons,qN,Nat.add_mul,Nat.one_mul]
   split<;>omega
 have:=gen (List.range x.packs.length) fun i hi=>yI.1 hi;simpa[aH.IC]using this
end Go.Proofs.YtdmmebjjojimiaaGreatDoor
namespace Go.Proofs
theorem zBt{p:Prop}(h:p:=by simp;omega):p:=h
end Go.Proofs
namespace Go.Proofs.YtdmmebjjojimiaaGreatDoor
open Go.RowKit
structure rE (w:World) (g:Tag) (t:Nat×Nat) (e:TypeId) (size:Nat) (v:Value) (n:Nat) (xs:List Value):Prop where
 own:w.ownsRow 0 e size v n xs
 tg:∀k,v.ownBlock=some k->g k=t
section
variable {w w':World} {g g':Tag} {t:Nat×Nat} {e:TypeId} {size n:Nat} {v:Value} {xs:List Value}
theorem rE.keep(h:rE w g t e size v n xs){F:Nat->Prop}(ho:Only F w w')(hF:∀k,g k=t->¬F k)(hg:Agree w g g'):rE w' g' t e size v n xs:=⟨aI h.own ho fun k hk=>hF k (h.tg k hk),fun k hk=>(hg k (dX h.own hk)).trans (h.tg k hk)⟩
theorem rE.only(h:rE w g t e size v n xs){F:Nat->Prop}(ho:Only F w w')(hF:∀k,g k=t->¬F k):rE w' g t e size v n xs:=h.keep ho hF (Agree.refl _ _)
theorem rE.alloc(h:rE w g t e size v n xs)(o:Obj):rE (w.alloc o) g t e size v n xs:=h.only ((Only.refl (fun _=>False) _).alloc o) (fun _ _ f=>f)
theorem rE.drew(h:rE w g t e size v n xs):rE w.drew g t e size v n xs:=h.only ((Only.refl (fun _=>False) _).drew) (fun _ _ f=>f)
theorem rE.drewN(h:rE w g t e size v n xs)(m:Nat):rE (w.drewN m) g t e size v n xs:=h.only ((Only.refl (fun _=>False) _).drewN m) (fun _ _ f=>f)
theorem rE.far(h:rE w g t e size v n xs){p:Addr}(hp:g p.block≠t)(u:Value):rE (w.setCell p u) g t e size v n xs:=
 h.only (F:=fun k=>k=p.block) (Only.setCell (Only.refl (fun k=>k=p.block) w) (p:=p) (.inl rfl) u) (fun k hk hF=>hp (by rw[<-hF];exact hk))
theorem rE.step{P:Program}{us:List Value}{ops:Array Oper}{o:Oper}{a:Act}{K:Act->World->Prop}{Q:Exit->Act->World->Prop}{E:Prop}{tt:TypeId}{bytes:Nat}(T:BM P tt e size bytes)
  (hgd:o.guard=none) (s x:Operand)
  (ho:o.op= .call {callee:=.builtin .append,args:= #[s,x],argTypes:= #[tt,tt]})
  {gb:Nat} (hs:a.eval s=v) (hx:a.eval x= .slice (some ⟨gb,0,none⟩) 1 1) (hul:us.length=size) (hc:∀j,j<us.length->w.cell? ⟨gb,j,none⟩=us[j]?) (hu:∀u∈us,u.oneCell'=true) (h:rE w g t e size v n xs)
  (h63:n+1<=1099511627776) (hbytes:bytes<=64)
  (hK:∀bb cap w',rE w' (Tag.put g w.heap.size w'.heap.size t) t e size (.slice (some ⟨bb,0,none⟩) (n+1) cap) (n+1) (xs++us)->Only (fun k=>g k=t) w w'->K (a.put o.dst (.slice (some ⟨bb,0,none⟩) (n+1) cap)) w'):
  if Region.wanted o (yielded ops a.tmps)=true then Oper.wp P o a w K Q else E:=by
 rw[if_pos zBL]
 obtain⟨v',w',hr,r1,r2,r3,r4⟩:=nY (P:=P) (ty:=o.type) w T v n xs h.own ⟨gb,0,none⟩ 1 1 us zBk (by
  intro j x hj
  have hj':=(qJ.1 hj).1
  have:=hc j hj'
  rw[Go.WideShapes.add_plain,Nat.zero_add,this];exact hj) hu zBp (by
  have:(n+1)*bytes<=1099511627776*64:=Nat.mul_le_mul h63 hbytes
  omega)
 unfold Oper.wp execOp
 simp only[ho,resolve,invoke,builtin,Sem.run_bind,Sem.run_pure,Result.andThen_ok,List.map_toArray,List.map_cons,List.map_nil,hs,hx,hr]
 obtain⟨bb,cap,rfl,hc1,hc2⟩:=fJ r1 zBk
 refine hK bb cap w' ⟨r1,fun k hk=>?_⟩ (((Only.refl _ w).grown r2 fun k hk=>.inl hk).mono fun k hk=>h.tg k hk)
 exact zDY
end
structure oH (w:World) (g:Tag) (t:Nat×Nat) (e:TypeId) (v:Value) (xs:List Value):Prop where
 form:(v= .slice none 0 0/\xs=[])\/ ∃b o cap,∃cur:Array Value,v= .slice (some ⟨b,o,none⟩) xs.length cap/\w.heap[b]? =some (.cells cur e (0,0))/\xs.length<=cap/\cap<=maxLen/\o+cap<=cur.size/\(cur.toList.drop o).take xs.length=xs
 tg:∀k,Value.blk v=some k->g k=t
section
variable {w w':World} {g g':Tag} {t:Nat×Nat} {e:TypeId} {v:Value} {xs:List Value}
theorem oH.lt(h:oH w g t e v xs):∀k,Value.blk v=some k->k<w.heap.size:=by
 intro k hk;rcases h.form with⟨rfl,_⟩| ⟨b,o,cap,cur,rfl,hb,_⟩;·simp[Value.blk]at hk
 simp[Value.blk]at hk;subst hk;exact dR hb
theorem oH.keep(h:oH w g t e v xs){F:Nat->Prop}(ho:Only F w w')(hF:∀k,g k=t->¬F k)(hg:Agree w g g'):oH w' g' t e v xs:=by
 refine⟨?_,fun k hk=>(hg k (h.lt k hk)).trans (h.tg k hk)⟩;rcases h.form with h1| ⟨b,o,cap,cur,rfl,hb,h1⟩;·exact .inl h1
 exact .inr ⟨b,o,cap,cur,rfl,aF hb ho (hF b (h.tg b rfl)),h1⟩
theorem oH.only(h:oH w g t e v xs){F:Nat->Prop}(ho:Only F w w')(hF:∀k,g k=t->¬F k):oH w' g t e v xs:=h.keep ho hF (Agree.refl _ _)
theorem oH.alloc(h:oH w g t e v xs)(o:Obj):oH (w.alloc o) g t e v xs:=h.only ((Only.refl (fun _=>False) _).alloc o) (fun _ _ f=>f)
theorem oH.drew(h:oH w g t e v xs):oH w.drew g t e v xs:=h.only ((Only.refl (fun _=>False) _).drew) (fun _ _ f=>f)
theorem oH.drewN(h:oH w g t e v xs)(m:Nat):oH (w.drewN m) g t e v xs:=h.only ((Only.refl (fun _=>False) _).drewN m) (fun _ _ f=>f)
theorem oH.far(h:oH w g t e v xs){p:Addr}(hp:g p.block≠t)(u:Value):oH (w.setCell p u) g t e v xs:=
 h.only (F:=fun k=>k=p.block) (Only.setCell (Only.refl (fun k=>k=p.block) w) (p:=p) (.inl rfl) u) (fun k hk hF=>hp (by rw[<-hF];exact hk))
theorem oH.shape(h:oH w g t e v xs):∃ao cap,v= .slice ao xs.length cap/\xs.length<=cap/\cap<=maxLen:=by
 rcases h.form with⟨rfl,rfl⟩| ⟨b,o,cap,cur,rfl,hb,h1,h2,_⟩;·exact zEI
 exact⟨_,cap,rfl,h1,h2⟩
theorem oH.nil(w:World)(g:Tag)(t:Nat×Nat)(e:TypeId):oH w g t e bP []:=⟨.inl ⟨rfl,rfl⟩,fun k hk=>by simp[Value.blk]at hk⟩
theorem oH.fH{n:Nat}(h:w.ownsRow 0 e 1 v n xs)(htg:∀k,v.ownBlock=some k->g k=t):oH w g t e v xs:=by
 have hn:xs.length=n:=by simpa using h.1
 subst hn;rcases h.2 with⟨h1,h2⟩| ⟨b,cap,cur,rfl,_,hb,h1,h2,h3,h4⟩;·refine⟨.inl ⟨h1,yF h2⟩,fun k hk=>?_⟩;rw[h1]at hk;simp[Value.blk]at hk
 refine⟨.inr ⟨b,0,cap,cur,rfl,hb,h1,h2,by omega,by simpa using h4⟩,fun k hk=>?_⟩;simp[Value.blk]at hk;exact htg k (by rw[<-hk];rfl)
theorem QJ{P:Program}{tt ty:TypeId}{bytes:Nat}(T:BM P tt e 1 bytes)(h:oH w g t e v xs)(a:Addr)(m c:Nat)(news:List Value)(hl:news.length=m)(hnews:∀j u,news[j]? =some u->w.cell? (a.add j)=some u)(h1:∀u∈news,u.oneCell'=true)(h63:xs.length+m<=1099511627776)(hbytes:bytes<=64):∃v' w',(Builtin.append_ #[tt,tt] ty #[v,.slice (some a) m c]).run P w= .ok v' w'/\oH w' (Tag.put g w.heap.size w'.heap.size t) t e v' (xs++news)/\Only (fun k=>g k=t) w w':=by
 have hbb:(xs.length+m)*bytes<=140737488355328:=by have:(xs.length+m)*bytes<=1099511627776*64:=Nat.mul_le_mul h63 hbytes;omega
 rcases h.form with⟨rfl,rfl⟩| ⟨b,o,cap,cur,rfl,hb,k1,k2,k3,k4⟩
 ·obtain⟨v',w',hr,r1,r2,r3,r4⟩:=nY (P:=P) (ty:=ty) w T (.slice none 0 0) 0 [] (World.ownsRow_nil _ _ _ _) a m c news zBk hnews h1 (by simp at h63;unfold maxLen;omega) (by simpa using hbb);refine⟨v',w',hr,oH.fH r1 (fun k hk=>?_),(Only.refl _ w).grown r2 fun k hk=>by simp[Value.ownBlock]at hk⟩;rcases r3 k hk with hh|hh;·simp[Value.ownBlock]at hh
  exact Tag.Ah _ _ hh (dX r1 hk)
 obtain⟨i,z,h2,h3,h4,h5,h6⟩:=T.info;have htb:g b=t:=h.tg b rfl;by_cases hroom:xs.length+m<=cap
 ·have hf:=run_firstCells_some (P:=P) w i.size m a m c news (by rw[h4];omega) hnews;have hst:=run_storeCells_at P b (o+xs.length) e news 0 cur w hb zBk h1;simp only[qF]at hst;refine⟨.slice (some ⟨b,o,none⟩) (xs.length+m) cap,w.setRow b (cur.toList.take (o+xs.length)++news++cur.toList.drop (o+xs.length+news.length)).toArray,?_,⟨.inr ⟨b,o,cap,_,?_,setRow_heap w b cur _ e _ hb,?_,k2,?_,?_⟩,?_⟩,?_⟩;·rw[h4]at hf;simp[Builtin.append_,run_underlying T.und,sizeOf,typeInfo,h2,h4,Builtin.lenOf,hroom,hf,Addr.add_mid,hst]
  ·simp[hl]
  ·simp;omega
  ·simp;omega
  ·have e1:(cur.toList.take (o+xs.length)).drop o=xs:=by rw[List.drop_take,show o+xs.length-o=xs.length by omega];exact k4
   have e2:(cur.toList.take (o+xs.length)++news++cur.toList.drop (o+xs.length+news.length)).drop o=xs++news++cur.toList.drop (o+xs.length+news.length):=by rw[yW,List.drop_append_of_le_length zBt,e1,yW]
   simp only[qK];rw[e2,<-qK,List.take_left]
  ·intro k hk;simp[Value.blk]at hk;subst hk;rw[Tag.xW _ _ (dR hb)];exact htb
  exact⟨rfl,rfl,rfl,by simp,fun k _ hk=>setRow_other w b k _ (fun e=>hk (by rw[e];exact htb))⟩
 have holds:∀j u,xs[j]? =some u->w.cell? ((⟨b,o,none⟩:Addr).add j)=some u:=by
  intro j u hj;have hj':=(qJ.1 hj).1;rw[Addr.add_mid,ah hb];have h7:((cur.toList.drop o).take xs.length)[j]? =some u:=by rw[k4];exact hj
  rw[List.getElem?_take_of_lt hj',List.getElem?_drop]at h7;simpa using h7
 obtain⟨v',w',hr,r1,r2⟩:=run_append_arg_grows (P:=P) w tt ty e i z 1 bytes T.und h2 h3 h4 h5 h6 T.pos ⟨b,o,none⟩ xs.length cap xs zB7 holds a m c news zAC hnews zBk (by unfold maxLen;omega) hbb;have r1':w'.ownsRow 0 e 1 v' (xs.length+m) (xs++news):=⟨r1.1,by
  rcases r1.2 with h| ⟨g',cap',cur',he,hg',h⟩
  ·exact .inl h
  ·exact .inr ⟨g',cap',cur',he,qE _,h⟩⟩
 refine⟨v',w',hr,oH.fH r1' (fun k hk=>?_),(Only.refl _ w).grown r2 fun k hk=>by cases hk⟩;exact Tag.Ah _ _ (r1.lt k hk).1 (r1.lt k hk).2
theorem oH.step{P:Program}{ops:Array Oper}{o:Oper}{a:Act}{K:Act->World->Prop}{Q:Exit->Act->World->Prop}{E:Prop}{tt:TypeId}{bytes:Nat}(T:BM P tt e 1 bytes)
  (hgd:o.guard=none) (s x:Operand)
  (ho:o.op= .call {callee:=.builtin .append,args:= #[s,x],argTypes:= #[tt,tt]})
  {ao:Option Addr} {m c:Nat} {news:List Value} (hs:a.eval s=v) (hx:a.eval x= .slice ao m c) (hl:news.length=m) (hnone:ao=none->m=0/\c=0) (hnews:∀ad,ao=some ad->∀j u,news[j]? =some u->w.cell? (ad.add j)=some u) (h1:∀u∈news,u.oneCell'=true) (h:oH w g t e v xs)
  (h63:xs.length+m<=1099511627776) (hbytes:bytes<=64)
  (hK:∀ao' cap w',oH w' (Tag.put g w.heap.size w'.heap.size t) t e (.slice ao' (xs.length+m) cap) (xs++news)->Only (fun k=>g k=t) w w'->K (a.put o.dst (.slice ao' (xs.length+m) cap)) w'):
  if Region.wanted o (yielded ops a.tmps)=true then Oper.wp P o a w K Q else E:=by
 rw[if_pos zBL]
 cases ao with
 |none=>
  obtain⟨rfl,rfl⟩:=hnone rfl
  have hn:news=[]:=yF hl
  subst hn
  obtain⟨i,z,h2,h3,h4,h5,h6⟩:=T.info
  obtain⟨ao',cap',rfl,hc,hm⟩:=h.shape
  have hr:(Builtin.append_ #[tt,tt] o.type #[.slice ao' xs.length cap',.slice none 0 0]).run P w= .ok (.slice ao' xs.length cap') w:=by
   cases ao' with
   |none=>simp[Builtin.append_,run_underlying T.und,sizeOf,typeInfo,h2,Builtin.lenOf,Builtin.firstCells,hc]
   |some ad=>simp[Builtin.append_,run_underlying T.und,sizeOf,typeInfo,h2,Builtin.lenOf,Builtin.firstCells,hc,storeCells]
  unfold Oper.wp execOp
  simp only[ho,resolve,invoke,builtin,Sem.run_bind,Sem.run_pure,Result.andThen_ok,List.map_toArray,List.map_cons,List.map_nil,hs,hx,hr]
  refine hK ao' cap' w ?_ zr
  have e:Tag.put g w.heap.size w.heap.size t=g:=by
   funext k;unfold Tag.put;rw[if_neg zBk]
  rw[e]
  simpa using h
 |some ad=>
  obtain⟨v',w',hr,r1,r2⟩:=QJ (P:=P) (ty:=o.type) T h ad m c news hl (hnews ad rfl) h1 h63 hbytes
  unfold Oper.wp execOp
  simp only[ho,resolve,invoke,builtin,Sem.run_bind,Sem.run_pure,Result.andThen_ok,List.map_toArray,List.map_cons,List.map_nil,hs,hx,hr]
  obtain⟨ao',cap',rfl,hc,hm⟩:=r1.shape
  have hlen:(xs++news).length=xs.length+m:=by simp[hl]
  rw[hlen]at r1⊢
  exact hK ao' cap' w' r1 r2
end
theorem alloc_at{w:World}{o:Obj}{n:Nat}(h:w.heap.size=n):(w.alloc o).heap[n]? =some o:=by subst h;exact qL w o
section
variable {w w':World} {B:Nat}
theorem KR{n:Nat}{F:Nat->List Value}:∀{k:Nat},(∀i,i<k->(F i).length=n)->((List.range k).flatMap F).length=k*n
 |0,_=>by simp
 |k+1,h=>by
  rw[List.range_succ,List.flatMap_append,qK,KR fun i hi=>h i zBk]
  simp[h k zBk,Nat.add_mul]
theorem flat_get{n:Nat}{F:Nat->List Value}:∀{k:Nat},(∀i,i<k->(F i).length=n)->∀{i j:Nat},i<k->j<n->((List.range k).flatMap F)[i*n+j]? =(F i)[j]?
 |0,_,_,_,h,_=>by omega
 |k+1,h,i,j,hi,hj=>by
  have hl:=KR (n:=n) (F:=F) (k:=k) fun i hi=>h i zBk
  rw[List.range_succ,List.flatMap_append]
  by_cases hk:i<k
  ·have:i*n+j<k*n:=by
    have:(i+1)*n<=k*n:=Nat.mul_le_mul_right _ hk
    rw[Nat.add_mul]at this;omega
   rw[yM (by rw[hl];exact this)]
   exact flat_get (fun i hi=>h i zBk) hk hj
  ·obtain rfl:i=k:=by omega
   rw[yN (by rw[hl];omega),hl]
   simp
theorem aQ.flat{α:Type}{n:Nat}(hn:0<n){C:Nat->World->List Value->α->Prop}{ao:Option Addr}{len cap:Nat}{xs:List α}(h:aQ n C B w (.slice ao len cap) xs):∃F:Nat->List Value,(∀i (hi:i<xs.length),(F i).length=n/\C B w (F i) xs[i])/\((List.range xs.length).flatMap F).length=xs.length*n/\(∀ad,ao=some ad->∀j u,((List.range xs.length).flatMap F)[j]? =some u->w.cell? (ad.add j)=some u):=by
 by_cases h0:0<xs.length
 ·obtain⟨b,off,rfl,_,_,hc⟩:=h.cells _ _ _ rfl h0;obtain⟨F,hF⟩:=Go.Deep.choose_lt (α:=List Value) (n:=xs.length) (p:=fun i cs=> ∃hi:i<xs.length,cs.length=n/\w.rangeAt b (off+i*n) cs/\C B w cs xs[i]) (fun i hi=>by
   obtain⟨cs,h1,h2,h3⟩:=hc i hi
   exact⟨cs,hi,h1,h2,h3⟩)
  have hl:=KR (n:=n) (F:=F) (k:=xs.length) fun i hi=>(hF i hi).2.1;refine⟨F,fun i hi=>⟨(hF i hi).2.1,(hF i hi).2.2.2⟩,hl,fun ad had j u hu=>?_⟩;obtain rfl:=Option.some.inj had;have hj:=(qJ.1 hu).1;rw[hl]at hj;have hi:j/n<xs.length:=Nat.div_lt_of_lt_mul (by rw[Nat.mul_comm];exact hj);have hjn:j%n<n:=Nat.mod_lt _ hn;have hdm:j/n*n+j%n=j:=by rw[Nat.mul_comm];exact Nat.div_add_mod j n
  rw[<-hdm,flat_get (fun i hi=>(hF i hi).2.1) hi hjn]at hu;have:=(hF (j/n) hi).2.2.1 (j%n) u hu;rw[Go.WideShapes.add_plain,<-hdm,<-Nat.add_assoc];exact this
 obtain rfl:xs=[]:=yF zBk;exact⟨fun _=>[],fun i hi=>by simp at hi,by simp,fun ad _ j u hu=>by simp at hu⟩
theorem aQ.fH{α:Type}{n:Nat}{C:Nat->World->List Value->α->Prop}{e:TypeId}{v:Value}{xs:List α}{cs:List Value}(h:w.ownsRow 0 e n v xs.length cs)(hx:∀i (hi:i<xs.length),∃c,c.length=n/\(∀j u,c[j]? =some u->cs[i*n+j]? =some u)/\C w.heap.size w c xs[i]):aQ n C w.heap.size w v xs:=by obtain⟨ao,cap,rfl,h1,h2⟩:=aC h;unfold maxLen at h2;refine⟨⟨ao,cap,rfl,h1,by omega⟩,fun ao' len' cap' hv hp=>?_,fun len' cap' hv=>by rw[hv]at h;exact QG h⟩;simp only[qU]at hv;obtain⟨rfl,rfl,rfl⟩:=hv;obtain⟨g,cap',he,_,_⟩:=fJ h hp;simp only[qU]at he;obtain⟨rfl,-,rfl⟩:=he;refine⟨g,0,rfl,dX h rfl,qH _,fun i hi=>?_⟩;obtain⟨c,g1,g2,g3⟩:=hx i hi;refine⟨c,g1,fun j u hu=>?_,g3⟩;have:=g2 j u hu;rw[Nat.zero_add];have h2:=h.cells (g:=g) rfl _ _ this;rw[Go.WideShapes.add_plain,Nat.zero_add]at h2;exact h2
theorem EP{P:Program}{ops:Array Oper}{o:Oper}{a:Act}{K:Act->World->Prop}{Q:Exit->Act->World->Prop}{E:Prop}{tt e:TypeId}{size bytes:Nat}(T:BM P tt e size bytes)
  (hgd:o.guard=none) (s x:Operand)
  (ho:o.op= .call {callee:=.builtin .append,args:= #[s,x],argTypes:= #[tt,tt]})
  {v:Value} {n:Nat} {xs:List Value} {ao:Option Addr} {m c:Nat} {news:List Value} (hs:a.eval s=v) (hown:w.ownsRow 0 e size v n xs) (hx:a.eval x= .slice ao m c) (hl:news.length=m*size) (hnone:ao=none->m=0/\c=0)
  (hnews:∀ad,ao=some ad->∀j u,news[j]? =some u->w.cell? (ad.add j)=some u) (h1:∀u∈news,u.oneCell'=true)
  (h63:n+m<=1099511627776) (hbytes:bytes<=128)
  (hK:∀ao' cap w',w'.ownsRow 0 e size (.slice ao' (n+m) cap) (n+m) (xs++news)->Only (fun k=>v.ownBlock=some k) w w'->Wq w v (.slice ao' (n+m) cap)->K (a.put o.dst (.slice ao' (n+m) cap)) w'):
  if Region.wanted o (yielded ops a.tmps)=true then Oper.wp P o a w K Q else E:=by
 rw[if_pos zBL]
 cases ao with
 |none=>
  obtain⟨rfl,rfl⟩:=hnone rfl
  have hn:news=[]:=yF (by simpa using hl)
  subst hn
  obtain⟨i,z,h2,h3,h4,h5,h6⟩:=T.info
  have hr:=run_append_owned_none (P:=P) w 0 tt o.type e i size T.und h2 v n xs hown
  obtain⟨ao',cap',rfl,_,_⟩:=aC hown
  unfold Oper.wp execOp
  simp only[ho,resolve,invoke,builtin,Sem.run_bind,Sem.run_pure,Result.andThen_ok,List.map_toArray,List.map_cons,List.map_nil,hs,hx,hr]
  exact hK ao' cap' w (by simpa using hown) zr (fun k hk=>.inl hk)
 |some ad=>
  have hmul:(n+m)*bytes<=1099511627776*128:=Nat.mul_le_mul h63 hbytes
  obtain⟨v',w',hr,r1,r2,r3,-⟩:=nY (P:=P) (ty:=o.type) w T v n xs hown ad m c news hl (hnews ad rfl) h1 zAe zBk
  unfold Oper.wp execOp
  simp only[ho,resolve,invoke,builtin,Sem.run_bind,Sem.run_pure,Result.andThen_ok,List.map_toArray,List.map_cons,List.map_nil,hs,hx,hr]
  obtain⟨ao',cap',rfl,_,_⟩:=aC r1
  exact hK ao' cap' w' r1 ((Only.refl _ w).grown r2 fun k hk=>.inl hk) r3
end
structure CG (w0 w:World) (v:Value) (us:List Value) (css:List (List Int)):Prop where
 row:w.ownsRow 0 78 1 v us.length us
 ints:lG w us css
 new:∀k,v.ownBlock=some k->w0.heap.size<=k
 apart:∀i,i<css.length->0<(css.getD i []).length->∀k,Value.blk (us.getD i bP)=some k->v.ownBlock≠some k
theorem CG.Uf{w0 w:World}{v:Value}{us:List Value}{css:List (List Int)}(h:CG w0 w v us css):En w v css:=⟨us,Cells.fH h.row,h.ints⟩
theorem CG.aN{w0 w w':World}{v:Value}{us:List Value}{css:List (List Int)}(h:CG w0 w v us css)(ho:O0 w w'):CG w0 w' v us css:=⟨aI h.row ho (fun _ _ f=>f),h.ints.aN ho,h.new,h.apart⟩
theorem CG.snoc{w0 w w':World}{v v':Value}{us:List Value}{css:List (List Int)}(h:CG w0 w v us css)(hw:w0.heap.size<=w.heap.size){u:Value}{f:List Int}(hu:Ints w u f)(hua:0<f.length->∀k,Value.blk u=some k->v.ownBlock≠some k)(s1:w'.ownsRow 0 78 1 v' (us.length+1) (us++[u]))(s2:Only (fun k=>v.ownBlock=some k) w w')(s3:BN w v v' (us.length+1)):CG w0 w' v' (us++[u]) (css++[f]):=by
 have hl:=h.ints.1;have hold:∀i,i<css.length->Ints w' (us.getD i bP) (css.getD i []):=fun i hi=>(h.ints.2 i hi).only' s2 (fun hp b hb=>h.apart i hi hp b hb);have hnew:Ints w' u f:=hu.only' s2 hua;have hall:lG w' (us++[u]) (css++[f]):=lG.snoc ⟨hl,hold⟩ hnew;obtain⟨g,cap,rfl,_,_,hg⟩:=s3;refine⟨by simpa using s1,hall,fun k hk=>?_,fun i hi hp k hk hF=>?_⟩
 ·simp[Value.ownBlock]at hk;subst hk;rcases hg with hg|hg;·exact h.new _ hg
  omega
 simp only[Value.ownBlock,qG]at hF;subst hF;by_cases hi':i<css.length
 ·rw[tJ _ _ _ zBk]at hk;rw[tJ _ _ _ hi']at hp;rcases hg with hg|hg;·exact h.apart i hi' hp _ hk hg
  have:=(h.ints.2 i hi').lt hp hk;omega
 have:i=css.length:=by simp at hi;omega
 subst this;rw[tN _ _ _ zBk,hl]at hk;rw[tN _ _ _ zBk]at hp;simp at hk hp;rcases hg with hg|hg;·exact hua (by simpa using hp) _ hk hg
 have:=hu.lt (by simpa using hp) hk;omega
theorem CG.nil(w0 w:World):CG w0 w (.slice none 0 0) [] []:=
 ⟨World.ownsRow_nil _ _ _ _,⟨rfl,fun i hi=>by simp at hi⟩,fun k hk=>by simp[Value.ownBlock]at hk,fun i hi=>by simp at hi⟩
theorem WM(xs:List (List Int))(k:Nat)(h:k<xs.length):xs.take (k+1)=xs.take k++[xs.getD k []]:=by rw[yL h];simp[qC,h]
end Go.Proofs.YtdmmebjjojimiaaGreatDoor
