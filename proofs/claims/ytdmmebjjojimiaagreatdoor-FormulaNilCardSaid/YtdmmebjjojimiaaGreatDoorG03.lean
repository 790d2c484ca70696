/- Region Region2 Region3 Region4, in one text.; RowZ RowO, in one text. -/
import Derived.Test.YtdmmebjjojimiaaGreatDoorG01
import Derived.Deep.RegionHeld3
set_option maxRecDepth 100000
set_option maxHeartbeats 8000000
set_option linter.all false
namespace Go.Proofs
theorem zBR{p:Prop}(h:p:=by omega):p:=h
theorem zDL{p:Prop}(h:p:=by
 rw[hr]
 simp only[Oper.upon]
 refine hc.mono fun e w' he=>?_
 obtain⟨rfl,rfl⟩:=he
 exact h):p:=h
end Go.Proofs
namespace Go.Proofs.YtdmmebjjojimiaaGreatDoor
section
variable {P:Program} {ops:Array Oper} {Q:Exit->Act->World->Prop} {o:Oper}
def pX(P:Program)(ops:Array Oper)(o:Oper)(Q:Exit->Act->World->Prop):Exit->Act->World->Prop
 | .normal,a,w=>wpList P ops Q [o] a w
 | .panic _,_,_=>False
 |e,a,w=>Q e a w
theorem zN(h:LetsOut (pX P ops o Q)):LetsOut Q:=h
theorem aaB{o':Oper}{a:Act}{w:World}{K K':Act->World->Prop}(h:∀a w,K a w->K' a w)(hh:o'.wp P a w K (pX P ops o Q)):o'.wp P a w K' Q:=by
 unfold Oper.wp at*;generalize (execOp a.eval o').run P w=r at*;cases r with
 |ok n w'=>
  cases n<;>simp only[Oper.upon]at hh⊢;case value=>exact h _ _ hh
  case skip=>exact h _ _ hh
  case defer=>exact h _ _ hh
  case enter=>
   refine Calls.mono hh (fun e w'' he=>?_)
   cases e with
   |returned v=>exact h _ _ he
   |panicked c=>exact(he:False).elim
   |outgrown=>exact zN he
  case row=>exact Rows.mono hh (fun _ _ he=>h _ _ he)
 |halt x w'=>cases x<;>simp only[Oper.upon]at hh⊢;case panic=>exact(hh:False).elim
theorem U5{i:Nat}{a:Act}{w:World}{K K':Act->World->Prop}(h:∀a w,K a w->K' a w)(hh:wpOp P ops (pX P ops o Q) i K a w):wpOp P ops Q i K' a w:=by
 unfold wpOp at*;split;·exact h _ _ (by simpa[*]using hh)
 rename_i o' ho;simp only[ho]at hh;split;·rename_i hw;simp only[hw,if_true]at hh;exact hh.imp (aaB h) (fun⟨h1,h2⟩=>⟨h1,zN h2⟩)
 rename_i hw;simp only[hw]at hh;exact h _ _ hh
theorem Hr{listed:Array Bool}{i:Nat}(h:i<listed.size)(d:Bool):(listed.setIfInBounds i true).getD i d=true:=by simp[Array.getD,h]
end
section
variable {P:Program} {ops:Array Oper} {Q:Exit->Act->World->Prop} {o:Oper}
def yc(ops:Array Oper)(n:Nat):Bool:=
 ops.size==n+1&&((ops[n]?).map fun o=>o.guard.isNone).getD false&&((List.range n).all fun j=>(List.range (n+1)).any fun i=>decide (j<i)&&((ops[i]?).map fun oi=>oi.after.any fun e=>Region.binds .any e&&e.on==j).getD false)&&
  (List.range (n+1)).all fun i=>((ops[i]?).map fun o=>o.after.all fun e=>decide (e.on<i)).getD false
structure zO (ops:Array Oper) (n:Nat) (o:Oper):Prop where
 size:ops.size=n+1
 at_:ops[n]? =some o
 guard:o.guard=none
 waits:∀j,j<n->∃i oi,j<i/\i<n+1/\ops[i]? =some oi/\∃e∈oi.after,Region.binds .any e=true/\e.on=j
 early:∀i oi,i<n+1->ops[i]? =some oi->∀e∈oi.after,e.on<i
theorem Ht{n:Nat}(ho:ops[n]? =some o)(h:yc ops n=true):zO ops n o:=by
 unfold yc at h;rw[ho]at h;simp only[Option.map_some,Option.getD_some,Bool.and_eq_true,beq_iff_eq,List.all_eq_true,yU,yI,Option.isNone_iff_eq_none,yP]at h;obtain⟨⟨⟨h1,h2⟩,h3⟩,h4⟩:=h;refine⟨h1,ho,h2,fun j hj=>?_,fun i oi hi hoi e he=>?_⟩;·obtain⟨i,hi,hji,h5⟩:=h3 j hj;obtain⟨oi,hoi⟩:∃oi,ops[i]? =some oi:=⟨ops[i]'zBR,Array.getElem?_eq_getElem _⟩;rw[hoi]at h5;simp only[Option.map_some,Option.getD_some]at h5;rw[Array.any_eq_true]at h5;obtain⟨k,hk,h6⟩:=h5;simp only[Bool.and_eq_true,beq_iff_eq]at h6;exact⟨i,oi,hji,hi,hoi,_,Array.getElem_mem hk,h6⟩
 have h5:=h4 i hi;rw[hoi]at h5;simp only[Option.map_some,Option.getD_some,Array.all_eq_true_iff_forall_mem,yP]at h5;exact h5 e he
def Closed(ops:Array Oper)(listed:Array Bool):Prop:= ∀i oi,ops[i]? =some oi->listed.getD i false=true->∀e∈oi.after,Region.binds .any e=true->listed.getD e.on false=true
theorem Closed.add{listed:Array Bool}{i:Nat}(h:Closed ops listed)(hi:i∈Region.ready .any ops listed):Closed ops (listed.setIfInBounds i true):=by
 intro k ok hok hk e he hb;obtain⟨h0,oi,hoi,hall⟩:=mem_ready.1 hi;by_cases c:i=k;·subst c;rw[hoi]at hok;obtain rfl:=Option.some.inj hok;exact getD_set_true (hall e he hb)
 rw[getD_set_ne false c]at hk;exact getD_set_true (h k ok hok hk e he hb)
theorem QB{n:Nat}(L:zO ops n o){listed:Array Bool}(hc:Closed ops listed)(hn:n∈Region.ready .any ops listed):∀m j,n-j=m->j<n->listed.getD j false=true:=by
 intro m;induction m using Nat.strongRecOn with
 |ind m ih=>
  intro j hm hj;obtain⟨i,oi,h1,h2,h3,e,he,hb,heo⟩:=L.waits j hj;by_cases c:i=n;·subst c;obtain⟨_,oi',hoi',hall⟩:=mem_ready.1 hn;rw[h3]at hoi';obtain rfl:=Option.some.inj hoi';rw[<-heo];exact hall e he hb
  rw[<-heo];exact hc i oi h3 (ih (n-i) (by omega) i rfl zBR) e he hb
theorem Na{n:Nat}(L:zO ops n o){listed:Array Bool}{i:Nat}(hi:i∈Region.ready .any ops (listed.setIfInBounds n true))(hs:n<listed.size):i<n/\i∈Region.ready .any ops listed:=by
 rw[mem_ready]at*;obtain⟨h0,oi,ho,hall⟩:=hi;have hne:n≠i:=by intro e;subst e;rw[Hr hs]at h0;cases h0
 have hlt:i<n:=by have:=(yA.1 ho).1;have:=L.size;omega
 refine⟨hlt,by rw[getD_set_ne true hne]at h0;exact h0,oi,ho,fun e he hb=>?_⟩;have h1:=hall e he hb;have h2:=L.early i oi zBR ho e he;rw[getD_set_ne false zBR]at h1;exact h1
theorem Nb{n:Nat}(L:zO ops n o){listed:Array Bool}(hs:listed.size=ops.size)(h:Region.ready .any ops (listed.setIfInBounds n true)=[]):∀j,j<n->listed.getD j false=true:=by
 intro j;induction j using Nat.strongRecOn with
 |ind j ih=>
  intro hj;cases hc:listed.getD j false with
  |true=>rfl
  |false=>
   exfalso;have hsz:=L.size;have hlt:j<ops.size:=zBR;obtain⟨oj,hoj⟩:∃oj,ops[j]? =some oj:=⟨ops[j],by simp[hlt]⟩;have hm:j∈Region.ready .any ops (listed.setIfInBounds n true):=by
    rw[mem_ready];refine⟨?_,oj,hoj,fun e he hb=>?_⟩;·rw[getD_set_ne true zBR];have:j<listed.size:=zBR;simp[Array.getD,this]at hc⊢;exact hc
    have he1:=L.early j oj zBR hoj e he;exact getD_set_true (ih e.on he1 zBR)
   rw[h]at hm;cases hm
theorem Nc{n:Nat}(L:zO ops n o):∀(fuel:Nat) (listed:Array Bool) (a:Act) (w:World),listed.size=ops.size->listed.getD n true=false->Closed ops listed->wpAny P .any ops (pX P ops o Q) fuel (listed.setIfInBounds n true) a w->wpAny P .any ops Q (fuel+1) listed a w:=by
 have hsz:=L.size; -- where the others are through
 have fin:∀(fuel:Nat) (listed:Array Bool) (a:Act) (w:World),listed.size=ops.size->listed.getD n true=false->Region.ready .any ops (listed.setIfInBounds n true)=[]->
   pX P ops o Q .normal a w->wpAny P .any ops Q (fuel+1) listed a w:=by
  intro fuel listed a w hs hn hr hq
  have hall:=Nb L hs hr
  have hmem:n∈Region.ready .any ops listed:=by
   rw[mem_ready]
   exact⟨hn,o,L.at_,fun e he hb=>by
    rcases yK e.on n with h|h
    ·exact hall _ h
    ·have:=L.early n o zBR L.at_ e he;omega⟩
  refine⟨fun h=>(by rw[h]at hmem;cases hmem),fun i hi=>?_⟩
  by_cases e:i=n
  ·subst e
   unfold wpOp
   simp only[L.at_]
   unfold pX wpList at hq
   simp only[wpList]at hq
   split
   ·rename_i hw
    rw[if_pos hw]at hq
    exact hq.imp (Oper.wp_mono fun a w h=>wpAny_done hr h _) id
   ·rename_i hw
    rw[if_neg hw]at hq
    exact wpAny_done hr hq _
  ·have:=ready_mono (i:=n) hi e
   rw[hr]at this;cases this
 intro fuel;induction fuel with
 |zero=>intro listed a w hs hn hcl h;exact fin 0 listed a w hs hn h.1 h.2
 |succ fuel ih=>
  intro listed a w hs hn hcl h;by_cases hr:Region.ready .any ops (listed.setIfInBounds n true)=[];·exact fin _ listed a w hs hn hr (h.1 hr)
  -- somebody is still to come
  obtain⟨k,hk⟩:=List.exists_mem_of_ne_nil _ hr;have hk':=Na L hk zBR;refine⟨fun h0=>(by rw[h0]at hk';cases hk'.2),fun i hi=>?_⟩;have hin:i≠n:=by intro e;subst e;have h1:=QB L hcl hi _ k rfl hk'.1;have h2:=(mem_ready.1 hk'.2).1;have h3:k<listed.size:=zBR;simp[Array.getD,h3]at h1 h2;rw[h2]at h1;cases h1
  refine U5 (fun a' w' h'=>ih (listed.setIfInBounds i true) a' w' (by simpa using hs) ?_ (hcl.add hi) ?_) (h.2 i (ready_mono hi hin));·rw[getD_set_ne true hin];exact hn
  rw[Array.setIfInBounds_comm _ _ hin];exact h'
theorem uO{id n:Nat}{a:Act}{w:World}{S:World->Prop}(hm:P.follows .mixedOrders=true)(ho:ops[n]? =some o)(hL:yc ops n=true)(hS:S w.drew)(h:S w.drew->wpAnyH P .any ops (pX P ops o Q) S n ((Array.replicate (n+1) false).setIfInBounds n true) a w.drew):(Code.region id ops true).wp P Q a w:=by have L:=Ht ho hL;refine wp_region_any hm ?_;rw[L.size];exact Nc L n _ a _ (by simp[L.size]) (by simp[Array.getD]) (by intro i oi _ h;simp[Array.getD]at h) (wpAny_of_held _ _ _ _ (h hS))
end
section
variable {P:Program} {ops:Array Oper} {Q:Exit->Act->World->Prop} {md:Region.Mode} {S:World->Prop}
structure zQ (P:Program) (ops:Array Oper) (S:World->Prop) (o:Oper) (v:Value) (a:Act):Prop where
 want:Region.wanted o (yielded ops a.tmps)=true
 run:∀w,S w->∃f args,(execOp a.eval o).run P w= .ok (.enter f args) w/\Calls P f args w fun e w'=>e= .returned v/\w=w'
theorem zQ.of_same{o:Oper}{v:Value}{a a':Act}(hy:zQ P ops S o v a)(he:execOp a'.eval o=execOp a.eval o)
  (hw:Region.wanted o (yielded ops a'.tmps)=Region.wanted o (yielded ops a.tmps)):zQ P ops S o v a':=
 ⟨by rw[hw];exact hy.want,fun w hS=>by rw[he];exact hy.run w hS⟩
theorem zQ.wpOp{i:Nat}{o:Oper}{v:Value}{a:Act}(hi:ops[i]? =some o)(hy:zQ P ops S o v a){K:Act->World->Prop}{w:World}(hS:S w)(h:K (a.put o.dst v) w):wpOp P ops Q i K a w:=by unfold Go.wpOp;simp only[hi,hy.want,if_true];obtain⟨f,args,hr,hc⟩:=hy.run w hS;refine .inl ?_;unfold Oper.wp;exact zDL
end
section
variable {P:Program} {ops:Array Oper} {Q:Exit->Act->World->Prop} {md:Region.Mode} {S:World->Prop} {E:Nat->Bool}
def Gives(P:Program)(ops:Array Oper)(S:World->Prop)(o:Oper)(v:Value)(a:Act):Prop:=
 (Region.wanted o (yielded ops a.tmps)=true/\∀w,S w->(execOp a.eval o).run P w= .ok (.value v) w\/ ∃f args,(execOp a.eval o).run P w= .ok (.enter f args) w/\Calls P f args w fun e w'=>e= .returned v/\w=w')\/
 (Region.wanted o (yielded ops a.tmps)=false/\v=undef)
theorem Gives.of_same{o:Oper}{v:Value}{a a':Act}(hy:Gives P ops S o v a)(he:execOp a'.eval o=execOp a.eval o)(hw:Region.wanted o (yielded ops a'.tmps)=Region.wanted o (yielded ops a.tmps)):Gives P ops S o v a':=by
 rcases hy with⟨h1,h2⟩| ⟨h1,h2⟩;·exact .inl ⟨by rw[hw];exact h1,fun w hS=>by rw[he];exact h2 w hS⟩
 exact .inr ⟨by rw[hw];exact h1,h2⟩
theorem Gives.wpOp{i:Nat}{o:Oper}{v:Value}{a:Act}(hi:ops[i]? =some o)(hy:Gives P ops S o v a){K:Act->World->Prop}{w:World}(hS:S w)(h:K (a.put o.dst v) w):wpOp P ops Q i K a w:=by
 unfold Go.wpOp;rcases hy with⟨want,run⟩| ⟨want,rfl⟩
 ·simp only[hi,want,if_true];refine .inl ?_;unfold Oper.wp;rcases run w hS with hr| ⟨f,args,hr,hc⟩;·rw[hr];simp only[Oper.upon];exact h
  exact zDL
 simp only[hi,want,Bool.false_eq_true,if_false];exact h
theorem U6{j:Nat}{oi oj:Oper}{v:Value}(hj:ops[j]? =some oj)(hap:oi.apart ops oj=true)(hsi:∀cs b,oi.op≠ .select cs b)(hsj:∀cs b,oj.op≠ .select cs b)(hQ:∀c a w,Q (.panic c) (a.put oi.dst v) w->Q (.panic c) a w){K:Act->World->Prop}{a:Act}{w:World}(hy:Gives P ops S oi v a)(h:wpOp P ops Q j K (a.put oi.dst v) w):wpOp P ops Q j (fun a' w'=>Gives P ops S oi v a'/\K (a'.put oi.dst v) w') a w:=by
 obtain⟨h1,h2,h3⟩:=Oper.apart_spec hap;have keep:∀(a:Act),Gives P ops S oi v a->∀u,Gives P ops S oi v (a.put oj.dst u):=fun a hy u=>
  hy.of_same (execOp_put oi hsi a oj.dst u h3) (wanted_put oi a oj.dst u h3)
 have keepD:∀d,Gives P ops S oi v {a with defers:=d::a.defers}:=fun d=>hy.of_same rfl rfl;unfold wpOp at*;simp only[hj]at*;rw[wanted_put oj a oi.dst v h1]at h;split
 ·rename_i hw;simp only[hw,if_true]at h;rcases h with h| ⟨hasks,hlets⟩;case inr=>exact .inr ⟨by unfold Oper.asks at*;rw[execOp_put oj hsj a oi.dst v h1]at hasks;exact hasks,hlets⟩
  refine .inl ?_;unfold Oper.wp at*;rw[execOp_put oj hsj a oi.dst v h1]at h;generalize (execOp a.eval oj).run P w=r at*;cases r with
  |ok n w'=>
   cases n<;>simp only[Oper.upon]at h⊢;case value u=>exact⟨keep a hy u,by rw[<-Act.put_comm a v u h2];exact h⟩
   case skip=>exact⟨keep a hy _,by rw[<-Act.put_comm a v undef h2];exact h⟩
   case defer d=>refine⟨keep _ (keepD d) _,?_⟩;rw[<-Act.put_comm _ v undef h2,<-Act.put_defers];exact h
   case enter f args=>
    refine Calls.mono h fun e w'' he=>?_
    cases e with
    |returned u=>exact⟨keep a hy u,by rw[<-Act.put_comm a v u h2];exact he⟩
    |panicked c=>exact hQ _ _ _ he
    |outgrown=>exact he
   case row row args=>exact Rows.mono h fun u w'' he=>⟨keep a hy u,by rw[<-Act.put_comm a v u h2];exact he⟩
  |halt x w'=>cases x<;>simp only[Oper.upon]at h⊢;case panic u=>exact hQ _ _ _ h
 rename_i hw;simp only[hw]at h;exact⟨keep a hy _,by rw[<-Act.put_comm a v undef h2];exact h⟩
def iy(ops:Array Oper)(E:Nat->Bool)(listed:Array Bool):Bool:=(List.range ops.size).any fun j=>E j&&listed.getD j false
theorem EF{listed:Array Bool}{i:Nat}(h:E i=false):iy ops E (listed.setIfInBounds i true)=iy ops E listed:=by
 unfold iy;congr 1;funext j;by_cases e:j=i;·subst e;rw[h];simp
 rw[getD_set_ne false (Ne.symm e)]
theorem Dq{listed:Array Bool}{i:Nat}(h:iy ops E (listed.setIfInBounds i true)=false):iy ops E listed=false:=by unfold iy at*;rw[List.any_eq_false]at*;intro j hj hc;refine h j hj ?_;simp only[Bool.and_eq_true]at hc⊢;exact⟨hc.1,getD_set_true hc.2⟩
def eU(P:Program)(md:Region.Mode)(ops:Array Oper)(Q:Exit->Act->World->Prop)(S:World->Prop)(E:Nat->Bool):Nat->Array Bool->Act->World->Prop
 |0,listed,a,w=>Region.ready md ops listed=[]/\Q .normal a w
 |fuel+1,listed,a,w=>
  (Region.ready md ops listed=[]->Q .normal a w)/\
  ∀i∈Region.ready md ops listed,wpOp P ops Q i (fun a' w'=>(iy ops E (listed.setIfInBounds i true)=false->S w')/\eU P md ops Q S E fuel (listed.setIfInBounds i true) a' w') a w
theorem EG:∀(fuel:Nat) (listed:Array Bool) (a:Act) (w:World),eU P md ops Q S E fuel listed a w->wpAny P md ops Q fuel listed a w
 |0,_,_,_,h=>h
 |fuel+1,_,_,_,h=>⟨h.1,fun i hi=>wpOp_mono (fun a' w' h'=>EG fuel _ a' w' h'.2) (h.2 i hi)⟩
def sJ(ops:Array Oper)(md:Region.Mode)(E:Nat->Bool)(i:Nat):Bool:=
 (List.range ops.size).all fun j=> !E j||((ops[j]?).map fun o=>o.after.any fun e=>Region.binds md e&&e.on==i).getD true
theorem xB{i:Nat}(h:sJ ops md E i=true):∀j oj,ops[j]? =some oj->E j=true->∃e∈oj.after,Region.binds md e=true/\e.on=i:=by intro j oj hj hE;unfold sJ at h;rw[List.all_eq_true]at h;have:=h j (by rw[yI];exact(yA.1 hj).1);rw[hE,hj]at this;simp only[Bool.not_true,Bool.false_or,Option.map_some,Option.getD_some,Array.any_eq_true]at this;obtain⟨k,hk,h2⟩:=this;simp only[Bool.and_eq_true,beq_iff_eq]at h2;exact⟨_,Array.getElem_mem hk,h2.1,h2.2⟩
theorem oU{SS:World->Prop}{i:Nat}{oi:Oper}{v:Value}(hi:ops[i]? =some oi)(hsel:∀(j:Nat) (o:Oper) cs b,ops[j]? =some o->o.op≠ .select cs b)(hQ:∀c a w,Q (.panic c) (a.put oi.dst v) w->Q (.panic c) a w)(hEi:E i=false)(hc:(∀w,SS w)\/((∀w,S w->SS w)/\∀j oj,ops[j]? =some oj->E j=true->∃e∈oj.after,Region.binds md e=true/\e.on=i)):∀(fuel:Nat) (listed:Array Bool) (a:Act) (w:World),(∀j oj,ops[j]? =some oj->j≠i->listed.getD j true=false->(∀e∈oj.after,Region.binds md e=true->e.on≠i)->oi.apart ops oj=true)->i∈Region.ready md ops listed->Gives P ops SS oi v a->SS w->(iy ops E listed=false->S w)->((∀w,SS w)\/iy ops E listed=false)->eU P md ops Q S E fuel (listed.setIfInBounds i true) (a.put oi.dst v) w->eU P md ops Q S E (fuel+1) listed a w:=by
 intro fuel;induction fuel with
 |zero=>
  intro listed a w _ hr hy hS hS2 _ H;refine⟨fun h=>(by rw[h]at hr;cases hr),fun j hj=>?_⟩;by_cases hji:j=i;·subst hji;exact hy.wpOp hi hS ⟨fun h=>hS2 (Dq h),H⟩
  have:=ready_mono hj hji;rw[H.1]at this;cases this
 |succ fuel ih=>
  intro listed a w hfree hr hy hS hS2 hD H;refine⟨fun h=>(by rw[h]at hr;cases hr),fun j hj=>?_⟩;by_cases hji:j=i;·subst hji;exact hy.wpOp hi hS ⟨fun h=>hS2 (Dq h),H⟩
  have h1:=H.2 j (ready_mono hj hji);obtain⟨hjun,oj,hoj,hall⟩:=mem_ready.1 hj;have hnot:∀e∈oj.after,Region.binds md e=true->e.on≠i:=fun e he hb heq=>by
   have h1:=hall e he hb;have h0:=(mem_ready.1 hr).1;rw[heq]at h1;rcases yK i listed.size with h'|h';·simp[h']at h0 h1;rw[h0]at h1;cases h1
   simp[Array.getElem?_eq_none h']at h1
  have h2:=U6 hoj (hfree j oj hoj hji hjun hnot) (fun cs b=>hsel i oi cs b hi) (fun cs b=>hsel j oj cs b hoj) hQ hy h1;have hfree':∀k ok,ops[k]? =some ok->k≠i->(listed.setIfInBounds j true).getD k true=false->
    (∀e∈ok.after,Region.binds md e=true->e.on≠i)->oi.apart ops ok=true:=fun k ok hk hki hun hno=>by
   refine hfree k ok hk hki ?_ hno
   by_cases hjk:j=k
   ·subst hjk;exact hjun
   ·rw[getD_set_ne true hjk]at hun;exact hun
  refine wpOp_mono (fun a' w' h3=>?_) h2;have hS':iy ops E (listed.setIfInBounds j true)=false->S w':=by have h4:=h3.2.1;rw[Array.setIfInBounds_comm _ _ (Ne.symm hji),EF hEi]at h4;exact h4
  have hw':SS w'/\((∀w,SS w)\/iy ops E (listed.setIfInBounds j true)=false):=by
   rcases hc with h| ⟨hSS,hw⟩;·exact⟨h w',.inl h⟩
   rcases hD with h|hD;·exact⟨h w',.inl h⟩
   cases hEj:E j
   ·have h4:iy ops E (listed.setIfInBounds j true)=false:=by rw[EF hEj];exact hD
    exact⟨hSS w' (hS' h4),.inr h4⟩
   obtain⟨e,he,hb,heq⟩:=hw j oj hoj hEj;exact absurd heq (hnot e he hb)
  refine⟨hS',ih (listed.setIfInBounds j true) a' w' hfree' (ready_mono hr (Ne.symm hji)) h3.1 hw'.1 hS' hw'.2 ?_⟩;rw[Array.setIfInBounds_comm _ _ hji];exact h3.2.2
theorem Dt{i:Nat}{oi:Oper}{v:Value}{fuel:Nat}{listed:Array Bool}{a:Act}{w:World}(hi:ops[i]? =some oi)
  (hs:Region.noSelect ops=true) (hf:Region.free md ops listed i=true) (hr:(Region.ready md ops listed).contains i=true) (hEi:E i=false) (hE:sJ ops md E i=true) (hD:iy ops E listed=false)
  (hQ:∀c a w,Q (.panic c) (a.put oi.dst v) w->Q (.panic c) a w) (hS:S w) (hw:Region.wanted oi (yielded ops a.tmps)=true) (hy:∀w,S w->(execOp a.eval oi).run P w= .ok (.value v) w)
  (h:eU P md ops Q S E fuel (listed.setIfInBounds i true) (a.put oi.dst v) w):eU P md ops Q S E (fuel+1) listed a w:=
 oU (SS:=S) hi (Region.noSelect_spec hs) hQ hEi (.inr ⟨fun _ h=>h,xB hE⟩) fuel listed a w (Region.free_spec hi hf) (by simpa using hr) (.inl ⟨hw,fun w hS=>.inl (hy w hS)⟩) hS (fun _=>hS) (.inr hD) h
theorem jQ{i:Nat}{oi:Oper}{v:Value}{fuel:Nat}{listed:Array Bool}{a:Act}{w:World}(hi:ops[i]? =some oi)
  (hs:Region.noSelect ops=true) (hf:Region.free md ops listed i=true) (hr:(Region.ready md ops listed).contains i=true) (hEi:E i=false) (hE:sJ ops md E i=true) (hD:iy ops E listed=false)
  (hQ:∀c a w,Q (.panic c) (a.put oi.dst v) w->Q (.panic c) a w) (hS:S w) (hw:Region.wanted oi (yielded ops a.tmps)=true) {f:FuncId} {args:Array Value} (hy:∀w,(execOp a.eval oi).run P w= .ok (.enter f args) w) (hcall:∀w,S w->Calls P f args w fun e w'=>e= .returned v/\w=w')
  (h:eU P md ops Q S E fuel (listed.setIfInBounds i true) (a.put oi.dst v) w):eU P md ops Q S E (fuel+1) listed a w:=
 oU (SS:=S) hi (Region.noSelect_spec hs) hQ hEi (.inr ⟨fun _ h=>h,xB hE⟩) fuel listed a w (Region.free_spec hi hf) (by simpa using hr) (.inl ⟨hw,fun w hS=>.inr ⟨f,args,hy w,hcall w hS⟩⟩) hS (fun _=>hS) (.inr hD) h
theorem zS{i:Nat}{oi:Oper}{v:Value}{fuel:Nat}{listed:Array Bool}{a:Act}{w:World}(hi:ops[i]? =some oi)
  (hs:Region.noSelect ops=true) (hf:Region.free md ops listed i=true) (hr:(Region.ready md ops listed).contains i=true) (hEi:E i=false)
  (hQ:∀c a w,Q (.panic c) (a.put oi.dst v) w->Q (.panic c) a w) (hS:iy ops E listed=true\/S w) (hw:Region.wanted oi (yielded ops a.tmps)=true) (hy:∀w,(execOp a.eval oi).run P w= .ok (.value v) w)
  (h:eU P md ops Q S E fuel (listed.setIfInBounds i true) (a.put oi.dst v) w):eU P md ops Q S E (fuel+1) listed a w:=
 oU (SS:=fun _=>True) hi (Region.noSelect_spec hs) hQ hEi (.inl fun _=>trivial) fuel listed a w (Region.free_spec hi hf) (by simpa using hr) (.inl ⟨hw,fun w _=>.inl (hy w)⟩) trivial (fun e=>hS.elim (fun h=>by rw[h]at e;cases e) id) (.inl fun _=>trivial) h
theorem Nh{i:Nat}{oi:Oper}{fuel:Nat}{listed:Array Bool}{a:Act}{w:World}(hi:ops[i]? =some oi)
  (hs:Region.noSelect ops=true) (hf:Region.free md ops listed i=true) (hr:(Region.ready md ops listed).contains i=true) (hEi:E i=false)
  (hQ:∀c a w,Q (.panic c) (a.put oi.dst undef) w->Q (.panic c) a w) (hS:iy ops E listed=true\/S w) (hw:Region.wanted oi (yielded ops a.tmps)=false)
  (h:eU P md ops Q S E fuel (listed.setIfInBounds i true) (a.put oi.dst undef) w):eU P md ops Q S E (fuel+1) listed a w:=
 oU (SS:=fun _=>True) hi (Region.noSelect_spec hs) hQ hEi (.inl fun _=>trivial) fuel listed a w (Region.free_spec hi hf) (by simpa using hr) (.inr ⟨hw,rfl⟩) trivial (fun e=>hS.elim (fun h=>by rw[h]at e;cases e) id) (.inl fun _=>trivial) h
theorem tqW{i:Nat}{oi:Oper}{v:Value}{fuel:Nat}{listed:Array Bool}{a:Act}{w:World}(hi:ops[i]? =some oi)
  (hS:iy ops E listed=true\/S w) (hy:∀w,(execOp a.eval oi).run P w= .ok (.value v) w)
  (h:eU P md ops Q S E fuel (listed.setIfInBounds i true) (a.put oi.dst v) w)
  (hs:Region.noSelect ops=true:=by kernel_rfl) (hf:Region.free md ops listed i=true:=by kernel_rfl) (hr:(Region.ready md ops listed).contains i=true:=by kernel_rfl) (hEi:E i=false:=by exact rfl)
  (hQ:∀c a w,Q (.panic c) (a.put oi.dst v) w->Q (.panic c) a w:=by exact fun _ _ _ h=>h) (hw:Region.wanted oi (yielded ops a.tmps)=true:=by rfl):eU P md ops Q S E (fuel+1) listed a w:=
 zS hi hs hf hr hEi hQ hS hw hy h
theorem tqK{i:Nat}{oi:Oper}{v:Value}{fuel:Nat}{listed:Array Bool}{a:Act}{w:World}(hi:ops[i]? =some oi)
  (hy:∀w,S w->(execOp a.eval oi).run P w= .ok (.value v) w)
  (h:eU P md ops Q S E fuel (listed.setIfInBounds i true) (a.put oi.dst v) w)
  (hs:Region.noSelect ops=true:=by kernel_rfl) (hf:Region.free md ops listed i=true:=by kernel_rfl) (hr:(Region.ready md ops listed).contains i=true:=by kernel_rfl) (hEi:E i=false:=by exact rfl) (hE:sJ ops md E i=true:=by kernel_rfl) (hD:iy ops E listed=false:=by kernel_rfl)
  (hQ:∀c a w,Q (.panic c) (a.put oi.dst v) w->Q (.panic c) a w:=by exact fun _ _ _ h=>h) (hS:S w:=by assumption) (hw:Region.wanted oi (yielded ops a.tmps)=true:=by rfl):eU P md ops Q S E (fuel+1) listed a w:=
 Dt hi hs hf hr hEi hE hD hQ hS hw hy h
def bD(P:Program)(md:Region.Mode)(ops:Array Oper)(Q:Exit->Act->World->Prop)(S:World->Prop)(E:Nat->Bool)(fuel:Nat)(listed:Array Bool)(a:Act)(w:World)(rs:List Nat):Prop:=
 ∀i∈rs,wpOp P ops Q i (fun a' w'=>(iy ops E (listed.setIfInBounds i true)=false->S w')/\eU P md ops Q S E fuel (listed.setIfInBounds i true) a' w') a w
theorem eY{rs:List Nat}{fuel:Nat}{listed:Array Bool}{a:Act}{w:World}(hr:Region.ready md ops listed=rs)(hne:rs≠[])(h:bD P md ops Q S E fuel listed a w rs):eU P md ops Q S E (fuel+1) listed a w:=⟨fun h0=>absurd (hr▸h0) hne,hr▸h⟩
theorem bD.nil{fuel:Nat}{listed:Array Bool}{a:Act}{w:World}:bD P md ops Q S E fuel listed a w []:=fun _ h=>by cases h
theorem bD.cons{i:Nat}{o:Oper}{rs:List Nat}{fuel:Nat}{listed:Array Bool}{a:Act}{w:World}(ho:ops[i]? =some o)(h:∀K':Act->World->Prop,Shut (∀a w,S w->(S w->eU P md ops Q S E fuel (listed.setIfInBounds i true) a w)->K' a w)->if Region.wanted o (yielded ops a.tmps)=true then Oper.wp P o a w K' Q else K' (a.put o.dst undef) w)(hrs:bD P md ops Q S E fuel listed a w rs):bD P md ops Q S E fuel listed a w (i::rs):=by
 intro j hj;rcases qY.1 hj with rfl|hj;·exact wpOp_step ho (fun K' hK=>h K' (fun a w hS hW=>hK a w ⟨fun _=>hS,hW hS⟩))
 exact hrs j hj
theorem bD.late{i:Nat}{o:Oper}{rs:List Nat}{fuel:Nat}{listed:Array Bool}{a:Act}{w:World}(ho:ops[i]? =some o)(hE:iy ops E (listed.setIfInBounds i true)=true)(h:∀K':Act->World->Prop,Shut (∀a w,eU P md ops Q S E fuel (listed.setIfInBounds i true) a w->K' a w)->if Region.wanted o (yielded ops a.tmps)=true then Oper.wp P o a w K' Q else K' (a.put o.dst undef) w)(hrs:bD P md ops Q S E fuel listed a w rs):bD P md ops Q S E fuel listed a w (i::rs):=by
 intro j hj;rcases qY.1 hj with rfl|hj;·exact wpOp_step ho (fun K' hK=>h K' (fun a w hW=>hK a w ⟨fun e=>(by rw[hE]at e;cases e),hW⟩))
 exact hrs j hj
theorem aS{listed:Array Bool}{a:Act}{w:World}(hr:Region.ready md ops listed=[])(h:Q .normal a w):
  ∀fuel,eU P md ops Q S E fuel listed a w
 |0=>⟨hr,h⟩
 |_+1=>⟨fun _=>h,by rw[hr];simp⟩
theorem aT{id n:Nat}{a:Act}{w:World}{S:World->Prop}{E:Nat->Bool}(hm:P.follows .mixedOrders=true)(hn:ops.size=n)(hS:S w.drew)(h:S w.drew->eU P .any ops Q S E n (Array.replicate n false) a w.drew):(Code.region id ops true).wp P Q a w:=by refine wp_region_any hm ?_;rw[hn];exact EG _ _ _ _ (h hS)
end
end Go.Proofs.YtdmmebjjojimiaaGreatDoor
namespace Go.Proofs
theorem zAK{p:Prop}(h:p:=by simp;omega):p:=h
theorem zBX{p:Prop}(h:p:=by unfold maxLen;omega):p:=h
end Go.Proofs
namespace Go.Proofs.YtdmmebjjojimiaaGreatDoor
open Go.RowKit
structure lF (w:World) (g:Tag) (t:Nat×Nat) (e:TypeId) (size:Nat) (v:Value) (n:Nat) (xs:List Value):Prop where
 own:w.ownsRow 0 e size v n xs
 tg:∀k,v.ownBlock=some k->g k=t
section
variable {w w':World} {g g':Tag} {t:Nat×Nat} {e:TypeId} {size n:Nat} {v:Value} {xs:List Value}
theorem lF.keep(h:lF w g t e size v n xs){F:Nat->Prop}(ho:Only F w w')(hF:∀k,g k=t->¬F k)(hg:Agree w g g'):lF w' g' t e size v n xs:=⟨aB h.own ho fun k hk=>hF k (h.tg k hk),fun k hk=>(hg k (dn h.own hk)).trans (h.tg k hk)⟩
theorem lF.only(h:lF w g t e size v n xs){F:Nat->Prop}(ho:Only F w w')(hF:∀k,g k=t->¬F k):lF w' g t e size v n xs:=h.keep ho hF (Agree.refl _ _)
theorem lF.alloc(h:lF w g t e size v n xs)(o:Obj):lF (w.alloc o) g t e size v n xs:=h.only ((Only.refl (fun _=>False) _).alloc o) (fun _ _ f=>f)
theorem lF.drew(h:lF w g t e size v n xs):lF w.drew g t e size v n xs:=h.only ((Only.refl (fun _=>False) _).drew) (fun _ _ f=>f)
theorem lF.drewN(h:lF w g t e size v n xs)(m:Nat):lF (w.drewN m) g t e size v n xs:=h.only ((Only.refl (fun _=>False) _).drewN m) (fun _ _ f=>f)
theorem lF.far(h:lF w g t e size v n xs){p:Addr}(hp:g p.block≠t)(u:Value):lF (w.setCell p u) g t e size v n xs:=
 h.only (F:=fun k=>k=p.block) (Only.setCell (Only.refl (fun k=>k=p.block) w) (p:=p) (.inl rfl) u) (fun k hk hF=>hp (by rw[<-hF];exact hk))
theorem lF.step{P:Program}{us:List Value}{ops:Array Oper}{o:Oper}{a:Act}{K:Act->World->Prop}{Q:Exit->Act->World->Prop}{E:Prop}{tt:TypeId}{bytes:Nat}(T:uZ P tt e size bytes)
  (hgd:o.guard=none) (s x:Operand)
  (ho:o.op= .call {callee:=.builtin .append,args:= #[s,x],argTypes:= #[tt,tt]})
  {gb:Nat} (hs:a.eval s=v) (hx:a.eval x= .slice (some ⟨gb,0,none⟩) 1 1) (Xr:us.length=size) (hc:∀j,j<us.length->w.cell? ⟨gb,j,none⟩=us[j]?) (hu:∀u∈us,u.oneCell'=true) (h:lF w g t e size v n xs)
  (h63:n+1<=1099511627776) (hbytes:bytes<=64)
  (hK:∀bb cap w',lF w' (Tag.put g w.heap.size w'.heap.size t) t e size (.slice (some ⟨bb,0,none⟩) (n+1) cap) (n+1) (xs++us)->Only (fun k=>g k=t) w w'->K (a.put o.dst (.slice (some ⟨bb,0,none⟩) (n+1) cap)) w'):
  if Region.wanted o (yielded ops a.tmps)=true then Oper.wp P o a w K Q else E:=by
 rw[if_pos zAq]
 obtain⟨v',w',hr,r1,r2,r3,r4⟩:=jO (P:=P) (ty:=o.type) w T v n xs h.own ⟨gb,0,none⟩ 1 1 us zBB (by
  intro j x hj
  have hj':=(qJ.1 hj).1
  have:=hc j hj'
  rw[Go.WideShapes.add_plain,Nat.zero_add,this];exact hj) hu zBG (by
  have:(n+1)*bytes<=1099511627776*64:=Nat.mul_le_mul h63 hbytes
  omega)
 unfold Oper.wp execOp
 simp only[ho,resolve,invoke,builtin,Sem.run_bind,Sem.run_pure,Result.andThen_ok,List.map_toArray,List.map_cons,List.map_nil,hs,hx,hr]
 obtain⟨bb,cap,rfl,hc1,hc2⟩:=dB r1 zBB
 refine hK bb cap w' ⟨r1,fun k hk=>?_⟩ (((Only.refl _ w).grown r2 fun k hk=>.inl hk).mono fun k hk=>h.tg k hk)
 exact zCk
end
structure jZ (w:World) (g:Tag) (t:Nat×Nat) (e:TypeId) (v:Value) (xs:List Value):Prop where
 form:(v= .slice none 0 0/\xs=[])\/ ∃b o cap,∃cur:Array Value,v= .slice (some ⟨b,o,none⟩) xs.length cap/\w.heap[b]? =some (.cells cur e (0,0))/\xs.length<=cap/\cap<=maxLen/\o+cap<=cur.size/\(cur.toList.drop o).take xs.length=xs
 tg:∀k,Value.blk v=some k->g k=t
section
variable {w w':World} {g g':Tag} {t:Nat×Nat} {e:TypeId} {v:Value} {xs:List Value}
theorem jZ.lt(h:jZ w g t e v xs):∀k,Value.blk v=some k->k<w.heap.size:=by
 intro k hk;rcases h.form with⟨rfl,_⟩| ⟨b,o,cap,cur,rfl,hb,_⟩;·simp[Value.blk]at hk
 simp[Value.blk]at hk;subst hk;exact bf hb
theorem jZ.keep(h:jZ w g t e v xs){F:Nat->Prop}(ho:Only F w w')(hF:∀k,g k=t->¬F k)(hg:Agree w g g'):jZ w' g' t e v xs:=by
 refine⟨?_,fun k hk=>(hg k (h.lt k hk)).trans (h.tg k hk)⟩;rcases h.form with h1| ⟨b,o,cap,cur,rfl,hb,h1⟩;·exact .inl h1
 exact .inr ⟨b,o,cap,cur,rfl,ak hb ho (hF b (h.tg b rfl)),h1⟩
theorem jZ.only(h:jZ w g t e v xs){F:Nat->Prop}(ho:Only F w w')(hF:∀k,g k=t->¬F k):jZ w' g t e v xs:=h.keep ho hF (Agree.refl _ _)
theorem jZ.alloc(h:jZ w g t e v xs)(o:Obj):jZ (w.alloc o) g t e v xs:=h.only ((Only.refl (fun _=>False) _).alloc o) (fun _ _ f=>f)
theorem jZ.drew(h:jZ w g t e v xs):jZ w.drew g t e v xs:=h.only ((Only.refl (fun _=>False) _).drew) (fun _ _ f=>f)
theorem jZ.drewN(h:jZ w g t e v xs)(m:Nat):jZ (w.drewN m) g t e v xs:=h.only ((Only.refl (fun _=>False) _).drewN m) (fun _ _ f=>f)
theorem jZ.far(h:jZ w g t e v xs){p:Addr}(hp:g p.block≠t)(u:Value):jZ (w.setCell p u) g t e v xs:=
 h.only (F:=fun k=>k=p.block) (Only.setCell (Only.refl (fun k=>k=p.block) w) (p:=p) (.inl rfl) u) (fun k hk hF=>hp (by rw[<-hF];exact hk))
theorem jZ.shape(h:jZ w g t e v xs):∃ao cap,v= .slice ao xs.length cap/\xs.length<=cap/\cap<=maxLen:=by
 rcases h.form with⟨rfl,rfl⟩| ⟨b,o,cap,cur,rfl,hb,h1,h2,_⟩;·exact zDH
 exact⟨_,cap,rfl,h1,h2⟩
theorem jZ.nil(w:World)(g:Tag)(t:Nat×Nat)(e:TypeId):jZ w g t e bK []:=⟨.inl ⟨rfl,rfl⟩,fun k hk=>by simp[Value.blk]at hk⟩
theorem jZ.dF{n:Nat}(h:w.ownsRow 0 e 1 v n xs)(htg:∀k,v.ownBlock=some k->g k=t):jZ w g t e v xs:=by
 have hn:xs.length=n:=by simpa using h.1
 subst hn;rcases h.2 with⟨h1,h2⟩| ⟨b,cap,cur,rfl,_,hb,h1,h2,h3,h4⟩;·refine⟨.inl ⟨h1,yF h2⟩,fun k hk=>?_⟩;rw[h1]at hk;simp[Value.blk]at hk
 refine⟨.inr ⟨b,0,cap,cur,rfl,hb,h1,h2,by omega,by simpa using h4⟩,fun k hk=>?_⟩;simp[Value.blk]at hk;exact htg k (by rw[<-hk];rfl)
theorem J5{P:Program}{tt ty:TypeId}{bytes:Nat}(T:uZ P tt e 1 bytes)(h:jZ w g t e v xs)(a:Addr)(m c:Nat)(news:List Value)(hl:news.length=m)(hnews:∀j u,news[j]? =some u->w.cell? (a.add j)=some u)(h1:∀u∈news,u.oneCell'=true)(h63:xs.length+m<=1099511627776)(hbytes:bytes<=64):∃v' w',(Builtin.append_ #[tt,tt] ty #[v,.slice (some a) m c]).run P w= .ok v' w'/\jZ w' (Tag.put g w.heap.size w'.heap.size t) t e v' (xs++news)/\Only (fun k=>g k=t) w w':=by
 have hbb:(xs.length+m)*bytes<=140737488355328:=by have:(xs.length+m)*bytes<=1099511627776*64:=Nat.mul_le_mul h63 hbytes;omega
 rcases h.form with⟨rfl,rfl⟩| ⟨b,o,cap,cur,rfl,hb,k1,k2,k3,k4⟩
 ·obtain⟨v',w',hr,r1,r2,r3,r4⟩:=jO (P:=P) (ty:=ty) w T (.slice none 0 0) 0 [] (World.ownsRow_nil _ _ _ _) a m c news zBB hnews h1 (by simp at h63;unfold maxLen;omega) (by simpa using hbb);refine⟨v',w',hr,jZ.dF r1 (fun k hk=>?_),(Only.refl _ w).grown r2 fun k hk=>by simp[Value.ownBlock]at hk⟩;rcases r3 k hk with hh|hh;·simp[Value.ownBlock]at hh
  exact Tag.ug _ _ hh (dn r1 hk)
 obtain⟨i,z,h2,h3,h4,h5,h6⟩:=T.info;have htb:g b=t:=h.tg b rfl;by_cases hroom:xs.length+m<=cap
 ·have hf:=run_firstCells_some (P:=P) w i.size m a m c news (by rw[h4];omega) hnews;have hst:=run_storeCells_at P b (o+xs.length) e news 0 cur w hb zBB h1;simp only[qF]at hst;refine⟨.slice (some ⟨b,o,none⟩) (xs.length+m) cap,w.setRow b (cur.toList.take (o+xs.length)++news++cur.toList.drop (o+xs.length+news.length)).toArray,?_,⟨.inr ⟨b,o,cap,_,?_,setRow_heap w b cur _ e _ hb,?_,k2,?_,?_⟩,?_⟩,?_⟩;·rw[h4]at hf;simp[Builtin.append_,run_underlying T.und,sizeOf,typeInfo,h2,h4,Builtin.lenOf,hroom,hf,Addr.add_mid,hst]
  ·simp[hl]
  ·simp;omega
  ·simp;omega
  ·have e1:(cur.toList.take (o+xs.length)).drop o=xs:=by rw[List.drop_take,show o+xs.length-o=xs.length by omega];exact k4
   have e2:(cur.toList.take (o+xs.length)++news++cur.toList.drop (o+xs.length+news.length)).drop o=xs++news++cur.toList.drop (o+xs.length+news.length):=by rw[yW,List.drop_append_of_le_length zAK,e1,yW]
   simp only[qK];rw[e2,<-qK,List.take_left]
  ·intro k hk;simp[Value.blk]at hk;subst hk;rw[Tag.rE _ _ (bf hb)];exact htb
  exact⟨rfl,rfl,rfl,by simp,fun k _ hk=>setRow_other w b k _ (fun e=>hk (by rw[e];exact htb))⟩
 have holds:∀j u,xs[j]? =some u->w.cell? ((⟨b,o,none⟩:Addr).add j)=some u:=by
  intro j u hj;have hj':=(qJ.1 hj).1;rw[Addr.add_mid,aj hb];have h7:((cur.toList.drop o).take xs.length)[j]? =some u:=by rw[k4];exact hj
  rw[List.getElem?_take_of_lt hj',List.getElem?_drop]at h7;simpa using h7
 obtain⟨v',w',hr,r1,r2⟩:=run_append_arg_grows (P:=P) w tt ty e i z 1 bytes T.und h2 h3 h4 h5 h6 T.pos ⟨b,o,none⟩ xs.length cap xs zBR holds a m c news zAB hnews zBB zBX hbb;have r1':w'.ownsRow 0 e 1 v' (xs.length+m) (xs++news):=⟨r1.1,by
  rcases r1.2 with h| ⟨g',cap',cur',he,hg',h⟩
  ·exact .inl h
  ·exact .inr ⟨g',cap',cur',he,qE _,h⟩⟩
 refine⟨v',w',hr,jZ.dF r1' (fun k hk=>?_),(Only.refl _ w).grown r2 fun k hk=>by cases hk⟩;exact Tag.ug _ _ (r1.lt k hk).1 (r1.lt k hk).2
theorem jZ.step{P:Program}{ops:Array Oper}{o:Oper}{a:Act}{K:Act->World->Prop}{Q:Exit->Act->World->Prop}{E:Prop}{tt:TypeId}{bytes:Nat}(T:uZ P tt e 1 bytes)
  (hgd:o.guard=none) (s x:Operand)
  (ho:o.op= .call {callee:=.builtin .append,args:= #[s,x],argTypes:= #[tt,tt]})
  {ao:Option Addr} {m c:Nat} {news:List Value} (hs:a.eval s=v) (hx:a.eval x= .slice ao m c) (hl:news.length=m) (hnone:ao=none->m=0/\c=0) (hnews:∀ad,ao=some ad->∀j u,news[j]? =some u->w.cell? (ad.add j)=some u) (h1:∀u∈news,u.oneCell'=true) (h:jZ w g t e v xs)
  (h63:xs.length+m<=1099511627776) (hbytes:bytes<=64)
  (hK:∀ao' cap w',jZ w' (Tag.put g w.heap.size w'.heap.size t) t e (.slice ao' (xs.length+m) cap) (xs++news)->Only (fun k=>g k=t) w w'->K (a.put o.dst (.slice ao' (xs.length+m) cap)) w'):
  if Region.wanted o (yielded ops a.tmps)=true then Oper.wp P o a w K Q else E:=by
 rw[if_pos zAq]
 cases ao with
 |none=>
  obtain⟨rfl,rfl⟩:=hnone rfl
  have hn:news=[]:=yF hl
  subst hn
  obtain⟨i,z,h2,h3,h4,h5,h6⟩:=T.info
  obtain⟨ao',cap',rfl,hc,hm⟩:=h.shape
  have hr:(Builtin.append_ #[tt,tt] o.type #[.slice ao' xs.length cap',.slice none 0 0]).run P w= .ok (.slice ao' xs.length cap') w:=by
   cases ao' with
   |none=>simp[Builtin.append_,run_underlying T.und,sizeOf,typeInfo,h2,Builtin.lenOf,Builtin.firstCells,hc]
   |some ad=>simp[Builtin.append_,run_underlying T.und,sizeOf,typeInfo,h2,Builtin.lenOf,Builtin.firstCells,hc,storeCells]
  unfold Oper.wp execOp
  simp only[ho,resolve,invoke,builtin,Sem.run_bind,Sem.run_pure,Result.andThen_ok,List.map_toArray,List.map_cons,List.map_nil,hs,hx,hr]
  refine hK ao' cap' w ?_ zr
  have e:Tag.put g w.heap.size w.heap.size t=g:=by
   funext k;unfold Tag.put;rw[if_neg zBB]
  rw[e]
  simpa using h
 |some ad=>
  obtain⟨v',w',hr,r1,r2⟩:=J5 (P:=P) (ty:=o.type) T h ad m c news hl (hnews ad rfl) h1 h63 hbytes
  unfold Oper.wp execOp
  simp only[ho,resolve,invoke,builtin,Sem.run_bind,Sem.run_pure,Result.andThen_ok,List.map_toArray,List.map_cons,List.map_nil,hs,hx,hr]
  obtain⟨ao',cap',rfl,hc,hm⟩:=r1.shape
  have hlen:(xs++news).length=xs.length+m:=by simp[hl]
  rw[hlen]at r1⊢
  exact hK ao' cap' w' r1 r2
end
end Go.Proofs.YtdmmebjjojimiaaGreatDoor
