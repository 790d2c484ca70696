/- Short names for lemmas of the library that stand in many places, and small lemmas for what; The closed facts of FormulaBuilds's row, each by itself. -/
import Derived.ProofKit
import Derived.OpenShut
import Derived.BigQuiet
import Derived.Lib.Hide
import Derived.WalkSpells
import Derived.Test.YtdmmebjjojimiaaGreatDoorTie
import Derived.Test.YtdmmebjjojimiaaGreatDoorCards
import Derived.Deep.RegionHeld3
set_option linter.all false
set_option maxRecDepth 100000
set_option maxHeartbeats 8000000
namespace Go.Proofs
open Go.RowKit
theorem zh{p:Prop}(h:p):Hid p:=Lib.hid h
theorem ze{α:Sort _}(a:α):∃b,a=b:=⟨a,rfl⟩
theorem zB{α:Sort _}(a:α):∃b,b=a:=⟨a,rfl⟩
theorem zG{α:Type _}(l:List α)(i:Nat)(h:i<l.length):∃y,l[i]? =some y:=⟨_,List.getElem?_eq_getElem h⟩
theorem zw(x:Int)(h: -9223372036854775808<=x:=by omega)(k:x<9223372036854775808:=by omega):IntKind.i64.wrap x=x:=by rw[IntKind.wrap_i64];omega
abbrev qA:= @List.getElem?_eq_getElem
abbrev qC:= @List.getD_eq_getElem?_getD
abbrev qD:= @IntKind.wrap_i64
abbrev qE:= @Nat.zero_le
abbrev qF:= @Nat.add_zero
abbrev qG:= @Option.some.injEq
abbrev qH:= @Nat.le_refl
abbrev qI:= @List.take_of_length_le
abbrev qJ:= @List.getElem?_eq_some_iff
abbrev qK:= @List.length_append
abbrev qL:= @heap_alloc_new
abbrev qM:= @List.length_map
abbrev qN:= @List.length_cons
abbrev qO:= @Addr.mk.injEq
abbrev qP:= @decide_eq_false
abbrev qQ:= @List.mem_cons_self
abbrev qR:= @Nat.le_trans
abbrev qT:= @List.mem_of_getElem?
abbrev qU:= @Value.slice.injEq
abbrev qW:= @List.mem_append
abbrev qX:= @decide_eq_true
abbrev qY:= @List.mem_cons
abbrev qZ:= @List.getElem_mem
abbrev yA:= @Array.getElem?_eq_some_iff
abbrev yC:= @beq_eq_false_iff_ne
abbrev yD:= @List.mem_map
abbrev yE:= @List.mem_cons_of_mem
abbrev yF:= @List.eq_nil_of_length_eq_zero
abbrev yG:= @Nat.le_of_eq
abbrev yH:= @Nat.mul_one
abbrev yI:= @List.mem_range
abbrev yJ:= @List.mem_singleton
abbrev yK:= @Nat.lt_or_ge
abbrev yL:= @List.take_succ_eq_append_getElem
abbrev yM:= @List.getElem?_append_left
abbrev yN:= @List.getElem?_append_right
abbrev yO:= @List.length_filter_le
abbrev yP:= @decide_eq_true_eq
abbrev yQ:= @Bool.false_and
abbrev yR:= @Bool.true_and
abbrev yT:= @Int.toNat_natCast
abbrev yU:= @List.any_eq_true
abbrev yW:= @List.append_assoc
theorem zk{p:Prop}(h:p:=by kernel_rfl):p:=h
end Go.Proofs
namespace Go.Proofs.YtdmmebjjojimiaaGreatDoor.formulaBuilds
open Go.RowKit
theorem anj{a b:Bool}(h:a=true)(k:b=true):(a&&b)=true:=by rw[h,k];rfl
theorem agC{P:Program}(h:P.funcs.any Func.goes=false)(f:FuncId):P.goes f=false:=by
 unfold Program.goes;rw[h,Bool.and_false,Bool.or_false,List.any_eq_false];intro g _;cases hg:P.funcs[g]? with
 |none=>simp
 |some fn=>rw[Array.any_eq_false]at h;obtain⟨hi,e⟩:=yA.1 hg;have:=h g hi;rw[e]at this;simpa using this
theorem aa7{P:Program}{c:OpenClaim}(hs:c.start= .entering)(h:P.funcs.any Func.goes=false):false=c.goesBy P:=by
 unfold OpenClaim.goesBy Program.goesAt Program.goesFrom;rw[hs];cases P.funcNamed c.func with
 |none=>rfl
 |some f=>simp[agC h]
theorem aq4:Tryz.pinned.checked.prog.funcs.any Func.goes=false:=by kernel_rfl
theorem agD:false=Rows.formulaBuildsRow.goesBy Tryz.pinned.checked.prog:=aa7 rfl aq4
theorem laidOut:laidOutB Tryz.prog=true:=by kernel_rfl
theorem aeE:laidOutB Tryz.pinned.checked.prog=true:=laidOut
theorem aq5:(Rows.formulaBuildsRow.inPlace==Tryz.pinned.checked.prog.inPlace 5)=true:=by kernel_rfl
theorem unf:(Rows.formulaBuildsRow.unfollowed==Tryz.pinned.checked.prog.unfollowed 5)=true:=by kernel_rfl
theorem rcs:(Rows.formulaBuildsRow.recurses==Tryz.pinned.checked.prog.recurses 5)=true:=by kernel_rfl
theorem nmd:(Rows.formulaBuildsRow.named==Tryz.pinned.checked.prog.varsNamed 5)=true:=by kernel_rfl
theorem pnd:(Rows.formulaBuildsRow.pinned==Rows.formulaBuildsRow.pinnedBy)=true:=by kernel_rfl
theorem agE:joinedFacts Tryz.pinned.checked.prog 5 Tryz.f5 (OpenSpec.ofChange Rows.formulaBuildsSpec).bare Rows.formulaBuildsRow=true:=by
 unfold joinedFacts;iterate 31 (refine anj ?_ (by first|with_reducible exact aeE|with_reducible exact aq5|with_reducible exact unf|with_reducible exact rcs|with_reducible exact nmd|with_reducible exact pnd|as_aux_lemma=>kernel_rfl))
 kernel_rfl
end Go.Proofs.YtdmmebjjojimiaaGreatDoor.formulaBuilds
namespace Go.Proofs
theorem zBt{p:Prop}(h:p:=by omega):p:=h
theorem zEV{p:Prop}(h:p:=by
 rw[hr]
 simp only[Oper.upon]
 refine hc.mono fun e w' he=>?_
 obtain⟨rfl,rfl⟩:=he
 exact h):p:=h
end Go.Proofs
namespace Go.Proofs.YtdmmebjjojimiaaGreatDoor
section
variable {P:Program} {ops:Array Oper} {Q:Exit->Act->World->Prop} {o:Oper}
def vV(P:Program)(ops:Array Oper)(o:Oper)(Q:Exit->Act->World->Prop):Exit->Act->World->Prop
 | .normal,a,w=>wpList P ops Q [o] a w
 | .panic _,_,_=>False
 |e,a,w=>Q e a w
theorem EH(h:LetsOut (vV P ops o Q)):LetsOut Q:=h
theorem afb{o':Oper}{a:Act}{w:World}{K K':Act->World->Prop}(h:∀a w,K a w->K' a w)(hh:o'.wp P a w K (vV P ops o Q)):o'.wp P a w K' Q:=by
 unfold Oper.wp at*;generalize (execOp a.eval o').run P w=r at*;cases r with
 |ok n w'=>
  cases n<;>simp only[Oper.upon]at hh⊢;case value=>exact h _ _ hh
  case skip=>exact h _ _ hh
  case defer=>exact h _ _ hh
  case enter=>
   refine Calls.mono hh (fun e w'' he=>?_)
   cases e with
   |returned v=>exact h _ _ he
   |panicked c=>exact(he:False).elim
   |outgrown=>exact EH he
  case row=>exact Rows.mono hh (fun _ _ he=>h _ _ he)
 |halt x w'=>cases x<;>simp only[Oper.upon]at hh⊢;case panic=>exact(hh:False).elim
theorem Zw{i:Nat}{a:Act}{w:World}{K K':Act->World->Prop}(h:∀a w,K a w->K' a w)(hh:wpOp P ops (vV P ops o Q) i K a w):wpOp P ops Q i K' a w:=by
 unfold wpOp at*;split;·exact h _ _ (by simpa[*]using hh)
 rename_i o' ho;simp only[ho]at hh;split;·rename_i hw;simp only[hw,if_true]at hh;exact hh.imp (afb h) (fun⟨h1,h2⟩=>⟨h1,EH h2⟩)
 rename_i hw;simp only[hw]at hh;exact h _ _ hh
theorem Nb{listed:Array Bool}{i:Nat}(h:i<listed.size)(d:Bool):(listed.setIfInBounds i true).getD i d=true:=by simp[Array.getD,h]
end
section
variable {P:Program} {ops:Array Oper} {Q:Exit->Act->World->Prop} {o:Oper}
def DY(ops:Array Oper)(n:Nat):Bool:=
 ops.size==n+1&&((ops[n]?).map fun o=>o.guard.isNone).getD false&&((List.range n).all fun j=>(List.range (n+1)).any fun i=>decide (j<i)&&((ops[i]?).map fun oi=>oi.after.any fun e=>Region.binds .any e&&e.on==j).getD false)&&
  (List.range (n+1)).all fun i=>((ops[i]?).map fun o=>o.after.all fun e=>decide (e.on<i)).getD false
structure EI (ops:Array Oper) (n:Nat) (o:Oper):Prop where
 size:ops.size=n+1
 at_:ops[n]? =some o
 guard:o.guard=none
 waits:∀j,j<n->∃i oi,j<i/\i<n+1/\ops[i]? =some oi/\∃e∈oi.after,Region.binds .any e=true/\e.on=j
 early:∀i oi,i<n+1->ops[i]? =some oi->∀e∈oi.after,e.on<i
theorem Nc{n:Nat}(ho:ops[n]? =some o)(h:DY ops n=true):EI ops n o:=by
 unfold DY at h;rw[ho]at h;simp only[Option.map_some,Option.getD_some,Bool.and_eq_true,beq_iff_eq,List.all_eq_true,yU,yI,Option.isNone_iff_eq_none,yP]at h;obtain⟨⟨⟨h1,h2⟩,h3⟩,h4⟩:=h;refine⟨h1,ho,h2,fun j hj=>?_,fun i oi hi hoi e he=>?_⟩;·obtain⟨i,hi,hji,h5⟩:=h3 j hj;obtain⟨oi,hoi⟩:∃oi,ops[i]? =some oi:=⟨ops[i]'zBt,Array.getElem?_eq_getElem _⟩;rw[hoi]at h5;simp only[Option.map_some,Option.getD_some]at h5;rw[Array.any_eq_true]at h5;obtain⟨k,hk,h6⟩:=h5;simp only[Bool.and_eq_true,beq_iff_eq]at h6;exact⟨i,oi,hji,hi,hoi,_,Array.getElem_mem hk,h6⟩
 have h5:=h4 i hi;rw[hoi]at h5;simp only[Option.map_some,Option.getD_some,Array.all_eq_true_iff_forall_mem,yP]at h5;exact h5 e he
def Closed(ops:Array Oper)(listed:Array Bool):Prop:= ∀i oi,ops[i]? =some oi->listed.getD i false=true->∀e∈oi.after,Region.binds .any e=true->listed.getD e.on false=true
theorem Closed.add{listed:Array Bool}{i:Nat}(h:Closed ops listed)(hi:i∈Region.ready .any ops listed):Closed ops (listed.setIfInBounds i true):=by
 intro k ok hok hk e he hb;obtain⟨h0,oi,hoi,hall⟩:=mem_ready.1 hi;by_cases c:i=k;·subst c;rw[hoi]at hok;obtain rfl:=Option.some.inj hok;exact getD_set_true (hall e he hb)
 rw[getD_set_ne false c]at hk;exact getD_set_true (h k ok hok hk e he hb)
theorem V7{n:Nat}(L:EI ops n o){listed:Array Bool}(hc:Closed ops listed)(hn:n∈Region.ready .any ops listed):∀m j,n-j=m->j<n->listed.getD j false=true:=by
 intro m;induction m using Nat.strongRecOn with
 |ind m ih=>
  intro j hm hj;obtain⟨i,oi,h1,h2,h3,e,he,hb,heo⟩:=L.waits j hj;by_cases c:i=n;·subst c;obtain⟨_,oi',hoi',hall⟩:=mem_ready.1 hn;rw[h3]at hoi';obtain rfl:=Option.some.inj hoi';rw[<-heo];exact hall e he hb
  rw[<-heo];exact hc i oi h3 (ih (n-i) (by omega) i rfl zBt) e he hb
theorem SE{n:Nat}(L:EI ops n o){listed:Array Bool}{i:Nat}(hi:i∈Region.ready .any ops (listed.setIfInBounds n true))(hs:n<listed.size):i<n/\i∈Region.ready .any ops listed:=by
 rw[mem_ready]at*;obtain⟨h0,oi,ho,hall⟩:=hi;have hne:n≠i:=by intro e;subst e;rw[Nb hs]at h0;cases h0
 have hlt:i<n:=by have:=(yA.1 ho).1;have:=L.size;omega
 refine⟨hlt,by rw[getD_set_ne true hne]at h0;exact h0,oi,ho,fun e he hb=>?_⟩;have h1:=hall e he hb;have h2:=L.early i oi zBt ho e he;rw[getD_set_ne false zBt]at h1;exact h1
theorem SG{n:Nat}(L:EI ops n o){listed:Array Bool}(hs:listed.size=ops.size)(h:Region.ready .any ops (listed.setIfInBounds n true)=[]):∀j,j<n->listed.getD j false=true:=by
 intro j;induction j using Nat.strongRecOn with
 |ind j ih=>
  intro hj;cases hc:listed.getD j false with
  |true=>rfl
  |false=>
   exfalso;have hsz:=L.size;have hlt:j<ops.size:=zBt;obtain⟨oj,hoj⟩:∃oj,ops[j]? =some oj:=⟨ops[j],by simp[hlt]⟩;have hm:j∈Region.ready .any ops (listed.setIfInBounds n true):=by
    rw[mem_ready];refine⟨?_,oj,hoj,fun e he hb=>?_⟩;·rw[getD_set_ne true zBt];have:j<listed.size:=zBt;simp[Array.getD,this]at hc⊢;exact hc
    have he1:=L.early j oj zBt hoj e he;exact getD_set_true (ih e.on he1 zBt)
   rw[h]at hm;cases hm
theorem SH{n:Nat}(L:EI ops n o):∀(fuel:Nat) (listed:Array Bool) (a:Act) (w:World),listed.size=ops.size->listed.getD n true=false->Closed ops listed->wpAny P .any ops (vV P ops o Q) fuel (listed.setIfInBounds n true) a w->wpAny P .any ops Q (fuel+1) listed a w:=by
 have hsz:=L.size; -- where the others are through
 have fin:∀(fuel:Nat) (listed:Array Bool) (a:Act) (w:World),listed.size=ops.size->listed.getD n true=false->Region.ready .any ops (listed.setIfInBounds n true)=[]->
   vV P ops o Q .normal a w->wpAny P .any ops Q (fuel+1) listed a w:=by
  intro fuel listed a w hs hn hr hq
  have hall:=SG L hs hr
  have hmem:n∈Region.ready .any ops listed:=by
   rw[mem_ready]
   exact⟨hn,o,L.at_,fun e he hb=>by
    rcases yK e.on n with h|h
    ·exact hall _ h
    ·have:=L.early n o zBt L.at_ e he;omega⟩
  refine⟨fun h=>(by rw[h]at hmem;cases hmem),fun i hi=>?_⟩
  by_cases e:i=n
  ·subst e
   unfold wpOp
   simp only[L.at_]
   unfold vV wpList at hq
   simp only[wpList]at hq
   split
   ·rename_i hw
    rw[if_pos hw]at hq
    exact hq.imp (Oper.wp_mono fun a w h=>wpAny_done hr h _) id
   ·rename_i hw
    rw[if_neg hw]at hq
    exact wpAny_done hr hq _
  ·have:=ready_mono (i:=n) hi e
   rw[hr]at this;cases this
 intro fuel;induction fuel with
 |zero=>intro listed a w hs hn hcl h;exact fin 0 listed a w hs hn h.1 h.2
 |succ fuel ih=>
  intro listed a w hs hn hcl h;by_cases hr:Region.ready .any ops (listed.setIfInBounds n true)=[];·exact fin _ listed a w hs hn hr (h.1 hr)
  -- somebody is still to come
  obtain⟨k,hk⟩:=List.exists_mem_of_ne_nil _ hr;have hk':=SE L hk zBt;refine⟨fun h0=>(by rw[h0]at hk';cases hk'.2),fun i hi=>?_⟩;have hin:i≠n:=by intro e;subst e;have h1:=V7 L hcl hi _ k rfl hk'.1;have h2:=(mem_ready.1 hk'.2).1;have h3:k<listed.size:=zBt;simp[Array.getD,h3]at h1 h2;rw[h2]at h1;cases h1
  refine Zw (fun a' w' h'=>ih (listed.setIfInBounds i true) a' w' (by simpa using hs) ?_ (hcl.add hi) ?_) (h.2 i (ready_mono hi hin));·rw[getD_set_ne true hin];exact hn
  rw[Array.setIfInBounds_comm _ _ hin];exact h'
theorem Af{id n:Nat}{a:Act}{w:World}{S:World->Prop}(hm:P.follows .mixedOrders=true)(ho:ops[n]? =some o)(hL:DY ops n=true)(hS:S w.drew)(h:S w.drew->wpAnyH P .any ops (vV P ops o Q) S n ((Array.replicate (n+1) false).setIfInBounds n true) a w.drew):(Code.region id ops true).wp P Q a w:=by have L:=Nc ho hL;refine wp_region_any hm ?_;rw[L.size];exact SH L n _ a _ (by simp[L.size]) (by simp[Array.getD]) (by intro i oi _ h;simp[Array.getD]at h) (wpAny_of_held _ _ _ _ (h hS))
end
section
variable {P:Program} {ops:Array Oper} {Q:Exit->Act->World->Prop} {md:Region.Mode} {S:World->Prop}
structure EJ (P:Program) (ops:Array Oper) (S:World->Prop) (o:Oper) (v:Value) (a:Act):Prop where
 want:Region.wanted o (yielded ops a.tmps)=true
 run:∀w,S w->∃f args,(execOp a.eval o).run P w= .ok (.enter f args) w/\Calls P f args w fun e w'=>e= .returned v/\w=w'
theorem EJ.of_same{o:Oper}{v:Value}{a a':Act}(hy:EJ P ops S o v a)(he:execOp a'.eval o=execOp a.eval o)
  (hw:Region.wanted o (yielded ops a'.tmps)=Region.wanted o (yielded ops a.tmps)):EJ P ops S o v a':=
 ⟨by rw[hw];exact hy.want,fun w hS=>by rw[he];exact hy.run w hS⟩
theorem EJ.wpOp{i:Nat}{o:Oper}{v:Value}{a:Act}(hi:ops[i]? =some o)(hy:EJ P ops S o v a){K:Act->World->Prop}{w:World}(hS:S w)(h:K (a.put o.dst v) w):wpOp P ops Q i K a w:=by unfold Go.wpOp;simp only[hi,hy.want,if_true];obtain⟨f,args,hr,hc⟩:=hy.run w hS;refine .inl ?_;unfold Oper.wp;exact zEV
end
section
variable {P:Program} {ops:Array Oper} {Q:Exit->Act->World->Prop} {md:Region.Mode} {S:World->Prop} {E:Nat->Bool}
def Gives(P:Program)(ops:Array Oper)(S:World->Prop)(o:Oper)(v:Value)(a:Act):Prop:=
 (Region.wanted o (yielded ops a.tmps)=true/\∀w,S w->(execOp a.eval o).run P w= .ok (.value v) w\/ ∃f args,(execOp a.eval o).run P w= .ok (.enter f args) w/\Calls P f args w fun e w'=>e= .returned v/\w=w')\/
 (Region.wanted o (yielded ops a.tmps)=false/\v=undef)
theorem Gives.of_same{o:Oper}{v:Value}{a a':Act}(hy:Gives P ops S o v a)(he:execOp a'.eval o=execOp a.eval o)(hw:Region.wanted o (yielded ops a'.tmps)=Region.wanted o (yielded ops a.tmps)):Gives P ops S o v a':=by
 rcases hy with⟨h1,h2⟩| ⟨h1,h2⟩;·exact .inl ⟨by rw[hw];exact h1,fun w hS=>by rw[he];exact h2 w hS⟩
 exact .inr ⟨by rw[hw];exact h1,h2⟩
theorem Gives.wpOp{i:Nat}{o:Oper}{v:Value}{a:Act}(hi:ops[i]? =some o)(hy:Gives P ops S o v a){K:Act->World->Prop}{w:World}(hS:S w)(h:K (a.put o.dst v) w):wpOp P ops Q i K a w:=by
 unfold Go.wpOp;rcases hy with⟨want,run⟩| ⟨want,rfl⟩
 ·simp only[hi,want,if_true];refine .inl ?_;unfold Oper.wp;rcases run w hS with hr| ⟨f,args,hr,hc⟩;·rw[hr];simp only[Oper.upon];exact h
  exact zEV
 simp only[hi,want,Bool.false_eq_true,if_false];exact h
theorem Zx{j:Nat}{oi oj:Oper}{v:Value}(hj:ops[j]? =some oj)(hap:oi.apart ops oj=true)(hsi:∀cs b,oi.op≠ .select cs b)(hsj:∀cs b,oj.op≠ .select cs b)(hQ:∀c a w,Q (.panic c) (a.put oi.dst v) w->Q (.panic c) a w){K:Act->World->Prop}{a:Act}{w:World}(hy:Gives P ops S oi v a)(h:wpOp P ops Q j K (a.put oi.dst v) w):wpOp P ops Q j (fun a' w'=>Gives P ops S oi v a'/\K (a'.put oi.dst v) w') a w:=by
 obtain⟨h1,h2,h3⟩:=Oper.apart_spec hap;have keep:∀(a:Act),Gives P ops S oi v a->∀u,Gives P ops S oi v (a.put oj.dst u):=fun a hy u=>
  hy.of_same (execOp_put oi hsi a oj.dst u h3) (wanted_put oi a oj.dst u h3)
 have keepD:∀d,Gives P ops S oi v {a with defers:=d::a.defers}:=fun d=>hy.of_same rfl rfl;unfold wpOp at*;simp only[hj]at*;rw[wanted_put oj a oi.dst v h1]at h;split
 ·rename_i hw;simp only[hw,if_true]at h;rcases h with h| ⟨hasks,hlets⟩;case inr=>exact .inr ⟨by unfold Oper.asks at*;rw[execOp_put oj hsj a oi.dst v h1]at hasks;exact hasks,hlets⟩
  refine .inl ?_;unfold Oper.wp at*;rw[execOp_put oj hsj a oi.dst v h1]at h;generalize (execOp a.eval oj).run P w=r at*;cases r with
  |ok n w'=>
   cases n<;>simp only[Oper.upon]at h⊢;case value u=>exact⟨keep a hy u,by rw[<-Act.put_comm a v u h2];exact h⟩
   case skip=>exact⟨keep a hy _,by rw[<-Act.put_comm a v undef h2];exact h⟩
   case defer d=>refine⟨keep _ (keepD d) _,?_⟩;rw[<-Act.put_comm _ v undef h2,<-Act.put_defers];exact h
   case enter f args=>
    refine Calls.mono h fun e w'' he=>?_
    cases e with
    |returned u=>exact⟨keep a hy u,by rw[<-Act.put_comm a v u h2];exact he⟩
    |panicked c=>exact hQ _ _ _ he
    |outgrown=>exact he
   case row row args=>exact Rows.mono h fun u w'' he=>⟨keep a hy u,by rw[<-Act.put_comm a v u h2];exact he⟩
  |halt x w'=>cases x<;>simp only[Oper.upon]at h⊢;case panic u=>exact hQ _ _ _ h
 rename_i hw;simp only[hw]at h;exact⟨keep a hy _,by rw[<-Act.put_comm a v undef h2];exact h⟩
def jG(ops:Array Oper)(E:Nat->Bool)(listed:Array Bool):Bool:=(List.range ops.size).any fun j=>E j&&listed.getD j false
theorem JR{listed:Array Bool}{i:Nat}(h:E i=false):jG ops E (listed.setIfInBounds i true)=jG ops E listed:=by
 unfold jG;congr 1;funext j;by_cases e:j=i;·subst e;rw[h];simp
 rw[getD_set_ne false (Ne.symm e)]
theorem Iz{listed:Array Bool}{i:Nat}(h:jG ops E (listed.setIfInBounds i true)=false):jG ops E listed=false:=by unfold jG at*;rw[List.any_eq_false]at*;intro j hj hc;refine h j hj ?_;simp only[Bool.and_eq_true]at hc⊢;exact⟨hc.1,getD_set_true hc.2⟩
def gX(P:Program)(md:Region.Mode)(ops:Array Oper)(Q:Exit->Act->World->Prop)(S:World->Prop)(E:Nat->Bool):Nat->Array Bool->Act->World->Prop
 |0,listed,a,w=>Region.ready md ops listed=[]/\Q .normal a w
 |fuel+1,listed,a,w=>
  (Region.ready md ops listed=[]->Q .normal a w)/\
  ∀i∈Region.ready md ops listed,wpOp P ops Q i (fun a' w'=>(jG ops E (listed.setIfInBounds i true)=false->S w')/\gX P md ops Q S E fuel (listed.setIfInBounds i true) a' w') a w
theorem JU:∀(fuel:Nat) (listed:Array Bool) (a:Act) (w:World),gX P md ops Q S E fuel listed a w->wpAny P md ops Q fuel listed a w
 |0,_,_,_,h=>h
 |fuel+1,_,_,_,h=>⟨h.1,fun i hi=>wpOp_mono (fun a' w' h'=>JU fuel _ a' w' h'.2) (h.2 i hi)⟩
def xW(ops:Array Oper)(md:Region.Mode)(E:Nat->Bool)(i:Nat):Bool:=
 (List.range ops.size).all fun j=> !E j||((ops[j]?).map fun o=>o.after.any fun e=>Region.binds md e&&e.on==i).getD true
theorem Dl{i:Nat}(h:xW ops md E i=true):∀j oj,ops[j]? =some oj->E j=true->∃e∈oj.after,Region.binds md e=true/\e.on=i:=by intro j oj hj hE;unfold xW at h;rw[List.all_eq_true]at h;have:=h j (by rw[yI];exact(yA.1 hj).1);rw[hE,hj]at this;simp only[Bool.not_true,Bool.false_or,Option.map_some,Option.getD_some,Array.any_eq_true]at this;obtain⟨k,hk,h2⟩:=this;simp only[Bool.and_eq_true,beq_iff_eq]at h2;exact⟨_,Array.getElem_mem hk,h2.1,h2.2⟩
theorem uT{SS:World->Prop}{i:Nat}{oi:Oper}{v:Value}(hi:ops[i]? =some oi)(hsel:∀(j:Nat) (o:Oper) cs b,ops[j]? =some o->o.op≠ .select cs b)(hQ:∀c a w,Q (.panic c) (a.put oi.dst v) w->Q (.panic c) a w)(hEi:E i=false)(hc:(∀w,SS w)\/((∀w,S w->SS w)/\∀j oj,ops[j]? =some oj->E j=true->∃e∈oj.after,Region.binds md e=true/\e.on=i)):∀(fuel:Nat) (listed:Array Bool) (a:Act) (w:World),(∀j oj,ops[j]? =some oj->j≠i->listed.getD j true=false->(∀e∈oj.after,Region.binds md e=true->e.on≠i)->oi.apart ops oj=true)->i∈Region.ready md ops listed->Gives P ops SS oi v a->SS w->(jG ops E listed=false->S w)->((∀w,SS w)\/jG ops E listed=false)->gX P md ops Q S E fuel (listed.setIfInBounds i true) (a.put oi.dst v) w->gX P md ops Q S E (fuel+1) listed a w:=by
 intro fuel;induction fuel with
 |zero=>
  intro listed a w _ hr hy hS hS2 _ H;refine⟨fun h=>(by rw[h]at hr;cases hr),fun j hj=>?_⟩;by_cases hji:j=i;·subst hji;exact hy.wpOp hi hS ⟨fun h=>hS2 (Iz h),H⟩
  have:=ready_mono hj hji;rw[H.1]at this;cases this
 |succ fuel ih=>
  intro listed a w hfree hr hy hS hS2 hD H;refine⟨fun h=>(by rw[h]at hr;cases hr),fun j hj=>?_⟩;by_cases hji:j=i;·subst hji;exact hy.wpOp hi hS ⟨fun h=>hS2 (Iz h),H⟩
  have h1:=H.2 j (ready_mono hj hji);obtain⟨hjun,oj,hoj,hall⟩:=mem_ready.1 hj;have hnot:∀e∈oj.after,Region.binds md e=true->e.on≠i:=fun e he hb heq=>by
   have h1:=hall e he hb;have h0:=(mem_ready.1 hr).1;rw[heq]at h1;rcases yK i listed.size with h'|h';·simp[h']at h0 h1;rw[h0]at h1;cases h1
   simp[Array.getElem?_eq_none h']at h1
  have h2:=Zx hoj (hfree j oj hoj hji hjun hnot) (fun cs b=>hsel i oi cs b hi) (fun cs b=>hsel j oj cs b hoj) hQ hy h1;have hfree':∀k ok,ops[k]? =some ok->k≠i->(listed.setIfInBounds j true).getD k true=false->
    (∀e∈ok.after,Region.binds md e=true->e.on≠i)->oi.apart ops ok=true:=fun k ok hk hki hun hno=>by
   refine hfree k ok hk hki ?_ hno
   by_cases hjk:j=k
   ·subst hjk;exact hjun
   ·rw[getD_set_ne true hjk]at hun;exact hun
  refine wpOp_mono (fun a' w' h3=>?_) h2;have hS':jG ops E (listed.setIfInBounds j true)=false->S w':=by have h4:=h3.2.1;rw[Array.setIfInBounds_comm _ _ (Ne.symm hji),JR hEi]at h4;exact h4
  have hw':SS w'/\((∀w,SS w)\/jG ops E (listed.setIfInBounds j true)=false):=by
   rcases hc with h| ⟨hSS,hw⟩;·exact⟨h w',.inl h⟩
   rcases hD with h|hD;·exact⟨h w',.inl h⟩
   cases hEj:E j
   ·have h4:jG ops E (listed.setIfInBounds j true)=false:=by rw[JR hEj];exact hD
    exact⟨hSS w' (hS' h4),.inr h4⟩
   obtain⟨e,he,hb,heq⟩:=hw j oj hoj hEj;exact absurd heq (hnot e he hb)
  refine⟨hS',ih (listed.setIfInBounds j true) a' w' hfree' (ready_mono hr (Ne.symm hji)) h3.1 hw'.1 hS' hw'.2 ?_⟩;rw[Array.setIfInBounds_comm _ _ hji];exact h3.2.2
theorem IC{i:Nat}{oi:Oper}{v:Value}{fuel:Nat}{listed:Array Bool}{a:Act}{w:World}(hi:ops[i]? =some oi)
  (hs:Region.noSelect ops=true) (hf:Region.free md ops listed i=true) (hr:(Region.ready md ops listed).contains i=true) (hEi:E i=false) (hE:xW ops md E i=true) (hD:jG ops E listed=false)
  (hQ:∀c a w,Q (.panic c) (a.put oi.dst v) w->Q (.panic c) a w) (hS:S w) (hw:Region.wanted oi (yielded ops a.tmps)=true) (hy:∀w,S w->(execOp a.eval oi).run P w= .ok (.value v) w)
  (h:gX P md ops Q S E fuel (listed.setIfInBounds i true) (a.put oi.dst v) w):gX P md ops Q S E (fuel+1) listed a w:=
 uT (SS:=S) hi (Region.noSelect_spec hs) hQ hEi (.inr ⟨fun _ h=>h,Dl hE⟩) fuel listed a w (Region.free_spec hi hf) (by simpa using hr) (.inl ⟨hw,fun w hS=>.inl (hy w hS)⟩) hS (fun _=>hS) (.inr hD) h
theorem mP{i:Nat}{oi:Oper}{v:Value}{fuel:Nat}{listed:Array Bool}{a:Act}{w:World}(hi:ops[i]? =some oi)
  (hs:Region.noSelect ops=true) (hf:Region.free md ops listed i=true) (hr:(Region.ready md ops listed).contains i=true) (hEi:E i=false) (hE:xW ops md E i=true) (hD:jG ops E listed=false)
  (hQ:∀c a w,Q (.panic c) (a.put oi.dst v) w->Q (.panic c) a w) (hS:S w) (hw:Region.wanted oi (yielded ops a.tmps)=true) {f:FuncId} {args:Array Value} (hy:∀w,(execOp a.eval oi).run P w= .ok (.enter f args) w) (hcall:∀w,S w->Calls P f args w fun e w'=>e= .returned v/\w=w')
  (h:gX P md ops Q S E fuel (listed.setIfInBounds i true) (a.put oi.dst v) w):gX P md ops Q S E (fuel+1) listed a w:=
 uT (SS:=S) hi (Region.noSelect_spec hs) hQ hEi (.inr ⟨fun _ h=>h,Dl hE⟩) fuel listed a w (Region.free_spec hi hf) (by simpa using hr) (.inl ⟨hw,fun w hS=>.inr ⟨f,args,hy w,hcall w hS⟩⟩) hS (fun _=>hS) (.inr hD) h
theorem EK{i:Nat}{oi:Oper}{v:Value}{fuel:Nat}{listed:Array Bool}{a:Act}{w:World}(hi:ops[i]? =some oi)
  (hs:Region.noSelect ops=true) (hf:Region.free md ops listed i=true) (hr:(Region.ready md ops listed).contains i=true) (hEi:E i=false)
  (hQ:∀c a w,Q (.panic c) (a.put oi.dst v) w->Q (.panic c) a w) (hS:jG ops E listed=true\/S w) (hw:Region.wanted oi (yielded ops a.tmps)=true) (hy:∀w,(execOp a.eval oi).run P w= .ok (.value v) w)
  (h:gX P md ops Q S E fuel (listed.setIfInBounds i true) (a.put oi.dst v) w):gX P md ops Q S E (fuel+1) listed a w:=
 uT (SS:=fun _=>True) hi (Region.noSelect_spec hs) hQ hEi (.inl fun _=>trivial) fuel listed a w (Region.free_spec hi hf) (by simpa using hr) (.inl ⟨hw,fun w _=>.inl (hy w)⟩) trivial (fun e=>hS.elim (fun h=>by rw[h]at e;cases e) id) (.inl fun _=>trivial) h
theorem SI{i:Nat}{oi:Oper}{fuel:Nat}{listed:Array Bool}{a:Act}{w:World}(hi:ops[i]? =some oi)
  (hs:Region.noSelect ops=true) (hf:Region.free md ops listed i=true) (hr:(Region.ready md ops listed).contains i=true) (hEi:E i=false)
  (hQ:∀c a w,Q (.panic c) (a.put oi.dst undef) w->Q (.panic c) a w) (hS:jG ops E listed=true\/S w) (hw:Region.wanted oi (yielded ops a.tmps)=false)
  (h:gX P md ops Q S E fuel (listed.setIfInBounds i true) (a.put oi.dst undef) w):gX P md ops Q S E (fuel+1) listed a w:=
 uT (SS:=fun _=>True) hi (Region.noSelect_spec hs) hQ hEi (.inl fun _=>trivial) fuel listed a w (Region.free_spec hi hf) (by simpa using hr) (.inr ⟨hw,rfl⟩) trivial (fun e=>hS.elim (fun h=>by rw[h]at e;cases e) id) (.inl fun _=>trivial) h
theorem tqW{i:Nat}{oi:Oper}{v:Value}{fuel:Nat}{listed:Array Bool}{a:Act}{w:World}(hi:ops[i]? =some oi)
  (hS:jG ops E listed=true\/S w) (hy:∀w,(execOp a.eval oi).run P w= .ok (.value v) w)
  (h:gX P md ops Q S E fuel (listed.setIfInBounds i true) (a.put oi.dst v) w)
  (hs:Region.noSelect ops=true:=by kernel_rfl) (hf:Region.free md ops listed i=true:=by kernel_rfl) (hr:(Region.ready md ops listed).contains i=true:=by kernel_rfl) (hEi:E i=false:=by exact rfl)
  (hQ:∀c a w,Q (.panic c) (a.put oi.dst v) w->Q (.panic c) a w:=by exact fun _ _ _ h=>h) (hw:Region.wanted oi (yielded ops a.tmps)=true:=by rfl):gX P md ops Q S E (fuel+1) listed a w:=
 EK hi hs hf hr hEi hQ hS hw hy h
theorem tqK{i:Nat}{oi:Oper}{v:Value}{fuel:Nat}{listed:Array Bool}{a:Act}{w:World}(hi:ops[i]? =some oi)
  (hy:∀w,S w->(execOp a.eval oi).run P w= .ok (.value v) w)
  (h:gX P md ops Q S E fuel (listed.setIfInBounds i true) (a.put oi.dst v) w)
  (hs:Region.noSelect ops=true:=by kernel_rfl) (hf:Region.free md ops listed i=true:=by kernel_rfl) (hr:(Region.ready md ops listed).contains i=true:=by kernel_rfl) (hEi:E i=false:=by exact rfl) (hE:xW ops md E i=true:=by kernel_rfl) (hD:jG ops E listed=false:=by kernel_rfl)
  (hQ:∀c a w,Q (.panic c) (a.put oi.dst v) w->Q (.panic c) a w:=by exact fun _ _ _ h=>h) (hS:S w:=by assumption) (hw:Region.wanted oi (yielded ops a.tmps)=true:=by rfl):gX P md ops Q S E (fuel+1) listed a w:=
 IC hi hs hf hr hEi hE hD hQ hS hw hy h
def bQ(P:Program)(md:Region.Mode)(ops:Array Oper)(Q:Exit->Act->World->Prop)(S:World->Prop)(E:Nat->Bool)(fuel:Nat)(listed:Array Bool)(a:Act)(w:World)(rs:List Nat):Prop:=
 ∀i∈rs,wpOp P ops Q i (fun a' w'=>(jG ops E (listed.setIfInBounds i true)=false->S w')/\gX P md ops Q S E fuel (listed.setIfInBounds i true) a' w') a w
theorem fF{rs:List Nat}{fuel:Nat}{listed:Array Bool}{a:Act}{w:World}(hr:Region.ready md ops listed=rs)(hne:rs≠[])(h:bQ P md ops Q S E fuel listed a w rs):gX P md ops Q S E (fuel+1) listed a w:=⟨fun h0=>absurd (hr▸h0) hne,hr▸h⟩
theorem bQ.nil{fuel:Nat}{listed:Array Bool}{a:Act}{w:World}:bQ P md ops Q S E fuel listed a w []:=fun _ h=>by cases h
theorem bQ.cons{i:Nat}{o:Oper}{rs:List Nat}{fuel:Nat}{listed:Array Bool}{a:Act}{w:World}(ho:ops[i]? =some o)(h:∀K':Act->World->Prop,Shut (∀a w,S w->(S w->gX P md ops Q S E fuel (listed.setIfInBounds i true) a w)->K' a w)->if Region.wanted o (yielded ops a.tmps)=true then Oper.wp P o a w K' Q else K' (a.put o.dst undef) w)(hrs:bQ P md ops Q S E fuel listed a w rs):bQ P md ops Q S E fuel listed a w (i::rs):=by
 intro j hj;rcases qY.1 hj with rfl|hj;·exact wpOp_step ho (fun K' hK=>h K' (fun a w hS hW=>hK a w ⟨fun _=>hS,hW hS⟩))
 exact hrs j hj
theorem bQ.late{i:Nat}{o:Oper}{rs:List Nat}{fuel:Nat}{listed:Array Bool}{a:Act}{w:World}(ho:ops[i]? =some o)(hE:jG ops E (listed.setIfInBounds i true)=true)(h:∀K':Act->World->Prop,Shut (∀a w,gX P md ops Q S E fuel (listed.setIfInBounds i true) a w->K' a w)->if Region.wanted o (yielded ops a.tmps)=true then Oper.wp P o a w K' Q else K' (a.put o.dst undef) w)(hrs:bQ P md ops Q S E fuel listed a w rs):bQ P md ops Q S E fuel listed a w (i::rs):=by
 intro j hj;rcases qY.1 hj with rfl|hj;·exact wpOp_step ho (fun K' hK=>h K' (fun a w hW=>hK a w ⟨fun e=>(by rw[hE]at e;cases e),hW⟩))
 exact hrs j hj
theorem bf{listed:Array Bool}{a:Act}{w:World}(hr:Region.ready md ops listed=[])(h:Q .normal a w):
  ∀fuel,gX P md ops Q S E fuel listed a w
 |0=>⟨hr,h⟩
 |_+1=>⟨fun _=>h,by rw[hr];simp⟩
theorem bC{id n:Nat}{a:Act}{w:World}{S:World->Prop}{E:Nat->Bool}(hm:P.follows .mixedOrders=true)(hn:ops.size=n)(hS:S w.drew)(h:S w.drew->gX P .any ops Q S E n (Array.replicate n false) a w.drew):(Code.region id ops true).wp P Q a w:=by refine wp_region_any hm ?_;rw[hn];exact JU _ _ _ _ (h hS)
end
section
variable {P:Program} {ops:Array Oper} {C:World->Prop} {Q:Act->Prop} {a:Act} {o:Oper} {rest:List Oper}
theorem Yq{v:Value}(hw:Region.wanted o (yielded ops a.tmps)=true)(hv:∀w,C w->(execOp a.eval o).run P w= .ok (.value v) w)
  (h:wpQuiet P ops C Q rest (a.put o.dst v)):wpQuiet P ops C Q (o::rest) a:=
 wpQuiet_step fun K hK=>by
  rw[if_pos hw]
  refine⟨v,fun w hC=>?_,hK _ h⟩
  unfold Oper.quietAt
  rw[hv w hC]
  exact⟨rfl,rfl⟩
theorem gY{v:Value}{f:FuncId}{args:Array Value}(hw:Region.wanted o (yielded ops a.tmps)=true)(he:∀w,(execOp a.eval o).run P w= .ok (.enter f args) w)
  (hc:∀w,C w->Calls P f args w fun e w'=>e= .returned v/\C w')
  (h:wpQuiet P ops C Q rest (a.put o.dst v)):wpQuiet P ops C Q (o::rest) a:=
 wpQuiet_step fun K hK=>by
  rw[if_pos hw]
  refine⟨v,fun w hC=>?_,hK _ h⟩
  unfold Oper.quietAt
  rw[he w]
  exact⟨rfl,hc w hC⟩
theorem abz(hw:Region.wanted o (yielded ops a.tmps)=false)(h:wpQuiet P ops C Q rest (a.put o.dst undef)):wpQuiet P ops C Q (o::rest) a:=
 wpQuiet_step fun K hK=>by rw[if_neg (by rw[hw];exact Bool.false_ne_true)];exact hK _ h
theorem fO{id:Nat}{Q:Exit->Act->World->Prop}{a:Act}{w:World}{l:List Oper}(C:World->Prop)(hm:P.follows .mixedOrders=true)(hB:Region.lexB .any l.toArray=true)(hC:C w.drew)
  (h:wpQuiet P l.toArray C (fun a'=> ∀w',C w'->Q .normal a' w') l a):(Code.region id l.toArray true).wp P Q a w:=
 wp_region_quiet (C:=C) hm hB hC (by simpa using h)
end
end Go.Proofs.YtdmmebjjojimiaaGreatDoor
namespace Go.Proofs.YtdmmebjjojimiaaGreatDoor
open Go.RowKit
section
variable {P:Program} {ops:Array Oper} {Q:Exit->Act->World->Prop} {md:Region.Mode} {S:World->Prop} {E:Nat->Bool}
theorem tW(i:Nat){oi:Oper}{v:Value}{fuel:Nat}{listed L2:Array Bool}{a a2:Act}{w:World}(h:gX P md ops Q S E fuel L2 a2 w)(hi:ops[i]? =some oi:=by exact rfl)
  (hS:jG ops E listed=true\/S w:=by exact .inr (by assumption)) (hw:Region.wanted oi (yielded ops a.tmps)=true:=by rfl) (hs:Region.noSelect ops=true:=by kernel_rfl) (hf:Region.free md ops listed i=true:=by kernel_rfl) (hr:(Region.ready md ops listed).contains i=true:=by kernel_rfl) (hEi:E i=false:=by exact rfl)
  (hy:∀w,(execOp a.eval oi).run P w= .ok (.value v) w:=by(intro w;go_simp<;>(try with_reducible rfl)))
  (eL:listed.setIfInBounds i true=L2:=by first| (simp only[List.getElem_toArray,List.getElem_cons_succ,List.getElem_cons_zero,List.setIfInBounds_toArray,List.set_cons_zero,List.set_cons_succ];rfl)|rfl) (eA:a.put oi.dst v=a2:=by first| (simp only[Act.put,eF,fA,eG,dW,dX,dY];rfl)|rfl)
  (hQ:∀c a w,Q (.panic c) (a.put oi.dst v) w->Q (.panic c) a w:=by exact fun _ _ _ h=>h):gX P md ops Q S E (fuel+1) listed a w:=
 EK hi hs hf hr hEi hQ hS hw hy (by rw[eL,eA];exact h)
theorem tK(i:Nat){oi:Oper}{v:Value}{fuel:Nat}{listed L2:Array Bool}{a a2:Act}{w:World}(h:gX P md ops Q S E fuel L2 a2 w)(hi:ops[i]? =some oi:=by exact rfl)
  (hS:S w:=by assumption) (hw:Region.wanted oi (yielded ops a.tmps)=true:=by rfl) (hs:Region.noSelect ops=true:=by kernel_rfl) (hf:Region.free md ops listed i=true:=by kernel_rfl) (hr:(Region.ready md ops listed).contains i=true:=by kernel_rfl) (hEi:E i=false:=by exact rfl) (hE:xW ops md E i=true:=by kernel_rfl) (hD:jG ops E listed=false:=by kernel_rfl)
  (hy:∀w,S w->(execOp a.eval oi).run P w= .ok (.value v) w:=by(intro w hSw;(try dsimp only at hSw);go_simp<;>(try with_reducible rfl)))
  (eL:listed.setIfInBounds i true=L2:=by first| (simp only[List.getElem_toArray,List.getElem_cons_succ,List.getElem_cons_zero,List.setIfInBounds_toArray,List.set_cons_zero,List.set_cons_succ];rfl)|rfl) (eA:a.put oi.dst v=a2:=by first| (simp only[Act.put,eF,fA,eG,dW,dX,dY];rfl)|rfl)
  (hQ:∀c a w,Q (.panic c) (a.put oi.dst v) w->Q (.panic c) a w:=by exact fun _ _ _ h=>h):gX P md ops Q S E (fuel+1) listed a w:=
 IC hi hs hf hr hEi hE hD hQ hS hw hy (by rw[eL,eA];exact h)
theorem tS(i:Nat){oi:Oper}{fuel:Nat}{listed L2:Array Bool}{a a2:Act}{w:World}(h:gX P md ops Q S E fuel L2 a2 w)(hi:ops[i]? =some oi:=by exact rfl)
  (hS:jG ops E listed=true\/S w:=by exact .inr (by assumption)) (hw:Region.wanted oi (yielded ops a.tmps)=false:=by rfl) (hs:Region.noSelect ops=true:=by kernel_rfl) (hf:Region.free md ops listed i=true:=by kernel_rfl) (hr:(Region.ready md ops listed).contains i=true:=by kernel_rfl) (hEi:E i=false:=by exact rfl)
  (eL:listed.setIfInBounds i true=L2:=by first| (simp only[List.getElem_toArray,List.getElem_cons_succ,List.getElem_cons_zero,List.setIfInBounds_toArray,List.set_cons_zero,List.set_cons_succ];rfl)|rfl) (eA:a.put oi.dst undef=a2:=by first| (simp only[Act.put,eF,fA,eG,dW,dX,dY];rfl)|rfl)
  (hQ:∀c a w,Q (.panic c) (a.put oi.dst undef) w->Q (.panic c) a w:=by exact fun _ _ _ h=>h):gX P md ops Q S E (fuel+1) listed a w:=
 SI hi hs hf hr hEi hQ hS hw (by rw[eL,eA];exact h)
theorem tO(i:Nat){oi:Oper}{fuel:Nat}{listed:Array Bool}{a:Act}{w:World}
  (h:∀K':Act->World->Prop,Shut (∀a w,S w->(S w->gX P md ops Q S E fuel (listed.setIfInBounds i true) a w)->K' a w)->if Region.wanted oi (yielded ops a.tmps)=true then Oper.wp P oi a w K' Q else K' (a.put oi.dst undef) w)
  (hi:ops[i]? =some oi:=by exact rfl) (hr:Region.ready md ops listed=[i]:=by kernel_rfl):gX P md ops Q S E (fuel+1) listed a w:=
 fF hr (by simp) (bQ.cons hi h bQ.nil)
end
section
variable {P:Program} {ops:Array Oper} {C:World->Prop} {Q:Act->Prop} {a:Act} {o:Oper} {rest:List Oper}
theorem qV{v:Value}{a2:Act}(h:wpQuiet P ops C Q rest a2)(hw:Region.wanted o (yielded ops a.tmps)=true:=by rfl)
  (hy:∀w,C w->(execOp a.eval o).run P w= .ok (.value v) w:=by(intro w hSw;(try dsimp only at hSw);go_simp<;>(try with_reducible rfl)))
  (eA:a.put o.dst v=a2:=by first| (simp only[Act.put,eF,fA,eG,dW,dX,dY];rfl)|rfl):wpQuiet P ops C Q (o::rest) a:=
 Yq hw hy (by rw[eA];exact h)
theorem qS{a2:Act}(h:wpQuiet P ops C Q rest a2)(hw:Region.wanted o (yielded ops a.tmps)=false:=by kernel_rfl)
  (eA:a.put o.dst undef=a2:=by first| (simp only[Act.put,eF,fA,eG,dW,dX,dY];rfl)|rfl):wpQuiet P ops C Q (o::rest) a:=
 abz hw (by rw[eA];exact h)
end
end Go.Proofs.YtdmmebjjojimiaaGreatDoor
