/-
  PROVED HERE: LockAgain returns true for every input, and changes nothing that was there (Rows.LockAgainSaid, without a condition).
  The frame of the row's proof follows what proof-skeleton.mjs prints; the walk is LockAgain_walk of YtdmmebjjojimiaaGreatDoorLaL1.
-/
import Derived.Test.YtdmmebjjojimiaaGreatDoorG00
import Derived.Test.YtdmmebjjojimiaaGreatDoorG45
import Derived.Test.YtdmmebjjojimiaaGreatDoorG10
import Derived.Test.YtdmmebjjojimiaaGreatDoorTie
import Derived.Test.YtdmmebjjojimiaaGreatDoorCards
import Derived.SevenTiedAt
import Derived.SizedLaws
import Derived.Test.YtdmmebjjojimiaaGreatDoorG46
import Derived.Deep.Slices
import Derived.Deep.Fields
import Derived.Test.YtdmmebjjojimiaaGreatDoorRows
import Derived.WalkKit
import Derived.ProofKit
import Derived.OpenShut
import Derived.ShutString
import Derived.ChangeOld
import Derived.Below
namespace Go.Proofs.YtdmmebjjojimiaaGreatDoor.lockAgain
open Go.ChangeShapes Go.WideShapes Go.ChangeAt Go.RowKit
open Go.Deep
open Go.ChangeMaps (open_string shut_string)
set_option linter.all false
theorem own:ownKnob Tryz.prog.godebug=none:=by kernel_rfl
theorem witness_row(os:Os){H:Type}(enc:TypeId×Value->H):
    (OpenSpec.ofChange Rows.lockAgainSpec).preRow enc Tryz.prog Tryz.f3 Rows.lockAgainRow.domain false Rows.lockAgainRow.laid ((afU os).forCall (fun _ _=>0) ⟨#[],#[.agg #[.slice none 0 0,.slice none 0 0],.agg #[.slice none 0 0],.agg #[.slice none 0 0]],[]⟩).memory #[.agg #[.slice none 0 0,.slice none 0 0],.agg #[.slice none 0 0],.agg #[.slice none 0 0]]:=
  ⟨⟨ChangeSpec.pre_of_preB (fuel:=8) (by kernel_rfl),acN os _⟩,sizedMet_of_sizedB (fuel:=8) (by kernel_rfl)⟩
set_option maxRecDepth 100000 in
theorem lifted(os:Os)(started:os.Started)(H:Type)(enc:TypeId×Value->H)(F:Stop.Interp):ReturnsInHanded {} Tryz.checked os 3 .any ((OpenSpec.ofChange Rows.lockAgainSpec).preRow enc Tryz.prog Tryz.f3 Rows.lockAgainRow.domain false Rows.lockAgainRow.laid) (((OpenSpec.ofChange Rows.lockAgainSpec).at F).post enc Tryz.prog Tryz.f3 false true false false):=by
 refine returnsInHanded_of_row (C:=Tryz.checked) (s:=OpenSpec.ofChange Rows.lockAgainSpec) own started (by kernel_rfl) Tryz.func3
   (witness_row_atRef (enc:=enc) (C:=Tryz.checked) false (afU os) #[.agg #[.slice none 0 0,.slice none 0 0],.agg #[.slice none 0 0],.agg #[.slice none 0 0]] rfl (by kernel_rfl) (by kernel_rfl) (by kernel_rfl) (witness_row os enc)) ?_
 intro W base args ds gs before hval0 hW hcnd _ hsz0 hL hSh _;have HL:Laid W:=ahG hL;have hval:∀(j:Nat) t v,Tryz.f3.params[j]? =some t->args[j]? =some v->Value.okWide Tryz.prog W .any base t v:=hval0;have hW':=hW;obtain⟨p,q,hA0,hV,rfl,hfz,hnd⟩:=hW;have hA:DataW.TrodAll enc Tryz.prog W 0 (fun _=>true) true Tryz.f3.params.toList args.toList ds p:=hA0;rw[Tryz.params3]at hA hval;obtain⟨v0,vs0,d0,ds0,p0,q0,hargs,rfl,rfl,h0,r0⟩:=trodAll_cons hA;obtain⟨v1,vs1,d1,ds1,p1,q1,rfl,rfl,rfl,h1,r1⟩:=trodAll_cons r0;obtain⟨v2,vs2,d2,ds2,p2,q2,rfl,rfl,rfl,h2,r2⟩:=trodAll_cons r1;obtain⟨rfl,rfl,rfl⟩:=trodAll_nil r2;obtain rfl:args= #[v0,v1,v2]:=by cases args;simp_all
 obtain⟨rfl,rfl⟩:=trodVars_none hV;obtain⟨l0,rfl⟩:∃l:List Value,v0= .agg l.toArray:=by obtain⟨a,rfl,-⟩:=okWide_struct Tryz.underlying25 (hval 0 25 v0 rfl rfl);exact⟨a.toList,by simp⟩
 have k0:=h0;have lt0:∀x∈p0,x.block<W.heap.size:=by obtain⟨m,hm⟩:=k0;exact DataW.trod_lt m _ _ _ hm
 obtain⟨c0,hI0⟩:∃c,fO W.heap.size W l0 c:=by obtain⟨fuel,hf⟩:=h0;exact acS (by simpa[Value.cells]using hf)
 obtain⟨l1,rfl⟩:∃l:List Value,v1= .agg l.toArray:=by obtain⟨a,rfl,-⟩:=okWide_struct Tryz.underlying28 (hval 1 28 v1 rfl rfl);exact⟨a.toList,by simp⟩
 have k1:=h1;have lt1:∀x∈p1,x.block<W.heap.size:=by obtain⟨m,hm⟩:=k1;exact DataW.trod_lt m _ _ _ hm
 obtain⟨c1,hI1⟩:∃c,mg W.heap.size W l1 c:=by obtain⟨fuel,hf⟩:=h1;exact acT (by simpa[Value.cells]using hf)
 obtain⟨l2,rfl⟩:∃l:List Value,v2= .agg l.toArray:=by obtain⟨a,rfl,-⟩:=okWide_struct Tryz.underlying31 (hval 2 31 v2 rfl rfl);exact⟨a.toList,by simp⟩
 have k2:=h2;have lt2:∀x∈p2,x.block<W.heap.size:=by obtain⟨m,hm⟩:=k2;exact DataW.trod_lt m _ _ _ hm
 obtain⟨c2,hI2⟩:∃c,rU W.heap.size W l2 c:=by obtain⟨fuel,hf⟩:=h2;exact acU (by simpa[Value.cells]using hf)
 clear hA0 hval0;refine(PZ hI0 hI1 hI2 HL hSh).mono fun e W' ⟨he,ho⟩=>?_;have bel:=ho.ais;subst he;exact⟨_,rfl,_,_,_,[],_,[],hW',trodAll_mk1 (shut_bool Tryz.underlying4 _),(trodAll_cons_mk (Below.trod laidOut (by kernel_rfl) (of_decide_eq_true (by kernel_rfl)) k0 bel lt0) (trodAll_cons_mk (Below.trod laidOut (by kernel_rfl) (of_decide_eq_true (by kernel_rfl)) k1 bel lt1) (trodAll_cons_mk (Below.trod laidOut (by kernel_rfl) (of_decide_eq_true (by kernel_rfl)) k2 bel lt2) trodAll_mk0))),rfl,bel.frame _,fun h=>by cases h⟩
theorem over:Rows.LockAgainSaid:=
  OpenClaim.holds_of_cond 3 Tryz.f3 rfl rfl rfl rfl rfl rfl rfl ⟨rfl,rfl,rfl,rfl,rfl⟩ rfl rfl rfl rfl rfl (by kernel_rfl) Tryz.func3 ahF
    (of_decide_eq_true (by kernel_rfl)) (by unfold Func.isWrapper;first| (rw[if_pos (by decide+kernel)];kernel_rfl)| (rw[if_neg (by decide+kernel)];exact⟨rfl,rfl⟩))
    (fun os started H enc _ F0=>by rw[OpenClaim.pre_eq_preRow];exact lifted os started H enc F0)
theorem proved:Rows.LockAgainCardSaid:=
  Claim7.holds_tied_plain_at .later [] [.data,.data,.data,.data,.sentinel,.sentinel,.pinned] true (true, "2f63823f86ec4b5b881815ae00fb8494dd07749f778e8069bd46e0bff319c29f") true
    over (fun _ h=>by cases h) (by kernel_rfl) (fun _ h=>by cases h) lockAgain_row_tie rfl ⟨rfl,rfl⟩ (by kernel_rfl) rfl
    (fun f fn hf hfn=>by
      obtain rfl:f=3:=Option.some.inj ((show Tryz.prog.funcNamed "cooper/cooperlaw28.LockAgain" =some 3 by kernel_rfl).symm.trans hf) |>.symm
      obtain rfl:fn=Tryz.f3:=(Option.some.inj (Tryz.func3.symm.trans hfn)).symm
      exact⟨by kernel_rfl,fun j t ht=>by
        rw[Tryz.params3]at ht
        have h3:t=25\/t=28\/t=31:=by
          rcases j with _|_|_|j
          ·have e:=ht.symm;simp at e;simp[e]
          ·have e:=ht.symm;simp at e;simp[e]
          ·have e:=ht.symm;simp at e;simp[e]
          ·simp at ht
        rcases h3 with rfl|rfl|rfl
        ·exact(show Tryz.prog.wantsStandIn 25=false by kernel_rfl)
        ·exact(show Tryz.prog.wantsStandIn 28=false by kernel_rfl)
        ·exact(show Tryz.prog.wantsStandIn 31=false by kernel_rfl)⟩)
    ahE
#print axioms proved
end Go.Proofs.YtdmmebjjojimiaaGreatDoor.lockAgain
