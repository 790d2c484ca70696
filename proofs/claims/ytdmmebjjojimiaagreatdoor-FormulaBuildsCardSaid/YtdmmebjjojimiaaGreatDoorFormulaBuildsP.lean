/-
  PROVED HERE: FormulaBuilds returns true for every input, and changes nothing that was there (Rows.FormulaBuildsSaid, without a condition).
  The frame of the row's proof follows what proof-skeleton.mjs prints; the walk is FormulaBuilds_walk of YtdmmebjjojimiaaGreatDoorFbL1.
-/
import Derived.Test.YtdmmebjjojimiaaGreatDoorG00
import Derived.Test.YtdmmebjjojimiaaGreatDoorG45
import Derived.Test.YtdmmebjjojimiaaGreatDoorG17
import Derived.Test.YtdmmebjjojimiaaGreatDoorTie
import Derived.Test.YtdmmebjjojimiaaGreatDoorCards
import Derived.SevenTiedAt
import Derived.SizedLaws
import Derived.Deep.Slices
import Derived.Deep.Fields
import Derived.Test.YtdmmebjjojimiaaGreatDoorRows
import Derived.WalkKit
import Derived.ProofKit
import Derived.OpenShut
import Derived.ShutString
import Derived.ChangeOld
import Derived.Below
namespace Go.Proofs.YtdmmebjjojimiaaGreatDoor.formulaBuilds
open Go.ChangeShapes Go.WideShapes Go.ChangeAt Go.RowKit
open Go.Deep
open Go.ChangeMaps (open_string shut_string)
set_option linter.all false
theorem own:ownKnob Tryz.prog.godebug=none:=by kernel_rfl
theorem witness_row(os:Os){H:Type}(enc:TypeId×Value->H):
    (OpenSpec.ofChange Rows.formulaBuildsSpec).preRow enc Tryz.prog Tryz.f5 Rows.formulaBuildsRow.domain false Rows.formulaBuildsRow.laid ((aeG os).forCall (fun _ _=>0) ⟨#[],#[.agg #[.slice none 0 0,.slice none 0 0],.agg #[.slice none 0 0],.int .i64 0,.slice none 0 0],[]⟩).memory #[.agg #[.slice none 0 0,.slice none 0 0],.agg #[.slice none 0 0],.int .i64 0,.slice none 0 0]:=
  ⟨⟨ChangeSpec.pre_of_preB (fuel:=8) (by kernel_rfl),aa8 os _⟩,sizedMet_of_sizedB (fuel:=8) (by kernel_rfl)⟩
set_option maxRecDepth 100000 in
theorem lifted(os:Os)(started:os.Started)(H:Type)(enc:TypeId×Value->H)(F:Stop.Interp):ReturnsInHanded {} Tryz.checked os 5 .any ((OpenSpec.ofChange Rows.formulaBuildsSpec).preRow enc Tryz.prog Tryz.f5 Rows.formulaBuildsRow.domain false Rows.formulaBuildsRow.laid) (((OpenSpec.ofChange Rows.formulaBuildsSpec).at F).post enc Tryz.prog Tryz.f5 false true false false):=by
 refine returnsInHanded_of_row (C:=Tryz.checked) (s:=OpenSpec.ofChange Rows.formulaBuildsSpec) own started (by kernel_rfl) Tryz.func5
   (witness_row_atRef (enc:=enc) (C:=Tryz.checked) false (aeG os) #[.agg #[.slice none 0 0,.slice none 0 0],.agg #[.slice none 0 0],.int .i64 0,.slice none 0 0] rfl (by kernel_rfl) (by kernel_rfl) (by kernel_rfl) (witness_row os enc)) ?_
 intro W base args ds gs before hval0 hW hcnd _ hsz0 hL hSh _;have HL:Laid W:=agF hL;have hval:∀(j:Nat) t v,Tryz.f5.params[j]? =some t->args[j]? =some v->Value.okWide Tryz.prog W .any base t v:=hval0;have hW':=hW;obtain⟨p,q,hA0,hV,rfl,hfz,hnd⟩:=hW;have hA:DataW.TrodAll enc Tryz.prog W 0 (fun _=>true) true Tryz.f5.params.toList args.toList ds p:=hA0;rw[Tryz.params5]at hA hval;obtain⟨v0,vs0,d0,ds0,p0,q0,hargs,rfl,rfl,h0,r0⟩:=trodAll_cons hA;obtain⟨v1,vs1,d1,ds1,p1,q1,rfl,rfl,rfl,h1,r1⟩:=trodAll_cons r0;obtain⟨v2,vs2,d2,ds2,p2,q2,rfl,rfl,rfl,h2,r2⟩:=trodAll_cons r1;obtain⟨v3,vs3,d3,ds3,p3,q3,rfl,rfl,rfl,h3,r3⟩:=trodAll_cons r2;obtain⟨rfl,rfl,rfl⟩:=trodAll_nil r3;obtain rfl:args= #[v0,v1,v2,v3]:=by cases args;simp_all
 obtain⟨rfl,rfl⟩:=trodVars_none hV;obtain⟨l0,rfl⟩:∃l:List Value,v0= .agg l.toArray:=by obtain⟨a,rfl,-⟩:=okWide_struct Tryz.underlying25 (hval 0 25 v0 rfl rfl);exact⟨a.toList,by simp⟩
 have k0:=h0;have lt0:∀x∈p0,x.block<W.heap.size:=by obtain⟨m,hm⟩:=k0;exact DataW.trod_lt m _ _ _ hm
 obtain⟨c0,hI0⟩:∃c,gy W.heap.size W l0 c:=by obtain⟨fuel,hf⟩:=h0;exact abh (by simpa[Value.cells]using hf)
 obtain⟨l1,rfl⟩:∃l:List Value,v1= .agg l.toArray:=by obtain⟨a,rfl,-⟩:=okWide_struct Tryz.underlying28 (hval 1 28 v1 rfl rfl);exact⟨a.toList,by simp⟩
 have k1:=h1;have lt1:∀x∈p1,x.block<W.heap.size:=by obtain⟨m,hm⟩:=k1;exact DataW.trod_lt m _ _ _ hm
 obtain⟨c1,hI1⟩:∃c,lW W.heap.size W l1 c:=by obtain⟨fuel,hf⟩:=h1;exact abj (by simpa[Value.cells]using hf)
 obtain⟨a2,rfl,rfl,rfl,w2⟩:=open_int Tryz.underlying3 (hval 2 3 v2 rfl rfl) h2;have b2:=bounds_i64 w2;obtain⟨a3,aq8,cap3,rfl⟩:=okWide_slice Tryz.underlying58 (hval 3 58 v3 rfl rfl);have k3:=h3;have lt3:∀x∈p3,x.block<W.heap.size:=by obtain⟨m,hm⟩:=k3;exact DataW.trod_lt m _ _ _ hm
 obtain⟨c3,hI3⟩:∃c,Bools W (.slice a3 aq8 cap3) c:=by obtain⟨fuel,hf⟩:=h3;exact aeH (by simpa[Value.cells]using hf)
 clear hA0 hval0;refine(EC hI0 hI1 _ b2 hI3 (Nat.le_refl _) HL).mono fun e W' ⟨he,ho⟩=>?_;have bel:=ho.aht;subst he;exact⟨_,rfl,_,_,_,[],_,[],hW',trodAll_mk1 (shut_bool Tryz.underlying4 _),(trodAll_cons_mk (Below.trod laidOut (by kernel_rfl) (of_decide_eq_true (by kernel_rfl)) k0 bel lt0) (trodAll_cons_mk (Below.trod laidOut (by kernel_rfl) (of_decide_eq_true (by kernel_rfl)) k1 bel lt1) (trodAll_cons_mk (shut_int Tryz.underlying3 w2) (trodAll_cons_mk (Below.trod laidOut (by kernel_rfl) (of_decide_eq_true (by kernel_rfl)) k3 bel lt3) trodAll_mk0)))),rfl,bel.frame _,fun h=>by cases h⟩
theorem over:Rows.FormulaBuildsSaid:=
  OpenClaim.holds_of_cond 5 Tryz.f5 rfl rfl rfl rfl rfl rfl rfl ⟨rfl,rfl,rfl,rfl,rfl⟩ rfl rfl rfl rfl rfl (by kernel_rfl) Tryz.func5 agE
    (of_decide_eq_true (by kernel_rfl)) (by unfold Func.isWrapper;first| (rw[if_pos (by decide+kernel)];kernel_rfl)| (rw[if_neg (by decide+kernel)];exact⟨rfl,rfl⟩))
    (fun os started H enc _ F0=>by rw[OpenClaim.pre_eq_preRow];exact lifted os started H enc F0)
theorem proved:Rows.FormulaBuildsCardSaid:=
  Claim7.holds_tied_plain_at .later [] [.data,.data,.data,.data,.sentinel,.sentinel,.pinned] true (true, "2f63823f86ec4b5b881815ae00fb8494dd07749f778e8069bd46e0bff319c29f") true
    over (fun _ h=>by cases h) (by kernel_rfl) (fun _ h=>by cases h) formulaBuilds_row_tie rfl ⟨rfl,rfl⟩ (by kernel_rfl) rfl
    (fun f fn hf hfn=>by
      obtain rfl:f=5:=Option.some.inj ((show Tryz.prog.funcNamed "cooper/cooperlaw16.FormulaBuilds" =some 5 by kernel_rfl).symm.trans hf) |>.symm
      obtain rfl:fn=Tryz.f5:=(Option.some.inj (Tryz.func5.symm.trans hfn)).symm
      exact⟨by kernel_rfl,fun j t ht=>by
        rw[Tryz.params5]at ht
        have h3:t=25\/t=28\/t=3\/t=58:=by
          rcases j with _|_|_|_|j
          ·have e:=ht.symm;simp at e;simp[e]
          ·have e:=ht.symm;simp at e;simp[e]
          ·have e:=ht.symm;simp at e;simp[e]
          ·have e:=ht.symm;simp at e;simp[e]
          ·simp at ht
        rcases h3 with rfl|rfl|rfl|rfl
        ·exact(show Tryz.prog.wantsStandIn 25=false by kernel_rfl)
        ·exact(show Tryz.prog.wantsStandIn 28=false by kernel_rfl)
        ·exact(show Tryz.prog.wantsStandIn 3=false by kernel_rfl)
        ·exact(show Tryz.prog.wantsStandIn 58=false by kernel_rfl)⟩)
    agD
#print axioms proved
end Go.Proofs.YtdmmebjjojimiaaGreatDoor.formulaBuilds
