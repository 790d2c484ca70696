/- Prop9 Prop10 Prop12 Prop13, in one text. -/
import Derived.Test.YtjedgdamommgeaaGreatPrC
import Derived.Test.YtjedgdamommgeaaGreatPrA
import Derived.Test.YtjedgdamommgeaaGreatRegs
import Derived.Test.YtjedgdamommgeaaGreatCnfA
import Derived.Test.YtjedgdamommgeaaGreatPrP
set_option linter.unusedVariables false
namespace Go.Proofs.YtjedgdamommgeaaGreat
open Go.RowKit
open Tr
def slLen : Value → Nat
 | .slice _ n _ => n
 | _ => 0
def folMeas (b n : Nat) (w : World) : Nat := (n - (intOf ((w.cell? ⟨b, 6, none⟩).getD (.int .i64 0))).toNat) + slLen ((w.cell? ⟨b, 7, none⟩).getD nilS)
section
variable {w : World} {g : Tag} {b : Nat} {V : TrV} {T : Trail}
theorem TrAt.meas (H : TrAt w g b V T) (n : Nat) : folMeas b n w = (n - T.next) + T.short.length := by
 unfold folMeas
 rw [H.f6, H.f7]
 obtain ⟨ao, cap, hv, -, -⟩ := H.s.shape
 rw [hv]
 simp [intOf, slLen]
theorem first_short (T : Trail) (k : Nat) : (T.first k).1.short = T.short := by
 unfold Trail.first Trail.firstV
 split
 ·rfl
 ·split
  ·rfl
  ·split <;> rfl
structure FolAt (w : World) (g : Tag) (b : Nat) (T : Trail) (wr : World) (g1 : Tag) (V1 : TrV) (T1 : Trail) : Prop where
 at_ : TrAt wr g1 b V1 T1
 inv : Inv T1
 fol : ∀ T' r, Foll T1 T' r → Foll T T' r
 ag : Agree w g g1
 on : Only (Mine g) w wr
 n : T1.n = T.n
def FolTo (w : World) (g : Tag) (b : Nat) (T : Trail) (e : Ending) (w' : World) : Prop := ∃ r T', e = .returned (.int .i64 r) ∧ Foll T T' r ∧ TrTo w g b T' w'
set_option maxRecDepth 100000 in
set_option maxHeartbeats 3200000 in
theorem prop_Follow_any (H : TrAt w g b V T) (I : Inv T) :
  Calls Tryz.prog 39 #[.pointer (some ⟨b, 0, none⟩)] w (FolTo w g b T) := by
 have hst : FolAt w g b T w g V T := ⟨H, I, fun _ _ h => h, Agree.refl _ _, Only.refl _ _, rfl⟩
 have HSt := Lib.hid hst
 have hTn := I.ok.n
 clear hst H I
 go_enter Tryz.func39, Tryz.ntmps39
 go_wp2_with fail
 go_loopw [] (fun wr => ∃ g1 V1 T1, FolAt w g b T wr g1 V1 T1) (fun wr => folMeas b T.n wr)
 case atStart => exact ⟨g, V, T, HSt.out⟩
 case round =>
  clear HSt
  obtain ⟨g1, V1, T1, hF⟩ := hrel
  have hme := hF.at_.meas T.n
  have o1 := hF.inv.ok
  have hnl := o1.next
  have hel := o1.len
  have hn1 := hF.n
  have hcb := o1.cb
  have q7 := hF.at_.f7
  have q6 := hF.at_.f6
  have q4 := hF.at_.f4
  obtain ⟨al, cl, hvl, -, -⟩ := hF.at_.l.shape
  have hll : (T1.lits.map cI).length = T1.ents.length := by simp [lits_len]
  rw [hll] at hvl
  rw [hvl] at q4
  have HF := Lib.hid hF
  have HMe := Lib.hid hme
  by_cases cn : T1.next < T1.ents.length
  ·skip
   have hrl := hF.at_.l
   rw [hvl] at hrl
   obtain ⟨bl, hal⟩ : ∃ bl, al = some ⟨bl, 0, none⟩ := by
    obtain ⟨bl, _, he, _⟩ := hrl.pos (by rw [hll]; omega)
    simp at he; exact ⟨bl, he.1⟩
   subst hal
   have qx := hrl.cellM (f := cI) 0 (i := T1.next) (by rw [lits_len]; exact cn)
   have hlx := o1.litAt cn
   have hmx : T1.lits.getD T1.next 0 ∈ T1.lits := getD_mem' 0 (by rw [lits_len]; exact cn)
   obtain ⟨x, hx⟩ : ∃ x, T1.lits.getD T1.next 0 = x := ⟨_, rfl⟩
   rw [hx] at qx hlx hmx
   obtain ⟨T2, z, hv⟩ : ∃ T2 z, T1.visit (-x) (T1.wt (place (-x))) [] = (T2, z) := ⟨_, _, rfl⟩
   have hvp := visit_post (-x) _ [] T1 (VI.start hF.inv (l := -x) (by omega) (by rw [Int.neg_neg]; exact hmx))
   rw [hv] at hvp
   have hvis : ∀ W, Only (fun _ => False) wr W → Calls Tryz.prog 66 #[.pointer (some ⟨b, 0, none⟩), .int .i64 (-x)] W fun e w' => e = .returned (.int .i64 z) ∧ ∃ g2 V2, TrAt w' g2 b V2 T2 ∧ Agree wr g1 g2 ∧ Only (Mine g1) wr w' := by
    intro W oW
    refine (prop_visit_any (HF.out.at_.only0 oW) HF.out.inv (-x) (by rw [hn1] at hlx; show -x ≠ 0 ∧ (-x).natAbs ≤ T1.n; omega) (by rw [Int.neg_neg]; exact hmx) z (by rw [hv])).mono ?_
    rintro e w' ⟨h1, h2⟩
    unfold VisTo at h2
    rw [hv] at h2
    obtain ⟨g2, V2, h3, h4, h5⟩ := h2
    exact ⟨h1, g2, V2, h3, fun q hq => h4 q (by have := oW.size; omega), (oW.mono fun _ f => f.elim).same h5⟩
   have HVis := Lib.hid hvis
   have ewx : IntKind.i64.wrap (-x) = -x := IntWalk.i64_in _ (by omega)
   have hzr : z = -1 ∨ 0 ≤ z := by
    rcases hvp.end_ with ⟨h, _⟩ | ⟨k, h, _⟩
    ·exact .inl h
    ·right; omega
   have dn : decide (T1.next < T1.ents.length) = true := decide_eq_true cn
   have hcr : (T1.next : Int) < (T1.ents.length : Int) := by omega
   have HVp := Lib.hid hvp
   have HV := Lib.hid hv
   have HX := Lib.hid hx
   obtain ⟨asx, cs, hvs, -, -⟩ := hF.at_.s.shape
   simp only [List.length_map] at hvs
   rw [hvs] at q7
   clear hvis hvp hv hx hrl hF o1 hll hvl hme
   obtain ⟨zs, hzs⟩ : ∃ zs, decide (0 < T1.short.length) = zs := ⟨_, rfl⟩
   have hzs' : decide ((0 : Int) < (T1.short.length : Int)) = zs := by rw [← hzs]; apply decide_eq_decide.2; omega
   cases zs
   all_goals
    go_wp2_with fail
    go_quiet (fail)
    go_wp2_with fail
    go_quiet (fail)
    go_wp2_with fail
    go_quiet (fail)
    go_wp2_with fail
    refine (HVis.out _ (by repeat (first | exact Only.refl _ _ | apply Only.drew | apply Only.alloc | apply Only.drewN))).mono ?_
    rintro e w2 ⟨rfl, g2, V2, H2, A2, O2⟩
    rcases hzr with hz | hz
    ·subst hz
     have hn2 : T2.next = T1.next := HVp.out.ext.next
     have H3 := H2.setN (m := T2.next + 1) (Agree.refl _ _) H2.fresh (Only.refl _ _)
     have hO3 : Only (Mine g1) wr (w2.setCell ⟨b, 6, none⟩ (cN (T2.next + 1))) := O2.mine A2 ((Only.refl _ w2).setCell (.inl (by unfold Mine; rw [H2.tb]; simp)) _)
     have hinv : Inv { T2 with next := T2.next + 1 } := by
      rcases HVp.out.end_ with ⟨_, hkp⟩ | ⟨m, hm, _⟩
      ·obtain ⟨rr, hrr⟩ := HVp.out.ext.ext.lits
       obtain ⟨re, hre⟩ := HVp.out.ext.ext.ents
       have hrr : T2.lits = T1.lits ++ rr := hrr
       have hre : T2.ents = T1.ents ++ re := hre
       refine HVp.out.inv.step (l := -x) (by omega) (by rw [hn2, hre, List.length_append]; omega) ?_ hkp
       rw [hn2, hrr, getD_app_l _ _ _ (by rw [lits_len]; exact cn), HX.out, Int.neg_neg]
      ·omega
     have hnext : FolAt w g b T (w2.setCell ⟨b, 6, none⟩ (cN (T2.next + 1))) g2 V2 { T2 with next := T2.next + 1 } :=
      ⟨H3, hinv, fun T' r hf => HF.out.fol T' r (Foll.step cn (by rw [HX.out]; exact HV.out) (by decide) hf), HF.out.ag.trans A2 HF.out.on.size, HF.out.on.mine HF.out.ag hO3, (HVp.out.ext.ext.n).trans hn1⟩
     have hm3 := hnext.at_.meas T.n
     have hs3 : T2.short = T1.short := HVp.out.ext.short
     have HNx := Lib.hid hnext
     have HM3 := Lib.hid hm3
     have p6 := H2.f6
     have f6 := H2.free 6
     have ew6 : IntKind.i64.wrap ((T2.next : Int) + 1) = ((T2.next + 1 : Nat) : Int) := by rw [IntWalk.i64_in _ (by omega)]; rfl
     have HN2 := Lib.hid hn2
     have HS3 := Lib.hid hs3
     clear hnext hinv hO3 H3 H2 A2 O2 hm3 hn2 hs3
     go_wp2_with fail
     go_roundw
     case rel => exact ⟨g2, V2, _, HNx.out⟩
     case measure =>
      have e1 := HMe.out
      have e2 := HM3.out
      rw [e1]
      refine Nat.lt_of_le_of_lt (Nat.le_of_eq (by first | exact e2 | rfl)) ?_
      show T.n - (T2.next + 1) + T2.short.length < _
      rw [HS3.out, HN2.out]; omega
    ·have hfin : FolTo w g b T (.returned (.int .i64 z)) w2 := ⟨z, T2, rfl, HF.out.fol T2 z (Foll.conf cn (by rw [HX.out]; exact HV.out) hz), g2, V2, H2, HF.out.ag.trans A2 HF.out.on.size, HF.out.on.mine HF.out.ag O2⟩
     have HFin := Lib.hid hfin
     have dz : decide (0 ≤ z) = true := decide_eq_true hz
     clear hfin H2 A2 O2
     go_wp2_with fail
     go_ret
     exact HFin.out
  ·skip
   have hnx : T1.next = T1.ents.length := by omega
   have dn : decide (T1.next < T1.ents.length) = false := decide_eq_false cn
   match hshort : T1.short with
   | [] =>
    have hfin : ∀ W, Only (fun _ => False) wr W → FolTo w g b T (.returned (.int .i64 (-1))) W := fun W oW => ⟨-1, T1, rfl, HF.out.fol _ _ (Foll.done hshort hnx), g1, V1, HF.out.at_.only0 oW, HF.out.ag, HF.out.on.same (oW.mono fun _ f => f.elim)⟩
    have HFin := Lib.hid hfin
    obtain ⟨asx, cs, hvs, -, -⟩ := hF.at_.s.shape
    simp only [List.length_map, hshort, List.length_nil] at hvs
    rw [hvs] at q7
    clear hfin hF o1 hll hvl hme
    go_wp2_with fail
    go_quiet (fail)
    go_wp2_with fail
    go_ret
    exact HFin.out _ (by repeat (first | exact Only.refl _ _ | apply Only.drew | apply Only.alloc | apply Only.drewN))
   | k :: s =>
    have hkc : k < T1.cls.length := o1.sm k (by rw [hshort]; simp)
    obtain ⟨bs0, os0, cs0, hvs0, hs10, hs20, hsc0, -, -⟩ := RowO.head (by have := hF.at_.s; rwa [hshort, List.map_cons] at this)
    simp only [List.length_map] at hvs0 hs10
    rw [hvs0] at q7
    have hsl : (0 : Int) < (s.length : Int) + 1 := by omega
    have dsl : decide (0 < s.length + 1) = true := decide_eq_true (by omega)
    cases hth : T1.there (k : Int)
    ·have hTh : ∀ W, Only (fun _ => False) wr W → Calls Tryz.prog 67 #[.pointer (some ⟨b, 0, none⟩), cN k] W fun e w' => e = .returned (.bool false) ∧ W = w' := fun W oW => prop_there_any (hF.at_.only0 oW) o1 (k : Int) false hth
     have HTh := Lib.hid hTh
     have hinv2 : Inv { T1 with short := s } := by
      have hnl : ¬ T1.live k := fun hl => by rw [there_iff.2 hl] at hth; cases hth
      exact HF.out.inv.unshort hshort (.inl rfl) (fun hl => absurd hl hnl) (fun _ hl => absurd hl hnl)
     have HInv2 := Lib.hid hinv2
     have HTh0 := Lib.hid hth
     clear hTh hinv2 hF o1 hll hvl hme hth
     go_wp2_with fail
     go_quiet (fail)
     go_wp2_with fail
     go_quiet (fail)
     go_wp2_with fail
     refine (HTh.out _ (by repeat (first | exact Only.refl _ _ | apply Only.drew | apply Only.alloc | apply Only.drewN))).mono ?_
     rintro e w2 ⟨rfl, hw2⟩
     have o2 : Only (fun _ => False) wr w2 := by rw [← hw2]; repeat (first | exact Only.refl _ _ | apply Only.drew | apply Only.alloc | apply Only.drewN)
     have H2 := HF.out.at_.only0 o2
     have hO2 : Only (Mine g) w w2 := HF.out.on.same (o2.mono fun _ f => f.elim)
     clear HTh o2 hw2
     obtain ⟨bs, os, cs, hvs, hs1, hs2, hsc, hst, hsr⟩ := RowO.head (by have := H2.s; rwa [hshort, List.map_cons] at this)
     simp only [List.length_map] at hvs hs1 hsr
     have p7 := H2.f7
     rw [hvs] at p7
     have f7 := H2.free 7
     have hNx : FolAt w g b T (w2.setCell ⟨b, 7, none⟩ (.slice (if cs = 1 then some ⟨bs, os, none⟩ else some ⟨bs, os + 1, none⟩) s.length (cs - 1))) g1 { V1 with vs := .slice (if cs = 1 then some ⟨bs, os, none⟩ else some ⟨bs, os + 1, none⟩) s.length (cs - 1) } { T1 with short := s } :=
      ⟨H2.setS (Agree.refl _ _) H2.fresh (Only.refl _ _) hsr, HInv2.out, fun T' r hf => HF.out.fol T' r (Foll.skip hnx hshort HTh0.out hf), HF.out.ag, hO2.mine (HF.out.ag) ((Only.refl _ _).setCell (.inl (by unfold Mine; rw [H2.tb]; simp)) _), HF.out.n⟩
     have hm3 := hNx.at_.meas T.n
     have hlt : folMeas b T.n (w2.setCell ⟨b, 7, none⟩ (.slice (if cs = 1 then some ⟨bs, os, none⟩ else some ⟨bs, os + 1, none⟩) s.length (cs - 1))) < folMeas b T.n wr := by
      rw [hm3, HMe.out, hshort]
      show T.n - T1.next + s.length < _
      simp only [List.length_cons]; omega
     have HNx := Lib.hid hNx
     have HLt := Lib.hid hlt
     have hone : (1 : Int) ≤ (s.length : Int) + 1 := by omega
     clear hNx hm3 hsr hlt
     by_cases hc1 : cs = 1
     ·rw [if_pos hc1] at HNx HLt
      have hc0 : cs - 1 = 0 := by omega
      rw [hc0] at HNx HLt
      go_wp2_with fail
      go_roundw
      case rel => exact ⟨_, _, _, HNx.out⟩
      case measure => exact HLt.out
     ·rw [if_neg hc1] at HNx HLt
      go_wp2_with fail
      go_roundw
      case rel => exact ⟨_, _, _, HNx.out⟩
      case measure => exact HLt.out
    ·have hlive : T1.live k := there_iff.1 hth
     have hTh : ∀ W, Only (fun _ => False) wr W → Calls Tryz.prog 67 #[.pointer (some ⟨b, 0, none⟩), cN k] W fun e w' => e = .returned (.bool true) ∧ W = w' := fun W oW => prop_there_any (hF.at_.only0 oW) o1 (k : Int) true hth
     have HTh := Lib.hid hTh
     obtain ⟨T2, z, hfi⟩ : ∃ T2 z, T1.first k = (T2, z) := ⟨_, _, rfl⟩
     have hfp := first_post hF.inv hshort hlive hnx
     have hfs : T2.short = k :: s := by
      have := first_short T1 k
      rw [hfi] at this
      exact this.trans hshort
     rw [hfi] at hfp
     have hFi : ∀ W, Only (fun _ => False) wr W → Calls Tryz.prog 68 #[.pointer (some ⟨b, 0, none⟩), cN k] W fun e w' => e = .returned (.bool z) ∧ ∃ g2 V2, TrAt w' g2 b V2 T2 ∧ Agree wr g1 g2 ∧ Only (Mine g1) wr w' := by
      intro W oW
      refine (prop_first_any (HF.out.at_.only0 oW) HF.out.inv k hkc z (by rw [hfi])).mono ?_
      rintro e w' ⟨h1, h2⟩
      unfold FirTo at h2
      rw [hfi] at h2
      obtain ⟨g2, V2, h3, h4, h5⟩ := h2
      exact ⟨h1, g2, V2, h3, fun q hq => h4 q (by have := oW.size; omega), (oW.mono fun _ f => f.elim).same h5⟩
     have HFi := Lib.hid hFi
     have HFp := Lib.hid hfp
     have HFie := Lib.hid hfi
     have HTh0 := Lib.hid hth
     have HFs := Lib.hid hfs
     clear hTh hFi hF o1 hll hvl hme hth hfp hfi hfs
     cases z
     all_goals
      go_wp2_with fail
      go_quiet (fail)
      go_wp2_with fail
      go_quiet (fail)
      go_wp2_with fail
      refine (HTh.out _ (by repeat (first | exact Only.refl _ _ | apply Only.drew | apply Only.alloc | apply Only.drewN))).mono ?_
      rintro e w2 ⟨rfl, rfl⟩
      go_wp2_with fail
      refine (HFi.out _ (by repeat (first | exact Only.refl _ _ | apply Only.drew | apply Only.alloc | apply Only.drewN))).mono ?_
      rintro e w2 ⟨rfl, g2, V2, H2, A2, O2⟩
     ·have hfin : FolTo w g b T (.returned (cN k)) w2 := ⟨(k : Int), T2, rfl, HF.out.fol _ _ (Foll.bad hnx hshort HTh0.out HFie.out), g2, V2, H2, HF.out.ag.trans A2 HF.out.on.size, HF.out.on.mine HF.out.ag O2⟩
      have HFin := Lib.hid hfin
      clear hfin H2 A2 O2
      go_wp2_with fail
      go_ret
      exact HFin.out
     ·have hO2 : Only (Mine g) w w2 := HF.out.on.mine HF.out.ag O2
      have hA2 : Agree w g g2 := HF.out.ag.trans A2 HF.out.on.size
      have hn2 : T2.next = T1.next := (HFp.out.yes rfl).2
      obtain ⟨bs, os, cs, hvs, hs1, hs2, hsc, hst, hsr⟩ := RowO.head (by have := H2.s; rwa [HFs.out, List.map_cons] at this)
      simp only [List.length_map] at hvs hs1 hsr
      have p7 := H2.f7
      rw [hvs] at p7
      have f7 := H2.free 7
      have hNx : FolAt w g b T (w2.setCell ⟨b, 7, none⟩ (.slice (if cs = 1 then some ⟨bs, os, none⟩ else some ⟨bs, os + 1, none⟩) s.length (cs - 1))) g2 { V2 with vs := .slice (if cs = 1 then some ⟨bs, os, none⟩ else some ⟨bs, os + 1, none⟩) s.length (cs - 1) } { T2 with short := s } :=
       ⟨H2.setS (Agree.refl _ _) H2.fresh (Only.refl _ _) hsr, (HFp.out.yes rfl).1, fun T' r hf => HF.out.fol T' r (Foll.look hnx hshort HTh0.out HFie.out hf), hA2, hO2.mine (hA2) ((Only.refl _ _).setCell (.inl (by unfold Mine; rw [H2.tb]; simp)) _), (HFp.out.ext.n).trans HF.out.n⟩
      have hm3 := hNx.at_.meas T.n
      have hlt : folMeas b T.n (w2.setCell ⟨b, 7, none⟩ (.slice (if cs = 1 then some ⟨bs, os, none⟩ else some ⟨bs, os + 1, none⟩) s.length (cs - 1))) < folMeas b T.n wr := by
       rw [hm3, HMe.out, hshort]
       show T.n - T2.next + s.length < _
       simp only [List.length_cons]; omega
      have HNx := Lib.hid hNx
      have HLt := Lib.hid hlt
      have hone : (1 : Int) ≤ (s.length : Int) + 1 := by omega
      clear hNx hm3 hsr hlt
      by_cases hc1 : cs = 1
      ·rw [if_pos hc1] at HNx HLt
       have hc0 : cs - 1 = 0 := by omega
       rw [hc0] at HNx HLt
       go_wp2_with fail
       go_roundw
       case rel => exact ⟨_, _, _, HNx.out⟩
       case measure => exact HLt.out
      ·rw [if_neg hc1] at HNx HLt
       go_wp2_with fail
       go_roundw
       case rel => exact ⟨_, _, _, HNx.out⟩
       case measure => exact HLt.out
end
section
variable {w : World} {g : Tag} {b : Nat} {V : TrV} {T : Trail}
set_option maxRecDepth 100000 in
set_option maxHeartbeats 3200000 in
theorem prop_Decide_yes (H : TrAt w g b V T) (o : Ok T) (x : Int) (hx : x ≠ 0 ∧ x.natAbs ≤ T.n) (hv : T.val x = 0) :
  Calls Tryz.prog 70 #[.pointer (some ⟨b, 0, none⟩), .int .i64 x] w fun e w' => e = .returned (.bool true) ∧ TrTo w g b (T.dec x) w' := by
 have hn := o.n
 have hb : InI64 x := by unfold InI64; omega
 have hI := prop_is_any H o.n x hb true (decide_eq_true hx)
 have hV := prop_Value_any H o x hb 0 hv
 have HI := Lib.hid hI
 have HV := Lib.hid hV
 have q4 := H.f4
 have q5 := H.f5
 have q6 := H.f6
 have f5 := H.free 5
 obtain ⟨al, cl, hvl, -, -⟩ := H.l.shape
 obtain ⟨aL, cL, hvL, -, -⟩ := own_slice H.L.own
 have hll : (T.lits.map cI).length = T.ents.length := by simp [lits_len]
 rw [hll] at hvl
 rw [hvl] at q4
 rw [hvL] at q5
 have hel := o.len
 have hrL := H.L
 rw [hvL] at hrL
 have hlb : T.levels.length ≤ 65536 := by
  have h1 : (T.levels.map (·.1)).Nodup := o.lev.imp fun h => by omega
  have := Up.nodup_le T.ents.length ((T.levels.map (·.1)).map (· + 1)) (by
   unfold List.Nodup
   rw [List.pairwise_map]
   exact h1.imp fun h e => h (by omega)) (fun x hx => by
   obtain ⟨y, hy, rfl⟩ := List.mem_map.1 hx
   obtain ⟨z, hz, rfl⟩ := List.mem_map.1 hy
   have := o.lin z hz
   omega)
  simp at this
  omega
 have hS5 : ∀ w', Only (fun q => g q = (39, 0)) w w' → w'.cell? ⟨b, 5, none⟩ = some (.slice aL T.levels.length cL) ∧ w'.cell? ⟨b, 4, none⟩ = some (.slice al T.ents.length cl) ∧ w'.cell? ⟨b, 6, none⟩ = some (cN T.next) ∧ w'.frozen? ⟨b, 5, none⟩ = false := fun w' h =>
  ⟨cell_keep q5 h (by rw [H.tb]; simp), cell_keep q4 h (by rw [H.tb]; simp), cell_keep q6 h (by rw [H.tb]; simp), free_keep q5 f5 h (by rw [H.tb]; simp)⟩
 have hfin : ∀ wA w5 v' s, Only (fun q => g q = (39, 0)) wA w5 → wA.heap.size = s → RowZ w5 (Tag.put g s w5.heap.size (39, 0)) (39, 0) 133 2 v' (T.levels.length + 1) (levCells T.levels ++ [cN T.ents.length, cN T.next]) → Only (fun _ => False) w wA →
   ∃ g5, TrAt (w5.setCell ⟨b, 5, none⟩ v') g5 b { V with vL := v' } { T with levels := T.levels ++ [(T.ents.length, T.next)] } ∧ Agree w g g5 ∧ Only (Mine g) w (w5.setCell ⟨b, 5, none⟩ v') := by
  intro wA w5 v' s o5 hs r5 oA
  subst hs
  have ag : Agree w g (Tag.put g wA.heap.size w5.heap.size (39, 0)) := Agree.put g _ oA.size
  have o25 : Only (fun q => g q = (39, 0)) w w5 := (oA.mono fun _ f => f.elim).same o5
  refine ⟨_, H.setV (ls := T.levels ++ [(T.ents.length, T.next)]) ag (Fresh.put (w := wA) (39, 0) (H.fresh.more oA.size) o5.size) o25 (by rw [levCells_app, List.length_append]; exact r5), ag, (o25.mono fun q hq => by unfold Mine; rw [hq]; simp).setCell (.inl (by unfold Mine; rw [H.tb]; simp)) _⟩
 have hg := o.good
 have hvv := hv
 have HS5 := Lib.hid hS5
 have HFin := Lib.hid hfin
 have HRL := Lib.hid hrL
 have HG := Lib.hid hg
 have HVv := Lib.hid hvv
 have HX := Lib.hid hx
 have hS0 := hS5 w.drew ((Only.refl _ _).drew)
 clear hI hV hS5 hfin hrL H o hv hvl hvL hll f5 hg hvv
 go_enter Tryz.func70, Tryz.ntmps70
 go_wp2_with fail
 refine HI.out.mono ?_
 rintro e w1 ⟨rfl, rfl⟩
 go_wp2_with fail
 refine HV.out.mono ?_
 rintro e w1 ⟨rfl, rfl⟩
 go_wp2_with fail
 refine wp_region_G (n := 20) (E := fun i => i == 19) (S := fun w' => w'.cell? ⟨b, 5, none⟩ = some (.slice aL T.levels.length cL) ∧ w'.cell? ⟨b, 4, none⟩ = some (.slice al T.ents.length cl) ∧ w'.cell? ⟨b, 6, none⟩ = some (cN T.next) ∧ w'.frozen? ⟨b, 5, none⟩ = false) (by kernel_rfl) rfl hS0 (fun hHeld => ?_)
 refine tqW (i := 0) (v := ?_) rfl (.inr (by assumption)) ?_ ?_
 rotate_left
 ·(intro w; go_simp <;> (try with_reducible rfl))
 try simp only [Act.put, zq1, zq3, zq4, zq5, zq6]
 refine tqW (i := 1) (v := ?_) rfl (.inr (by assumption)) ?_ ?_
 rotate_left
 ·(intro w; go_simp <;> (try with_reducible rfl))
 try simp only [Act.put, zq1, zq2, zq3, zq4, zq5, zq6]
 refine tqW (i := 2) (v := ?_) rfl (.inr (by assumption)) ?_ ?_
 rotate_left
 ·(intro w; go_simp <;> (try with_reducible rfl))
 try simp only [Act.put, zq1, zq2, zq3, zq4, zq5, zq6]
 refine tqW (i := 3) (v := ?_) rfl (.inr (by assumption)) ?_ ?_
 rotate_left
 ·(intro w; go_simp <;> (try with_reducible rfl))
 try simp only [Act.put, zq1, zq2, zq3, zq4, zq5, zq6]
 refine tqK (i := 4) (v := ?_) rfl ?_ ?_
 rotate_left
 ·(intro w hSw; (try dsimp only at hSw); go_simp <;> (try with_reducible rfl))
 try simp only [Act.put, zq1, zq2, zq3, zq4, zq5, zq6]
 refine tqW (i := 5) (v := ?_) rfl (.inr (by assumption)) ?_ ?_
 rotate_left
 ·(intro w; go_simp <;> (try with_reducible rfl))
 try simp only [Act.put, zq1, zq2, zq3, zq4, zq5, zq6]
 refine tqW (i := 6) (v := ?_) rfl (.inr (by assumption)) ?_ ?_
 rotate_left
 ·(intro w; go_simp <;> (try with_reducible rfl))
 try simp only [Act.put, zq1, zq2, zq3, zq4, zq5, zq6]
 refine tqW (i := 7) (v := ?_) rfl (.inr (by assumption)) ?_ ?_
 rotate_left
 ·(intro w; go_simp <;> (try with_reducible rfl))
 try simp only [Act.put, zq1, zq2, zq3, zq4, zq5, zq6]
 refine tqK (i := 8) (v := ?_) rfl ?_ ?_
 rotate_left
 ·(intro w hSw; (try dsimp only at hSw); go_simp <;> (try with_reducible rfl))
 try simp only [Act.put, zq1, zq2, zq3, zq4, zq5, zq6]
 refine tqW (i := 9) (v := ?_) rfl (.inr (by assumption)) ?_ ?_
 rotate_left
 ·(intro w; go_simp <;> (try with_reducible rfl))
 try simp only [Act.put, zq1, zq2, zq3, zq4, zq5, zq6]
 refine tqW (i := 10) (v := ?_) rfl (.inr (by assumption)) ?_ ?_
 rotate_left
 ·(intro w; go_simp <;> (try with_reducible rfl))
 try simp only [Act.put, zq1, zq2, zq3, zq4, zq5, zq6]
 refine tqW (i := 11) (v := ?_) rfl (.inr (by assumption)) ?_ ?_
 rotate_left
 ·(intro w; go_simp <;> (try with_reducible rfl))
 try simp only [Act.put, zq1, zq2, zq3, zq4, zq5, zq6]
 refine tqW (i := 12) (v := ?_) rfl (.inr (by assumption)) ?_ ?_
 rotate_left
 ·(intro w; go_simp <;> (try with_reducible rfl))
 try simp only [Act.put, zq1, zq2, zq3, zq4, zq5, zq6]
 refine tqK (i := 13) (v := ?_) rfl ?_ ?_
 rotate_left
 ·(intro w hSw; (try dsimp only at hSw); go_simp <;> (try with_reducible rfl))
 try simp only [Act.put, zq1, zq2, zq3, zq4, zq5, zq6]
 refine tqW (i := 14) (v := ?_) rfl (.inr (by assumption)) ?_ ?_
 rotate_left
 ·(intro w; go_simp <;> (try with_reducible rfl))
 try simp only [Act.put, zq1, zq2, zq3, zq4, zq5, zq6]
 refine wpAnyG_ready (rs := [15]) (by kernel_rfl) (by simp) ?_
 refine AllReadyG.cons (i := 15) rfl (fun K hK => ?_) ?_
 ·go_simp
  refine hK.out _ _ ?_ (fun hHeld => ?_)
  ·(try dsimp only) <;> (exact HS5.out _ (by repeat (first | exact Only.refl _ _ | apply Only.drew | apply Only.alloc | apply Only.drewN)))
  clear hK K
  try simp only [Act.put, zq1, zq2, zq3, zq4, zq5, zq6]
  refine wpAnyG_ready (rs := [16]) (by kernel_rfl) (by simp) ?_
  refine AllReadyG.cons (i := 16) rfl (fun K hK => ?_) ?_
  ·(refine RowZ.step (us := [cN T.ents.length, cN T.next]) slLevel (by rfl) (.tmp 19) (.tmp 30) (by rfl) (by rfl) (by rfl) rfl (by intro j hj; match j, hj with | 0, _ => simp | 1, _ => simp) (by intro u hu; simp at hu; rcases hu with rfl | rfl <;> rfl) (by repeat (first | exact HRL.out | apply RowZ.drew | apply RowZ.alloc | apply RowZ.drewN)) (by omega) (by decide) ?_; intro bb cap w5 rr1 rr2)
   refine hK.out _ _ ?_ (fun hHeld => ?_)
   ·(try dsimp only) <;> (exact HS5.out _ (Only.same (by repeat (first | exact Only.refl _ _ | apply Only.drew | apply Only.alloc | apply Only.drewN)) rr2))
   clear hK K
   try simp only [Act.put, zq1, zq2, zq3, zq4, zq5, zq6]
   refine tqW (i := 17) (v := ?_) rfl (.inr (by assumption)) ?_ ?_
   rotate_left
   ·(intro w; go_simp <;> (try with_reducible rfl))
   try simp only [Act.put, zq1, zq2, zq3, zq4, zq5, zq6]
   refine tqW (i := 18) (v := ?_) rfl (.inr (by assumption)) ?_ ?_
   rotate_left
   ·(intro w; go_simp <;> (try with_reducible rfl))
   try simp only [Act.put, zq1, zq2, zq3, zq4, zq5, zq6]
   refine wpAnyG_ready (rs := [19]) (by kernel_rfl) (by simp) ?_
   refine AllReadyG.late (i := 19) rfl (by kernel_rfl) (fun K hK => ?_) ?_
   ·(obtain ⟨s1, s2, s3, s4⟩ := hHeld; go_simp)
    refine hK.out _ _ ?_
    clear hK K
    try simp only [Act.put, zq1, zq2, zq3, zq4, zq5, zq6]
    refine wpAnyG_done (by kernel_rfl) ?_ _
    obtain ⟨g6, H6, A6, O6⟩ := HFin.out _ w5 _ _ rr2 (by simp) rr1 (by repeat (first | exact Only.refl _ _ | apply Only.drew | apply Only.alloc | apply Only.drewN))
    have hput := prop_put_any H6 hn HG.out x HX.out HVv.out (-1)
    have hput2 := hput.mono fun e w' (h : e = Ending.returned (.tuple #[]) ∧ PutTo _ g6 b _ _ w') => (⟨h.1, TrTo.trans A6 O6 h.2.to⟩ : e = Ending.returned (.tuple #[]) ∧ TrTo w g b (T.dec x) w')
    have HPut := Lib.hid hput2
    clear hput hput2 H6 A6 O6 rr1 rr2 s1 s2 s3 s4 HFin HS5 HRL
    go_wp2_with fail
    refine HPut.out.mono ?_
    rintro e w9 ⟨rfl, h9⟩
    have H9 := Lib.hid h9
    clear h9
    go_wp2_with fail
    go_ret
    exact ⟨rfl, H9.out⟩
   exact AllReadyG.nil
  exact AllReadyG.nil
 exact AllReadyG.nil
end
section
variable {w : World} {g : Tag} {b : Nat} {V : TrV} {T : Trail}
theorem prop_List_any (H : TrAt w g b V T) (o : Ok T) : Calls Tryz.prog 63 #[.pointer (some ⟨b, 0, none⟩)] w fun e w' => ∃ v, e = .returned v ∧ w'.ownsRow 0 3 1 v T.lits.length (T.lits.map cI) ∧ (∀ k, v.ownBlock = some k → w.heap.size ≤ k) ∧ Only (fun _ => False) w w' := by
 have hn := o.n
 have hel := o.len
 have hr : ∀ x ∈ T.lits, InI64 x := fun x hx => by have := o.good.lit x hx; unfold InI64; omega
 have hI : Ints w V.vl T.lits := H.l.ints hr
 have hC := Clone_any hI (by rw [lits_len]; omega)
 have q4 := H.f4
 obtain ⟨al, cl, hvl, -, -⟩ := H.l.shape
 simp only [List.length_map] at hvl
 rw [hvl] at q4 hC
 have HC := Lib.hid hC
 clear hC hI H o hvl
 go_enter Tryz.func63, Tryz.ntmps63
 go_wp2_with fail
 refine HC.out.mono ?_
 rintro e w2 ⟨vf, rfl, R1, N1, O2⟩
 have hres : ∃ v, Ending.returned vf = Ending.returned v ∧ w2.ownsRow 0 3 1 v T.lits.length (T.lits.map cI) ∧ (∀ k, v.ownBlock = some k → w.heap.size ≤ k) ∧ Only (fun _ => False) w w2 := ⟨vf, rfl, R1, N1, O2⟩
 have HR := Lib.hid hres
 clear hres R1 N1 O2
 go_wp2_with fail
 go_ret
 exact HR.out
end
theorem stepMZ {P : Program} {w : World} {ops : Array Oper} {o : Oper} {a : Act} {K : Act → World → Prop} {Q : Exit → Act → World → Prop} {E : Prop} {t e : TypeId} {bytes size : Nat} {z : Value}
  (hu : P.underlying t = some (.slice e)) (hi : (P.info? e).map (fun i => (i.zero, i.size, i.bytes)) = some (some z, size, bytes))
  (hg : o.guard = none) (l c : Operand) (hop : o.op = Op.makeSlice t l c) (n : Nat) {kl kc : IntKind} {L C : Int} (hl : a.eval l = .int kl L) (hc : a.eval c = .int kc C) (hL : L = (n : Int)) (hC : C = (n : Int))
  (hn : n ≤ 1099511627776) (hb : bytes ≤ 64)
  (hK : ∀ w', w'.ownsRow 0 e size (.slice (some ⟨w.heap.size, 0, none⟩) n n) n (madeCells z.cells (n * size)).toList → Only (fun _ => False) w w' → w.heap.size < w'.heap.size → K (a.put o.dst (.slice (some ⟨w.heap.size, 0, none⟩) n n)) w') :
  if Region.wanted o (yielded ops a.tmps) = true then Oper.wp P o a w K Q else E := by
 rw [if_pos (by simp [Region.wanted, hg])]
 obtain ⟨i, h1, h2, h3, h4⟩ := info_parts hi
 have hbn : i.bytes * n ≤ 281474976710656 := by
  rw [h4]
  have : bytes * n ≤ 64 * 1099511627776 := Nat.mul_le_mul hb hn
  omega
 obtain ⟨w', hrun, r1, r2⟩ := run_make_full (P := P) w 0 t e i z size hu h1 h2 h3 kl kc n hbn (by unfold maxLen; omega) (Nat.zero_le _)
 subst hL
 subst hC
 unfold Oper.wp
 simp [execOp, hop, hl, hc, hrun, Result.andThen]
 exact hK w' r1 ((Only.refl _ w).grown r2 fun k hk => by cases hk) (own_lt r1 rfl)
theorem made_atoms (n : Nat) : (madeCells #[Value.int .i64 0, Value.int .i64 0, Value.int .i64 0] (n * 3)).toList = atomCells n [] := by
 refine flat_ext (m := 3) (f := fun i => cell3 (atomOf [] (i + 1))) (by decide) (fun _ => rfl) (by simp [madeCells]) (fun i j hi hj => ?_)
 have hb : i * 3 + j < n * 3 := by omega
 simp only [madeCells, Array.toList_map, Array.toList_range, List.getElem?_map, List.getElem?_range hb, Option.map_some]
 have e : (i * 3 + j) % 3 = j := by omega
 match j, hj with
 | 0, _ => simp [cell3, atomOf]
 | 1, _ => simp [cell3, atomOf, e]
 | 2, _ => simp [cell3, atomOf, e]
theorem RowZ_nil (w : World) (g : Tag) (t : Nat × Nat) (e : TypeId) (size : Nat) : RowZ w g t e size nilS 0 [] :=
 ⟨World.ownsRow_nil _ _ _ _, fun k hk => by simp [Value.ownBlock] at hk⟩
def NewTr (w : World) (n : Nat) (e : Ending) (w' : World) : Prop := ∃ b g V, e = .returned (.pointer (some ⟨b, 0, none⟩)) ∧ TrAt w' g b V (Tr.new n) ∧ (∀ k, Mine g k → w.heap.size ≤ k) ∧ Only (fun _ => False) w w'
def newTrTag (ba bw b : Nat) : Tag := fun k => if k = b then (31, 0) else if k = ba then (32, 0) else if k = bw then (36, 0) else (0, 0)
theorem NewTr.of {w w2 : World} {n ba bw : Nat} (ra : w2.ownsRow 0 135 3 (.slice (some ⟨ba, 0, none⟩) n n) n (atomCells n [])) (rw_ : w2.ownsRow 0 23 1 (.slice (some ⟨bw, 0, none⟩) (2 * n) (2 * n)) (2 * n) (List.replicate (2 * n) nilS)) (hne : ba ≠ bw) (ha : w.heap.size ≤ ba) (hb : w.heap.size ≤ bw) (ho : Only (fun _ => False) w w2) :
  NewTr w n (.returned (.pointer (some ⟨w2.heap.size, 0, none⟩))) (w2.alloc (.cells #[.slice (some ⟨ba, 0, none⟩) n n, nilS, nilS, .slice (some ⟨bw, 0, none⟩) (2 * n) (2 * n), nilS, nilS, .int .i64 0, nilS, nilS] 100)) := by
 have la : ba < w2.heap.size := own_lt ra rfl
 have lb : bw < w2.heap.size := own_lt rw_ rfl
 have oA : Only (fun _ => False) w2 (w2.alloc (.cells #[.slice (some ⟨ba, 0, none⟩) n n, nilS, nilS, .slice (some ⟨bw, 0, none⟩) (2 * n) (2 * n), nilS, nilS, .int .i64 0, nilS, nilS] 100)) := (Only.refl _ _).alloc _
 have t1 : newTrTag ba bw w2.heap.size w2.heap.size = (31, 0) := by unfold newTrTag; rw [if_pos rfl]
 have t2 : newTrTag ba bw w2.heap.size ba = (32, 0) := by unfold newTrTag; rw [if_neg (by omega), if_pos rfl]
 have t3 : newTrTag ba bw w2.heap.size bw = (36, 0) := by unfold newTrTag; rw [if_neg (by omega), if_neg (fun h => hne h.symm), if_pos rfl]
 refine ⟨w2.heap.size, newTrTag ba bw w2.heap.size, ⟨.slice (some ⟨ba, 0, none⟩) n n, nilS, nilS, .slice (some ⟨bw, 0, none⟩) (2 * n) (2 * n), nilS, nilS, nilS, nilS, [], List.replicate (2 * n) nilS⟩, rfl, ?_, fun k hk => ?_, ho.same oA⟩
 ·refine ⟨heap_alloc_new w2 _, t1, ⟨own_only ra oA (fun _ _ f => f), fun k hk => by simp [Value.ownBlock] at hk; rw [← hk]; exact t2⟩, Row.nil _ _ _ _, rfl, fun i hi => by simp [Tr.new] at hi, Row.nil _ _ _ _, ⟨by simpa using own_only rw_ oA (fun _ _ f => f), fun k hk => by simp [Value.ownBlock] at hk; rw [← hk]; exact t3⟩, by simp [Tr.new], fun p hp => ?_, Row.nil _ _ _ _, RowZ_nil _ _ _ _ _, RowO.nil _ _ _ _, Row.nil _ _ _ _, fun k hk => ?_⟩
  ·rw [show (Tr.new n).watch.getD p [] = (Tr.new n).wt p from rfl, new_wt]
   have e : (List.replicate (2 * n) nilS).getD p nilS = nilS := by
    rw [List.getD_eq_getElem?_getD, List.getElem?_replicate]; split <;> rfl
   simp only [e]
   exact Row.nil _ _ _ _
  ·simp at hk
   unfold newTrTag
   rw [if_neg (by omega), if_neg (by omega), if_neg (by omega)]
 ·unfold Mine newTrTag at hk
  have := ho.size
  split at hk
  ·omega
  ·split at hk
   ·omega
   ·split at hk
    ·omega
    ·simp at hk
set_option maxRecDepth 100000 in
set_option maxHeartbeats 1600000 in
theorem prop_New_any (w : World) (x : Int) (hx : InI64 x) (n : Nat) (hn : min (max x 0) 65536 = (n : Int)) : Calls Tryz.prog 34 #[.int .i64 x] w (NewTr w n) := by
 have hnb : n ≤ 65536 := by omega
 have ew : IntKind.i64.wrap (2 * (n : Int)) = ((2 * n : Nat) : Int) := by rw [IntWalk.i64_in _ (by omega)]; omega
 have hfin : ∀ w2 ba bw, w2.ownsRow 0 135 3 (.slice (some ⟨ba, 0, none⟩) n n) n (atomCells n []) → w2.ownsRow 0 23 1 (.slice (some ⟨bw, 0, none⟩) (2 * n) (2 * n)) (2 * n) (List.replicate (2 * n) nilS) → ba ≠ bw → w.heap.size ≤ ba → w.heap.size ≤ bw → Only (fun _ => False) w w2 → _ := fun w2 ba bw h1 h2 h3 h4 h5 h6 => NewTr.of (n := n) h1 h2 h3 h4 h5 h6
 have HFin := Lib.hid hfin
 clear hfin hx
 go_enter Tryz.func34, Tryz.ntmps34
 go_wp2_with fail
 refine wp_region_G (n := 8) (E := fun _ => false) (S := fun w' => Only (fun _ => False) w w') (by kernel_rfl) rfl ((Only.refl _ _).drew) (fun hHeld => ?_)
 refine tqW (i := 0) (v := ?_) rfl (.inr (by assumption)) ?_ ?_
 rotate_left
 ·(intro w; go_simp <;> (try with_reducible rfl))
 try simp only [Act.put, zq1, zq3, zq4, zq5, zq6]
 refine tqW (i := 2) (v := ?_) rfl (.inr (by assumption)) ?_ ?_
 rotate_left
 ·(intro w; go_simp <;> (try with_reducible rfl))
 try simp only [Act.put, zq1, zq2, zq3, zq4, zq5, zq6]
 refine tqW (i := 3) (v := ?_) rfl (.inr (by assumption)) ?_ ?_
 rotate_left
 ·(intro w; go_simp <;> (try with_reducible rfl))
 try simp only [Act.put, zq1, zq2, zq3, zq4, zq5, zq6]
 refine wpAnyG_ready (rs := [1, 4]) (by kernel_rfl) (by simp) ?_
 refine AllReadyG.cons (i := 1) rfl (fun K hK => ?_) ?_
 ·(refine stepMZ (bytes := 24) (size := 3) (z := .agg #[.int .i64 0, .int .i64 0, .int .i64 0]) Tryz.underlying97 (by kernel_rfl) rfl (.tmp 6) (.tmp 6) rfl n rfl rfl rfl rfl (by omega) (by decide) ?_; intro wa ra oa la; rw [show (Value.agg #[.int .i64 0, .int .i64 0, .int .i64 0]).cells = #[Value.int .i64 0, Value.int .i64 0, Value.int .i64 0] from rfl, made_atoms] at ra)
  refine hK.out _ _ ?_ (fun hHeld => ?_)
  ·(try dsimp only) <;> (exact hHeld.same oa)
  clear hK K
  try simp only [Act.put, zq1, zq2, zq3, zq4, zq5, zq6]
  refine wpAnyG_ready (rs := [4]) (by kernel_rfl) (by simp) ?_
  refine AllReadyG.cons (i := 4) rfl (fun K hK => ?_) ?_
  ·(refine stepM (bytes := 24) (z := nilS) Tryz.underlying22 (by kernel_rfl) rfl rfl (.tmp 9) (.tmp 9) rfl (2 * n) rfl rfl (by first | rfl | omega) (by first | rfl | omega) (by omega) (by decide) ?_; intro ww rw_ ow lw)
   refine hK.out _ _ ?_ (fun hHeld => ?_)
   ·(try dsimp only) <;> (exact hHeld.same ow)
   clear hK K
   try simp only [Act.put, zq1, zq2, zq3, zq4, zq5, zq6]
   refine tqW (i := 5) (v := ?_) rfl (.inr (by assumption)) ?_ ?_
   rotate_left
   ·(intro w; go_simp <;> (try with_reducible rfl))
   try simp only [Act.put, zq1, zq2, zq3, zq4, zq5, zq6]
   refine wpAnyG_ready (rs := [6]) (by kernel_rfl) (by simp) ?_
   refine AllReadyG.cons (i := 6) rfl (fun K hK => ?_) ?_
   ·go_simp
    refine hK.out _ _ ?_ (fun hHeld => ?_)
    ·(try dsimp only) <;> (exact hHeld.alloc _)
    clear hK K
    try simp only [Act.put, zq1, zq2, zq3, zq4, zq5, zq6]
    refine tqW (i := 7) (v := ?_) rfl (.inr (by assumption)) ?_ ?_
    rotate_left
    ·(intro w; go_simp <;> (try with_reducible rfl))
    try simp only [Act.put, zq1, zq2, zq3, zq4, zq5, zq6]
    refine wpAnyG_done (by kernel_rfl) ?_ _
    have hnew := HFin.out ww w.heap.size wa.heap.size (own_only ra ow (fun _ _ f => f)) rw_ (Nat.ne_of_lt la) (Nat.le_refl _) (Nat.le_of_lt la) ((((Only.refl _ _).drew).same oa).same ow)
    have HNew := Lib.hid hnew
    clear hnew HFin ra rw_ oa ow la lw hHeld
    go_wp2_with fail
    go_ret
    exact HNew.out
   exact AllReadyG.nil
  exact AllReadyG.nil
 refine AllReadyG.cons (i := 4) rfl (fun K hK => ?_) ?_
 ·(refine stepM (bytes := 24) (z := nilS) Tryz.underlying22 (by kernel_rfl) rfl rfl (.tmp 9) (.tmp 9) rfl (2 * n) rfl rfl (by first | rfl | omega) (by first | rfl | omega) (by omega) (by decide) ?_; intro ww rw_ ow lw)
  refine hK.out _ _ ?_ (fun hHeld => ?_)
  ·(try dsimp only) <;> (exact hHeld.same ow)
  clear hK K
  try simp only [Act.put, zq1, zq2, zq3, zq4, zq5, zq6]
  refine wpAnyG_ready (rs := [1]) (by kernel_rfl) (by simp) ?_
  refine AllReadyG.cons (i := 1) rfl (fun K hK => ?_) ?_
  ·(refine stepMZ (bytes := 24) (size := 3) (z := .agg #[.int .i64 0, .int .i64 0, .int .i64 0]) Tryz.underlying97 (by kernel_rfl) rfl (.tmp 6) (.tmp 6) rfl n rfl rfl rfl rfl (by omega) (by decide) ?_; intro wa ra oa la; rw [show (Value.agg #[.int .i64 0, .int .i64 0, .int .i64 0]).cells = #[Value.int .i64 0, Value.int .i64 0, Value.int .i64 0] from rfl, made_atoms] at ra)
   refine hK.out _ _ ?_ (fun hHeld => ?_)
   ·(try dsimp only) <;> (exact hHeld.same oa)
   clear hK K
   try simp only [Act.put, zq1, zq2, zq3, zq4, zq5, zq6]
   refine tqW (i := 5) (v := ?_) rfl (.inr (by assumption)) ?_ ?_
   rotate_left
   ·(intro w; go_simp <;> (try with_reducible rfl))
   try simp only [Act.put, zq1, zq2, zq3, zq4, zq5, zq6]
   refine wpAnyG_ready (rs := [6]) (by kernel_rfl) (by simp) ?_
   refine AllReadyG.cons (i := 6) rfl (fun K hK => ?_) ?_
   ·go_simp
    refine hK.out _ _ ?_ (fun hHeld => ?_)
    ·(try dsimp only) <;> (exact hHeld.alloc _)
    clear hK K
    try simp only [Act.put, zq1, zq2, zq3, zq4, zq5, zq6]
    refine tqW (i := 7) (v := ?_) rfl (.inr (by assumption)) ?_ ?_
    rotate_left
    ·(intro w; go_simp <;> (try with_reducible rfl))
    try simp only [Act.put, zq1, zq2, zq3, zq4, zq5, zq6]
    refine wpAnyG_done (by kernel_rfl) ?_ _
    have hnew := HFin.out wa ww.heap.size w.heap.size ra (own_only rw_ oa (fun _ _ f => f)) (Nat.ne_of_gt lw) (Nat.le_of_lt lw) (Nat.le_refl _) ((((Only.refl _ _).drew).same ow).same oa)
    have HNew := Lib.hid hnew
    clear hnew HFin ra rw_ oa ow la lw hHeld
    go_wp2_with fail
    go_ret
    exact HNew.out
   exact AllReadyG.nil
  exact AllReadyG.nil
 exact AllReadyG.nil
end Go.Proofs.YtjedgdamommgeaaGreat
