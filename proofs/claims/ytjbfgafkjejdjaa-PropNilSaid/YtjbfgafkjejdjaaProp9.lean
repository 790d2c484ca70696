/- The walk of (*prop.Trail).Follow. -/
import Derived.Test.YtjbfgafkjejdjaaProp8
namespace Go.Proofs.Ytjbfgafkjejdjaa
open Go.RowKit
open Tr

def slLen : Value → Nat
  | .slice _ n _ => n
  | _ => 0
/-- what is left to follow, read off the memory -/
def folMeas (b n : Nat) (w : World) : Nat := (n - (intOf ((w.cell? ⟨b, 6, none⟩).getD (.int .i64 0))).toNat) + slLen ((w.cell? ⟨b, 7, none⟩).getD nilS)

section
variable {w : World} {g : Tag} {b : Nat} {V : TrV} {T : Trail}

theorem TrAt.meas (H : TrAt w g b V T) (n : Nat) : folMeas b n w = (n - T.next) + T.short.length := by
  unfold folMeas
  rw [H.f6, H.f7]
  obtain ⟨ao, cap, hv, -, -⟩ := H.s.shape
  rw [hv]
  simp [intOf, slLen]

theorem prop_Follow_nil : Calls Try.prog 35 #[.pointer none] w fun e w' => e = .returned (.int .i64 (-1)) ∧ w = w' := by
  go_enter Try.func35, Try.ntmps35
  go_wp2_with fail
  go_ret
  exact ⟨rfl, rfl⟩

theorem first_short (T : Trail) (k : Nat) : (T.first k).1.short = T.short := by
  unfold Trail.first Trail.firstV
  split
  · rfl
  · split
    · rfl
    · split <;> rfl

/-- in the midst of following -/
structure FolAt (w : World) (g : Tag) (b : Nat) (T : Trail) (wr : World) (g1 : Tag) (V1 : TrV) (T1 : Trail) : Prop where
  at_ : TrAt wr g1 b V1 T1
  inv : Inv T1
  fol : ∀ T' r, Foll T1 T' r → Foll T T' r
  ag : Agree w g g1
  on : Only (Mine g) w wr
  n : T1.n = T.n

/-- what Follow leaves -/
def FolTo (w : World) (g : Tag) (b : Nat) (T : Trail) (e : Ending) (w' : World) : Prop := ∃ r T', e = .returned (.int .i64 r) ∧ Foll T T' r ∧ TrTo w g b T' w'

set_option maxRecDepth 100000 in
set_option maxHeartbeats 3200000 in
theorem prop_Follow_any (H : TrAt w g b V T) (I : Inv T) :
    Calls Try.prog 35 #[.pointer (some ⟨b, 0, none⟩)] w (FolTo w g b T) := by
  have hst : FolAt w g b T w g V T := ⟨H, I, fun _ _ h => h, Agree.refl _ _, Only.refl _ _, rfl⟩
  have HSt := Lib.hid hst
  have hTn := I.ok.n
  clear hst H I
  go_enter Try.func35, Try.ntmps35
  go_wp2_with fail
  go_loopw [] (fun wr => ∃ g1 V1 T1, FolAt w g b T wr g1 V1 T1) (fun wr => folMeas b T.n wr)
  case atStart => exact ⟨g, V, T, HSt.out⟩
  case round =>
    clear HSt
    obtain ⟨g1, V1, T1, hF⟩ := hrel
    have hme := hF.at_.meas T.n
    have o1 := hF.inv.ok
    have hnl := o1.next
    have hel := o1.len
    have hn1 := hF.n
    have hcb := o1.cb
    have q7 := hF.at_.f7
    have q6 := hF.at_.f6
    have q4 := hF.at_.f4
    obtain ⟨al, cl, hvl, -, -⟩ := hF.at_.l.shape
    have hll : (T1.lits.map cI).length = T1.ents.length := by simp [lits_len]
    rw [hll] at hvl
    rw [hvl] at q4
    have HF := Lib.hid hF
    have HMe := Lib.hid hme
    by_cases cn : T1.next < T1.ents.length
    · skip
      have hrl := hF.at_.l
      rw [hvl] at hrl
      obtain ⟨bl, hal⟩ : ∃ bl, al = some ⟨bl, 0, none⟩ := by
        obtain ⟨bl, _, he, _⟩ := hrl.pos (by rw [hll]; omega)
        simp at he; exact ⟨bl, he.1⟩
      subst hal
      have qx := hrl.cellM (f := cI) 0 (i := T1.next) (by rw [lits_len]; exact cn)
      have hlx := o1.litAt cn
      have hmx : T1.lits.getD T1.next 0 ∈ T1.lits := getD_mem' 0 (by rw [lits_len]; exact cn)
      obtain ⟨x, hx⟩ : ∃ x, T1.lits.getD T1.next 0 = x := ⟨_, rfl⟩
      rw [hx] at qx hlx hmx
      obtain ⟨T2, z, hv⟩ : ∃ T2 z, T1.visit (-x) (T1.wt (place (-x))) [] = (T2, z) := ⟨_, _, rfl⟩
      have hvp := visit_post (-x) _ [] T1 (VI.start hF.inv (l := -x) (by omega) (by rw [Int.neg_neg]; exact hmx))
      rw [hv] at hvp
      have hvis : ∀ W, Only (fun _ => False) wr W → Calls Try.prog 71 #[.pointer (some ⟨b, 0, none⟩), .int .i64 (-x)] W fun e w' => e = .returned (.int .i64 z) ∧ ∃ g2 V2, TrAt w' g2 b V2 T2 ∧ Agree wr g1 g2 ∧ Only (Mine g1) wr w' := by
        intro W oW
        refine (prop_visit_any (HF.out.at_.only0 oW) HF.out.inv (-x) (by rw [hn1] at hlx; show -x ≠ 0 ∧ (-x).natAbs ≤ T1.n; omega) (by rw [Int.neg_neg]; exact hmx) z (by rw [hv])).mono ?_
        rintro e w' ⟨h1, h2⟩
        unfold VisTo at h2
        rw [hv] at h2
        obtain ⟨g2, V2, h3, h4, h5⟩ := h2
        exact ⟨h1, g2, V2, h3, fun q hq => h4 q (by have := oW.size; omega), (oW.mono fun _ f => f.elim).same h5⟩
      have HVis := Lib.hid hvis
      have ewx : IntKind.i64.wrap (-x) = -x := IntWalk.i64_in _ (by omega)
      have hzr : z = -1 ∨ 0 ≤ z := by
        rcases hvp.end_ with ⟨h, _⟩ | ⟨k, h, _⟩
        · exact .inl h
        · right; omega
      have dn : decide (T1.next < T1.ents.length) = true := decide_eq_true cn
      have hcr : (T1.next : Int) < (T1.ents.length : Int) := by omega
      have HVp := Lib.hid hvp
      have HV := Lib.hid hv
      have HX := Lib.hid hx
      obtain ⟨asx, cs, hvs, -, -⟩ := hF.at_.s.shape
      simp only [List.length_map] at hvs
      rw [hvs] at q7
      clear hvis hvp hv hx hrl hF o1 hll hvl hme
      obtain ⟨zs, hzs⟩ : ∃ zs, decide (0 < T1.short.length) = zs := ⟨_, rfl⟩
      have hzs' : decide ((0 : Int) < (T1.short.length : Int)) = zs := by rw [← hzs]; apply decide_eq_decide.2; omega
      cases zs
      all_goals
        go_wp2_with fail
        go_quiet (fail)
        go_wp2_with fail
        go_quiet (fail)
        go_wp2_with fail
        go_quiet (fail)
        go_wp2_with fail
        refine (HVis.out _ (by repeat (first | exact Only.refl _ _ | apply Only.drew | apply Only.alloc | apply Only.drewN))).mono ?_
        rintro e w2 ⟨rfl, g2, V2, H2, A2, O2⟩
        rcases hzr with hz | hz
        · subst hz
          have hn2 : T2.next = T1.next := HVp.out.ext.next
          have H3 := H2.setN (m := T2.next + 1) (Agree.refl _ _) H2.fresh (Only.refl _ _)
          have hO3 : Only (Mine g1) wr (w2.setCell ⟨b, 6, none⟩ (cN (T2.next + 1))) := O2.mine A2 ((Only.refl _ w2).setCell (.inl (by unfold Mine; rw [H2.tb]; simp)) _)
          have hinv : Inv { T2 with next := T2.next + 1 } := by
            rcases HVp.out.end_ with ⟨_, hkp⟩ | ⟨m, hm, _⟩
            · obtain ⟨rr, hrr⟩ := HVp.out.ext.ext.lits
              obtain ⟨re, hre⟩ := HVp.out.ext.ext.ents
              have hrr : T2.lits = T1.lits ++ rr := hrr
              have hre : T2.ents = T1.ents ++ re := hre
              refine HVp.out.inv.step (l := -x) (by omega) (by rw [hn2, hre, List.length_append]; omega) ?_ hkp
              rw [hn2, hrr, getD_app_l _ _ _ (by rw [lits_len]; exact cn), HX.out, Int.neg_neg]
            · omega
          have hnext : FolAt w g b T (w2.setCell ⟨b, 6, none⟩ (cN (T2.next + 1))) g2 V2 { T2 with next := T2.next + 1 } :=
            ⟨H3, hinv, fun T' r hf => HF.out.fol T' r (Foll.step cn (by rw [HX.out]; exact HV.out) (by decide) hf), HF.out.ag.trans A2 HF.out.on.size, HF.out.on.mine HF.out.ag hO3, (HVp.out.ext.ext.n).trans hn1⟩
          have hm3 := hnext.at_.meas T.n
          have hs3 : T2.short = T1.short := HVp.out.ext.short
          have HNx := Lib.hid hnext
          have HM3 := Lib.hid hm3
          have p6 := H2.f6
          have f6 := H2.free 6
          have ew6 : IntKind.i64.wrap ((T2.next : Int) + 1) = ((T2.next + 1 : Nat) : Int) := by rw [IntWalk.i64_in _ (by omega)]; rfl
          have HN2 := Lib.hid hn2
          have HS3 := Lib.hid hs3
          clear hnext hinv hO3 H3 H2 A2 O2 hm3 hn2 hs3
          go_wp2_with fail
          go_roundw
          case rel => exact ⟨g2, V2, _, HNx.out⟩
          case measure =>
            have e1 := HMe.out
            have e2 := HM3.out
            rw [e1]
            refine Nat.lt_of_le_of_lt (Nat.le_of_eq (by first | exact e2 | rfl)) ?_
            show T.n - (T2.next + 1) + T2.short.length < _
            rw [HS3.out, HN2.out]; omega
        · have hfin : FolTo w g b T (.returned (.int .i64 z)) w2 := ⟨z, T2, rfl, HF.out.fol T2 z (Foll.conf cn (by rw [HX.out]; exact HV.out) hz), g2, V2, H2, HF.out.ag.trans A2 HF.out.on.size, HF.out.on.mine HF.out.ag O2⟩
          have HFin := Lib.hid hfin
          have dz : decide (0 ≤ z) = true := decide_eq_true hz
          clear hfin H2 A2 O2
          go_wp2_with fail
          go_ret
          exact HFin.out
      
    · skip
      have hnx : T1.next = T1.ents.length := by omega
      have dn : decide (T1.next < T1.ents.length) = false := decide_eq_false cn
      match hshort : T1.short with
      | [] =>
        have hfin : ∀ W, Only (fun _ => False) wr W → FolTo w g b T (.returned (.int .i64 (-1))) W := fun W oW => ⟨-1, T1, rfl, HF.out.fol _ _ (Foll.done hshort hnx), g1, V1, HF.out.at_.only0 oW, HF.out.ag, HF.out.on.same (oW.mono fun _ f => f.elim)⟩
        have HFin := Lib.hid hfin
        obtain ⟨asx, cs, hvs, -, -⟩ := hF.at_.s.shape
        simp only [List.length_map, hshort, List.length_nil] at hvs
        rw [hvs] at q7
        clear hfin hF o1 hll hvl hme
        go_wp2_with fail
        go_quiet (fail)
        go_wp2_with fail
        go_ret
        exact HFin.out _ (by repeat (first | exact Only.refl _ _ | apply Only.drew | apply Only.alloc | apply Only.drewN))
      | k :: s =>
        have hkc : k < T1.cls.length := o1.sm k (by rw [hshort]; simp)
        obtain ⟨bs0, os0, cs0, hvs0, hs10, hs20, hsc0, -, -⟩ := RowO.head (by have := hF.at_.s; rwa [hshort, List.map_cons] at this)
        simp only [List.length_map] at hvs0 hs10
        rw [hvs0] at q7
        have hsl : (0 : Int) < (s.length : Int) + 1 := by omega
        have dsl : decide (0 < s.length + 1) = true := decide_eq_true (by omega)
        cases hth : T1.there (k : Int)
        · have hTh : ∀ W, Only (fun _ => False) wr W → Calls Try.prog 72 #[.pointer (some ⟨b, 0, none⟩), cN k] W fun e w' => e = .returned (.bool false) ∧ W = w' := fun W oW => prop_there_any (hF.at_.only0 oW) o1 (k : Int) false hth
          have HTh := Lib.hid hTh
          have hinv2 : Inv { T1 with short := s } := by
            have hnl : ¬ T1.live k := fun hl => by rw [there_iff.2 hl] at hth; cases hth
            exact HF.out.inv.unshort hshort (.inl rfl) (fun hl => absurd hl hnl) (fun _ hl => absurd hl hnl)
          have HInv2 := Lib.hid hinv2
          have HTh0 := Lib.hid hth
          clear hTh hinv2 hF o1 hll hvl hme hth
          go_wp2_with fail
          go_quiet (fail)
          go_wp2_with fail
          go_quiet (fail)
          go_wp2_with fail
          refine (HTh.out _ (by repeat (first | exact Only.refl _ _ | apply Only.drew | apply Only.alloc | apply Only.drewN))).mono ?_
          rintro e w2 ⟨rfl, hw2⟩
          have o2 : Only (fun _ => False) wr w2 := by rw [← hw2]; repeat (first | exact Only.refl _ _ | apply Only.drew | apply Only.alloc | apply Only.drewN)
          have H2 := HF.out.at_.only0 o2
          have hO2 : Only (Mine g) w w2 := HF.out.on.same (o2.mono fun _ f => f.elim)
          clear HTh o2 hw2
          obtain ⟨bs, os, cs, hvs, hs1, hs2, hsc, hst, hsr⟩ := RowO.head (by have := H2.s; rwa [hshort, List.map_cons] at this)
          simp only [List.length_map] at hvs hs1 hsr
          have p7 := H2.f7
          rw [hvs] at p7
          have f7 := H2.free 7
          have hNx : FolAt w g b T (w2.setCell ⟨b, 7, none⟩ (.slice (if cs = 1 then some ⟨bs, os, none⟩ else some ⟨bs, os + 1, none⟩) s.length (cs - 1))) g1 { V1 with vs := .slice (if cs = 1 then some ⟨bs, os, none⟩ else some ⟨bs, os + 1, none⟩) s.length (cs - 1) } { T1 with short := s } :=
            ⟨H2.setS (Agree.refl _ _) H2.fresh (Only.refl _ _) hsr, HInv2.out, fun T' r hf => HF.out.fol T' r (Foll.skip hnx hshort HTh0.out hf), HF.out.ag, hO2.mine (HF.out.ag) ((Only.refl _ _).setCell (.inl (by unfold Mine; rw [H2.tb]; simp)) _), HF.out.n⟩
          have hm3 := hNx.at_.meas T.n
          have hlt : folMeas b T.n (w2.setCell ⟨b, 7, none⟩ (.slice (if cs = 1 then some ⟨bs, os, none⟩ else some ⟨bs, os + 1, none⟩) s.length (cs - 1))) < folMeas b T.n wr := by
            rw [hm3, HMe.out, hshort]
            show T.n - T1.next + s.length < _
            simp only [List.length_cons]; omega
          have HNx := Lib.hid hNx
          have HLt := Lib.hid hlt
          have hone : (1 : Int) ≤ (s.length : Int) + 1 := by omega
          clear hNx hm3 hsr hlt
          by_cases hc1 : cs = 1
          · rw [if_pos hc1] at HNx HLt
            have hc0 : cs - 1 = 0 := by omega
            rw [hc0] at HNx HLt
            go_wp2_with fail
            go_roundw
            case rel => exact ⟨_, _, _, HNx.out⟩
            case measure => exact HLt.out
          · rw [if_neg hc1] at HNx HLt
            go_wp2_with fail
            go_roundw
            case rel => exact ⟨_, _, _, HNx.out⟩
            case measure => exact HLt.out
        · have hlive : T1.live k := there_iff.1 hth
          have hTh : ∀ W, Only (fun _ => False) wr W → Calls Try.prog 72 #[.pointer (some ⟨b, 0, none⟩), cN k] W fun e w' => e = .returned (.bool true) ∧ W = w' := fun W oW => prop_there_any (hF.at_.only0 oW) o1 (k : Int) true hth
          have HTh := Lib.hid hTh
          obtain ⟨T2, z, hfi⟩ : ∃ T2 z, T1.first k = (T2, z) := ⟨_, _, rfl⟩
          have hfp := first_post hF.inv hshort hlive hnx
          have hfs : T2.short = k :: s := by
            have := first_short T1 k
            rw [hfi] at this
            exact this.trans hshort
          rw [hfi] at hfp
          have hFi : ∀ W, Only (fun _ => False) wr W → Calls Try.prog 73 #[.pointer (some ⟨b, 0, none⟩), cN k] W fun e w' => e = .returned (.bool z) ∧ ∃ g2 V2, TrAt w' g2 b V2 T2 ∧ Agree wr g1 g2 ∧ Only (Mine g1) wr w' := by
            intro W oW
            refine (prop_first_any (HF.out.at_.only0 oW) HF.out.inv k hkc z (by rw [hfi])).mono ?_
            rintro e w' ⟨h1, h2⟩
            unfold FirTo at h2
            rw [hfi] at h2
            obtain ⟨g2, V2, h3, h4, h5⟩ := h2
            exact ⟨h1, g2, V2, h3, fun q hq => h4 q (by have := oW.size; omega), (oW.mono fun _ f => f.elim).same h5⟩
          have HFi := Lib.hid hFi
          have HFp := Lib.hid hfp
          have HFie := Lib.hid hfi
          have HTh0 := Lib.hid hth
          have HFs := Lib.hid hfs
          clear hTh hFi hF o1 hll hvl hme hth hfp hfi hfs
          cases z
          all_goals
            go_wp2_with fail
            go_quiet (fail)
            go_wp2_with fail
            go_quiet (fail)
            go_wp2_with fail
            refine (HTh.out _ (by repeat (first | exact Only.refl _ _ | apply Only.drew | apply Only.alloc | apply Only.drewN))).mono ?_
            rintro e w2 ⟨rfl, rfl⟩
            go_wp2_with fail
            refine (HFi.out _ (by repeat (first | exact Only.refl _ _ | apply Only.drew | apply Only.alloc | apply Only.drewN))).mono ?_
            rintro e w2 ⟨rfl, g2, V2, H2, A2, O2⟩
          · have hfin : FolTo w g b T (.returned (cN k)) w2 := ⟨(k : Int), T2, rfl, HF.out.fol _ _ (Foll.bad hnx hshort HTh0.out HFie.out), g2, V2, H2, HF.out.ag.trans A2 HF.out.on.size, HF.out.on.mine HF.out.ag O2⟩
            have HFin := Lib.hid hfin
            clear hfin H2 A2 O2
            go_wp2_with fail
            go_ret
            exact HFin.out
          · have hO2 : Only (Mine g) w w2 := HF.out.on.mine HF.out.ag O2
            have hA2 : Agree w g g2 := HF.out.ag.trans A2 HF.out.on.size
            have hn2 : T2.next = T1.next := (HFp.out.yes rfl).2
            obtain ⟨bs, os, cs, hvs, hs1, hs2, hsc, hst, hsr⟩ := RowO.head (by have := H2.s; rwa [HFs.out, List.map_cons] at this)
            simp only [List.length_map] at hvs hs1 hsr
            have p7 := H2.f7
            rw [hvs] at p7
            have f7 := H2.free 7
            have hNx : FolAt w g b T (w2.setCell ⟨b, 7, none⟩ (.slice (if cs = 1 then some ⟨bs, os, none⟩ else some ⟨bs, os + 1, none⟩) s.length (cs - 1))) g2 { V2 with vs := .slice (if cs = 1 then some ⟨bs, os, none⟩ else some ⟨bs, os + 1, none⟩) s.length (cs - 1) } { T2 with short := s } :=
              ⟨H2.setS (Agree.refl _ _) H2.fresh (Only.refl _ _) hsr, (HFp.out.yes rfl).1, fun T' r hf => HF.out.fol T' r (Foll.look hnx hshort HTh0.out HFie.out hf), hA2, hO2.mine (hA2) ((Only.refl _ _).setCell (.inl (by unfold Mine; rw [H2.tb]; simp)) _), (HFp.out.ext.n).trans HF.out.n⟩
            have hm3 := hNx.at_.meas T.n
            have hlt : folMeas b T.n (w2.setCell ⟨b, 7, none⟩ (.slice (if cs = 1 then some ⟨bs, os, none⟩ else some ⟨bs, os + 1, none⟩) s.length (cs - 1))) < folMeas b T.n wr := by
              rw [hm3, HMe.out, hshort]
              show T.n - T2.next + s.length < _
              simp only [List.length_cons]; omega
            have HNx := Lib.hid hNx
            have HLt := Lib.hid hlt
            have hone : (1 : Int) ≤ (s.length : Int) + 1 := by omega
            clear hNx hm3 hsr hlt
            by_cases hc1 : cs = 1
            · rw [if_pos hc1] at HNx HLt
              have hc0 : cs - 1 = 0 := by omega
              rw [hc0] at HNx HLt
              go_wp2_with fail
              go_roundw
              case rel => exact ⟨_, _, _, HNx.out⟩
              case measure => exact HLt.out
            · rw [if_neg hc1] at HNx HLt
              go_wp2_with fail
              go_roundw
              case rel => exact ⟨_, _, _, HNx.out⟩
              case measure => exact HLt.out
      
end
end Go.Proofs.Ytjbfgafkjejdjaa
