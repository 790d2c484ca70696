/- The walks of package prop: there, rank, Level, Clauses, put. -/
import Derived.Test.YtjbfgafkjejdjaaProp2
namespace Go.Proofs.Ytjbfgafkjejdjaa
open Go.RowKit
open Tr

section
variable {w : World} {g : Tag} {b : Nat} {V : TrV} {T : Trail}

theorem prop_there_any (H : TrAt w g b V T) (o : Ok T) (k : Int) (r : Bool) (hr : T.there k = r) :
    Calls Try.prog 72 #[.pointer (some ⟨b, 0, none⟩), .int .i64 k] w fun e w' => e = .returned (.bool r) ∧ w = w' := by
  have q1 := H.f1
  obtain ⟨ac, cc, hvc, _, _⟩ := own_slice H.c.own
  rw [hvc, H.ul] at q1
  by_cases h0 : 0 ≤ k
  · obtain ⟨m, rfl⟩ := Int.eq_ofNat_of_zero_le h0
    by_cases h1 : m < T.cls.length
    · have hg := H.gn
      have q2 := H.f2
      obtain ⟨gb, cg, hvg, _, _, _, _⟩ := hg.pos (by simp [o.gl]; omega)
      rw [hvg] at hg q2
      have q3 := hg.cellM (f := Value.bool) true (i := m) (by rw [o.gl]; exact h1)
      simp only [List.length_map, o.gl] at q2
      have hr' : T.there (m : Int) = !T.gone.getD m true := by
        unfold Trail.there
        rw [decide_eq_true (by omega)]; simp
      rw [hr'] at hr
      have hcb := o.cb
      generalize T.gone.getD m true = z at *
      generalize T.cls.length = n at *
      clear hr' hg hvg hvc H o
      subst hr
      have d1 : decide (m < n) = true := decide_eq_true h1
      have d2 : decide ((0 : Int) ≤ (m : Int)) = true := decide_eq_true h0
      go_enter Try.func72, Try.ntmps72
      go_wp2_with fail
      go_ret
      exact ⟨rfl, rfl⟩
    · have : r = false := by rw [← hr]; unfold Trail.there; rw [decide_eq_false (by omega)]; rfl
      subst this
      generalize T.cls.length = n at *
      clear hr hvc H o
      have d1 : decide (m < n) = false := decide_eq_false h1
      have d2 : decide ((0 : Int) ≤ (m : Int)) = true := decide_eq_true h0
      go_enter Try.func72, Try.ntmps72
      go_wp2_with fail
      go_ret
      exact ⟨rfl, rfl⟩
  · have : r = false := by rw [← hr]; unfold Trail.there; rw [decide_eq_false (by omega)]; rfl
    subst this
    clear hr hvc H o q1
    have d2 : decide ((0 : Int) ≤ k) = false := decide_eq_false h0
    go_enter Try.func72, Try.ntmps72
    go_wp2_with fail
    go_ret
    exact ⟨rfl, rfl⟩

theorem prop_there_nil (k : Int) : Calls Try.prog 72 #[.pointer none, .int .i64 k] w fun e w' => e = .returned (.bool false) ∧ w = w' := by
  go_enter Try.func72, Try.ntmps72
  go_wp2_with fail
  go_ret
  exact ⟨rfl, rfl⟩

theorem prop_Level_any (H : TrAt w g b V T) : Calls Try.prog 41 #[.pointer (some ⟨b, 0, none⟩)] w fun e w' => e = .returned (cN T.levels.length) ∧ w = w' := by
  have q := H.f5
  obtain ⟨ac, cc, hv, _, _⟩ := own_slice H.L.own
  rw [hv] at q
  clear H hv
  generalize T.levels.length = n at *
  go_enter Try.func41, Try.ntmps41
  go_wp2_with fail
  go_ret
  exact ⟨rfl, rfl⟩

theorem prop_Clauses_any (H : TrAt w g b V T) : Calls Try.prog 45 #[.pointer (some ⟨b, 0, none⟩)] w fun e w' => e = .returned (cN T.cls.length) ∧ w = w' := by
  have q := H.f1
  obtain ⟨ac, cc, hv, _, _⟩ := own_slice H.c.own
  rw [hv, H.ul] at q
  clear H hv
  generalize T.cls.length = n at *
  go_enter Try.func45, Try.ntmps45
  go_wp2_with fail
  go_ret
  exact ⟨rfl, rfl⟩

theorem prop_rank_any (H : TrAt w g b V T) (o : Ok T) (x : Int) (hx : x ≠ 0 ∧ x.natAbs ≤ T.n) (r : Int) (hr : T.rank x = r) :
    Calls Try.prog 109 #[.pointer (some ⟨b, 0, none⟩), .int .i64 x] w fun e w' => e = .returned (.int .i64 r) ∧ Only (fun _ => False) w w' := by
  have hn := o.n
  have hb : InI64 x := by unfold InI64; omega
  obtain ⟨v, hv⟩ : ∃ v, T.val x = v := ⟨_, rfl⟩
  have hV := prop_Value_any H o x hb v hv
  have HV := Lib.hid hV
  have hvr := Cnf.value_range T.lits x
  have hv' : Cnf.value T.lits x = v := hv
  rw [hv'] at hvr
  unfold Trail.rank at hr
  rw [hv] at hr
  clear hV hv'
  by_cases c1 : v = 1
  · subst c1
    rw [if_pos rfl] at hr
    subst hr
    clear H o hvr hv
    unfold maxI
    go_enter Try.func109, Try.ntmps109
    go_wp2_with fail
    refine HV.out.mono ?_
    rintro e w' ⟨rfl, rfl⟩
    go_wp2_with fail
    go_ret
    exact ⟨rfl, Only.refl _ _⟩
  · by_cases c0 : v = 0
    · subst c0
      rw [if_neg (by decide), if_pos rfl] at hr
      subst hr
      clear H o hvr hv
      unfold maxI
      go_enter Try.func109, Try.ntmps109
      go_wp2_with fail
      refine HV.out.mono ?_
      rintro e w' ⟨rfl, rfl⟩
      go_wp2_with fail
      go_ret
      exact ⟨rfl, Only.refl _ _⟩
    · obtain rfl : v = -1 := by omega
      rw [if_neg (by decide), if_neg (by decide)] at hr
      have hnz : T.val (x.natAbs : Int) ≠ 0 := by
        by_cases hneg : x < 0
        · rw [show (x.natAbs : Int) = -x by omega, val_neg o, hv]; decide
        · rw [show (x.natAbs : Int) = x by omega, hv]; decide
      have hat : T.at (x.natAbs : Int) = (atomOf T.ents x.natAbs).2 := by unfold Trail.at; rw [if_pos ⟨by omega, hnz⟩]; simp
      have hA := fun r2 (h2 : (atomOf T.ents x.natAbs).2 = r2) => prop_At_any H o (x.natAbs : Int) (by unfold InI64; omega) r2 (hat.trans h2)
      obtain ⟨r2, hr2⟩ : ∃ r2, (atomOf T.ents x.natAbs).2 = (r, r2) := ⟨(atomOf T.ents x.natAbs).2.2, by rw [← hr]⟩
      have hA' := hA _ hr2
      have HA := Lib.hid hA'
      dsimp only at HA
      have hm : max x (-x) = (x.natAbs : Int) := by omega
      have ew : IntKind.i64.wrap (-x) = -x := IntWalk.i64_in _ (by omega)
      clear H o hvr hv hA hA' hat hnz hr hr2 c1 c0
      generalize x.natAbs = m at *
      go_enter Try.func109, Try.ntmps109
      go_wp2_with fail
      refine HV.out.mono ?_
      rintro e w' ⟨rfl, rfl⟩
      go_wp2_with fail
      refine HA.out.mono ?_
      rintro e w' ⟨rfl, O1⟩
      go_wp2_with fail
      go_ret
      exact ⟨rfl, O1⟩
end
end Go.Proofs.Ytjbfgafkjejdjaa
