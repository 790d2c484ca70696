/- The walks of package prop that only read: place, is, Value, Level, At, List, Clauses, there. -/
import Derived.Test.YtjbfgafkjejdjaaPropFn2
import Derived.Deep.MidRow
import Derived.Lib.MinMax
namespace Go.Proofs.Ytjbfgafkjejdjaa
open Go.RowKit
open Tr

namespace Tr
/-- whether there is a literal -/
def Trail.is (T : Trail) (x : Int) : Bool := decide (x ≠ 0 ∧ x.natAbs ≤ T.n)
def Trail.at (T : Trail) (n : Int) : Int × Int := if 1 ≤ n ∧ T.val n ≠ 0 then (atomOf T.ents n.natAbs).2 else (-1, -1)

theorem Ok.val0 {T : Trail} (o : Ok T) {x : Int} (h : T.is x = false) : T.val x = 0 := by
  unfold Trail.is at h
  have h' := of_decide_eq_false h
  unfold Trail.val
  rw [Up.value_zero]
  constructor
  · intro hm; exact h' (o.good.lit x hm)
  · intro hm; have := o.good.lit _ hm; exact h' (by omega)

theorem Ok.atom {T : Trail} (o : Ok T) {a : Nat} (ha : 0 < a) : (atomOf T.ents a).1 = T.val (a : Int) := atomOf_val o.good ha

theorem val_neg {T : Trail} (o : Ok T) (x : Int) : T.val (-x) = - T.val x := by
  unfold Trail.val
  rcases Cnf.value_range T.lits x with h | h | h
  · rw [h]
    have := Up.value_zero.1 h
    exact Up.value_zero.2 ⟨this.2, by rw [Int.neg_neg]; exact this.1⟩
  · rw [h, o.good.neg, Int.neg_neg]; exact Up.value_one h
  · rw [h]; have := Up.value_neg h; rw [o.good.one.2 this]; rfl

theorem lits_len (T : Trail) : T.lits.length = T.ents.length := by simp [Trail.lits]
theorem Ok.len {T : Trail} (o : Ok T) : T.ents.length ≤ T.n := by have := o.good.len; rwa [lits_len] at this
end Tr

section
variable {w : World} {g : Tag} {b : Nat} {V : TrV} {T : Trail}

theorem prop_place_any (x : Int) (n : Nat) (hn : n ≤ 65536) (hx : x ≠ 0 ∧ x.natAbs ≤ n) (p : Int) (hp : p = (place x : Int)) : Calls Try.prog 70 #[.int .i64 x] w fun e w' => e = .returned (.int .i64 p) ∧ w = w' := by
  subst hp
  obtain ⟨h0, h1⟩ := hx
  by_cases hneg : x < 0
  · have e1 : (place x : Int) = -2 * x - 1 := by unfold place Rup.place; rw [if_pos hneg]; omega
    rw [e1]
    have b1 : -65536 ≤ x := by omega
    clear e1 h1 h0
    go_enter Try.func70, Try.ntmps70
    go_wp2
    go_ret
    exact ⟨rfl, rfl⟩
  · have e1 : (place x : Int) = 2 * x - 2 := by unfold place Rup.place; rw [if_neg hneg]; omega
    rw [e1]
    have b1 : x ≤ 65536 := by omega
    have b2 : 0 < x := by omega
    clear e1 h1 h0 hneg
    go_enter Try.func70, Try.ntmps70
    go_wp2
    go_ret
    exact ⟨rfl, rfl⟩

theorem prop_is_any (H : TrAt w g b V T) (hn : T.n ≤ 65536) (x : Int) (hx : InI64 x) (r : Bool) (hr : T.is x = r) :
    Calls Try.prog 69 #[.pointer (some ⟨b, 0, none⟩), .int .i64 x] w fun e w' => e = .returned (.bool r) ∧ w = w' := by
  obtain ⟨hx1, hx2⟩ := hx
  have q0 := H.f0
  obtain ⟨aa, ca, hva, _, _⟩ := own_slice H.a.own
  rw [hva] at q0
  have hr' : decide (x ≠ 0 ∧ x.natAbs ≤ T.n) = r := hr
  clear H hva hr
  generalize T.n = n at *
  by_cases h0 : x = 0
  · subst h0
    have : r = false := by rw [← hr']; simp
    subst this
    clear hr'
    go_enter Try.func69, Try.ntmps69
    go_wp2
    go_ret
    exact ⟨rfl, rfl⟩
  · by_cases h1 : x = -9223372036854775808
    · subst h1
      have : r = false := by rw [← hr']; apply decide_eq_false; omega
      subst this
      clear hr'
      go_enter Try.func69, Try.ntmps69
      go_wp2
      go_ret
      exact ⟨rfl, rfl⟩
    · have hd : r = decide (x.natAbs ≤ n) := by
        rw [← hr']; apply decide_eq_decide.2; omega
      subst hd
      have hm : max x (-x) = (x.natAbs : Int) := by omega
      have ew : IntKind.i64.wrap (-x) = -x := IntWalk.i64_in _ (by omega)
      have d0 : (x != 0) = true := by simpa using h0
      have d1 : (x != -9223372036854775808) = true := by simpa using h1
      clear hr' h0 h1
      generalize x.natAbs = m at *
      go_enter Try.func69, Try.ntmps69
      go_wp2
      go_ret
      exact ⟨rfl, rfl⟩

theorem prop_is_nil (x : Int) : Calls Try.prog 69 #[.pointer none, .int .i64 x] w fun e w' => e = .returned (.bool false) ∧ w = w' := by
  go_enter Try.func69, Try.ntmps69
  go_wp2
  go_ret
  exact ⟨rfl, rfl⟩

theorem prop_Value_any (H : TrAt w g b V T) (o : Ok T) (x : Int) (hx : InI64 x) (r : Int) (hr : T.val x = r) :
    Calls Try.prog 38 #[.pointer (some ⟨b, 0, none⟩), .int .i64 x] w fun e w' => e = .returned (.int .i64 r) ∧ w = w' := by
  have hn := o.n
  cases his : T.is x
  · have h0 : r = 0 := by rw [← hr]; exact o.val0 his
    have hI := prop_is_any H hn x hx false his
    have HI := Lib.hid hI
    subst h0
    clear hI hr H
    go_enter Try.func38, Try.ntmps38
    go_wp2_with fail
    refine HI.out.mono ?_
    rintro e w' ⟨rfl, rfl⟩
    go_wp2_with fail
    go_ret
    exact ⟨rfl, rfl⟩
  · have hI := prop_is_any H hn x hx true his
    have HI := Lib.hid hI
    have his' : x ≠ 0 ∧ x.natAbs ≤ T.n := of_decide_eq_true his
    obtain ⟨h0, h1⟩ := his'
    obtain ⟨ga, ca, hva, hc1, hc2⟩ := own_some H.a.own (by omega)
    have q0 := H.f0
    have hrow := H.a.own
    rw [hva] at q0 hrow
    have q1 := hrow.cellAt ((x.natAbs - 1) * 3 + 0) (by omega)
    rw [atomCells_get _ (by omega) (by decide)] at q1
    have hat := o.atom (a := x.natAbs) (by omega)
    have hvn := val_neg o x
    rw [show x.natAbs - 1 + 1 = x.natAbs by omega] at q1
    have q2 : w.cell? ⟨ga, (x.natAbs - 1) * 3, none⟩ = some (cI (T.val (x.natAbs : Int))) := by
      rw [← hat]; exact q1
    have hrng : -1 ≤ r ∧ r ≤ 1 := by rw [← hr]; have := Cnf.value_range T.lits x; unfold Trail.val; omega
    obtain ⟨r1, r2⟩ := hrng
    clear q1 hat hrow hva hI his H
    by_cases hneg : x < 0
    · have e1 : (x.natAbs : Int) = -x := by omega
      rw [e1, hvn, hr] at q2
      obtain ⟨m, rfl⟩ : ∃ m : Nat, x = -((m : Int) + 1) := ⟨x.natAbs - 1, by omega⟩
      have e2 : (-((m : Int) + 1)).natAbs - 1 = m := by omega
      rw [e2] at q2
      have b1 : m < T.n := by omega
      have b2 : m < 65536 := by omega
      have ew : IntKind.i64.wrap (-(-((m : Int) + 1))) = (m : Int) + 1 := by rw [IntWalk.i64_in _ (by omega)]; omega
      have ew2 : IntKind.i64.wrap (-(-r)) = r := by rw [IntWalk.i64_in _ (by omega)]; omega
      have ew3 : IntKind.i64.wrap ((m : Int) + 1 - 1) = m := by rw [IntWalk.i64_in _ (by omega)]; omega
      have d1 : decide (-((m : Int) + 1) < 0) = true := decide_eq_true hneg
      clear e1 e2 hvn hr h1 h0 hx o hneg
      generalize T.n = n at *
      go_enter Try.func38, Try.ntmps38
      go_wp2_with fail
      refine HI.out.mono ?_
      rintro e w' ⟨rfl, rfl⟩
      go_wp2_with fail
      go_ret
      exact ⟨rfl, rfl⟩
    · have e1 : (x.natAbs : Int) = x := by omega
      rw [e1, hr] at q2
      obtain ⟨m, rfl⟩ : ∃ m : Nat, x = ((m : Int) + 1) := ⟨x.natAbs - 1, by omega⟩
      have e2 : (((m : Int) + 1)).natAbs - 1 = m := by omega
      rw [e2] at q2
      have b1 : m < T.n := by omega
      have b2 : m < 65536 := by omega
      have ew3 : IntKind.i64.wrap ((m : Int) + 1 - 1) = m := by rw [IntWalk.i64_in _ (by omega)]; omega
      have d1 : decide (((m : Int) + 1) < 0) = false := decide_eq_false hneg
      clear e1 e2 hvn hr h1 h0 hx o hneg
      generalize T.n = n at *
      go_enter Try.func38, Try.ntmps38
      go_wp2_with fail
      refine HI.out.mono ?_
      rintro e w' ⟨rfl, rfl⟩
      go_wp2_with fail
      go_ret
      exact ⟨rfl, rfl⟩

theorem prop_Value_nil (x : Int) : Calls Try.prog 38 #[.pointer none, .int .i64 x] w fun e w' => e = .returned (.int .i64 0) ∧ w = w' := by
  have hI := prop_is_nil (w := w) x
  have HI := Lib.hid hI
  clear hI
  go_enter Try.func38, Try.ntmps38
  go_wp2_with fail
  refine HI.out.mono ?_
  rintro e w' ⟨rfl, rfl⟩
  go_wp2_with fail
  go_ret
  exact ⟨rfl, rfl⟩

theorem prop_At_any (H : TrAt w g b V T) (o : Ok T) (x : Int) (hx : InI64 x) (r : Int × Int) (hr : T.at x = r) :
    Calls Try.prog 37 #[.pointer (some ⟨b, 0, none⟩), .int .i64 x] w fun e w' => e = .returned (.tuple #[.int .i64 r.1, .int .i64 r.2]) ∧ Only (fun _ => False) w w' := by
  have hn := o.n
  obtain ⟨rl, rr⟩ := r
  dsimp only
  by_cases h1 : 1 ≤ x
  · obtain ⟨v, hv⟩ : ∃ v, T.val x = v := ⟨_, rfl⟩
    have hV := prop_Value_any H o x hx v hv
    have HV := Lib.hid hV
    clear hV
    by_cases hv0 : v = 0
    · subst hv0
      have e : T.at x = (-1, -1) := by unfold Trail.at; rw [if_neg (by rw [hv]; simp)]
      rw [e] at hr
      obtain ⟨rfl, rfl⟩ := Prod.mk.inj hr
      have d1 : decide (x < 1) = false := decide_eq_false (by omega)
      clear hr e hv hx H o
      go_enter Try.func37, Try.ntmps37
      go_wp2_with fail
      refine HV.out.mono ?_
      rintro e w' ⟨rfl, rfl⟩
      go_wp2_with fail
      go_ret2
      exact ⟨rfl, Only.refl _ _⟩
    · have his : T.is x = true := by
        cases h : T.is x
        · exact absurd (hv.symm.trans (o.val0 h)) hv0
        · rfl
      have his' : x ≠ 0 ∧ x.natAbs ≤ T.n := of_decide_eq_true his
      have e : T.at x = (atomOf T.ents x.natAbs).2 := by unfold Trail.at; rw [if_pos ⟨h1, by rw [hv]; exact hv0⟩]
      rw [e] at hr
      obtain ⟨ga, ca, hva, hc1, hc2⟩ := own_some H.a.own (by omega)
      have q0 := H.f0
      have hrow := H.a.own
      rw [hva] at q0 hrow
      have k0 := hrow.cellAt ((x.natAbs - 1) * 3 + 0) (by omega)
      have k1 := hrow.cellAt ((x.natAbs - 1) * 3 + 1) (by omega)
      have k2 := hrow.cellAt ((x.natAbs - 1) * 3 + 2) (by omega)
      rw [atomCells_get _ (by omega) (by decide), show x.natAbs - 1 + 1 = x.natAbs by omega] at k0 k1 k2
      obtain ⟨m, rfl⟩ : ∃ m : Nat, x = ((m : Int) + 1) := ⟨x.natAbs - 1, by omega⟩
      have e2 : (((m : Int) + 1)).natAbs - 1 = m := by omega
      rw [e2] at k0 k1 k2
      have k0' : w.cell? ⟨ga, m * 3, none⟩ = some (cI (atomOf T.ents ((m : Int) + 1).natAbs).1) := k0
      have k1' : w.cell? ⟨ga, m * 3 + 1, none⟩ = some (cI rl) := by rw [k1]; simp [cell3, hr]
      have k2' : w.cell? ⟨ga, m * 3 + 2, none⟩ = some (cI rr) := by rw [k2]; simp [cell3, hr]
      generalize (atomOf T.ents ((m : Int) + 1).natAbs).1 = z at *
      have b1 : m < T.n := by omega
      have b2 : m < 65536 := by omega
      have ew3 : IntKind.i64.wrap ((m : Int) + 1 - 1) = m := by rw [IntWalk.i64_in _ (by omega)]; omega
      have d1 : decide (((m : Int) + 1) < 1) = false := decide_eq_false (by omega)
      have d2 : (v == 0) = false := by simpa using hv0
      clear hr e hv hx H o his his' hrow hva k0 k1 k2 e2 hv0
      generalize T.n = n at *
      go_enter Try.func37, Try.ntmps37
      go_wp2_with fail
      refine HV.out.mono ?_
      rintro e w' ⟨rfl, rfl⟩
      go_wp2_with fail
      go_quiet (fail)
      go_wp2_with fail
      go_ret2
      refine ⟨rfl, ?_⟩
      repeat (first | exact Only.refl _ _ | apply Only.drewN | apply Only.drew | apply Only.alloc)
  · have e : T.at x = (-1, -1) := by unfold Trail.at; rw [if_neg (by omega)]
    rw [e] at hr
    obtain ⟨rfl, rfl⟩ := Prod.mk.inj hr
    have d1 : decide (x < 1) = true := decide_eq_true (by omega)
    clear hr e hx H o
    go_enter Try.func37, Try.ntmps37
    go_wp2_with fail
    go_ret2
    exact ⟨rfl, Only.refl _ _⟩
end
end Go.Proofs.Ytjbfgafkjejdjaa
