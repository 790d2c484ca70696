/- The walks of cooperref12: So, Holds. -/
import Derived.Test.YtbapkcnfacklaaaGreatListsA
set_option linter.unusedVariables false
namespace Go.Proofs.YtbapkcnfacklaaaGreat
open Go.RowKit
structure Bools (w : World) (v : Value) (bs : List Bool) : Prop where
 shape : ∃ ao cap, v = .slice ao bs.length cap ∧ bs.length ≤ cap ∧ cap ≤ 9223372036854775807
 cells : ∀ ao len cap, v = .slice ao len cap → 0 < bs.length → ∃ b off, ao = some ⟨b, off, none⟩ ∧ b < w.heap.size ∧ ∀ i, i < bs.length → w.cell? ⟨b, off + i, none⟩ = some (.bool (bs.getD i false))
theorem Bools.only0 {w w' : World} {v : Value} {bs : List Bool} (h : Bools w v bs) (ho : Only (fun _ => False) w w') : Bools w' v bs := by
 refine ⟨h.shape, fun ao len cap hv hp => ?_⟩
 obtain ⟨b, off, rfl, hb, hc⟩ := h.cells ao len cap hv hp
 refine ⟨b, off, rfl, Nat.lt_of_lt_of_le hb ho.size, fun i hi => ?_⟩
 rw [World.cell?_of_block (w := w) (ho.block b hb (fun f => f))]
 exact hc i hi
theorem Bools.of_own {w : World} {v : Value} {bs : List Bool} {t : TypeId} (h : w.ownsRow 0 t 1 v bs.length (bs.map Value.bool)) : Bools w v bs := by
 obtain ⟨ao, cap, rfl, h1, h2⟩ := own_slice h
 unfold maxLen at h2
 refine ⟨⟨ao, cap, rfl, h1, by omega⟩, fun ao' len' cap' hv hp => ?_⟩
 simp only [Value.slice.injEq] at hv
 obtain ⟨rfl, rfl, rfl⟩ := hv
 obtain ⟨g, cap', he, _, _⟩ := own_some h hp
 simp only [Value.slice.injEq] at he
 obtain ⟨rfl, -, rfl⟩ := he
 refine ⟨g, 0, rfl, own_lt h rfl, fun i hi => ?_⟩
 rw [Nat.zero_add, h.cellAt i (by omega)]
 simp [List.getD, List.getElem?_eq_getElem hi]
namespace Cnf
def soB (x : Int) (m : List Bool) : Bool := if wr x then false else if x < 0 then !(m.getD (x.natAbs - 1) false) else m.getD (x.natAbs - 1) false
def holdsB (css : List (List Int)) (m : List Bool) : Bool := css.all fun c => c.any fun x => soB x m
end Cnf
section
variable {w : World}
set_option maxHeartbeats 800000 in
theorem So_any {v : Value} {m : List Bool} (hm : Bools w v m) (x : Int) (hx : InI64 x) (r : Bool) (hr : Cnf.soB x m = r) :
  Calls Tryz.prog 46 #[.int .i64 x, v] w fun e w' => e = .returned (.bool r) ∧ w = w' := by
 obtain ⟨ao, cap, rfl, hc1, hc2⟩ := hm.shape
 subst hr
 unfold Cnf.soB
 cases hw : Cnf.wr x
 ·have HW := Lib.hid hw
  have hl : Cnf.Lit x := ⟨hx, hw⟩
  have hlo := hl.lo
  have hne := hl.ne0
  clear hw hl
  simp only [Bool.false_eq_true, if_false]
  by_cases hle : x.natAbs ≤ m.length
  ·obtain ⟨b, off, rfl, _, hcs⟩ := hm.cells _ _ _ rfl (by omega)
   have q := hcs (x.natAbs - 1) (by omega)
   have d1 : decide (x.natAbs ≤ m.length) = true := decide_eq_true hle
   have hp : 1 ≤ x.natAbs := by omega
   clear hcs
   generalize m.getD (x.natAbs - 1) false = y at *
   have hat := fun W => (Atom_any (w := W) x hx HW.out)
   have HAt := Lib.hid hat
   clear hat
   generalize hna : x.natAbs = na at *
   clear hna
   by_cases hneg : x < 0
   ·rw [if_pos hneg]
    have d2 : decide (x < 0) = true := decide_eq_true hneg
    go_enter Tryz.func46, Tryz.ntmps46
    go_wp2_with fail
    refine (None_any x hx false HW.out).mono ?_
    rintro e w' ⟨rfl, rfl⟩
    go_wp2_with fail
    refine (HAt.out _).mono ?_
    rintro e w' ⟨rfl, rfl⟩
    go_wp2_with fail
    refine (HAt.out _).mono ?_
    rintro e w' ⟨rfl, rfl⟩
    go_wp2_with fail
    go_ret
    exact ⟨rfl, rfl⟩
   ·rw [if_neg hneg]
    have d2 : decide (x < 0) = false := decide_eq_false hneg
    go_enter Tryz.func46, Tryz.ntmps46
    go_wp2_with fail
    refine (None_any x hx false HW.out).mono ?_
    rintro e w' ⟨rfl, rfl⟩
    go_wp2_with fail
    refine (HAt.out _).mono ?_
    rintro e w' ⟨rfl, rfl⟩
    go_wp2_with fail
    refine (HAt.out _).mono ?_
    rintro e w' ⟨rfl, rfl⟩
    go_wp2_with fail
    go_ret
    exact ⟨rfl, rfl⟩
  ·have d1 : decide (x.natAbs ≤ m.length) = false := decide_eq_false hle
   have hz : m.getD (x.natAbs - 1) false = false := by
    rw [List.getD_eq_getElem?_getD, List.getElem?_eq_none (by omega)]; rfl
   rw [hz]
   have hat := fun W => (Atom_any (w := W) x hx HW.out)
   have HAt := Lib.hid hat
   clear hat hz
   generalize hna : x.natAbs = na at *
   clear hna
   by_cases hneg : x < 0
   ·rw [if_pos hneg]
    have d2 : decide (x < 0) = true := decide_eq_true hneg
    go_enter Tryz.func46, Tryz.ntmps46
    go_wp2_with fail
    refine (None_any x hx false HW.out).mono ?_
    rintro e w' ⟨rfl, rfl⟩
    go_wp2_with fail
    refine (HAt.out _).mono ?_
    rintro e w' ⟨rfl, rfl⟩
    go_wp2_with fail
    go_ret
    exact ⟨rfl, rfl⟩
   ·rw [if_neg hneg]
    have d2 : decide (x < 0) = false := decide_eq_false hneg
    go_enter Tryz.func46, Tryz.ntmps46
    go_wp2_with fail
    refine (None_any x hx false HW.out).mono ?_
    rintro e w' ⟨rfl, rfl⟩
    go_wp2_with fail
    refine (HAt.out _).mono ?_
    rintro e w' ⟨rfl, rfl⟩
    go_wp2_with fail
    go_ret
    exact ⟨rfl, rfl⟩
 ·have HW := Lib.hid hw
  clear hw
  simp only [if_true]
  go_enter Tryz.func46, Tryz.ntmps46
  go_wp2_with fail
  refine (None_any x hx true HW.out).mono ?_
  rintro e w' ⟨rfl, rfl⟩
  go_wp2_with fail
  go_ret
  exact ⟨rfl, rfl⟩
theorem any_take {α : Type} (p : α → Bool) {c : List α} {k : Nat} (d : α) (h : k < c.length) : (c.take (k + 1)).any p = ((c.take k).any p || p (c.getD k d)) := by
 rw [List.take_succ_eq_append_getElem h, List.any_append]
 have e : c.getD k d = c[k] := by simp [List.getD_eq_getElem?_getD, h]
 rw [e]; simp
set_option maxHeartbeats 1600000 in
theorem Holds_any {vcs v : Value} {css : List (List Int)} {m : List Bool} (hI : IntsS w vcs css) (hm : Bools w v m) (r : Bool) (hr : Cnf.holdsB css m = r) :
  Calls Tryz.prog 20 #[vcs, v] w fun e w' => e = .returned (.bool r) ∧ w = w' := by
 obtain ⟨ac, cc, rfl, hc1, hc2⟩ := hI.shape
 have hm0 := hm.shape
 obtain ⟨ao, cap, rfl, _, _⟩ := hm0
 have hR : r = (css.drop 0).all fun c => c.any fun x => Cnf.soB x m := hr.symm
 have HR := Lib.hid hR
 clear hr hR
 go_enter Tryz.func20, Tryz.ntmps20
 go_wp2_with fail
 go_loop [10] (fun v => ∃ k : Nat, v = .int .i64 k ∧ k ≤ css.length ∧ r = (css.drop k).all fun c => c.any fun x => Cnf.soB x m) (fun v => css.length - (intOf v).toNat)
 case atStart => exact ⟨0, rfl, Nat.zero_le _, HR.out⟩
 case round =>
  clear HR
  obtain ⟨k, rfl, hk, hR⟩ := hrel
  by_cases ck : k < css.length
  ·obtain ⟨b, off, u, rfl, _, q, hu⟩ := hI.at ck
   obtain ⟨au, cu, rfl, hu1, hu2⟩ := hu.shape
   rw [Cnf.all_drop _ [] ck] at hR
   have HR := Lib.hid hR
   clear hR
   have kb : (k : Int) < (css.length : Int) := by omega
   generalize css.getD k [] = c at *
   go_wp2_with fail
   go_loop [6, 18] (fun vf v => ∃ j : Nat, v = .int .i64 j ∧ j ≤ c.length ∧ vf = .bool ((c.take j).any fun x => Cnf.soB x m)) (fun _ v => c.length - (intOf v).toNat)
   case atStart => exact ⟨0, rfl, Nat.zero_le _, rfl⟩
   case round =>
    obtain ⟨j, rfl, hj, rfl⟩ := hrel
    by_cases cj : j < c.length
    ·obtain ⟨b2, off2, rfl, _, hcs⟩ := hu.cells _ _ _ rfl (by omega)
     have q2 := hcs j cj
     have hx := hu.range' j
     have hat := any_take (fun x => Cnf.soB x m) 0 cj
     have jb : (j : Int) < (c.length : Int) := by omega
     clear hcs
     generalize c.getD j 0 = x at *
     have HAT := Lib.hid hat
     have HX := Lib.hid hx
     clear hat hx
     cases hf : (c.take j).any fun x => Cnf.soB x m
     ·have HF := Lib.hid hf
      clear hf
      cases hs : Cnf.soB x m
      ·have HS := Lib.hid hs
       clear hs
       go_wp2_with fail
       refine (So_any hm x HX.out false HS.out).mono ?_
       rintro e w' ⟨rfl, rfl⟩
       go_wp2_with fail
       go_round
       case rel => exact ⟨j + 1, by go_num, by omega, by rw [HAT.out, HF.out, HS.out]; rfl⟩
       case measure => simp [intOf]; omega
      ·have HS := Lib.hid hs
       clear hs
       go_wp2_with fail
       refine (So_any hm x HX.out true HS.out).mono ?_
       rintro e w' ⟨rfl, rfl⟩
       go_wp2_with fail
       go_round
       case rel => exact ⟨j + 1, by go_num, by omega, by rw [HAT.out, HF.out, HS.out]; rfl⟩
       case measure => simp [intOf]; omega
     ·have HF := Lib.hid hf
      clear hf
      go_wp2_with fail
      go_round
      case rel => exact ⟨j + 1, by go_num, by omega, by rw [HAT.out, HF.out]; rfl⟩
      case measure => simp [intOf]; omega
    ·have hj' : j = c.length := by omega
     have hte : c.take j = c := by rw [hj']; exact List.take_of_length_le (Nat.le_refl _)
     rw [hte]
     cases hf : c.any fun x => Cnf.soB x m
     ·have hrf : r = false := by rw [HR.out, hf]; rfl
      have HRF := Lib.hid hrf
      clear hrf hte hf
      go_wp2_with fail
      go_ret
      rw [HRF.out]
      exact ⟨rfl, rfl⟩
     ·have HF := Lib.hid hf
      clear hf hte
      go_wp2_with fail
      go_round
      case rel => exact ⟨k + 1, by go_num, by omega, by rw [HR.out, HF.out]; simp⟩
      case measure => simp [intOf]; omega
  ·have hrt : r = true := by rw [hR, List.drop_of_length_le (by omega)]; rfl
   have HRT := Lib.hid hrt
   clear hrt hR
   go_wp2_with fail
   go_ret
   rw [HRT.out]
   exact ⟨rfl, rfl⟩
end
end Go.Proofs.YtbapkcnfacklaaaGreat
