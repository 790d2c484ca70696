/- The walk of rup.Proves. -/
import Derived.Test.YtjedgdamommgeaaGreatShelf2
import Derived.Test.YtjedgdamommgeaaGreatRupLaw4
set_option linter.unusedVariables false
namespace Go.Proofs.YtjedgdamommgeaaGreat
open Go.RowKit
section
variable {w : World}
theorem Contains_any {v : Value} {xs : List Int} (hI : Ints w v xs) (x : Int) (r : Bool) (hr : xs.contains x = r) :
  Calls Tryz.prog 53 #[v, .int .i64 x] w fun e w' => e = .returned (.bool r) ∧ Only (fun _ => False) w w' := by
 subst hr
 obtain ⟨ao, cap, rfl, h1, h2⟩ := hI.shape
 by_cases h0 : xs.length = 0
 ·have hx : xs = [] := List.eq_nil_of_length_eq_zero h0
  subst hx
  exact (Tryz.slices_Contains_int_empty ao cap x w).mono fun e w' ⟨he, hw⟩ => ⟨by rw [he]; rfl, by rw [hw]; exact Only.refl _ _⟩
 ·obtain ⟨b, off, rfl, _, hc⟩ := hI.cells _ _ _ rfl (by omega)
  refine (Tryz.slices_Contains_int b off xs.length cap xs x w (Nat.le_refl _) (by omega) hc).mono fun e w' ⟨he, hw⟩ => ⟨?_, by rw [hw]; exact Only.refl _ _⟩
  rw [he, List.take_of_length_le (Nat.le_refl _)]
theorem proves11_any {vg : Value} {goal : List Int} (hg : Ints w vg goal) (bg : Nat) (hbg : w.cell? ⟨bg, 0, none⟩ = some vg) (x : Int) :
  Calls Tryz.prog 62 #[.int .i64 x, .pointer (some ⟨bg, 0, none⟩)] w fun e w' => e = .returned (.bool (!goal.contains x)) ∧ Only (fun _ => False) w w' := by
 have hc := Contains_any hg x _ rfl
 have HC := Lib.hid hc
 obtain ⟨ao, cap, rfl, _, _⟩ := hg.shape
 clear hc
 generalize goal.contains x = r at *
 go_enter Tryz.func62, Tryz.ntmps62
 go_wp2_with fail
 refine HC.out.mono ?_
 rintro e w' ⟨rfl, O1⟩
 go_wp2_with fail
 go_ret
 exact ⟨rfl, O1⟩
def Rup.givesB (goal : List Int) (p : Bool × List Int) : Bool := !p.1 && p.2.all fun x => goal.contains x
theorem all_any_not (goal c : List Int) : (c.all fun x => goal.contains x) = !(c.any fun x => !goal.contains x) := by
 rw [Bool.eq_iff_iff]
 simp only [List.all_eq_true, Bool.not_eq_true', List.any_eq_false]
 constructor
 ·intro h x hx; rw [h x hx]; simp
 ·intro h x hx; simpa using h x hx
set_option maxHeartbeats 800000 in
theorem proves1_any {vg : Value} {goal : List Int} (hg : Ints w vg goal) (bg : Nat) (hbg : w.cell? ⟨bg, 0, none⟩ = some vg) (p : Bool × List Int) {vc : Value} (hI : Ints w vc p.2) (r : Bool) (hr : Rup.givesB goal p = r) :
  Calls Tryz.prog 61 #[.agg #[.bool p.1, vc], .pointer (some ⟨bg, 0, none⟩)] w fun e w' => e = .returned (.bool r) ∧ Only (fun _ => False) w w' := by
 have hmf : ∀ (fn : Fn) (first cap : Array Value) (w : World), (Instr.makeFunc fn first cap).run Tryz.prog w = .ok (.func fn first cap) w := fun _ _ _ _ => rfl
 have eg : ∀ args w, (callFunc 62 args).run Tryz.prog w = .ok (.enter 62 args) w := enters_of Tryz.func62 (by kernel_rfl) rfl
 have HEg := Lib.hid eg
 clear eg
 obtain ⟨gone, c⟩ := p
 simp only at hI
 obtain ⟨ac, cc, rfl, _, _⟩ := hI.shape
 have hO0 : Only (fun _ => False) w (w.alloc (.cells #[.bool gone, .slice ac c.length cc] 76)) := (Only.refl _ _).alloc _
 have hI0 := hI.only0 hO0
 have hpred : PredI (w.alloc (.cells #[.bool gone, .slice ac c.length cc] 76)) 62 #[.pointer (some ⟨bg, 0, none⟩)] (fun x => !goal.contains x) c := fun x hx W hW =>
  proves11_any ((hg.only0 hO0).only0 hW) bg (cell_keep (cell_keep hbg hO0 (fun f => f)) hW (fun f => f)) x
 have HPred := Lib.hid hpred
 have HO0 := Lib.hid hO0
 have hgv : Rup.givesB goal (gone, c) = (!gone && !(c.any fun x => !goal.contains x)) := by unfold Rup.givesB; rw [all_any_not]
 rw [hgv] at hr
 have HR := Lib.hid hr
 clear hpred hO0 hgv hr
 cases gone
 ·cases ha : c.any fun x => !goal.contains x
  ·have hres : r = true := by rw [← HR.out, ha]; rfl
   have HRes := Lib.hid hres
   have HA := Lib.hid ha
   clear hres ha
   go_enter Tryz.func61, Tryz.ntmps61
   go_wp2_with fail
   refine (ContainsFunc_int hI0 62 #[.pointer (some ⟨bg, 0, none⟩)] _ HEg.out HPred.out false HA.out).mono ?_
   rintro e w2 ⟨rfl, O2⟩
   go_wp2_with fail
   go_ret
   rw [HRes.out]
   exact ⟨rfl, HO0.out.same O2⟩
  ·have hres : r = false := by rw [← HR.out, ha]; rfl
   have HRes := Lib.hid hres
   have HA := Lib.hid ha
   clear hres ha
   go_enter Tryz.func61, Tryz.ntmps61
   go_wp2_with fail
   refine (ContainsFunc_int hI0 62 #[.pointer (some ⟨bg, 0, none⟩)] _ HEg.out HPred.out true HA.out).mono ?_
   rintro e w2 ⟨rfl, O2⟩
   go_wp2_with fail
   go_ret
   rw [HRes.out]
   exact ⟨rfl, HO0.out.same O2⟩
 ·have hres : r = false := by rw [← HR.out]; rfl
  have HRes := Lib.hid hres
  clear hres
  go_enter Tryz.func61, Tryz.ntmps61
  go_wp2_with fail
  go_ret
  rw [HRes.out]
  exact ⟨rfl, HO0.out⟩
def firstAt (p : Bool × List Int → Bool) : List (Bool × List Int) → Nat → Int
 | [], _ => -1
 | x :: r, i => if p x then i else firstAt p r (i + 1)
theorem firstAt_ge (p : Bool × List Int → Bool) : ∀ (ps : List (Bool × List Int)) (i : Nat), decide (0 ≤ firstAt p ps i) = ps.any p
 | [], _ => rfl
 | x :: r, i => by
  unfold firstAt
  rw [List.any_cons]
  cases h : p x
  ·simp only [Bool.false_eq_true, if_false, Bool.false_or]; exact firstAt_ge p r (i + 1)
  ·simp
set_option maxHeartbeats 1600000 in
theorem ContainsFunc_steps {vps vg : Value} {ps : List (Bool × List Int)} {goal : List Int} (hS : StepsAt w vps ps) (hg : Ints w vg goal) (hp1 : ps.length ≤ 100000) (bg : Nat) (hbg : w.cell? ⟨bg, 0, none⟩ = some vg) (r : Bool) (hr : (ps.any fun p => Rup.givesB goal p) = r) :
  Calls Tryz.prog 60 #[vps, .func (.func 61) #[] #[.pointer (some ⟨bg, 0, none⟩)]] w fun e w' => e = .returned (.bool r) ∧ Only (fun _ => False) w w' := by
 subst hr
 have eg : ∀ args w, (callFunc 61 args).run Tryz.prog w = .ok (.enter 61 args) w := enters_of Tryz.func61 (by kernel_rfl) rfl
 rw [← firstAt_ge (fun p => Rup.givesB goal p) ps 0]
 have hcon := IndexFunc_step hS (by omega) 61 #[.pointer (some ⟨bg, 0, none⟩)] eg (fun k W => Only (fun _ => False) w W ∧ firstAt (fun p => Rup.givesB goal p) ps 0 = firstAt (fun p => Rup.givesB goal p) (ps.drop k) k) (firstAt (fun p => Rup.givesB goal p) ps 0) (w := w) ⟨Only.refl _ _, rfl⟩ (fun k W h => h.1) (fun W h => by rw [h.2, List.drop_length]; rfl) (fun k W u hk h hu => by
  obtain ⟨hO, hF⟩ := h
  rw [List.drop_eq_getElem_cons hk, show ps[k] = ps.getD k (false, []) by simp [List.getD_eq_getElem?_getD, hk], firstAt] at hF
  refine (proves1_any (hg.only0 hO) bg (cell_keep hbg hO (fun f => f)) (ps.getD k (false, [])) hu _ rfl).mono ?_
  rintro e W2 ⟨rfl, O2⟩
  cases hgv : Rup.givesB goal (ps.getD k (false, []))
  ·rw [hgv] at hF
   exact .inr ⟨rfl, hO.same O2, hF⟩
  ·rw [hgv] at hF
   exact .inl ⟨rfl, hF, hO.same O2⟩)
 have HC := Lib.hid hcon
 clear hcon eg
 obtain ⟨as_, cs, rfl, _, _⟩ := hS.shape
 generalize firstAt (fun p => Rup.givesB goal p) ps 0 = z at *
 go_enter Tryz.func60, Tryz.ntmps60
 go_wp2_with fail
 refine HC.out.mono ?_
 rintro e w2 ⟨rfl, O2⟩
 go_wp2_with fail
 go_ret
 exact ⟨rfl, O2⟩
set_option maxHeartbeats 1600000 in
theorem rup_Proves_any {vcs vps vg : Value} {css : List (List Int)} {ps : List (Bool × List Int)} {goal : List Int} (hI : IntsS w vcs css) (hS : StepsAt w vps ps) (hg : Ints w vg goal) (hb : css.length ≤ 100000) (hb2 : ∀ c ∈ css, c.length ≤ 1099511627776) (hp1 : ps.length ≤ 100000) (hp2 : ∀ p ∈ ps, p.2.length ≤ 1099511627776)
  (n : Int) (N : Nat) (hN : (N : Int) = min (max n 0) 65536) (r : Bool) (hr : Rup.provesB N css ps goal = r) :
  Calls Tryz.prog 33 #[.int .i64 n, vcs, vps, vg] w fun e w' => e = .returned (.bool r) ∧ Only (fun _ => False) w w' := by
 have hmf : ∀ (fn : Fn) (first cap : Array Value) (w : World), (Instr.makeFunc fn first cap).run Tryz.prog w = .ok (.func fn first cap) w := fun _ _ _ _ => rfl
 have hO0 : Only (fun _ => False) w (w.alloc (.cells #[vg] 23)) := (Only.refl _ _).alloc _
 have hc0 : (w.alloc (.cells #[vg] 23)).cell? ⟨w.heap.size, 0, none⟩ = some vg := cell_newE _ _ _ _ rfl
 have hck := rup_Check_any (hI.only0 hO0) (hS.only0 hO0) hb hb2 hp1 hp2 n N hN
 have HCk := Lib.hid hck
 have HO0 := Lib.hid hO0
 have HC0 := Lib.hid hc0
 have hR : Rup.provesB N css ps goal = if 0 ≤ (Rup.start N css).bad ps 0 then false else ps.any fun p => Rup.givesB goal p := rfl
 rw [hR] at hr
 have HR := Lib.hid hr
 clear hck hO0 hc0 hN hr hR
 obtain ⟨ac, cc, rfl, _, _⟩ := hI.shape
 obtain ⟨as_, cs, rfl, _, _⟩ := hS.shape
 obtain ⟨ag, cg, rfl, _, _⟩ := hg.shape
 generalize (Rup.start N css).bad ps 0 = z at *
 by_cases hz : 0 ≤ z
 ·have hres : r = false := by rw [← HR.out, if_pos hz]
  have HRes := Lib.hid hres
  have d1 : decide (0 ≤ z) = true := decide_eq_true hz
  clear hres
  go_enter Tryz.func33, Tryz.ntmps33
  go_wp2_with fail
  refine HCk.out.mono ?_
  rintro e w2 ⟨rfl, O2⟩
  go_wp2_with fail
  go_ret
  rw [HRes.out]
  exact ⟨rfl, HO0.out.same O2⟩
 ·have hres : (ps.any fun p => Rup.givesB goal p) = r := by rw [← HR.out, if_neg hz]
  have HRes := Lib.hid hres
  have d1 : decide (0 ≤ z) = false := decide_eq_false hz
  clear hres
  go_enter Tryz.func33, Tryz.ntmps33
  go_wp2_with fail
  refine HCk.out.mono ?_
  rintro e w2 ⟨rfl, O2⟩
  have hO2 := HO0.out.same O2
  go_wp2_with fail
  refine (ContainsFunc_steps (hS.only0 hO2) (hg.only0 hO2) hp1 w.heap.size (cell_keep HC0.out O2 (fun f => f)) r HRes.out).mono ?_
  rintro e w3 ⟨rfl, O3⟩
  go_wp2_with fail
  go_ret
  exact ⟨rfl, hO2.same O3⟩
end
end Go.Proofs.YtjedgdamommgeaaGreat
