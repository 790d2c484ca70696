/- The walks of package rup, third part: is, form, add. -/
import Derived.Test.YtjbfgafkjejdjaaRup2
import Derived.Test.YtjbfgafkjejdjaaLists
import Derived.Deep.RegionHeld3
import Derived.Deep.DrawnRows
namespace Go.Proofs.Ytjbfgafkjejdjaa
open Go.RowKit
attribute [local go_sem ↓] Go.wp_at_zero Go.wp_at_succ

section
variable {w : World} {g : Tag} {b : Nat} {V : RupV} {C : Rup.Chk}

theorem rup_is_any (H : ChkAt w g b V C) (hn : C.n ≤ 65536) (x : Int) (hx : InI64 x) (r : Bool) (hr : Cnf.okAt C.n x = r) :
    Calls Try.prog 58 #[.pointer (some ⟨b, 0, none⟩), .int .i64 x] w fun e w' => e = .returned (.bool r) ∧ w = w' := by
  subst hr
  have q0 := H.f0
  obtain ⟨h1, h2⟩ := hx
  clear H
  generalize C.n = n at *
  by_cases h0 : x = 0
  · subst h0
    go_enter Try.func58, Try.ntmps58
    go_wp2
    go_ret
    exact ⟨rfl, rfl⟩
  · have k0 : (x != 0) = true := bne_iff_ne.2 h0
    by_cases hm : x = -9223372036854775808
    · subst hm
      go_enter Try.func58, Try.ntmps58
      go_wp2
      go_ret
      exact ⟨rfl, rfl⟩
    · have k1 : (x != -9223372036854775808) = true := bne_iff_ne.2 hm
      have hw : Cnf.wr x = false := by
        unfold Cnf.wr Cnf.minI
        simp only [Bool.or_eq_false_iff, beq_eq_false_iff_ne]
        exact ⟨h0, hm⟩
      have hb : -9223372036854775807 ≤ x := by omega
      have e : Cnf.okAt n x = decide (max x (-x) ≤ (n : Int)) := by
        unfold Cnf.okAt
        rw [hw]
        simp only [Bool.not_false, Bool.true_and]
        rw [show (x.natAbs : Int) = max x (-x) by omega]
      rw [e]
      clear hm h1 hw e h0
      go_enter Try.func58, Try.ntmps58
      go_wp2
      go_ret
      exact ⟨rfl, rfl⟩

theorem rup_form1_any (H : ChkAt w g b V C) (hn : C.n ≤ 65536) (bc : Nat) (hbc : w.cell? ⟨bc, 0, none⟩ = some (.pointer (some ⟨b, 0, none⟩))) (x : Int) (hx : InI64 x) :
    Calls Try.prog 99 #[.int .i64 x, .pointer (some ⟨bc, 0, none⟩)] w fun e w' => e = .returned (.bool (!Cnf.okAt C.n x)) ∧ w = w' := by
  have hc := rup_is_any H hn x hx _ rfl
  have HC := Lib.hid hc
  clear hc H
  generalize Cnf.okAt C.n x = r at *
  go_enter Try.func99, Try.ntmps99
  go_wp2_with fail
  refine HC.out.mono ?_
  rintro e w' ⟨rfl, rfl⟩
  go_wp2_with fail
  go_ret
  exact ⟨rfl, rfl⟩

namespace Rup
/-- a clause's form, if it may be over so many atoms -/
def formR (n : Int) (c : List Int) : Option (List Int) := if Cnf.right n c then Cnf.form c else none

theorem form_mem {c f : List Int} (h : Cnf.form c = some f) : ∀ x, x ∈ f ↔ x ∈ c := by
  unfold Cnf.form at h
  split at h
  · cases h
  · split at h
    · cases h
    · simp at h; subst h; exact Cnf.mem_formL c

theorem formR_some {n : Int} {c f : List Int} (h : Cnf.form c = some f) : formR n c = if f.any (fun x => !Cnf.okAt n x) then none else some f := by
  have hm := form_mem h
  unfold formR Cnf.right
  rw [h]
  have e : f.any (fun x => !Cnf.okAt n x) = !c.all (Cnf.okAt n) := by
    rw [Bool.eq_iff_iff]
    simp only [List.any_eq_true, Bool.not_eq_true', List.all_eq_false]
    constructor
    · rintro ⟨x, hx, hk⟩; exact ⟨x, (hm x).1 hx, by simpa using hk⟩
    · rintro ⟨x, hx, hk⟩; exact ⟨x, (hm x).2 hx, by simpa using hk⟩
  rw [e]
  cases c.all (Cnf.okAt n) <;> simp
end Rup

/-- What form hands back. -/
def RupFormPost (w : World) (n : Int) (xs : List Int) (e : Ending) (w' : World) : Prop :=
  match Rup.formR n xs with
  | none => e = .returned (.tuple #[.slice none 0 0, .bool false]) ∧ Only (fun _ => False) w w'
  | some l => ∃ v, e = .returned (.tuple #[v, .bool true]) ∧ w'.ownsRow 0 3 1 v l.length (l.map cI) ∧ (∀ k, v.ownBlock = some k → w.heap.size ≤ k) ∧ Only (fun _ => False) w w'

theorem form_range {xs f : List Int} (h : ∀ x ∈ xs, InI64 x) (hf : Cnf.form xs = some f) : ∀ x ∈ f, InI64 x := fun x hx => h x ((Rup.form_mem hf x).1 hx)

set_option maxHeartbeats 800000 in
theorem rup_form_any (H : ChkAt w g b V C) (hn : C.n ≤ 65536) {v : Value} {xs : List Int} (hI : Ints w v xs) (hb : xs.length ≤ 1099511627776) :
    Calls Try.prog 82 #[.pointer (some ⟨b, 0, none⟩), v] w (RupFormPost w C.n xs) := by
  have hmf : ∀ (fn : Fn) (first cap : Array Value) (w : World), (Instr.makeFunc fn first cap).run Try.prog w = .ok (.func fn first cap) w := fun _ _ _ _ => rfl
  have eg : ∀ args w, (callFunc 99 args).run Try.prog w = .ok (.enter 99 args) w := enters_of Try.func99 (by kernel_rfl) rfl
  have HEg := Lib.hid eg
  clear eg
  have hO0 : Only (fun _ => False) w (w.alloc (.cells #[.pointer (some ⟨b, 0, none⟩)] 76)) := (Only.refl _ _).alloc _
  have hc0 : (w.alloc (.cells #[.pointer (some ⟨b, 0, none⟩)] 76)).cell? ⟨w.heap.size, 0, none⟩ = some (.pointer (some ⟨b, 0, none⟩)) := cell_newE _ _ _ _ rfl
  have hl0 : w.heap.size < (w.alloc (.cells #[.pointer (some ⟨b, 0, none⟩)] 76)).heap.size := by simp
  have hF := Form_any (hI.only0 hO0) hb
  have HF := Lib.hid hF
  have hrng := hI.range
  have HRg := Lib.hid hrng
  have H0 := H.only0 hO0
  have HO0 := Lib.hid hO0
  have HC0 := Lib.hid hc0
  have HL0 := Lib.hid hl0
  clear hF hrng hO0 hc0 hl0
  go_enter Try.func82, Try.ntmps82
  go_wp2_with fail
  generalize w.alloc (.cells #[.pointer (some ⟨b, 0, none⟩)] 76) = w0 at *
  refine HF.out.mono ?_
  intro e w1 hp
  unfold FormPost at hp
  cases hf : Cnf.form xs with
  | none =>
    rw [hf] at hp
    obtain ⟨rfl, O1⟩ := hp
    have hR : Rup.formR C.n xs = none := by
      unfold Rup.formR Cnf.right
      rw [hf]
      simp
    have HR := Lib.hid hR
    clear hf hR
    go_wp2_with fail
    go_ret2
    unfold RupFormPost
    rw [HR.out]
    exact ⟨rfl, HO0.out.same O1⟩
  | some f =>
    rw [hf] at hp
    obtain ⟨vf, rfl, R1, N1, O1⟩ := hp
    have hR := Rup.formR_some (n := C.n) hf
    have hrf := form_range HRg.out hf
    have hIf := Ints.of_own R1 hrf
    have hc1 : w1.cell? ⟨w.heap.size, 0, none⟩ = some (.pointer (some ⟨b, 0, none⟩)) := by
      rw [World.cell?_of_block (w := w0) (O1.block _ HL0.out (fun h => h))]; exact HC0.out
    have hpred : PredI w1 99 #[.pointer (some ⟨w.heap.size, 0, none⟩)] (fun x => !Cnf.okAt C.n x) f := fun x hx W hW =>
      (rup_form1_any ((H0.only0 O1).only0 hW) hn w.heap.size (by rw [World.cell?_of_block (w := w1) (hW.block _ (Nat.lt_of_lt_of_le HL0.out O1.size) (fun h => h))]; exact hc1) x (hrf x hx)).mono fun _ _ ⟨he, hw⟩ => ⟨he, by rw [hw]; exact Only.refl _ _⟩
    have HP := Lib.hid hpred
    have HR := Lib.hid hR
    clear hf hR hpred hc1 hrf
    obtain ⟨af, cf, rfl, _, _⟩ := hIf.shape
    cases hany : f.any (fun x => !Cnf.okAt C.n x)
    · have HA := Lib.hid hany
      clear hany
      go_wp2_with fail
      refine (ContainsFunc_int hIf 99 #[.pointer (some ⟨w.heap.size, 0, none⟩)] _ HEg.out HP.out false HA.out).mono ?_
      rintro e w2 ⟨rfl, O2⟩
      go_wp2_with fail
      go_ret2
      unfold RupFormPost
      rw [HR.out, HA.out]
      refine ⟨_, rfl, own_only R1 O2 (fun _ _ h => h), fun k hk => ?_, (HO0.out.same O1).same O2⟩
      have := N1 k hk
      have := HO0.out.size
      omega
    · have HA := Lib.hid hany
      clear hany
      go_wp2_with fail
      refine (ContainsFunc_int hIf 99 #[.pointer (some ⟨w.heap.size, 0, none⟩)] _ HEg.out HP.out true HA.out).mono ?_
      rintro e w2 ⟨rfl, O2⟩
      go_wp2_with fail
      go_ret2
      unfold RupFormPost
      rw [HR.out, HA.out]
      exact ⟨rfl, (HO0.out.same O1).same O2⟩
end
end Go.Proofs.Ytjbfgafkjejdjaa
