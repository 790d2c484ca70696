/- The walks of package cnf: Form and what it calls. -/
import Derived.Test.YtbapkcnfacklaaaCnfFn
set_option linter.unusedVariables false
namespace Go.Proofs.Ytbapkcnfacklaaa
open Go.RowKit Go.Lib Go.Sort Go.Shelf
section
variable {w : World}
theorem wrong_any (x : Int) : Calls Try.prog 57 #[.int .i64 x] w fun e w' => e = .returned (.bool (Cnf.wr x)) ∧ w = w' := by
 unfold Cnf.wr
 by_cases h0 : x = 0
 ·subst h0
  go_enter Try.func57, Try.ntmps57
  go_wp2
  go_ret
  exact ⟨rfl, rfl⟩
 ·have h1 : (x == 0) = false := beq_eq_false_iff_ne.2 h0
  generalize hm : (x == Cnf.minI) = r
  unfold Cnf.minI at hm
  rw [h1]
  clear h0
  cases r
  all_goals
   go_enter Try.func57, Try.ntmps57
   go_wp2
   go_ret
   exact ⟨rfl, rfl⟩
theorem abs_any (x : Int) (r : Int) (hr : Cnf.absW x = r) : Calls Try.prog 74 #[.int .i64 x] w fun e w' => e = .returned (.int .i64 r) ∧ w = w' := by
 subst hr
 unfold Cnf.absW
 generalize hy : IntKind.i64.wrap (-x) = y
 go_enter Try.func74, Try.ntmps74
 go_wp2
 go_ret
 exact ⟨rfl, rfl⟩
theorem Or_two (g : Nat) (a b : Int) (h0 : w.cell? ⟨g, 0, none⟩ = some (.int .i64 a)) (h1 : w.cell? ⟨g, 1, none⟩ = some (.int .i64 b)) :
  Calls Try.prog 72 #[.slice (some ⟨g, 0, none⟩) 2 2] w fun e w' => e = .returned (.int .i64 (if a = 0 then b else a)) ∧ w = w' := by
 by_cases ha : a = 0
 ·subst ha
  by_cases hb : b = 0
  ·subst hb
   go_enter Try.func72, Try.ntmps72
   go_wp2
   refine wp_loop_rounds 3 ?_
   rw [rounds_succ]
   go_wp2
   rw [rounds_succ]
   go_wp2
   rw [rounds_succ]
   go_wp2
   go_ret
   exact ⟨by simp, rfl⟩
  ·have hb' : (b != 0) = true := bne_iff_ne.2 hb
   clear hb
   go_enter Try.func72, Try.ntmps72
   go_wp2
   refine wp_loop_rounds 2 ?_
   rw [rounds_succ]
   go_wp2
   rw [rounds_succ]
   go_wp2
   go_ret
   exact ⟨by simp, rfl⟩
 ·have ha' : (a != 0) = true := bne_iff_ne.2 ha
  rw [if_neg ha]
  clear ha
  go_enter Try.func72, Try.ntmps72
  go_wp2
  refine wp_loop_rounds 1 ?_
  rw [rounds_succ]
  go_wp2
  go_ret
  exact ⟨rfl, rfl⟩
theorem Or_at (g : Nat) (a b r : Int) (h0 : w.cell? ⟨g, 0, none⟩ = some (.int .i64 a)) (h1 : w.cell? ⟨g, 1, none⟩ = some (.int .i64 b)) (hr : (if a = 0 then b else a) = r) :
  Calls Try.prog 72 #[.slice (some ⟨g, 0, none⟩) 2 2] w fun e w' => e = .returned (.int .i64 r) ∧ w = w' := by
 subst hr
 exact Or_two g a b h0 h1
theorem alloc_grow (w : World) (o : Obj) : w.alloc o = grow (w.drewN 0) #[o] := by
 show ({ w with heap := w.heap.push o } : World) = { w with heap := w.heap ++ #[o] }
 rw [Array.push_eq_append]
theorem cf_any (x y : Int) : Calls Try.prog 71 #[.int .i64 x, .int .i64 y] w fun e w' => e = .returned (.int .i64 (Cnf.cf x y)) ∧ ∃ q os', w' = grow (w.drewN q) os' := by
 unfold Cnf.cf
 have c1 := fun W => (Try.cmp_Compare_int (Cnf.absW x) (Cnf.absW y) W).mono fun _ _ h => (⟨h.1, h.2.symm⟩ : _ ∧ W = _)
 have c2 := fun W => (Try.cmp_Compare_int x y W).mono fun _ _ h => (⟨h.1, h.2.symm⟩ : _ ∧ W = _)
 have C1 := Lib.hid c1
 have C2 := Lib.hid c2
 clear c1 c2
 generalize Lib.compareInt (Cnf.absW x) (Cnf.absW y) = p at *
 generalize Lib.compareInt x y = q at *
 generalize hax : Cnf.absW x = ax at *
 generalize hay : Cnf.absW y = ay at *
 have HX := Lib.hid hax
 have HY := Lib.hid hay
 clear hax hay
 generalize hr : (if p = 0 then q else p) = r
 have HR := Lib.hid hr
 clear hr
 go_enter Try.func71, Try.ntmps71
 go_wp2_with fail
 refine (abs_any x ax HX.out).mono ?_
 rintro e w1 ⟨rfl, rfl⟩
 go_wp2_with fail
 refine (abs_any y ay HY.out).mono ?_
 rintro e w1 ⟨rfl, rfl⟩
 go_wp2_with fail
 refine (C1.out _).mono ?_
 rintro e w1 ⟨rfl, rfl⟩
 go_wp2_with fail
 refine (C2.out _).mono ?_
 rintro e w1 ⟨rfl, rfl⟩
 go_wp2_with fail
 refine (Or_at w.heap.size p q r (by simp) (by simp) HR.out).mono ?_
 rintro e w2 ⟨rfl, rfl⟩
 go_wp2_with fail
 go_ret
 exact ⟨rfl, 0, #[.cells #[.int .i64 p, .int .i64 q] 3], alloc_grow _ _⟩
end
def NoClash (l : List Int) (k : Nat) : Prop := ∀ i, 1 ≤ i → i < k → (l.getD i 0 == IntKind.i64.wrap (-(l.getD (i - 1) 0))) = false
theorem clash_hit {l : List Int} {k : Nat} (h1 : 1 ≤ k) (hk : k < l.length) (h : (l.getD k 0 == IntKind.i64.wrap (-(l.getD (k - 1) 0))) = true) : Cnf.clash l = true := by
 unfold Cnf.clash
 rw [List.any_eq_true]
 exact ⟨k, by simpa using hk, by rw [h]; simp [h1]⟩
theorem clash_none {l : List Int} (h : NoClash l l.length) : Cnf.clash l = false := by
 unfold Cnf.clash
 rw [← Bool.not_eq_true, List.any_eq_true]
 rintro ⟨i, hi, hc⟩
 simp only [Bool.and_eq_true, decide_eq_true_eq] at hc
 rw [h i hc.1 (by simpa using hi)] at hc
 exact absurd hc.2 (by simp)
theorem formL_range {xs : List Int} (h : ∀ x ∈ xs, InI64 x) : ∀ x ∈ Cnf.formL xs, InI64 x := by
 intro x hx
 unfold Cnf.formL Lib.compact Lib.compactUpTo at hx
 obtain ⟨i, hi, rfl⟩ := List.mem_map.1 hx
 have hi2 := (List.mem_filter.1 hi).1
 rw [List.mem_range] at hi2
 have hm : (Cnf.sortL xs).toArray[i]! ∈ Cnf.sortL xs := by
  simp [hi2]
 exact h _ ((List.mergeSort_perm xs _).mem_iff.1 hm)
theorem row_cell' {w : World} {e : TypeId} {g n cap : Nat} {xs : List Int} (h : w.ownsRow 0 e 1 (.slice (some ⟨g, 0, none⟩) n cap) n (xs.map cI)) {i : Nat} (hi : i < xs.length) :
  w.cell? ⟨g, i, none⟩ = some (.int .i64 (xs.getD i 0)) := by
 have hn : xs.length = n := by simpa using h.1
 rw [h.cellAt i (by omega)]
 simp [List.getD, List.getElem?_eq_getElem hi]
def FormPost (w : World) (xs : List Int) (e : Ending) (w' : World) : Prop :=
 match Cnf.form xs with
 | none => e = .returned (.tuple #[.slice none 0 0, .bool false]) ∧ Only (fun _ => False) w w'
 | some l => ∃ v, e = .returned (.tuple #[v, .bool true]) ∧ w'.ownsRow 0 3 1 v l.length (l.map cI) ∧ (∀ k, v.ownBlock = some k → w.heap.size ≤ k) ∧ Only (fun _ => False) w w'
set_option maxHeartbeats 1600000 in
theorem Form_anyR {w : World} {v : Value} {xs : List Int} (hI : Ints w v xs) (hb : xs.length ≤ 17592186043904) :
  Calls Try.prog 55 #[v] w (FormPost w xs) := by
 have eg86 : ∀ args w, (callFunc 57 args).run Try.prog w = .ok (.enter 57 args) w := enters_of Try.func57 (by kernel_rfl) rfl
 have eg88 : ∀ args w, (callFunc 71 args).run Try.prog w = .ok (.enter 71 args) w := enters_of Try.func71 (by kernel_rfl) rfl
 have hpred : PredI w 57 #[] Cnf.wr xs := fun x _ W _ => (wrong_any x).mono fun _ _ ⟨he, hw⟩ => ⟨he, by rw [hw]; exact Only.refl _ _⟩
 have HE86 := Lib.hid eg86
 have HE88 := Lib.hid eg88
 have HPred := Lib.hid hpred
 clear eg86 eg88 hpred
 cases hany : xs.any Cnf.wr
 ·have HAny := Lib.hid hany
  clear hany
  go_enter Try.func55, Try.ntmps55
  go_wp2_with fail
  refine (ContainsFunc_int hI 57 #[] Cnf.wr HE86.out HPred.out false HAny.out).mono ?_
  rintro e w1 ⟨rfl, O1⟩
  have hI1 := hI.only0 O1
  go_wp2_with fail
  refine (Clone_anyR hI1 hb).mono ?_
  rintro e w2 ⟨v2, rfl, R2, N2, O2⟩
  go_wp2_with fail
  refine (Sort_anyR R2 hb Cnf.cf Cnf.swo Cnf.total 71 #[] HE88.out (fun W x y => cf_any x y)).mono ?_
  rintro e w3 ⟨rfl, R3, O3⟩
  have R3' : w3.ownsRow 0 3 1 v2 (Cnf.sortL xs).length ((Cnf.sortL xs).map cI) := by
   have : (Cnf.sortL xs).length = xs.length := List.length_mergeSort xs
   rw [this]; exact R3
  go_wp2_with fail
  refine (Compact_any R3').mono ?_
  rintro e w4 ⟨v4, rfl, R4, B4, O4⟩
  have hl : Lib.compact (Cnf.sortL xs) = Cnf.formL xs := rfl
  rw [hl] at R4
  have hlen : (Cnf.formL xs).length ≤ 17592186043904 := by
   have h1 := compact_le (Cnf.sortL xs)
   have h2 : (Cnf.sortL xs).length = xs.length := List.length_mergeSort xs
   rw [hl] at h1
   omega
  have hr4 := formL_range hI.range
  have hform : Cnf.form xs = if Cnf.clash (Cnf.formL xs) then none else some (Cnf.formL xs) := by unfold Cnf.form; rw [HAny.out]; rfl
  have N4 : ∀ k, v4.ownBlock = some k → w.heap.size ≤ k := fun k hk => by rw [B4] at hk; have := N2 k hk; have := O1.size; omega
  have O5 : Only (fun _ => False) w w4 := ((O1.same O2).trans O3 fun i hi => .inr (by have := N2 i hi; have := O1.size; omega)).trans O4 fun i hi => .inr (by have := N2 i hi; have := O1.size; omega)
  have HF := Lib.hid hform
  clear hl hform O1 O2 O3 O4 R2 R3 R3' N2 B4 hI1 hI HAny HPred HE86 HE88
  generalize Cnf.formL xs = l at *
  obtain ⟨ao, cap, rfl, hc1, hc2⟩ := own_slice R4
  unfold maxLen at hc2
  go_wp2_with fail
  go_loopw [5] (fun v wr => ∃ (k : Nat), v = .int .i64 k ∧ 1 ≤ k ∧ (k ≤ l.length ∨ k = 1) ∧ NoClash l k ∧ wr.ownsRow 0 3 1 (.slice ao l.length cap) l.length (l.map cI) ∧ Only (fun _ => False) w wr) (fun v _ => l.length - (intOf v).toNat)
  case atStart => exact ⟨1, rfl, Nat.le_refl _, .inr rfl, fun i h1 h2 => by omega, R4, O5⟩
  case round =>
   clear R4 O5
   obtain ⟨k, rfl, hk1, hk2, hN, R4, O5⟩ := hrel
   have HN := Lib.hid hN
   have HK2 := Lib.hid hk2
   clear hN hk2
   by_cases c : k < l.length
   ·obtain ⟨g, cap', he, _, _⟩ := own_some R4 (by omega)
    simp only [Value.slice.injEq] at he
    obtain ⟨rfl, -, rfl⟩ := he
    obtain ⟨j, rfl⟩ : ∃ j, k = j + 1 := ⟨k - 1, by omega⟩
    have q1 : wr.cell? ⟨g, j + 1, none⟩ = some (.int .i64 (l.getD (j + 1) 0)) := row_cell' R4 c
    have q2 : wr.cell? ⟨g, j, none⟩ = some (.int .i64 (l.getD j 0)) := row_cell' R4 (by omega)
    have e2 : IntKind.i64.wrap (j : Int) = j := IntWalk.i64_in _ (by omega)
    have e3 : (j : Int) < (l.length : Int) := by omega
    have e4 : (j : Int) + 1 < (l.length : Int) := by omega
    have hcl := fun h => clash_hit (l := l) (k := j + 1) hk1 c h
    have hnc : (l.getD (j + 1) 0 == IntKind.i64.wrap (-(l.getD j 0))) = false → NoClash l (j + 2) := by
     intro hcmp i h1 h2
     rcases Nat.lt_or_ge i (j + 1) with h3 | h3
     ·exact HN.out i h1 h3
     ·have : i = j + 1 := by omega
      subst this
      simpa using hcmp
    simp only [Nat.add_sub_cancel] at hcl
    generalize l.getD (j + 1) 0 = a at *
    generalize l.getD j 0 = b at *
    generalize hnb : IntKind.i64.wrap (-b) = nb at *
    cases hcmp : (a == nb)
    ·have HS := Lib.hid (hnc hcmp)
     clear hcl hnc
     go_wp2_with fail
     go_quiet (fail)
     clear e2
     go_wp2_with fail
     go_roundw
     case rel => exact ⟨j + 2, by go_num, by omega, .inl (by omega), HS.out, R4, O5.drewN _⟩
     case measure => simp [intOf]; omega
    ·have HC := Lib.hid (hcl hcmp)
     clear hcl hnc
     go_wp2_with fail
     go_quiet (fail)
     clear e2
     go_wp2_with fail
     go_ret2
     unfold FormPost
     rw [HF.out, HC.out]
     exact ⟨rfl, O5.drewN _⟩
   ·have hcl : Cnf.clash l = false := by
     refine clash_none fun i h1 h2 => HN.out i h1 ?_
     have := HK2.out
     omega
    have HC := Lib.hid hcl
    clear hcl
    go_wp2_with fail
    go_ret2
    unfold FormPost
    rw [HF.out, HC.out]
    exact ⟨_, rfl, R4, N4, O5⟩
 ·have HAny := Lib.hid hany
  clear hany
  go_enter Try.func55, Try.ntmps55
  go_wp2_with fail
  refine (ContainsFunc_int hI 57 #[] Cnf.wr HE86.out HPred.out true HAny.out).mono ?_
  rintro e w1 ⟨rfl, O1⟩
  go_wp2_with fail
  go_ret2
  have hf : Cnf.form xs = none := by unfold Cnf.form; rw [HAny.out]; rfl
  unfold FormPost
  rw [hf]
  exact ⟨rfl, O1⟩
theorem Form_any {w : World} {v : Value} {xs : List Int} (hI : Ints w v xs) (hb : xs.length ≤ 1099511627776) :
  Calls Try.prog 55 #[v] w (FormPost w xs) := Form_anyR hI (by omega)
end Go.Proofs.Ytbapkcnfacklaaa
